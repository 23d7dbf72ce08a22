/- A walk's begin and end; words about cells. No program. -/
import Derived.Test.YtoklapibcmnaeaaGreatP4
import Derived.Sort.Grow
import Derived.RangeFuncRecord
import Derived.Scope
set_option linter.unusedVariables false
set_option linter.unusedSimpArgs false
namespace Go.Abs
section
variable {P:Program} {T:Nat->Option TI} {p:Nat} {F:Fr} {M:List Ag} {Q:Cn}
def Sz (T:Nat->Option TI) (rs:List ResultVar) (p d:Nat) (F:Fr) (M:List Ag) (K:AV->List Ag->Prop):Prop:=
 match PC T M F rs with
 |some r0=>match Mr d M r0 with
  |some q=>p<=M.length/\(q.2.take p).all OG=true/\K q.1 (q.2.take p)
  |none=>False
 |none=>False
theorem CR {rs:List ResultVar} {d:Nat} {K:AV->List Ag->Prop} (h:Sz T rs p d F M K):PD T rs p K F M:=by
 unfold Sz at h
 split at h
 .rename_i r0 h0
  split at h
  .rename_i q hq
   exact⟨r0,d,q.1,q.2,h0,hq,h⟩
  .exact h.elim
 .exact h.elim
theorem Fw {rs:List ResultVar} {q:Nat} {K:AV->List Ag->Prop} (d:Nat) (h:Sz T rs q d F M K):Hd T rs q K .normal F M:=CR h
@[simp] theorem bC (t:Nat):fr [] t= .any:=rfl
@[simp] theorem aK (a:Nat) (v:AV) (S:List (Nat×AV)) (t:Nat):fr ((a,v)::S) t=if t=a then v else fr S t:=rfl
theorem Cs (K:Fr->List Ag->Prop):DN K Q .normal F M=K F M:=rfl
theorem CH (K:Fr->List Ag->Prop):DN K Q .ret F M=Q .ret F M:=rfl
theorem Ct (K:Fr->List Ag->Prop) (i:Nat):DN K Q (.exit i) F M=Q (.exit i) F M:=rfl
theorem Dk (i:Nat):KD i Q .normal F M=Q .normal F M:=rfl
theorem Ds (i:Nat):KD i Q .ret F M=Q .ret F M:=rfl
theorem Dl (i j:Nat):KD i Q (.exit j) F M=if j=i then Q .normal F M else Q (.exit j) F M:=rfl
theorem C0 (rs:List ResultVar) (q:Nat) (K:AV->List Ag->Prop):Hd T rs q K .ret F M=PD T rs q K F M:=rfl
theorem Aa.start {f:Nat} {fn:Func} {c:Code} {args:List AV} {Q:AV->List Ag->Prop} (rs:List ResultVar) (tk:BI P T) (hf:P.funcs[f]?=some fn) (hb:fn.body=some c) (hname:(fn.name== "runtime.NumGoroutine")=false)
 (hc:CY fn.ntmps c=true) (hl:args.length<=fn.ntmps) (hrs:fn.results.toList=rs) (hr:rs.all (Kb fn.ntmps)=true) (h:W P T M.length c (DT args) M (Hd T rs M.length Q)):Aa P f args M Q:=
 Aa.enter tk hf hb hname hc hl (by rw[hrs];exact hr) (by rw[hrs];exact h)
end
@[simp] theorem i6:tf .any=true:=rfl
@[simp] theorem gw (b:Bool):tf (.bool b)=true:=rfl
@[simp] theorem i7 (k:IntKind) (n:Int):tf (.int k n)=true:=rfl
@[simp] theorem i8 (b:ByteArray):tf (.str b)=true:=rfl
@[simp] theorem gx:tf .nilp=true:=rfl
@[simp] theorem jw (n:Nat) (xs:List AV):tf (.ro n xs)=true:=rfl
@[simp] theorem i9 (s n:Nat) (xs:List AV):tf (.own s n xs)=true:=rfl
@[simp] theorem ja (a b c e f:Nat):tf (.tok a b c e f)=false:=rfl
@[simp] theorem jb (a b c:Nat):tf (.ptr a b c)=false:=rfl
@[simp] theorem gy (xs:List AV):tf (.rptr xs)=true:=rfl
@[simp] theorem gz (xs:List AV):tf (.optr xs)=true:=rfl
@[simp] theorem jx (f:Nat) (xs:List AV):tf (.fn f xs)=xs.isEmpty:=rfl
@[simp] theorem jc (xs:List AV):tf (.agg xs)=false:=rfl
@[simp] theorem jd (xs:List AV):tf (.tup xs)=false:=rfl
def DX (xs:List AV):Bool:=xs.all tf
@[simp] theorem IC (xs:List AV):xs.all tf=DX xs:=rfl
@[simp] theorem gA:DX []=true:=rfl
@[simp] theorem dZ (x:AV) (xs:List AV):DX (x::xs)=(tf x&&DX xs):=rfl
@[simp] theorem gB (xs ys:List AV):DX (xs++ys)=(DX xs&&DX ys):=by simp[DX,-IC]
@[simp] theorem Rp (k:Nat):∀(xs ys:List AV),Dg k (xs++ys)=(Dg k xs&&Dg k ys)
  | [],ys=>by simp[Dg]
  |x::xs,ys=>by simp[Dg,Rp k xs ys,Bool.and_assoc]
theorem PQ:∀(xs ys:List AV),C4 (xs++ys)=(C4 xs&&C4 ys)
 | [],ys=>by simp[C4]
 |x::xs,ys=>by simp[C4,PQ xs ys,Bool.and_assoc]
attribute [simp] PQ GX Dg Gc C4 Et EX CG N0 D5 Rl JC Kd Jd OG Ms Mr Mq Hc HX PC Ja Sz Ad LH
@[simp] theorem je (M:List Ag) (xs:List AV):vw M (.agg xs)= .agg (xs.map (CG M 3)):=rfl
@[simp] theorem jy (M:List Ag) (f:Nat) (xs:List AV):vw M (.fn f xs)= .fn f (xs.map (CG M 3)):=rfl
@[simp] theorem jz (M:List Ag) (n:Nat) (xs:List AV):vw M (.ro n xs)= .ro n xs:=rfl
@[simp] theorem jf (M:List Ag) (k:IntKind) (n:Int):vw M (.int k n)= .int k n:=rfl
@[simp] theorem gC (M:List Ag) (b:Bool):vw M (.bool b)= .bool b:=rfl
@[simp] theorem jg (M:List Ag) (b:ByteArray):vw M (.str b)= .str b:=rfl
@[simp] theorem jh (M:List Ag) (s n:Nat) (xs:List AV):vw M (.own s n xs)= .ro n (EX xs):=by simp[vw,CG,Et]
@[simp] theorem ji (M:List Ag) (t v s o n:Nat):vw M (.tok t v s o n)=CG M 3 (.tok t v s o n):=rfl
@[simp] theorem jj (M:List Ag) (t v o:Nat):vw M (.ptr t v o)=CG M 3 (.ptr t v o):=rfl
@[simp] theorem gE (M:List Ag) (xs:List AV):vw M (.rptr xs)= .rptr xs:=rfl
@[simp] theorem gF (M:List Ag) (xs:List AV):vw M (.optr xs)= .rptr (EX xs):=by simp[vw,CG,Et]
@[simp] theorem bD (M:List Ag) (t v s o n:Nat):HY 0 M (.tok t v s o n)=HX (fun M ys=>if ys.all tf then some (ys,M) else none) M (.tok t v s o n):=rfl
theorem SA:HY 0=HX fun M ys=>if ys.all tf then some (ys,M) else none:=rfl
theorem SB (d:Nat):HY (d+1)=HX fun M ys=>if ys.all tf then some (ys,M) else Hc (HY d) M ys:=rfl
attribute [simp] SA SB
theorem Wj (T:Nat->Option TI) (op:BinOp) (t:Nat) (xs ys:List AV):DY T op t (.agg xs) (.agg ys)=match T t with
 |some i=>if i.cmp=true/\i.agg=true then match AT i.zero xs ys with
  |some r=>match op with
   | .eql=>some (.bool r)
   | .neq=>some (.bool !r)
   |_=>none
  |none=>none else none
 |none=>none:=rfl
theorem SC (k:IntKind) (n a b:Int) (zs xs ys:List AV):AT (.int k n::zs) (.int k a::xs) (.int k b::ys)=match AT zs xs ys with|some r=>some (decide (a=b)&&r) |none=>none:=by simp[AT,Il,G7];rfl
theorem QD (n a b:Bool) (zs xs ys:List AV):AT (.bool n::zs) (.bool a::xs) (.bool b::ys)=match AT zs xs ys with|some r=>some (decide (a=b)&&r) |none=>none:=by simp[AT,Il,G7];rfl
theorem SD (n a b:ByteArray) (zs xs ys:List AV):AT (.str n::zs) (.str a::xs) (.str b::ys)=match AT zs xs ys with|some r=>some (decide (a=b)&&r) |none=>none:=by simp[AT,Il,G7];rfl
theorem SE:AT [] [] []=some true:=rfl
attribute [simp] Wj SC QD SD SE
@[simp] theorem jk (M:List Ag):((Ag.free::M)[0]?=some Ag.free)=True:=by simp
@[simp] theorem jl (b:Ag) (M:List Ag) (n:Nat):((b::M)[n+1]?=some Ag.free)=(M[n]?=some Ag.free):=by simp
def Ae (xs:List Int):List AV:=xs.map (AV.int .i64)
section
variable (xs ys:List Int) (M:List Ag) (k:Nat)
@[simp] theorem d7 (i:Nat):(Ae xs)[i]?=(xs[i]?).map (AV.int .i64):=by simp[Ae]
@[simp] theorem Wl:(Ae xs).length=xs.length:=by simp[Ae]
@[simp] theorem d8:Ae []=[]:=rfl
theorem Ux (x:Int):Ae (x::xs)= .int .i64 x::Ae xs:=rfl
theorem Cj:Ae (xs++ys)=Ae xs++Ae ys:=by simp[Ae]
@[simp] theorem Kn:(Ae xs).take k=Ae (xs.take k):=by simp[Ae,List.map_take]
@[simp] theorem ct:(Ae xs).drop k=Ae (xs.drop k):=by simp[Ae,List.map_drop]
@[simp] theorem gG:EY (Ae xs)=true:=by simp[Ae,EY,-IB]
@[simp] theorem gH:EZ (Ae xs)=true:=by simp[Ae,EZ,-Km]
@[simp] theorem gI:DX (Ae xs)=true:=by simp[Ae,DX,-IC]
@[simp] theorem gJ:Dg k (Ae xs)=true:=by induction xs<;>simp_all[Ae]
@[simp] theorem d9:C4 (Ae xs)=true:=by induction xs<;>simp_all[Ae]
@[simp] theorem ec:EX (Ae xs)=Ae xs:=by induction xs<;>simp_all[Ae]
@[simp] theorem ed:(Ae xs).map Et=Ae xs:=by simp[Ae]
@[simp] theorem ej:(Ae xs).map (CG M k)=Ae xs:=by cases k<;>simp[Ae]
end
def Do:List Nat->Nat->Option Nat
 | [],_=>none
 |t::ts,T=>if t=T then some 0 else match Do ts T with|some i=>some (i+1) |none=>none
theorem Je:∀{Ts:List Nat} {T i:Nat},Do Ts T=some i->Ts[i]?=some T
 | [],_,_,h=>by simp[Do] at h
 |t::ts,T,i,h=>by
  simp only[Do] at h
  split at h
  .rename_i e;simp at h;subst h;simp[e]
  .split at h
   .rename_i j hj;simp at h;subst h;simpa using Je hj
   .simp at h
theorem N5:∀{Ts:List Nat} {T:Nat},Do Ts T=none->T ∉ Ts
 | [],_,_=>by simp
 |t::ts,T,h=>by
  simp only[Do] at h
  split at h
  .simp at h
  .rename_i hne
   split at h
   .simp at h
   .rename_i hj
    simp only[List.mem_cons,not_or]
    exact⟨fun e=>hne e.symm,N5 hj⟩
theorem PR:∀{Ts:List Nat} {T i:Nat},Ts.Nodup->Ts[i]?=some T->Do Ts T=some i
 | [],_,_,_,h=>by simp at h
 |t::ts,T,0,_,h=>by simp at h;simp[Do,h]
 |t::ts,T,i+1,hn,h=>by
  have h' :ts[i]?=some T:=by simpa using h
  rw[List.nodup_cons] at hn
  have:¬t=T:=fun e=>hn.1 (e ▸ List.mem_of_getElem? h')
  simp[Do,this,PR hn.2 h']
theorem YN {Ts:List Nat} {T i:Nat} (h:Do Ts T=some i):T∈Ts:=List.mem_of_getElem? (Je h)
theorem LI {Ts:List Nat} {T:Nat} (h:T ∉ Ts):Do Ts T=none:=by
 cases e:Do Ts T with
 |none=>rfl
 |some i=>exact absurd (YN e) h
def GL:List Ag->List Nat->List Ag
 |M,[]=>M
 |M,T::Ts=>GL (M.set T .dead) Ts
theorem N6:∀(Ts:List Nat) (M:List Ag),(GL M Ts).length=M.length
 | [],M=>rfl
 |T::Ts,M=>by rw[GL,N6 Ts];simp
theorem N7:∀(Ts:List Nat) (M:List Ag) (T:Nat),(GL M Ts)[T]?=if T∈Ts then(match M[T]? with|some _=>some .dead|none=>none) else M[T]?
 | [],M,T=>by simp[GL]
 |t::Ts,M,T=>by
  rw[GL,N7 Ts]
  by_cases e:T=t
  .subst e
   by_cases hl:T<M.length
   .simp[hl]
   .simp[hl]
  .have:¬t=T:=fun h=>e h.symm
   simp[e,this]
def Gf:List Ag->List Nat->List Ag->List Ag
 |M,T::Ts,B::Bs=>Gf (M.set T B) Ts Bs
 |M,_,_=>M
theorem Ko:∀(Ts:List Nat) (Bs M:List Ag),(Gf M Ts Bs).length=M.length
 | [],_,M=>by simp[Gf]
 |T::Ts,[],M=>by simp[Gf]
 |T::Ts,B::Bs,M=>by rw[Gf,Ko Ts];simp
theorem N8:∀(Ts:List Nat) (Bs M:List Ag) (T:Nat),Ts.Nodup->Ts.length=Bs.length->(∀T∈Ts,T<M.length)->(Gf M Ts Bs)[T]?=match Do Ts T with|some i=>Bs[i]?|none=>M[T]?
 | [],_,M,T,_,_,_=>by simp[Gf,Do]
 |t::Ts,[],M,T,_,h,_=>by simp at h
 |t::Ts,B::Bs,M,T,hn,h,hl=>by
  rw[List.nodup_cons] at hn
  rw[Gf,N8 Ts Bs _ T hn.2 (by simpa using h) (fun T h=>by simp;exact hl T (by simp[h]))]
  by_cases e:t=T
  .subst e
   rw[LI hn.1]
   simp[Do,hl t (by simp)]
  .simp only[Do,e,if_false]
   cases Do Ts T with
   |none=>simp[e]
   |some i=>simp
def PS (Ts:List Nat) (M:List Ag):AV->AV
 | .tok T v s off n=>match Do Ts T with|some i=> .tok i v s off n|none=>CG M 3 (.tok T v s off n)
 | .ptr T v off=>match Do Ts T with|some i=> .ptr i v off|none=>CG M 3 (.ptr T v off)
 |x=>CG M 3 x
def nv (Ts:List Nat) (M:List Ag):AV->AV
 | .agg xs=> .agg (xs.map (PS Ts M))
 | .fn f cs=> .fn f (cs.map (PS Ts M))
 | .tup _=> .any
 |x=>PS Ts M x
def SF:Ag->Bool
 | .live _ cs=>cs.all tf&&C4 cs
 |_=>true
section
variable {P:Program} {f:Nat} {M cM:List Ag} {args cargs:List AV} {K:AV->List Ag->Prop} {Q:AV->List Ag->Prop}
theorem Uy {w:World} {sh shB:Nat->Prop} {σ cσ:Nat->Nat->Option St} {oth:Nat->Option Nat} {Ts:List Nat} (m:B7 w sh σ oth M) (hs:∀g,sh g->shB g) (ho:∀g,oth g≠none->g<w.heap.size->shB g)
 (hc:∀T i,Do Ts T=some i->∀v,cσ i v=σ T v) {x:AV} {v:Value} (h:VR w sh σ x v (fun _=>0)):VR w shB cσ (PS Ts M x) v (fun _=>0):=by
 have base:VR w shB cσ (CG M 3 x) v (fun _=>0):=VR.up cσ (Mu m hs ho 3 x v _ h (fun g hg=>absurd rfl hg))
 unfold PS
 split
 .rename_i T u s off n
  split
  .rename_i i hi
   simp only[VR] at h |-
   rw[hc T i hi];exact h
  .exact base
 .rename_i T u off
  split
  .rename_i i hi
   simp only[VR] at h |-
   rw[hc T i hi];exact h
  .exact base
 .exact base
theorem bE {w:World} {sh shB:Nat->Prop} {σ cσ:Nat->Nat->Option St} {oth:Nat->Option Nat} {Ts:List Nat} (m:B7 w sh σ oth M) (hs:∀g,sh g->shB g) (ho:∀g,oth g≠none->g<w.heap.size->shB g)
 (hc:∀T i,Do Ts T=some i->∀v,cσ i v=σ T v) {x:AV} {v:Value} (h:VR w sh σ x v (fun _=>0)):VR w shB cσ (nv Ts M x) v (fun _=>0):=by
 have hmap:=Fp (w:=w) (sh:=sh) (shB:=shB) (σ:=σ) (τ:=cσ) (f:=PS Ts M) (p:=fun fp=>∀g,fp g=0) (fun a b c hc e=>⟨fun g=>by have:=e g;have:=hc g;omega,fun g=>by have:=e g;have:=hc g;omega⟩) (fun x v fp h hf=>by
  have:fp=fun _=>0:=funext hf
  subst this
  exact Uy m hs ho hc h)
 unfold nv
 split
 .simp only[VR] at h |-
  obtain⟨cs,e,hv⟩:=h
  exact⟨cs,e,hmap _ _ _ hv (fun _=>rfl)⟩
 .simp only[VR] at h |-
  obtain⟨h0,cs,e,hv⟩:=h
  exact⟨fun _=>trivial,cs,e,hmap _ _ _ hv (fun _=>rfl)⟩
 .exact fun _=>rfl
 .exact Uy m hs ho hc h
theorem Ab.pass (Ts:List Nat) (spec:Aa P f cargs cM Q) (hnd:Ts.Nodup) (hT:(Ts.map fun T=>M[T]?)=cM.map some) (hb:cM.all OG=true) (hargs:args.map (nv Ts (GL M Ts))=cargs)
 (hk:∀r M',Q r M' ->M'.length=cM.length->Gc r=true/\M'.all SF=true/\K (D5 M.length r).1 (Gf M Ts M' ++(D5 M.length r).2)):Ab P f args M K:=by
 intro C hC
 subst hC
 refine⟨spec.1,fun F a w σ own vals R hv=>?_⟩
 have hlen:Ts.length=cM.length:=by have:=congrArg List.length hT;simpa using this
 have hTi:∀i T:Nat,Ts[i]?=some T->∃B,M[T]?=some B/\cM[i]?=some B:=by
  intro i T h
  have h1:(Ts.map fun T=>M[T]?)[i]?=(cM.map some)[i]?:=by rw[hT]
  simp only[List.getElem?_map,h,Option.map_some] at h1
  cases hc:cM[i]? with
  |none=>rw[hc] at h1;simp at h1
  |some B=>rw[hc] at h1;simp at h1;exact⟨B,h1,rfl⟩
 have hTl:∀T∈Ts,T<M.length:=fun T h=>by
  obtain⟨i,hi⟩:=List.mem_iff_getElem?.1 h
  obtain⟨B,hB,_⟩:=hTi i T hi
  rcases Nat.lt_or_ge T M.length with h|h
  .exact h
  .simp[List.getElem?_eq_none h] at hB
 let oth:Nat->Option Nat:=fun g=>match own g with|some T=>if T∈Ts then none else some T|none=>none
 let shB:Nat->Prop:=fun g=>C.sh g\/(oth g≠none/\g<w.heap.size)
 let cσ:Nat->Nat->Option St:=fun i v=>match Ts[i]? with|some T=>σ T v|none=>none
 let cown:Nat->Option Nat:=fun g=>match own g with|some T=>Do Ts T|none=>none
 have hcσ:∀T i,Do Ts T=some i->∀v,cσ i v=σ T v:=fun T i h v=>by simp only[cσ,Je h]
 have oth_some:∀g T,own g=some T->T ∉ Ts->oth g=some T:=fun g T h1 h2=>by simp only[oth,h1,h2,if_false]
 have mD:B7 w C.sh σ oth (GL M Ts):=by
  refine⟨fun T B hB=>?_,fun T v hT' =>R.mem.key T v (by rw[N6] at hT';exact hT')⟩
  rw[N7] at hB
  split at hB
  .split at hB
   .simp at hB;subst hB;exact⟨fun _=>0,fun _=>rfl,fun _=>Nat.zero_le _⟩
   .simp at hB
  .rename_i hTn
   obtain⟨fp,b1,b2⟩:=R.mem.blk T B hB
   refine⟨fp,b1,fun g=>?_⟩
   have:=b2 g
   split at this
   .rename_i e;rw[if_pos (oth_some g T e hTn)];exact this
   .omega
 have hv' :Aw w shB cσ cargs vals.toList (fun _=>0):=by
  rw[<-hargs]
  have:=Fp (w:=w) (sh:=C.sh) (shB:=shB) (σ:=σ) (τ:=cσ) (f:=nv Ts (GL M Ts)) (p:=fun fp=>∀g,fp g=0) (fun a b c hc e=>⟨fun g=>by have:=e g;have:=hc g;omega,fun g=>by have:=e g;have:=hc g;omega⟩) (fun x v fp h hf=>by
   have:fp=fun _=>0:=funext hf
   subst this
   exact bE mD (fun g hg=> .inl hg) (fun g hg hlt=> .inr ⟨hg,hlt⟩) hcσ h)
  exact this _ _ _ hv (fun _=>rfl)
 have hsub:Cb w w C.sh shB cσ cσ:=⟨fun _ _=>rfl,fun _ h=> .inl h,fun _ _ _ h=> .inl h⟩
 have mC:B7 w shB cσ cown cM:=by
  refine⟨fun i B hB=>?_,fun i v hi=>?_⟩
  .have hi:i<Ts.length:=by
    rcases Nat.lt_or_ge i cM.length with h|h
    .omega
    .simp[List.getElem?_eq_none h] at hB
   have hget:Ts[i]?=some Ts[i]:=List.getElem?_eq_getElem hi
   obtain⟨B',hM,hc⟩:=hTi i _ hget
   rw[hc] at hB;simp at hB;subst hB
   have hix:=PR hnd hget
   have hk' :∀v,cσ i v=σ Ts[i] v:=hcσ _ _ hix
   obtain⟨fp,b1,b2⟩:=R.mem.blk _ _ hM
   refine⟨fp,?_,fun g=>?_⟩
   .have htf:=List.all_eq_true.1 hb _ (List.mem_of_getElem? hc)
    cases B' with
    |free=>exact⟨fun v=>by rw[hk'];exact b1.1 v,b1.2⟩
    |dead=>exact b1
    |live u cs=>
     obtain⟨c0,b1⟩:=b1
     refine⟨fun u' hu=>by rw[hk'];exact c0 u' hu,?_⟩
     rcases b1 with⟨c1,c2,c3⟩ | ⟨hh,b,cur,e',fp',c1,c2,c3,c4,c5⟩
     .exact .inl ⟨by rw[hk'];exact c1,c2,c3⟩
     .exact .inr ⟨hh,b,cur,e',fp',by rw[hk'];exact c1,c2,c3,Aw.later hsub _ _ _ (fun _ _=>rfl) (Ix cσ htf c4),c5⟩
   .have:=b2 g
    split at this
    .rename_i e
     have:cown g=some i:=by simp only[cown,e];exact hix
     rw[if_pos this];assumption
    .omega
  .have:Ts[i]?=none:=List.getElem?_eq_none (by omega)
   simp only[cσ,this]
 have hshc:∀g,shB g->cown g=none/\g<w.heap.size:=by
  intro g hg
  rcases hg with hg| ⟨hg,hlt⟩
  .have:=R.shr g hg
   exact⟨by simp only[cown,this.1],this.2⟩
  .refine⟨?_,hlt⟩
   cases e:own g with
   |none=>simp only[cown,e]
   |some T=>
    have:T ∉ Ts:=fun h=>hg (by simp only[oth,e,h,if_true])
    simp only[cown,e];exact LI this
 refine(spec.2 w shB cσ cown vals hv' mC hshc).mono ?_
 rintro e w' ⟨r,v,M',σ',own',fpr,rfl,hq,hl,hr,hf,hm,hsn,he,hlt⟩
 obtain⟨hrof,hbo,hK⟩:=hk r M' hq hl
 let σ2:Nat->Nat->Option St:=fun T v=>match Do Ts T with|some i=>σ' i v|none=>σ T v
 let own2:Nat->Option Nat:=fun g=>match own' g with|some i=>if i<cM.length then Ts[i]? else none|none=>if g<w.heap.size then oth g else none
 have L:Cb w w' C.sh C.sh σ σ2:=by
  refine⟨fun g hg=>hlt.ro g (.inl hg),fun _ h=>h,fun T v st h=>?_⟩
  cases e:Do Ts T with
  |none=>exact .inl (by simp only[σ2,e];exact h)
  |some i=>
   simp only[σ2,e]
   exact hlt.key i v st (by rw[hcσ T i e];exact h)
 have hothn:∀g T,own g=some T->T ∉ Ts->g<w.heap.size->own' g=none/\own2 g=some T:=fun g T h1 h2 h3=>by
  have:=hsn g (.inr ⟨by rw[oth_some g T h1 h2];simp,h3⟩)
  exact⟨this,by simp only[own2,this,h3,if_true];exact oth_some g T h1 h2⟩
 have hown2:∀g,own2 g≠none->own g≠none\/w.heap.size<=g:=by
  intro g hg
  cases e:own' g with
  |none=>
   simp only[own2,e] at hg
   split at hg
   .left
    intro e2
    simp only[oth,e2] at hg
    exact hg rfl
   .exact absurd rfl hg
  |some i=>
   rcases he.own g (by rw[e];simp) with h|h
   .left
    intro e2
    simp only[cown,e2] at h
    exact h rfl
   .exact .inr h
 have R1:AK C F (Gf M Ts M') a w' σ2 own2:=by
  refine⟨R.size,R.dfr,fun t ht=>VR.later L _ _ _ (fun _ h=>absurd rfl h) (R.tmp t ht),⟨fun T B hB=>?_,fun T v hT' =>?_⟩,fun g hg=>?_,?_,R.keyl L⟩
  .rw[N8 Ts M' M T hnd (by omega) hTl] at hB
   cases hix:Do Ts T with
   |some i=>
    rw[hix] at hB;simp only at hB
    obtain⟨fp,b1,b2⟩:=hm.blk i B hB
    have hiM:i<cM.length:=by
     rcases Nat.lt_or_ge i M'.length with h|h
     .omega
     .simp[List.getElem?_eq_none h] at hB
    have hk' :∀v,σ2 T v=σ' i v:=fun v=>by simp only[σ2,hix]
    refine⟨fp,?_,fun g=>?_⟩
    .have hbk:=List.all_eq_true.1 hbo _ (List.mem_of_getElem? hB)
     cases B with
     |free=>exact⟨fun v=>by rw[hk'];exact b1.1 v,b1.2⟩
     |dead=>exact b1
     |live u cs=>
      simp only[SF,Bool.and_eq_true] at hbk
      obtain⟨c0,b1⟩:=b1
      refine⟨fun u' hu=>by rw[hk'];exact c0 u' hu,?_⟩
      rcases b1 with⟨c1,c2,c3⟩ | ⟨hh,b,cur,e',fp',c1,c2,c3,c4,c5⟩
      .exact .inl ⟨by rw[hk'];exact c1,c2,c3⟩
      .exact .inr ⟨hh,b,cur,e',fp',by rw[hk'];exact c1,c2,c3,Gv _ _ _ hbk.2 (Ix σ2 hbk.1 c4),c5⟩
    .have:=b2 g
     split at this
     .rename_i e
      have:own2 g=some T:=by simp only[own2,e,hiM,if_true];exact Je hix
      rw[if_pos this];assumption
     .omega
   |none=>
    rw[hix] at hB;simp only at hB
    have hTn:=N5 hix
    obtain⟨fp,b1,b2⟩:=R.mem.blk T B hB
    have hsome:∀g,fp g≠0->own g=some T/\g<w.heap.size:=fun g hg=>by
     have:=b2 g
     split at this
     .rename_i e;exact⟨e,Mn b1 g hg⟩
     .omega
    refine⟨fp,EG L (fun g hg=>?_) (fun v=>by simp only[σ2,hix]) b1,fun g=>?_⟩
    .obtain⟨h1,h2⟩:=hsome g hg
     exact hlt.ro g (.inr ⟨by rw[oth_some g T h1 hTn];simp,h2⟩)
    .by_cases h0:fp g=0
     .rw[h0];exact Nat.zero_le _
     .obtain⟨h1,h2⟩:=hsome g h0
      rw[if_pos (hothn g T h1 hTn h2).2]
      have:=b2 g
      rw[if_pos h1] at this;exact this
  .rw[Ko] at hT'
   have:Do Ts T=none:=LI fun h=>by have:=hTl T h;omega
   simp only[σ2,this]
   exact R.mem.key T v hT'
  .have h1:=R.shr g hg
   have h2:=hsn g (.inl hg)
   have:=he.size
   refine⟨?_,by omega⟩
   simp only[own2,h2,h1.2,if_true,oth,h1.1]
  .refine R.ext.trans ⟨he.os,he.tape,he.output,he.size,fun g hg ho=>he.block g hg (by simp only[cown,ho]),hown2⟩
 obtain⟨σ3,own3,R3,r3,_,_⟩:=Uc C F _ a w' σ2 own2 r v fpr R1 (Mv r v fpr hrof hr) (fun g=>by have:=hf g;split at this<;>omega) (fun g hg=>by
  have h1:own' g=some cM.length:=by
   have:=hf g
   split at this
   .assumption
   .omega
  refine⟨by simp only[own2,h1,Nat.lt_irrefl,if_false],fun hs=>?_,?_⟩
  .have:=hsn g (.inl hs)
   rw[h1] at this;simp at this
  .rcases he.own g (by rw[h1];simp) with h|h
   .have:own g≠none:=by
     intro e2
     simp only[cown,e2] at h
     exact h rfl
    exact R.ext.own g this|>.imp id (fun h=>h)
   .exact .inr (by have:=R.ext.size;omega))
 rw[Ko] at R3 r3
 exact⟨_,v,_,σ3,own3,rfl,hK,R3,r3⟩
end
attribute [simp] Do GL Gf PS nv SF
open Go.Sort
theorem N9 {w:World} {sh:Nat->Prop} {σ:Nat->Nat->Option St}:∀{xs:List Int} {vs:List Value} {fp:Nat->Nat},Aw w sh σ (Ae xs) vs fp->vs=xs.map (Value.int .i64)/\∀g,fp g=0
 | [],vs,fp,h=>⟨h.1,h.2⟩
 |x::xs,vs,fp,h=>by
  simp only[Ux,Aw] at h
  obtain⟨v,rest,f1,f2,rfl,h1,h2,hf⟩:=h
  obtain⟨rfl,h3⟩:=N9 h2
  obtain⟨rfl,h4⟩:=h1
  exact⟨rfl,fun g=>by rw[hf,h3,h4]⟩
theorem Oa {w:World} {sh:Nat->Prop} {σ:Nat->Nat->Option St}:∀(xs:List Int),Aw w sh σ (Ae xs) (xs.map (Value.int .i64)) (fun _=>0)
 | []=>⟨rfl,fun _=>rfl⟩
 |x::xs=>⟨_,_,_,_,rfl,⟨rfl,fun _=>rfl⟩,Oa xs,fun _=>rfl⟩
theorem QE {P:Program} {f:Nat} (hc:I9 P f) (h:∀(blk off cap:Nat) (zs:List Int) (w:World),Holds (Value.int .i64) w blk off zs.toArray->blk<w.heap.size->zs.length<4611686018427387904->
 Calls P f #[.slice (some ⟨blk,off,none⟩) zs.length cap] w fun e w' =>e= .returned (.tuple #[])/\∃n os,w' =grow (putRow (Value.int .i64) (Sort.ahead w n) blk off (zs.mergeSort fun x y=>decide (x<=y)).toArray) os)
 (xs:List Int) (v:Nat) (hx:xs.length<4611686018427387904) (hn:0<xs.length):Aa P f [.tok 0 v 1 0 xs.length] [.live v (Ae xs)] (fun r M=>r= .tup []/\M=[.live v (Ae (xs.mergeSort fun x y=>decide (x<=y)))]):=by
 refine⟨hc,fun w sh σ own vals hv m hs=>?_⟩
 simp only[Aw] at hv
 obtain⟨x,rest,f1,f2,he,h1,⟨h2,_⟩,hf⟩:=hv
 have e1:f1=fun _=>0:=Fv fun g=>by have:=hf g;omega
 subst e1 h2
 have hb:Aj [Ag.live v (Ae xs)] 0 v=some (Ae xs):=by simp[Aj]
 obtain⟨hh,b,cur,e,c,rfl,hnc,hcm,hcz,hst,how,hheap,hbl,_⟩:=HK m hb h1 hn
 obtain⟨_,fp,hB,hfp⟩:=BS m hb
 obtain⟨hver,hB⟩:=hB
 have hlen:(Ae xs).length=xs.length:=by simp
 rcases hB with⟨h3,_⟩ | ⟨hh',b',cur',e',fp',g1,g2,g3,g4,g5⟩
 .rw[hst] at h3;simp at h3
 rw[hst] at g1
 simp at g1
 obtain⟨rfl,rfl,_⟩:=g1
 rw[hheap] at g2
 simp at g2
 obtain⟨rfl,rfl⟩:=g2
 obtain⟨hvs,hz⟩:=N9 g4
 rw[hlen] at g3 hvs
 have hlt:hh<w.heap.size:=(Array.getElem?_eq_some_iff.1 hheap).1
 have hcell:∀j,j<xs.length->cur[b+j]?=(xs[j]?).map (Value.int .i64):=fun j hj=>by
  have:=congrArg (fun l=>l[j]?) hvs
  simp only[List.getElem?_take,hj,if_true,List.getElem?_drop,List.getElem?_map,Array.getElem?_toList] at this
  exact this
 have hH:Holds (Value.int .i64) w hh b xs.toArray:=by
  intro j hj
  have hj' :j<xs.length:=by simpa using hj
  refine⟨?_,by simp[World.frozen?,hheap]⟩
  simp only[World.cell?,hheap,Option.isSome_none,Bool.false_eq_true,if_false]
  rw[hcell j hj']
  simp[hj']
 have hvals:vals= #[.slice (some ⟨hh,b,none⟩) xs.length c]:=by
  apply Array.ext'
  rw[he];simp
 rw[hvals]
 refine(h hh b c xs w hH hlt hx).mono ?_
 rintro _ w' ⟨rfl,n,os,rfl⟩
 have hl2:(xs.mergeSort fun x y=>decide (x<=y)).length=xs.length:=List.length_mergeSort _
 generalize (xs.mergeSort fun x y=>decide (x<=y))=ys at hl2 |-
 have hheap2:(grow (putRow (Value.int .i64) (Sort.ahead w n) hh b ys.toArray) os).heap[hh]?=some (.cells (putCells (Value.int .i64) b ys.toArray cur) e (0,0)):=by
  rw[heap_grow_old _ _ (by simp[putRow,mapBlock,Sort.ahead];exact hlt)]
  simp[putRow,mapBlock,Sort.ahead,Array.getElem?_modify,hheap,onCells]
 have hother:∀k,k<w.heap.size->k≠hh->(grow (putRow (Value.int .i64) (Sort.ahead w n) hh b ys.toArray) os).heap[k]?=w.heap[k]?:=fun k hk hne=>by
  rw[heap_grow_old _ _ (by simp[putRow,mapBlock,Sort.ahead];exact hk)]
  simp[putRow,mapBlock,Sort.ahead,Array.getElem?_modify,Ne.symm hne]
 have hshne:∀g,sh g->g≠hh/\g<w.heap.size:=fun g hg=>⟨fun e=>by have:=(hs g hg).1;rw[e,how] at this;simp at this,(hs g hg).2⟩
 refine⟨.tup [],_,[.live v (Ae ys)],σ,own,fun _=>0,rfl,⟨rfl,rfl⟩,rfl,⟨#[],rfl,rfl,fun _=>rfl⟩,fun _=>Nat.zero_le _,⟨fun T B hB=>?_,fun T v hT=>m.key T v (by simpa using hT)⟩,fun g hg=>(hs g hg).1,?_,?_⟩
 .cases T with
  |succ T=>simp at hB
  |zero=>
   simp at hB;subst hB
   refine⟨fp,⟨hver,.inr ⟨hh,b,putCells (Value.int .i64) b ys.toArray cur,e,fun _=>0,?_,hheap2,?_,?_,fun g=>?_⟩⟩,hfp⟩
   .rw[hst];simp[putCells]
   .simp[putCells];omega
   .have:((putCells (Value.int .i64) b ys.toArray cur).toList.drop b).take (Ae ys).length=ys.map (Value.int .i64):=by
     apply List.ext_getElem?
     intro j
     rw[show(Ae ys).length=ys.length by simp]
     by_cases hj:j<ys.length
     .rw[List.getElem?_take_of_lt hj,List.getElem?_drop,Array.getElem?_toList]
      simp[putCells,hj,show b+j<cur.size by omega]
     .rw[List.getElem?_take_eq_none (by omega),List.getElem?_eq_none (by simp;omega)]
    rw[this]
    exact Oa ys
   .rw[g5,hz]
 .refine⟨rfl,rfl,rfl,by simp[putRow,mapBlock,Sort.ahead],fun g hg ho=>hother g hg (fun e=>by rw[e,how] at ho;simp at ho),fun g hg=> .inl hg⟩
 .exact⟨fun g hg=>hother g (hshne g hg).2 (hshne g hg).1,fun _ h=>h,fun T u st h=> .inl h⟩
theorem PT {P:Program} {f:Nat} (hc:I9 P f) {k k2:IntKind} {n m:Int} (h:∀w,Calls P f #[.int k n] w fun e w' =>e= .returned (.int k2 m)/\w' =w):Aa P f [.int k n] [] (fun r _=>r= .int k2 m):=by
 refine⟨hc,fun w sh σ own vals hv mm hs=>?_⟩
 simp only[Aw] at hv
 obtain⟨x,rest,f1,f2,he,⟨rfl,_⟩,⟨h2,_⟩,hf⟩:=hv
 subst h2
 have hvals:vals= #[.int k n]:=by apply Array.ext';rw[he]
 rw[hvals]
 refine(h w).mono ?_
 rintro _ w' ⟨rfl,rfl⟩
 exact⟨_,_,[],σ,own,fun _=>0,rfl,rfl,rfl,⟨rfl,fun _=>rfl⟩,fun _=>Nat.zero_le _,mm,fun g hg=>(hs g hg).1,Fx.refl _ _,fun _ _=>rfl,fun _ h=>h,fun _ _ _ h=> .inl h⟩
def SG (a b:AV):Bool:=match EP a,EP b with
 |some p,some q=>p.1 !=q.1
 |_,_=>true
def Jf:List (Nat×Nat)->Fr->Prop
 | [],_=>True
 |p::X,F=>SG (F p.1) (F p.2)=true/\Jf X F
theorem PU {F:Fr}:∀{X:List (Nat×Nat)},Jf X F->∀p∈X,SG (F p.1) (F p.2)=true
 |p::X,h,q,hq=>by
  rcases List.mem_cons.1 hq with rfl|hq
  .exact h.1
  .exact PU h.2 q hq
def HA (ops:Array Oper) (k a:Nat):Bool:=(ops.toList.drop k).all fun o=> !(o.dst==some a)
def SH (x:Operand) (p:Nat->Bool):Bool:=match x with| .tmp a=>p a|_=>true
def SI (ops:Array Oper) (X:List (Nat×Nat)) (k:Nat) (ok:Oper) (i:Nat) (oi:Oper):Bool:=
 ok.apart ops oi&&(decide (1<=AF ok.op)&&decide (AF ok.op<=2))&&(decide (AF oi.op=4) ||decide (AF oi.op=5))&&
 ok.op.operands.toList.all (fun x=>SH x fun a=>HA ops k a&&oi.op.operands.toList.all fun y=>SH y fun b=>X.contains (a,b)&&HA ops i b)
def ID (c:Nat->Oper->Nat->Oper->Bool) (ops:Array Oper):List Oper->List Nat->List (Nat×Oper)->Nat->Bool
 | [],_,_,_=>true
 |o::r,A,done,i=>Mw (Kh A o) fun m=>(BV o).all (·<i)&&(done.all fun p=>m.testBit p.1||c p.1 p.2 i o)&&Mw (i+1) fun i' =>ID c ops r (A++[m]) ((i,o)::done) i'
def cX (L:Bool) (X:List (Nat×Nat)) (ops:Array Oper) (k:Nat) (ok:Oper) (i:Nat) (oi:Oper):Bool:=Em L ops ok oi||SI ops X k ok i oi
def WS (L:Bool) (X:List (Nat×Nat)) (l:List Oper):Bool:=ID (cX L X l.toArray) l.toArray l [] [] 0&&l.all fun o=>decide (AF o.op<=5)
section
variable {ops:Array Oper}
theorem HB {c:Nat->Oper->Nat->Oper->Bool}:∀(r pre:List Oper) (A:List Nat) (done:List (Nat×Oper)),ops.toList=pre++r->A.length=pre.length->WR ops A->(∀k o,ops[k]?=some o->k<pre.length->(k,o)∈done)->ID c ops r A done pre.length=true->
 ∀(i k:Nat) (oi ok:Oper),ops[i]?=some oi->ops[k]?=some ok->pre.length<=i->(∀p∈BV oi,p<i)/\(k<i->c k ok i oi=true\/∀S,Ih ops S->(∀p∈BV oi,S p)->S k)
 | [],pre,A,done,ho,hA,hanc,hd,h,i,k,oi,ok,hi,hk,hle=>by
   exfalso
   rw[<-Array.getElem?_toList,ho,List.append_nil,List.getElem?_eq_none hle] at hi
   simp at hi
 |o::r,pre,A,done,ho,hA,hanc,hd,h,i,k,oi,ok,hi,hk,hle=>by
  simp only[ID,PK,Bool.and_eq_true] at h
  obtain⟨⟨h1,h2⟩,h3⟩:=h
  have hself:ops[pre.length]?=some o:=by rw[<-Array.getElem?_toList,ho];simp
  by_cases e:i=pre.length
  .subst e
   rw[hself] at hi
   simp at hi
   subst hi
   refine⟨fun p hp=>by simpa using List.all_eq_true.1 h1 p hp,fun hlt=>?_⟩
   have:=List.all_eq_true.1 h2 _ (hd k ok hk hlt)
   simp only[Bool.or_eq_true] at this
   rcases this with h|h
   .exact .inr fun S hc hp=>hanc.mask h hc hp
   .exact .inl h
  .have:=HB r (pre++[o]) (A++[Kh A o]) ((pre.length,o)::done) (by simp[ho]) (by simp[hA]) ?_ ?_ (by simpa using h3) i k oi ok hi hk (by simp;omega)
   .exact this
   .intro t m ht k hk S hc hp
    by_cases et:t<A.length
    .rw[List.getElem?_append_left et] at ht
     exact hanc t m ht k hk S hc hp
    .rw[List.getElem?_append_right (by omega)] at ht
     have et2:t=A.length:=by
      rcases Nat.lt_or_ge (t-A.length) 1 with h|h
      .omega
      .rw[List.getElem?_eq_none (by simpa using h)] at ht;simp at ht
     subst et2
     simp at ht
     subst ht
     exact hanc.mask hk hc (hp o (by rw[hA];exact hself))
   .intro k o' hk hlt
    simp at hlt
    by_cases ek:k=pre.length
    .subst ek
     rw[hself] at hk
     simp at hk
     subst hk
     simp
    .exact List.mem_cons_of_mem _ (hd k o' hk (by omega))
theorem JD {k a:Nat} (h:HA ops k a=true) {t:Nat} {o:Oper} (ht:k<=t) (ho:ops[t]?=some o):o.dst≠some a:=by
 have:=List.all_eq_true.1 h o (by
  rw[<-Array.getElem?_toList] at ho
  refine List.mem_of_getElem? (i:=t-k) ?_
  rw[List.getElem?_drop,show k+(t-k)=t by omega];exact ho)
 simpa using this
structure SJ (ops:Array Oper) (X:List (Nat×Nat)) (k:Nat) (ok:Oper) (i:Nat) (oi:Oper):Prop where
 ap:Ap ops ok oi
 c1:1<=AF ok.op
 c2:AF ok.op<=2
 cw:AF oi.op=4\/AF oi.op=5
 fk:∀a,Operand.tmp a∈ok.op.operands->∀b,Operand.tmp b∈oi.op.operands->(a,b)∈X/\HA ops k a=true/\HA ops i b=true
theorem SK {X:List (Nat×Nat)} {k i:Nat} {ok oi:Oper} (h:SI ops X k ok i oi=true):SJ ops X k ok i oi:=by
 simp only[SI,Bool.and_eq_true,Bool.or_eq_true,decide_eq_true_eq] at h
 obtain⟨⟨⟨h1,h2⟩,h3⟩,h4⟩:=h
 refine⟨Ap.of h1,h2.1,h2.2,h3,fun a ha b hb=>?_⟩
 have h5:=List.all_eq_true.1 h4 _ (by simpa using ha)
 simp only[SH,Bool.and_eq_true] at h5
 have h6:=List.all_eq_true.1 h5.2 _ (by simpa using hb)
 simp only[SH,Bool.and_eq_true] at h6
 exact⟨by simpa using h6.1,h5.1,h6.2⟩
end
section
variable {P:Program} {L:Bool} {n:Nat} {T:Nat->Option TI} {ops:Array Oper} {sl:Nat->Nat} {F:Fr} {M:List Ag} {K:Fr->List Ag->Prop} {o oi oj:Oper} {X:List (Nat×Nat)}
theorem Nn (tk:BI P T) (hops:∀(k:Nat) (o:Oper),ops[k]?=some o->By n o=true) (hc5:∀(k:Nat) (o:Oper),ops[k]?=some o->AF o.op<=5):∀(rem:List Nat) (F:Fr) (M:List Ag),B1 T (Ah P L) ops sl rem F M K->CQ P n F M->
 ∃F' M',K F' M' /\∀d,(∀k∈rem,∀o,ops[k]?=some o->o.dst≠some d)->F' d=F d
 | [],F,M,h,_=>⟨F,M,h,fun _ _=>rfl⟩
 |i::rem,F,M,h,I=>by
  simp only[B1] at h
  cases hi:ops[i]? with
  |none=>
   unfold B5 at h
   rw[hi] at h
   obtain⟨F',M',hk,hf⟩:=Nn tk hops hc5 rem F M h I
   exact⟨F',M',hk,fun d hd=>hf d fun k hk o ho=>hd k (by simp[hk]) o ho⟩
  |some oi=>
   obtain⟨F1,M1,h1,⟨v,rfl⟩,_,I1⟩:=Ge tk hi (hops i oi hi) (hc5 i oi hi) h I
   obtain⟨F',M',hk,hf⟩:=Nn tk hops hc5 rem _ M1 h1 I1
   refine⟨F',M',hk,fun d hd=>?_⟩
   rw[hf d fun k hk o ho=>hd k (by simp[hk]) o ho]
   have:=hd i (by simp) oi hi
   cases hdst:oi.dst with
   |none=>rfl
   |some e=>
    have:¬d=e:=fun h=>this (by rw[hdst,h])
    simp[Al,Bg,this]
theorem Rq {x:Operand} {p:Nat×Nat} (h:EP (ev F x)=some p):∃a,x= .tmp a:=by
 cases x with
 |tmp t=>exact⟨t,rfl⟩
 |const c=>exfalso;simp only[ev] at h;unfold QJ at h;split at h<;>simp[EP] at h
 |global g=>simp[ev,EP] at h
 |func f=>simp[ev,EP] at h
theorem YO {sj si:Nat} {v:AV} {Kj Kj' :Fr->List Ag->Prop} (hap:Ap ops oj oi) (hc:AF oj.op=4\/AF oj.op=5) (hd:Dn T ops oi si F M v none)
 (hsep:∀x∈oi.op.operands,∀y∈oj.op.operands,∀B u B' u',EP (ev F x)=some (B,u)->EP (ev F y)=some (B',u')->B≠B')
 (hk:∀F1 M1,Dn T ops oi si F1 M1 v none->Kj' (Al F1 oi.dst v) M1->Kj F1 M1) (h:CX T (Ah P L) oj sj (Al F oi.dst v) M Kj'):CX T (Ah P L) oj sj F M Kj:=by
 have hev:∀x∈oj.op.operands,ev (Al F oi.dst v) x=ev F x:=EI hap.symm
 have hevi:∀u,∀x∈oi.op.operands,ev (Al F oj.dst u) x=ev F x:=fun u=>EI hap
 have hcomm:∀u,Al (Al F oi.dst v) oj.dst u=Al (Al F oj.dst u) oi.dst v:=fun u=>(D6 hap.dd).symm
 have hden:∀(u:AV) (B w:Nat) (b:Ag) (y:Operand),y∈oj.op.operands->EP (ev F y)=some (B,w)->Dn T ops oi si (Al F oj.dst u) (M.set B b) v none:=by
  intro u B w b y hy ht
  refine hd.up' (CW hap) (hevi u) (.inl ?_) (fun h=>absurd rfl h)
  rw[Eg (hevi u)]
  refine OI fun x hx B' v' hx' =>?_
  have hne:B≠B' :=fun e=>hsep x hx y hy _ _ _ _ hx' ht e.symm
  simp only[Aj,List.getElem?_set_ne hne]
 unfold CX at h |-
 split at h<;>(rename_i hop)<;>(try (exfalso;rcases hc with e|e<;>(rw[hop] at e;simp[AF] at e);done))
 .rename_i t x y
  simp only[hop,Op.operands] at hev
  simp only[hop] at hden
  simp only[hev x (by simp),hev y (by simp)] at h
  unfold Ht Iu Hl at h |-
  split at h
  .rename_i i hi
   split at h
   .rename_i B u off hx
    split at h
    .rename_i cs hcs
     simp only[hi,hcs]
     split at h
     .rename_i xs hxs
      refine⟨h.1,hk _ _ (hden _ B u _ x (by simp[Op.operands]) (by rw[hx];rfl)) ?_⟩
      rw[<-hcomm];exact h.2
     .exact h.elim
    .exact h.elim
   .exact h.elim
  .exact h.elim
 .rename_i args ts
  split at h
  .rename_i x y t t' hx ht
   obtain⟨rfl,h⟩:=h
   have hxm:x∈args:=by rw[<-Array.mem_toList_iff,hx];simp
   have hym:y∈args:=by rw[<-Array.mem_toList_iff,hx];simp
   simp only[hop] at hev hden
   simp only[hev x (by simp[Op.operands,Call.operands,hxm]),hev y (by simp[Op.operands,Call.operands,hym])] at h
   refine⟨rfl,?_⟩
   unfold HW Hl Hy at h |-
   split at h
   .rename_i e es eb ez B u s' off n htd hxe
    split at h
    .rename_i cs hcs
     simp only[hcs]
     split at h
     .rename_i p hp
      obtain⟨h1,h2,h3,h4,h5,h6,h7,h8,h⟩:=h
      refine⟨h1,h2,h3,h4,h5,h6,h7,h8,hk _ _ (hden _ B u _ x (by simp[Op.operands,Call.operands,hxm]) (by rw[hxe];rfl)) ?_⟩
      rw[<-hcomm];exact h
     .exact h.elim
    .exact h.elim
   .exact h.elim
  .exact h.elim
 .exfalso
  rcases hc with e|e
  .obtain⟨t,x,y,e⟩:=PI e;simp_all
  .obtain⟨args,ts,e⟩:=Nl e;simp_all
theorem Rs (tk:BI P T) (hops:∀(k:Nat) (o:Oper),ops[k]?=some o->By n o=true) (hc5:∀(k:Nat) (o:Oper),ops[k]?=some o->AF o.op<=5) (hK:∀F M,K F M->Jf X F) {j:Nat} (hj:ops[j]?=some oj) (hcj:3<=AF oj.op) {post:List Nat}:∀(pre:List Nat) (F:Fr) (M:List Ag),
 (pre++j::post).Pairwise (·<·)->(∀i∈pre,∀oi,ops[i]?=some oi->Em L ops oi oj=true\/SJ ops X i oi j oj)->CQ P n F M->B1 T (Ah P L) ops sl (pre++j::post) F M K->B5 T (Ah P L) ops sl j F M fun F' M' =>B1 T (Ah P L) ops sl (pre++post) F' M' K
 | [],F,M,_,_,_,h=>h
 |i::pre,F,M,hs,hc,I,h=>by
  have hs0:(i::(pre++j::post)).Pairwise (·<·):=hs
  have hs' :=(List.pairwise_cons.1 hs0).2
  have hgt:=(List.pairwise_cons.1 hs0).1
  have ih:=fun F M=>Rs tk hops hc5 hK hj hcj (post:=post) pre F M hs' (fun k hk=>hc k (by simp[hk]))
  have h0:=h
  simp only[List.cons_append,B1] at h |-
  cases hi:ops[i]? with
  |none=>
   unfold B5 at h
   rw[hi] at h
   have:∀F' M',B5 T (Ah P L) ops sl i F' M' (fun F' M' =>B1 T (Ah P L) ops sl (pre++post) F' M' K)=B1 T (Ah P L) ops sl (pre++post) F' M' K:=fun F' M' =>by unfold B5;rw[hi]
   simp only[this]
   exact ih F M I h
  |some oi=>
   have hci:AF oi.op<=2:=by
    rcases hc i (by simp) oi hi with hcm|hl
    .obtain⟨hap,hcc⟩:=D7 hcm
     rcases hcc with h|h|h|h|h|h|h<;>omega
    .exact hl.c2
   have hap:Ap ops oi oj:=by
    rcases hc i (by simp) oi hi with hcm|hl
    .exact(D7 hcm).1
    .exact hl.ap
   obtain⟨F1,M1,⟨vi,bi,hdi,rfl,rfl,hk⟩,_,_,I1⟩:=Ge (L:=L) (K:=fun F' M' =>∃vi bi,Dn T ops oi (sl i) F M vi bi/\F' =Al F oi.dst vi/\M' =BN M (sl i) bi/\B1 T (Ah P L) ops sl (pre++j::post) F' M' K) tk hi (hops i oi hi) (by omega) ((Dj hi hci).2 (by
    obtain⟨vi,bi,hdi,hk⟩:=(Dj hi hci).1 h
    exact⟨vi,bi,hdi,vi,bi,hdi,rfl,rfl,hk⟩)) I
   have h2:=ih _ _ I1 hk
   generalize hKK:(fun F' M' =>B5 T (Ah P L) ops sl i F' M' fun F' M' =>B1 T (Ah P L) ops sl (pre++post) F' M' K)=KK
   rcases hc i (by simp) oi hi with hcm|hl
   .obtain⟨_,hcc⟩:=D7 hcm
    have hcj' :(AF oj.op=3/\(L=false\/Bf oi.op=false))\/(AF oj.op=4/\AF oi.op<=1)\/(AF oj.op=5/\AF oi.op=0):=by
     rcases hcc with h|h|h|h|h|h|h
     .omega
     .omega
     .omega
     .omega
     .exact .inl ⟨h.1,h.2.2⟩
     .exact .inr (.inl h)
     .exact .inr (.inr h)
    unfold B5 at h2 |-
    simp only[hj] at h2 |-
    rw[CW hap] at h2
    split at h2
    .refine Ui hap.symm hcj' (hops j oj hj) I hdi (fun F1 M1 hd1 hk1=>?_) h2
     rw[<-hKK]
     exact(Dj hi hci).2 ⟨vi,bi,hd1,hk1⟩
    .rw[<-hKK]
     refine(Dj hi hci).2 ⟨vi,bi,?_,?_⟩
     .exact hdi.up (CW hap.symm) (EI hap.symm) (.inr fun B v cs h=>h) (fun hf=>hf)
     .rw[D6 hap.symm.dd];exact h2
    .exact h2.elim
   .have hbn:bi=none:=by
     rcases hdi.slot with h|h
     .exact h
     .have:=HZ h.2.1;have:=hl.c1;omega
    subst hbn
    simp only[BN] at h2
    obtain⟨Fe,Me,hKe,hFe⟩:=Nn tk hops hc5 _ F M h0 I
    have hsepL:=hK _ _ hKe
    have hsep:∀x∈oi.op.operands,∀y∈oj.op.operands,∀B u B' u',EP (ev F x)=some (B,u)->EP (ev F y)=some (B',u')->B≠B' :=by
     intro x hx y hy B u B' u' h1 h2
     obtain⟨a,rfl⟩:=Rq h1
     obtain⟨b,rfl⟩:=Rq h2
     obtain⟨hm,ha,hb⟩:=hl.fk a hx b hy
     have h3:=PU hsepL _ hm
     have ea:Fe a=F a:=hFe a fun k hk o ho=>by
      have:i<=k:=by
       rcases List.mem_cons.1 (by simpa using hk:k∈i::(pre++j::post)) with h|h
       .omega
       .exact Nat.le_of_lt (hgt k h)
      exact JD ha this ho
     have eb:Fe b=F b:=hFe b fun k hk o ho=>by
      have hk' :k∈i::pre\/k∈j::post:=by
       rcases List.mem_append.1 hk with h|h
       .exact .inl h
       .exact .inr h
      rcases hk' with hk' |hk'
      .have hap' :Ap ops o oj:=by
        rcases hc k hk' o ho with hcm|hl
        .exact(D7 hcm).1
        .exact hl.ap
       intro e
       exact hap'.xy b e (by
        unfold Oper.looksAt
        exact List.mem_append_left _ (List.mem_filterMap.2 ⟨.tmp b,by simpa using hy,rfl⟩))
      .refine JD hb ?_ ho
       rcases List.mem_cons.1 hk' with h|h
       .omega
       .exact Nat.le_of_lt ((List.pairwise_cons.1 (List.pairwise_append.1 hs).2.1).1 k h)
     simp only[ev] at h1 h2
     rw[ea,eb] at h3
     simp only[SG,h1,h2] at h3
     simpa using h3
    unfold B5 at h2 |-
    simp only[hj] at h2 |-
    rw[CW hap] at h2
    split at h2
    .refine YO hap.symm hl.cw hdi hsep (fun F1 M1 hd1 hk1=>?_) h2
     rw[<-hKK]
     exact(Dj hi hci).2 ⟨vi,none,hd1,hk1⟩
    .rw[<-hKK]
     refine(Dj hi hci).2 ⟨vi,none,?_,?_⟩
     .exact hdi.up (CW hap.symm) (EI hap.symm) (.inr fun B v cs h=>h) (fun hf=>hf)
     .rw[D6 hap.symm.dd];exact h2
    .exact h2.elim
theorem bF (tk:BI P T) (hops:∀(k:Nat) (o:Oper),ops[k]?=some o->By n o=true) (hc5:∀(k:Nat) (o:Oper),ops[k]?=some o->AF o.op<=5) (hK:∀F M,K F M->Jf X F) (hsl:∀(i k:Nat) (oi ok:Oper),ops[i]?=some oi->ops[k]?=some ok->Bf oi.op=true->Bf ok.op=true->i≠k->sl i≠sl k)
 {j:Nat} (hj:ops[j]?=some oj) (pre post:List Nat) (hs:(pre++j::post).Pairwise (·<·)) (hc:∀i∈pre,∀oi,ops[i]?=some oi->Em L ops oi oj=true\/SJ ops X i oi j oj) (hl:Bf oj.op=true->sl j<M.length) (I:CQ P n F M) (h:B1 T (Ah P L) ops sl (pre++j::post) F M K):
 B5 T (Ah P L) ops sl j F M fun F' M' =>B1 T (Ah P L) ops sl (pre++post) F' M' K:=by
 by_cases hcj:AF oj.op<=2
 .refine VW tk hops hsl hj pre post (fun i hi=>Nat.ne_of_lt ((List.pairwise_append.1 hs).2.2 i hi j (by simp))) (fun i hi oi ho=>?_) hl I h
  rcases hc i hi oi ho with h|h
  .exact h
  .have:=h.cw;omega
 .exact Rs tk hops hc5 hK hj (by omega) pre F M hs hc I h
theorem Uz {C:Bn} (hC:C.P=P) (tk:BI P T) {l:List Oper} (hops:∀(k:Nat) (o:Oper),l.toArray[k]?=some o->By C.n o=true) (hK:∀F M,K F M->Jf X F) (hd:∀(i k:Nat) (oi ok:Oper),l.toArray[i]?=some oi->l.toArray[k]?=some ok->(∀p∈BV oi,p<i)/\(k<i->(Em L l.toArray ok oi=true\/SJ l.toArray X k ok i oi)\/∀S,Ih l.toArray S->(∀p∈BV oi,S p)->S k)) (hc5:∀(k:Nat) (o:Oper),l.toArray[k]?=some o->AF o.op<=5)
 (hsl:∀(i k:Nat) (oi ok:Oper),l.toArray[i]?=some oi->l.toArray[k]?=some ok->Bf oi.op=true->Bf ok.op=true->i≠k->sl i≠sl k) {Q' :Exit->Act->World->Prop} (hQ:∀F M a w,K F M->C1 C F M a w->Q' .normal a w):
 ∀(fuel:Nat) (listed:Array Bool) (rem:List Nat) (F:Fr) (M:List Ag) (a:Act) (w:World),rem=(List.range l.length).filter (fun i=> !listed.getD i true)->rem.length<=fuel->listed.size=l.length->Ih l.toArray (fun i=>listed.getD i false=true)->
 (∀j oj,l.toArray[j]?=some oj->Bf oj.op=true->sl j<M.length)->B1 T (Ah P L) l.toArray sl rem F M K->C1 C F M a w->wpAnyIn (FX C) 0 C.P .any l.toArray Q' fuel listed a w:=by
 intro fuel
 have hready:∀(listed:Array Bool) i,i∈Region.ready .any l.toArray listed->i<l.length/\listed.getD i true=false/\∀o,l.toArray[i]?=some o->∀p∈BV o,listed.getD p false=true:=by
  intro listed i hi
  simp only[Region.ready,List.mem_filter,List.mem_range,Bool.and_eq_true] at hi
  obtain⟨h1,h2,h3⟩:=hi
  refine⟨by simpa using h1,by simpa using h2,fun o ho p hp=>?_⟩
  rw[ho] at h3
  simp only[Option.map_some,Option.getD_some] at h3
  simp only[BV,List.mem_map,List.mem_filter] at hp
  obtain⟨e,⟨he,hb⟩,rfl⟩:=hp
  have h4:=Array.all_eq_true'.1 h3 e (by simpa using he)
  simp only[hb,Bool.not_true,Bool.false_or] at h4
  exact h4
 have hnone:∀(listed:Array Bool),listed.size=l.length->Region.ready .any l.toArray listed=[]->(List.range l.length).filter (fun i=> !listed.getD i true)=[]:=by
  intro listed hsz hr
  cases hrem:(List.range l.length).filter (fun i=> !listed.getD i true) with
  |nil=>rfl
  |cons i rest=>
   exfalso
   have hmem:i∈(List.range l.length).filter (fun i=> !listed.getD i true):=by rw[hrem];simp
   have hp:((List.range l.length).filter (fun i=> !listed.getD i true)).Pairwise (·<·):=(Eu _).filter _
   have hmem' :=List.mem_filter.1 hmem
   have hlt:i<l.length:=by simpa using hmem'.1
   have hmin:∀p,p<i->listed.getD p false=true:=by
    intro p hp'
    apply Classical.byContradiction
    intro hno
    have:p∈(List.range l.length).filter (fun i=> !listed.getD i true):=by
     refine List.mem_filter.2 ⟨by simp;omega,?_⟩
     have hps:p<listed.size:=by omega
     simp[Array.getD,hps] at hno |-
     exact hno
    rw[hrem] at this hp
    rcases List.mem_cons.1 this with h|h
    .omega
    .have:=(List.pairwise_cons.1 hp).1 p h;omega
   have hi2:l.toArray[i]?=some l[i]:=by simp[hlt]
   have:i∈Region.ready .any l.toArray listed:=by
    simp only[Region.ready,List.mem_filter,List.mem_range,Bool.and_eq_true]
    refine⟨by simpa using hlt,by simpa using hmem'.2,?_⟩
    rw[hi2]
    simp only[Option.map_some,Option.getD_some]
    rw[Array.all_eq_true']
    intro e he
    cases hb:Region.binds .any e with
    |false=>rfl
    |true=>
     simp only[Bool.not_true,Bool.false_or]
     refine hmin _ ((hd i i _ _ hi2 hi2).1 _ ?_)
     simp only[BV,List.mem_map,List.mem_filter]
     exact⟨e,⟨by simpa using he,hb⟩,rfl⟩
   rw[hr] at this
   simp at this
 induction fuel with
 |zero=>
  intro listed rem F M a w hrem hlen hsz hcl hsm h r
  have:rem=[]:=by simpa using hlen
  subst this
  refine⟨?_,hQ _ _ _ _ h r⟩
  apply Classical.byContradiction
  intro hne
  obtain⟨i,hi⟩:=List.exists_mem_of_ne_nil _ hne
  have h1:=hready listed i hi
  have:i∈(List.range l.length).filter (fun i=> !listed.getD i true):=List.mem_filter.2 ⟨by simpa using h1.1,by simp[h1.2.1]⟩
  rw[<-hrem] at this
  simp at this
 |succ fuel ih=>
  intro listed rem F M a w hrem hlen hsz hcl hsm h r
  refine⟨fun hr=>?_,fun i hi=>?_⟩
  .rw[hnone listed hsz hr] at hrem
   subst hrem
   exact hQ _ _ _ _ h r
  .have h1:=hready listed i hi
   have hi2:l.toArray[i]?=some (l[i]'h1.1):=by simp[h1.1]
   have hmem:i∈rem:=by rw[hrem];exact List.mem_filter.2 ⟨by simpa using h1.1,by simp[h1.2.1]⟩
   obtain⟨pre,post,hpp⟩:=List.append_of_mem hmem
   have hsorted:rem.Pairwise (·<·):=by rw[hrem];exact(Eu _).filter _
   rw[hpp] at hsorted
   have hs1:=List.pairwise_append.1 hsorted
   have hprelt:∀k∈pre,k<i:=fun k hk=>hs1.2.2 k hk i (by simp)
   have hpostgt:∀k∈post,i<k:=(List.pairwise_cons.1 hs1.2.1).1
   have hpull:=bF (n:=C.n) (sl:=sl) (L:=L) (K:=K) (F:=F) (M:=M) (X:=X) tk hops hc5 hK hsl hi2 pre post hsorted (fun k hk ok hok=>?_) (fun ha=>hsm i _ hi2 ha) ⟨C,a,w,hC,rfl,r⟩ (by rw[<-hpp];exact h)
   .refine LG hC (hC ▸ tk) hi2 hops (fun F' M' a' w' hk r' =>?_) (Jb hops hc5 hpull) r
    refine ih _ (pre++post) F' M' a' w' ?_ ?_ (by simpa using hsz) ?_ (fun j oj hj ha=>Nat.lt_of_lt_of_le (hsm j oj hj ha) hk.2) hk.1 r'
    .have:(List.range l.length).filter (fun t=> !(listed.setIfInBounds i true).getD t true)=((List.range l.length).filter (fun t=> !listed.getD t true)).filter (fun t=>t !=i):=by
      rw[List.filter_filter]
      refine List.filter_congr fun t ht=>?_
      have htl:t<listed.size:=by rw[hsz];simpa using ht
      by_cases e:t=i
      .subst e;simp[Array.getD,htl]
      .have:¬i=t:=fun h=>e h.symm
       simp[Array.getD,htl,e,this,Array.getElem_setIfInBounds]
     rw[this,<-hrem,hpp,List.filter_append,List.filter_cons]
     simp only[bne_self_eq_false,Bool.false_eq_true,if_false]
     rw[List.filter_eq_self.2 (fun k hk=>by simp;exact Nat.ne_of_lt (hprelt k hk)),List.filter_eq_self.2 (fun k hk=>by simp;exact(Nat.ne_of_gt (hpostgt k hk)))]
    .rw[hpp] at hlen
     simp at hlen |-
     omega
    .intro k o hk hlist p hp
     have key:∀t,(listed.setIfInBounds i true).getD t false=true↔t=i\/listed.getD t false=true:=by
      intro t
      have hil:i<listed.size:=by rw[hsz];exact h1.1
      by_cases e:t=i
      .subst e;simp[Array.getD,hil]
      .have:¬i=t:=fun h=>e h.symm
       by_cases htl:t<listed.size
       .simp[Array.getD,htl,e,this,Array.getElem_setIfInBounds]
       .simp[Array.getD,htl,e]
     rw[key] at hlist |-
     rcases hlist with rfl|hlist
     .exact .inr (h1.2.2 o hk p hp)
     .exact .inr (hcl k o hk hlist p hp)
   .rcases(hd i k _ ok hi2 hok).2 (hprelt k hk) with h|h
    .exact h
    .exfalso
     have h3:=h _ hcl (h1.2.2 _ hi2)
     have h4:k∈rem:=by rw[hpp];simp[hk]
     rw[hrem] at h4
     have h5:=(List.mem_filter.1 h4).2
     have hks:k<listed.size:=by rw[hsz];have:=hprelt k hk;have:=h1.1;omega
     simp[Array.getD,hks] at h3 h5
     simp[h3] at h5
theorem W.regdX {p:Nat} {Q:Cn} {id:Nat} {l:List Oper} (n:Nat) (X:List (Nat×Nat)) (hn:Bb l=n) (L:Bool) (hp:P.follows .mixedOrders=true) (hd:WS L X l=true) (h:∀K:Fr->List Ag->Prop,(∀F M,Jf X F->Q .normal F M->K F M)->Ak T (Ah P L) l.toArray l M.length F (M++List.replicate n .free) K):W P T p (.region id l.toArray true) F M Q:=by
 intro tk C hC hp' hb a w r
 simp only[WS,Bool.and_eq_true] at hd
 simp only[CY] at hb
 subst hn
 have hops:∀(k:Nat) (o:Oper),l.toArray[k]?=some o->By C.n o=true:=fun k o ho=>by
  refine List.all_eq_true.1 hb o ?_
  rw[<-Array.getElem?_toList] at ho
  exact List.mem_of_getElem? ho
 have hc5:∀(k:Nat) (o:Oper),l.toArray[k]?=some o->AF o.op<=5:=fun k o ho=>by
  have:=List.all_eq_true.1 hd.2 o (List.mem_of_getElem? (by simpa using ho))
  simpa using this
 refine wpIn_region_any (hC ▸ hp) ?_
 obtain⟨σ,own,R⟩:=r
 have h' :=Ki (base:=M.length) l [] F _ rfl (h (fun F M=>Jf X F/\Q .normal F M) fun F M h1 h2=>⟨h1,h2⟩)
 refine Uz (X:=X) (l:=l) (L:=L) hC tk hops (K:=fun F M=>Jf X F/\Q .normal F M) (fun F M h=>h.1) (fun i k oi ok hi hk=>?_) hc5 (sl:=fun i=>M.length+Bb (l.take i)) (fun i k oi ok hi hk ha ha' hne=>?_) (Q' :=aq C Q) (fun F M a w h r=> .inl ⟨F,M,h.2,r⟩) l.toArray.size (Array.replicate l.toArray.size false) (List.range' 0 l.length) F _ a w.drew ?_ ?_ ?_ ?_ ?_ h' ⟨σ,own,(R.grow _).drew⟩
 .have:=HB (ops:=l.toArray) l [] [] [] (by simp) rfl (fun t m h=>by simp at h) (fun k o _ h=>by simp at h) hd.1 i k oi ok hi hk (Nat.zero_le _)
  refine⟨this.1,fun hlt=>?_⟩
  rcases this.2 hlt with h|h
  .simp only[cX,Bool.or_eq_true] at h
   exact .inl (h.imp (fun h=>h) SK)
  .exact .inr h
 .have s1:Cc oi=1:=by simp[Cc,ha]
  have s2:Cc ok=1:=by simp[Cc,ha']
  rcases Nat.lt_or_gt_of_ne hne with h|h
  .have:=Dt (l:=l) (by simpa using hi) h
   omega
  .have:=Dt (l:=l) (by simpa using hk) h
   omega
 .rw[<-List.range_eq_range']
  symm
  rw[List.filter_eq_self]
  intro t ht
  have:t<l.length:=by simpa using ht
  simp[Array.getD,this]
 .simp
 .simp
 .intro i o ho hl
  simp[Array.getD] at hl
 .intro j oj hj ha
  have s1:Cc oj=1:=by simp[Cc,ha]
  have hjl:j<l.length:=by
   rcases Nat.lt_or_ge j l.length with h|h
   .exact h
   .rw[show l.toArray[j]?=l[j]? by simp,List.getElem?_eq_none h] at hj;simp at hj
  have:=Dt (l:=l) (by simpa using hj) hjl
  rw[List.take_length] at this
  simp only[List.length_append,List.length_replicate]
  omega
end
attribute [simp] Jf SG EP
section
variable {P:Program} {C:Bn} {w:World} {σ:Nat->Nat->Option St} {own:Nat->Option Nat} {M:List Ag} {F:Fr} {a:Act} {T:Nat->Option TI}
theorem FI {C:Bn} (tk:BI C.P T) {ops:Array Oper} {Q' :Exit->Act->World->Prop} {K:Fr->List Ag->Prop} {l2:List Oper} (hQ:∀F M a w,K F M->C1 C F M a w->wpListIn (FX C) 0 C.P ops Q' l2 a w):
 ∀(l:List Oper) (s:Nat) (F:Fr) (M:List Ag) (a:Act) (w:World),l.all (By C.n)=true->ops.toList.all (By C.n)=true->Ak T (DG C) ops l s F M K->C1 C F M a w->wpListIn (FX C) 0 C.P ops Q' (l++l2) a w
 | [],s,F,M,a,w,_,_,h,r=>hQ F M a w h r
 |o::rest,s,F,M,a,w,hb,hbo,h,r=>by
  simp only[List.all_cons,Bool.and_eq_true] at hb
  simp only[List.cons_append,wpListIn]
  simp only[Ak] at h
  split at h
  .rename_i hg
   rw[if_pos (by simp[Region.wanted,hg])]
   obtain⟨σ,own,R⟩:=r
   exact Hw tk hb.1 h R fun F' M' a' w' hk r' =>FI tk hQ rest _ F' M' a' w' hb.2 hbo hk r'
  .rename_i j want hg
   split at h
   .rename_i d hd
    unfold gK at h
    split at h
    .rename_i b hFd
     obtain⟨σ,own,R⟩:=r
     obtain⟨oj,hj,hdj⟩:=Option.bind_eq_some_iff.1 hd
     have hdn:d<C.n:=by
      have h1:=List.all_eq_true.1 hbo oj (by rw[<-Array.getElem?_toList] at hj;exact List.mem_of_getElem? hj)
      simp only[By,Bool.and_eq_true,hdj] at h1
      simpa using h1.2
     have hv:=R.tmp d hdn
     rw[hFd] at hv
     have he:=hv.1
     have hget:a.tmps[d]?=some (.bool b):=by
      have hs:=R.size
      have hlt:d<a.tmps.size:=by rw[hs];exact hdn
      simp[Array.getD,hlt] at he
      simp[hlt,he]
     have hy:yielded ops a.tmps j=some b:=by simp[yielded,hd,hget]
     have refr:∀c:Bool,b=c->C1 C (Bg F d (.bool c)) M a w:=by
      rintro c rfl
      refine⟨σ,own,R.size,R.dfr,fun t ht=>?_,R.mem,R.shr,R.ext,R.key0⟩
      simp only[Bg]
      split
      .rename_i e;subst e;exact hv
      .exact R.tmp t ht
     by_cases hbw:b=want
     .rw[if_pos (by simp[Region.wanted,hg,hy,hbw])]
      obtain⟨σ',own',R'⟩:=refr want hbw
      exact Hw tk hb.1 (h.1 hbw) R' fun F' M' a' w' hk r' =>FI tk hQ rest _ F' M' a' w' hb.2 hbo hk r'
     .have hbn:b= !want:=by cases b<;>cases want<;>simp_all
      rw[if_neg (by simp[Region.wanted,hg,hy,hbw])]
      obtain⟨σ',own',R'⟩:=refr (!want) hbn
      refine⟨fun _ _=>trivial,?_⟩
      exact FI tk hQ rest _ _ M _ w hb.2 hbo (h.2 hbn) ⟨σ',own',R'.put o.dst (v:=undef) ⟨#[],rfl,rfl,fun _=>rfl⟩⟩
    .rename_i hFd
     obtain⟨σ,own,R⟩:=r
     obtain⟨oj,hj,hdj⟩:=Option.bind_eq_some_iff.1 hd
     have hdn:d<C.n:=by
      have h1:=List.all_eq_true.1 hbo oj (by rw[<-Array.getElem?_toList] at hj;exact List.mem_of_getElem? hj)
      simp only[By,Bool.and_eq_true,hdj] at h1
      simpa using h1.2
     have hv:=R.tmp d hdn
     rw[hFd] at hv
     obtain⟨cs,he,_⟩:=hv
     have hget:a.tmps[d]?=some (.tuple cs):=by
      have hs:=R.size
      have hlt:d<a.tmps.size:=by rw[hs];exact hdn
      simp[Array.getD,hlt] at he
      simp[hlt,he]
     have hy:yielded ops a.tmps j=none:=by simp[yielded,hd,hget]
     rw[if_neg (by simp[Region.wanted,hg,hy])]
     refine⟨fun _ _=>trivial,?_⟩
     refine FI tk hQ rest _ _ M _ w hb.2 hbo h ⟨σ,own,AK.put ?_ o.dst (v:=undef) ⟨#[],rfl,rfl,fun _=>rfl⟩⟩
     refine⟨R.size,R.dfr,fun t ht=>?_,R.mem,R.shr,R.ext,R.key0⟩
     simp only[Bg]
     split
     .rename_i e;subst e
      have:=R.tmp t hdn
      rw[hFd] at this;exact this
     .exact R.tmp t ht
    .exact h.elim
   .exact h.elim
theorem DU (tk:BI C.P T) {ops:Array Oper} {o:Oper} {rest:List Oper} {Q:Exit->Act->World->Prop} (R:AK C F M a w σ own) (hb:By C.n o=true) (hg:o.guard=none) (hnd:∀c,o.op≠ .defer c) {r:AV} (hv:pv T M F o=some r)
 (h:∀u,VR w C.sh σ r u (fun _=>0)->AK C (Al F o.dst r) M (a.put o.dst u) w σ own->wpListIn (FX C) 0 C.P ops Q rest (a.put o.dst u) w):wpListIn (FX C) 0 C.P ops Q (o::rest) a w:=by
 obtain⟨u,hu,hr⟩:=Sg tk R hb hv
 simp only[wpListIn]
 rw[if_pos (by simp[Region.wanted,hg])]
 exact Oper.wp_value hnd hu (h u hr (R.put _ hr))
theorem AK.world (R:AK C F M a w σ own) {w' :World} (hs:w.heap.size<=w'.heap.size) (ho:w'.os=w.os) (ht:w'.tape=w.tape) (hou:w'.output=w.output)
 (hb:∀g,g<w.heap.size->(own g≠none\/C.sh g\/g<C.w0.heap.size)->w'.heap[g]?=w.heap[g]?):AK C F M a w' σ (fun g=>if g<w.heap.size then own g else none):=by
 have L:Cb w w' C.sh C.sh σ σ:=⟨fun g hg=>hb g (R.shr g hg).2 (.inr (.inl hg)),fun _ h=>h,fun _ _ _ h=> .inl h⟩
 refine⟨R.size,R.dfr,fun t ht=>VR.later L _ _ _ (fun _ h=>absurd rfl h) (R.tmp t ht),⟨fun T B hM=>?_,R.mem.key⟩,fun g hg=>?_,?_,R.key0⟩
 .obtain⟨fp,b1,b2⟩:=R.mem.blk T B hM
  have hlt:∀g,fp g≠0->g<w.heap.size:=fun g hg=>Mn b1 g hg
  have how:∀g,fp g≠0->own g≠none:=fun g hg e=>by have:=b2 g;rw[e] at this;simp at this;omega
  refine⟨fp,EG L (fun g hg=>hb g (hlt g hg) (.inl (how g hg))) (fun _=>rfl) b1,fun g=>?_⟩
  by_cases h0:fp g=0
  .rw[h0];exact Nat.zero_le _
  .have:=b2 g
   simp only[hlt g h0,if_true];exact this
 .have h1:=R.shr g hg
  simp only[h1.2,if_true];exact⟨h1.1,by omega⟩
 .refine⟨ho.trans R.ext.os,ht.trans R.ext.tape,hou.trans R.ext.output,Nat.le_trans R.ext.size hs,fun g hg hn=>?_,fun g hg=>?_⟩
  .rw[hb g (Nat.lt_of_lt_of_le hg R.ext.size) (.inr (.inr hg))];exact R.ext.block g hg hn
  .split at hg
   .exact R.ext.own g hg
   .exact absurd rfl hg
theorem AK.putObj (R:AK C F M a w σ own) {l:Nat} (o:Obj) (h1:own l=none) (h2:¬C.sh l) (h3:C.w0.heap.size<=l):AK C F M a (w.putObj l o) σ (fun g=>if g<w.heap.size then own g else none):=by
 refine R.world (by simp) rfl rfl rfl fun g hg h=>World.putObj_heap_other fun e=>?_
 subst e
 rcases h with h|h|h
 .exact h h1
 .exact h2 h
 .omega
theorem AK.allocO (R:AK C F M a w σ own) (o:Obj):AK C F M a (w.alloc o) σ (fun g=>if g<w.heap.size then own g else none):=
 R.world (by simp) rfl rfl rfl fun g hg _=>Dm hg
theorem AK.back (R:AK C F M a w σ own) {P' :Program} {n2 p2:Nat} {rd2:Option Nat} {df2:List Deferred} {F2:Fr} {M2:List Ag} {a2:Act} {w2:World} {σ2:Nat->Nat->Option St} {own2:Nat->Option Nat}
 (R2:AK ⟨P',n2,C.sh,w,own,σ,p2,rd2,df2⟩ F2 M2 a2 w2 σ2 own2):AK C F M2 a w2 σ2 own2:=by
 have L:Cb w w2 C.sh C.sh σ σ2:=⟨fun g hg=>R2.ext.block g (R.shr g hg).2 (R.shr g hg).1,fun _ h=>h,fun T v st h=>(R2.key0 T v st h).2⟩
 exact⟨R.size,R.dfr,fun t ht=>VR.later L _ _ _ (fun _ h=>absurd rfl h) (R.tmp t ht),R2.mem,R2.shr,R.ext.trans R2.ext,R.keyl L⟩
theorem AK.into (R:AK C F M a w σ own) {F2:Fr} {a2:Act} (hs:a2.tmps.size=C.n) (hd:a2.defers=[]) (ht:∀t,t<C.n->VR w C.sh σ (F2 t) (a2.tmps.getD t undef) (fun _=>0)) (rd:Option Nat):
 AK ⟨C.P,C.n,C.sh,w,own,σ,M.length,rd,[]⟩ F2 M a2 w σ own:=
 ⟨hs,hd,ht,R.mem,R.shr,Fx.refl w own,fun T v st h=>⟨by
  rcases Nat.lt_or_ge T M.length with h2|h2
  .exact h2
  .have h' :σ T v=some st:=h
   rw[R.mem.key T v h2] at h';simp at h',.inl h⟩⟩
theorem AK.on (R:AK C F M a w σ own) (hdf:C.df=[]) {P' :Program} {p2:Nat} {rd2:Option Nat} {df2:List Deferred} {F2:Fr} {M2:List Ag} {a2:Act} {w2:World} {σ2:Nat->Nat->Option St} {own2:Nat->Option Nat}
 (R2:AK ⟨P',C.n,C.sh,w,own,σ,p2,rd2,df2⟩ F2 M2 a2 w2 σ2 own2):AK C F2 M2 {a2 with defers:=[]} w2 σ2 own2:=by
 have L:Cb w w2 C.sh C.sh σ σ2:=⟨fun g hg=>R2.ext.block g (R.shr g hg).2 (R.shr g hg).1,fun _ h=>h,fun T v st h=>(R2.key0 T v st h).2⟩
 exact⟨R2.size,hdf.symm,R2.tmp,R2.mem,R2.shr,R.ext.trans R2.ext,R.keyl L⟩
theorem AK.weak (R:AK C F M a w σ own) {F' :Fr} {M' :List Ag} (h:Wk C.p F M F' M'):∃σ' own',AK C F' M' a w σ' own' /\∀g,g<w.heap.size->own g=none->own' g=none:=by
 have R0:AK ⟨C.P,C.n,C.sh,w,own,C.k0,C.p,C.rd,C.df⟩ F M a w σ own:=⟨R.size,R.dfr,R.tmp,R.mem,R.shr,Fx.refl w own,R.key0⟩
 obtain⟨σ',own',R1⟩:=h ⟨C.P,C.n,C.sh,w,own,C.k0,C.p,C.rd,C.df⟩ (Nat.le_refl _) a w ⟨σ,own,R0⟩
 refine⟨σ',own',⟨R1.size,R1.dfr,R1.tmp,R1.mem,R1.shr,R.ext.trans R1.ext,R1.key0⟩,fun g hg hn=>?_⟩
 cases e:own' g with
 |none=>rfl
 |some T' =>rcases R1.ext.own g (by rw[e];simp) with h|h
            .exact absurd hn h
            .simp at h;omega
end
def al (P:Program) (gf:Nat) (lb:Array Value) (n:Nat) (val:Nat->Array Value) (V:World->Prop):Prop:=∀(l:Nat) (J:Nat->World->Prop) (Jx:World->Prop) (w:World),(∀k W,J k W->V W)->
 (∀k W,k<n->J k W->∃f tm as bd,(Instr.yield l (val k)).run P W= .ok (.round l f tm as bd) W/\RoundIn Fence.wide 0 P l f tm as bd W (fun e W' =>(e= .returned (.bool true)/\J (k+1) W')\/(e= .returned (.bool false)/\Jx W')))->
 J 0 w->CallsIn Fence.wide 0 P gf (#[.func (.yield l) #[] #[]]++lb) w (fun e W' =>(∃v,e= .returned v)/\(J n W' \/Jx W'))
theorem Wm {C:Bn} {w:World} {σ:Nat->Nat->Option St} {own:Nat->Option Nat} {M:List Ag} {F:Fr} {a:Act} {T:Nat->Option TI} (tk:BI C.P T) (hrd:C.rd=none) (hdf:C.df=[]) (R:AK C F M a w σ own) {g:Operand} {b0 p1 p2:Nat} {assign body rest:Code} {gf:Nat} {lb:Array Value}
 (hg:a.eval g= .func (.func gf) #[] lb) (hcf:∀args w,(callFunc gf args).run C.P w= .ok (.enter gf args) w) {n:Nat} {val:Nat->Array Value} {V:World->Prop} (hseq:al C.P gf lb n val V) {va vb:Nat->AV}
 (hval:∀k,∃x y,val k= #[x,y]/\∀w σ,VR w C.sh σ (va k) x (fun _=>0)/\VR w C.sh σ (vb k) y (fun _=>0)) {h:Nat} (hh:own h=none) (hhl:h<w.heap.size) (hh0:C.w0.heap.size<=h)
 (I:Nat->List Ag->Prop) (hI0:I 0 M) (hV:∀k W M' σ' own',AK C F M' a W σ' own' ->W.heap[h]?=w.heap[h]?->I k M' ->V W) {Q:Cn}
 (hca:CY C.n assign=true) (hcb:CY C.n body=true) (hcr:CY C.n rest=true)
 (hround:∀k M',k<n->I k M' ->W C.P T M'.length assign (Bg (Bg F p1 (va k)) p2 (vb k)) M' (fun e F2 M2=>e= .normal/\W C.P T M2.length body F2 M2 (fun e F3 M3=>
   (e= .normal/\∃M4,Wk C.p F M3 F M4/\I (k+1) M4)\/(e= .ret/\∃F4 M4,Wk C.p F M3 F4 M4/\Q .ret F4 M4))))
 (hafter:∀M',I n M' ->W C.P T M'.length rest F M' (fun e F M=>e= .ret/\Q .ret F M)):
 (Code.block b0 (.rangeFunc g #[p1,p2] assign body)).wpIn (FX C) 0 C.P (Exit.then (rest.wpIn (FX C) 0 C.P (aq C Q)) (aq C Q)) a w:=by
 have hFX:FX C=Fence.wide:=by simp only[FX,hrd];rfl
 have hd0:a.defers=[]:=by rw[R.dfr,hdf]
 rw[hFX]
 refine wpIn_block ?_
 refine wpIn_rangeFunc fun fn _=>?_
 obtain⟨rec,hrec⟩:∃rec:LoopState->Option Code->Loop,rec=fun st pe=>{state:=st,pending:=pe,fn,tmps:=a.tmps,params:= #[p1,p2],assign,body,defers:=w.heap.size}:=⟨_,rfl⟩
 obtain⟨D,hD⟩:∃D,D=w.heap.size:=⟨_,rfl⟩
 obtain⟨l,hl⟩:∃l,l=w.heap.size+1:=⟨_,rfl⟩
 obtain⟨W1,hW1⟩:∃W1,(w.alloc (.deferred (some []))).alloc (.loop (rec .ready none))=W1:=⟨_,rfl⟩
 have hL1:W1.heap[l]?=some (.loop (rec .ready none)):=by
  rw[<-hW1,hl];have:=World.alloc_heap_new (w.alloc (.deferred (some []))) (.loop (rec .ready none));rwa [World.size_alloc] at this
 have hK1:W1.heap[D]?=some (.deferred (some [])):=by
  rw[<-hW1,hD];exact(Dm (by simp)).trans (World.alloc_heap_new w _)
 have hh1:W1.heap[h]?=w.heap[h]?:=by
  rw[<-hW1];exact(Dm (by simp;omega)).trans (Dm hhl)
 have hnsh:∀g,w.heap.size<=g->¬C.sh g:=fun g h1 h2=>by have:=(R.shr g h2).2;omega
 have hw0:C.w0.heap.size<=w.heap.size:=R.ext.size
 have R1:=(R.allocO (.deferred (some []))).allocO (.loop (rec .ready none))
 rw[hW1] at R1
 have hown1:∀g,w.heap.size<=g->(fun g=>if g<(w.alloc (.deferred (some []))).heap.size then(if g<w.heap.size then own g else none) else none) g=none:=fun g hg=>by
  simp only;split
  .rw[if_neg (by omega)]
  .rfl
 obtain⟨Keep,hKeep⟩:∃Keep:World->(Nat->Option Nat)->Prop,Keep=fun W own' =>own' h=none/\own' D=none/\own' l=none/\W.heap[h]?=w.heap[h]?/\W.heap[D]?=some (.deferred (some [])):=⟨_,rfl⟩
 refine⟨l,JG D,W1,{target:= .fn (.func gf) lb,args:= #[.func (.yield l) #[] #[]]},W1,gf, #[.func (.yield l) #[] #[]]++lb,W1,?_,?_,fun _ _=>trivial,?_,fun h=>absurd h (by simp[Fence.wide]),?_⟩
 .rw[<-hW1,hrec,hl,hD];exact run_enterLoop_outer _ _ _ _ _
 .simp only[resolve,hg]
  simp[go_sem]
 .simp[invoke,go_sem,hcf]
 .refine(hseq l (fun k W=>∃M' σ' own',AK C F M' a W σ' own' /\I k M' /\Keep W own' /\W.heap[l]?=some (.loop (rec .ready none)))
   (fun W=>∃M' σ' own',AK C F M' a W σ' own' /\(∃F4 M4,Wk C.p F M' F4 M4/\Q .ret F4 M4)/\Keep W own' /\W.heap[l]?=some (.loop (rec .done (some .ret)))) W1 ?_ ?_ ?_).mono ?_
  .rintro k W ⟨M',σ',own',R',hI,hk,_⟩
   rw[hKeep] at hk
   exact hV k W M' σ' own' R' hk.2.2.2.1 hI
  .
   rintro k W hkn ⟨M',σ',own',R',hI,hk,hlr⟩
   rw[hKeep] at hk
   obtain⟨k1,k2,k3,k4,k5⟩:=hk
   have hlt:l<W.heap.size:=(Array.getElem?_eq_some_iff.1 hlr).1
   have hDlt:D<W.heap.size:=(Array.getElem?_eq_some_iff.1 k5).1
   obtain⟨x,y,hxy,hvr⟩:=hval k
   have hy:=run_yield (P:=C.P) (args:=val k) hlr (by rw[hrec,hxy];rfl)
   rw[hrec] at hy
   refine⟨_,_,_,_,hy,roundIn_of_wpIn trivial ?_⟩
   have etm:((#[p1,p2]:Array Tmp).zip (val k)).foldl (fun tmps (t,a)=>tmps.setIfInBounds t a) a.tmps=(a.tmps.setIfInBounds p1 x).setIfInBounds p2 y:=by rw[hxy];simp
   simp only
   rw[etm]
   have Rr:=R'.into (F2:=Bg (Bg F p1 (va k)) p2 (vb k)) (a2:={tmps:=(a.tmps.setIfInBounds p1 x).setIfInBounds p2 y,defers:=[]}) (by simp;exact R'.size) rfl (fun t ht=>by
    have hs:=R'.size
    simp only[Bg]
    by_cases e2:t=p2
    .subst e2
     rw[if_pos rfl]
     have:((a.tmps.setIfInBounds p1 x).setIfInBounds t y).getD t undef=y:=by simp[Array.getD,hs,ht]
     rw[this];exact(hvr W σ').2
    .rw[if_neg e2]
     have e3:((a.tmps.setIfInBounds p1 x).setIfInBounds p2 y).getD t undef=(a.tmps.setIfInBounds p1 x).getD t undef:=by
      have:¬p2=t:=fun e=>e2 e.symm
      simp[Array.getD,hs,ht,Array.getElem_setIfInBounds,this]
     rw[e3]
     by_cases e1:t=p1
     .subst e1
      rw[if_pos rfl]
      have:(a.tmps.setIfInBounds t x).getD t undef=x:=by simp[Array.getD,hs,ht]
      rw[this];exact(hvr W σ').1
     .rw[if_neg e1]
      have e4:(a.tmps.setIfInBounds p1 x).getD t undef=a.tmps.getD t undef:=by
       have:¬p1=t:=fun e=>e1 e.symm
       simp[Array.getD,hs,ht,Array.getElem_setIfInBounds,this]
      rw[e4];exact R'.tmp t ht) (some l)
   refine wpIn_mono (hround k M' hkn hI tk ⟨C.P,C.n,C.sh,W,own',σ',M'.length,some l,[]⟩ rfl (Nat.le_refl _) hca _ W ⟨σ',own',Rr⟩) ?_
   rintro e a2 W2 (⟨F2,M2,⟨rfl,hbody⟩,σ2,own2,R2⟩ | ⟨rfl,_,_,_,_,⟨q,_⟩,_⟩)
   rotate_left
   .cases q
   have hun:∀g,g<W.heap.size->own' g=none->own2 g=none/\W2.heap[g]?=W.heap[g]?:=fun g h1 h2=>⟨by
    cases e:own2 g with
    |none=>rfl
    |some T' =>rcases R2.ext.own g (by rw[e];simp) with h|h
               .exact absurd h2 h
               .simp at h;omega,R2.ext.block g h1 h2⟩
   have hhW:h<W.heap.size:=by
    rcases Nat.lt_or_ge h W.heap.size with e|e
    .exact e
    .rw[Array.getElem?_eq_none e,Array.getElem?_eq_getElem hhl] at k4;simp at k4
   have hl2:=(hun l hlt k3).2.trans hlr
   have hlt2:l<W2.heap.size:=(Array.getElem?_eq_some_iff.1 hl2).1
   refine⟨_,run_beginRound hl2 (by rw[hrec]),?_⟩
   have R2c:=R'.back R2
   have R2d:=R2c.putObj (.loop {rec .ready none with state:= .busy}) (hun l hlt k3).1 (hnsh l (by omega)) (by omega)
   have Rr2:=R2d.into (F2:=F2) (a2:=a2) R2.size R2.dfr (fun t ht=>VR.later ⟨fun g hg=>World.putObj_heap_other (fun e=>hnsh l (by omega) (by rw[<-e];exact hg)),fun _ h=>h,fun _ _ _ h=> .inl h⟩ _ _ _ (fun _ h=>absurd rfl h) (R2.tmp t ht)) (some l)
   refine wpIn_mono (hbody tk ⟨C.P,C.n,C.sh,W2.putObj l (.loop {rec .ready none with state:= .busy}),fun g=>if g<W2.heap.size then own2 g else none,σ2,M2.length,some l,[]⟩ rfl (Nat.le_refl _) hcb _ _ ⟨σ2,_,Rr2⟩) ?_
   have hl3:(W2.putObj l (.loop {rec .ready none with state:= .busy})).heap[l]?=some (.loop {rec .ready none with state:= .busy}):=World.putObj_heap_same hlt2
   have fin:∀(F3:Fr) (M3:List Ag) (a3:Act) (W3:World) (jump:Option Code),C1 ⟨C.P,C.n,C.sh,W2.putObj l (.loop {rec .ready none with state:= .busy}),fun g=>if g<W2.heap.size then own2 g else none,σ2,M2.length,some l,[]⟩ F3 M3 a3 W3->
    ∃W4,(Instr.endRound l jump).run C.P W3= .ok (.bool jump.isNone) W4/\∃σ4 own4,AK C F M3 a W4 σ4 own4/\Keep W4 own4/\W4.heap[l]?=some (.loop (rec (if jump.isNone then .ready else .done) jump)):=by
    rintro F3 M3 a3 W3 jump ⟨σ3,own3,R3⟩
    have hun3:∀g,g<W2.heap.size->own2 g=none->own3 g=none/\W3.heap[g]?=(W2.putObj l (.loop {rec .ready none with state:= .busy})).heap[g]?:=fun g h1 h2=>⟨by
     cases e:own3 g with
     |none=>rfl
     |some T' =>rcases R3.ext.own g (by rw[e];simp) with h|h
                .simp only[h1,if_true] at h;exact absurd h2 h
                .simp at h;omega,R3.ext.block g (by simpa using h1) (by simp only[h1,if_true];exact h2)⟩
    have hl4:=(hun3 l hlt2 (hun l hlt k3).1).2.trans hl3
    have hlt3:l<W3.heap.size:=(Array.getElem?_eq_some_iff.1 hl4).1
    have hsz:W.heap.size<=W2.heap.size:=R2.ext.size
    have hsz3:W2.heap.size<=W3.heap.size:=by have:=R3.ext.size;simpa using this
    have R3c:=R2d.back R3
    have hend:=run_endRound (P:=C.P) jump hl4
    have eo:({{rec .ready none with state:= .busy} with state:=if jump.isNone then .ready else .done,pending:=jump}:Loop)=rec (if jump.isNone then .ready else .done) jump:=by rw[hrec]
    rw[eo] at hend
    refine⟨_,hend,_,_,R3c.putObj (.loop (rec (if jump.isNone then .ready else .done) jump)) (hun3 l hlt2 (hun l hlt k3).1).1 (hnsh l (by omega)) (by omega),?_,?_⟩
    .rw[hKeep]
     have g1:=(hun3 h (by omega) (hun h hhW k1).1)
     have g2:=(hun3 D (by omega) (hun D hDlt k2).1)
     have g3:=(hun3 l (by omega) (hun l hlt k3).1)
     refine⟨?_,?_,?_,?_,?_⟩
     .simp only;rw[if_pos (by omega)];exact g1.1
     .simp only;rw[if_pos (by omega)];exact g2.1
     .simp only;rw[if_pos (by omega)];exact g3.1
     .rw[World.putObj_heap_other (by omega),g1.2,World.putObj_heap_other (by omega),(hun h hhW k1).2,k4]
     .rw[World.putObj_heap_other (by omega),g2.2,World.putObj_heap_other (by omega),(hun D hDlt k2).2,k5]
    .exact World.putObj_heap_same hlt3
   rintro e a3 W3 (⟨F3,M3,(⟨rfl,M4,hw,hI4⟩ | ⟨rfl,hq⟩),r3⟩ | ⟨rfl,_,F3,M3,_,hq,r3,hm,ht,hrd2⟩)
   .obtain⟨W4,hend,σ4,own4,R4,hk4,hl4⟩:=fin F3 M3 a3 W3 none r3
    obtain⟨σ5,own5,R5,hn5⟩:=R4.weak hw
    refine⟨_,_,hend,.inl ⟨rfl,M4,σ5,own5,R5,hI4,?_,hl4⟩⟩
    rw[hKeep] at hk4 |-
    obtain⟨e1,e2,e3,e4,e5⟩:=hk4
    have hhl4:h<W4.heap.size:=by
     rcases Nat.lt_or_ge h W4.heap.size with e|e
     .exact e
     .rw[Array.getElem?_eq_none e,Array.getElem?_eq_getElem hhl] at e4;simp at e4
    exact⟨hn5 h hhl4 e1,hn5 D (Array.getElem?_eq_some_iff.1 e5).1 e2,hn5 l (Array.getElem?_eq_some_iff.1 hl4).1 e3,e4,e5⟩
   .obtain⟨W4,hend,σ4,own4,R4,hk4,hl4⟩:=fin F3 M3 a3 W3 (some .ret) r3
    exact⟨_,_,hend,.inr ⟨rfl,M3,σ4,own4,R4,hq,hk4,hl4⟩⟩
   .simp at hrd2
  .exact⟨M,σ,_,R1,hI0,by
    rw[hKeep]
    exact⟨by simp only;rw[if_pos (by simp;omega),if_pos hhl];exact hh,hown1 D (by omega),hown1 l (by omega),hh1,hK1⟩,hL1⟩
  .
   rintro e W2 ⟨⟨v,rfl⟩,(⟨M',σ',own',R',hI,hk,hlr⟩ | ⟨M',σ',own',R',hq,hk,hlr⟩)⟩
   .rw[hKeep] at hk
    obtain⟨k1,k2,k3,k4,k5⟩:=hk
    have hlt:l<W2.heap.size:=(Array.getElem?_eq_some_iff.1 hlr).1
    have hDlt:D<W2.heap.size:=(Array.getElem?_eq_some_iff.1 k5).1
    obtain⟨oL,hend⟩:∃o,(Instr.endLoop l).run C.P W2= .ok none (W2.putObj l o):=⟨_,by rw[run_endLoop (P:=C.P) hlr (by rw[hrec];simp),hrec]⟩
    refine⟨none,_,hend,?_⟩
    have R4:=R'.putObj oL k3 (hnsh l (by omega)) (by omega)
    have kD:(W2.putObj l oL).heap[D]?=some (.deferred (some [])):=(World.putObj_heap_other (by omega)).trans k5
    generalize hW3:W2.putObj l oL=W3 at*
    generalize ho4:(fun g=>if g<W2.heap.size then own' g else none)=own4 at*
    have hoD:own4 D=none:=by rw[<-ho4];simp only;rw[if_pos hDlt];exact k2
    have Rn:AK ⟨C.P,C.n,C.sh,W3,own4,σ',M'.length,none,JG D⟩ F M' {a with defers:=JG D++a.defers} W3 σ' own4:=
     ⟨R4.size,by simp[hd0],R4.tmp,R4.mem,R4.shr,Fx.refl _ _,fun T v st h=>⟨by
      rcases Nat.lt_or_ge T M'.length with h2|h2
      .exact h2
      .have h' :σ' T v=some st:=h
       rw[R4.mem.key T v h2] at h';simp at h',.inl h⟩⟩
    refine wpIn_mono (hafter M' hI tk ⟨C.P,C.n,C.sh,W3,own4,σ',M'.length,none,JG D⟩ rfl (Nat.le_refl _) hcr _ W3 ⟨σ',own4,Rn⟩) ?_
    rintro e a5 W5 (⟨F5,M5,⟨rfl,hq⟩,σ5,own5,R5⟩ | ⟨rfl,_,_,_,_,_,⟨_,_,R5⟩,_⟩)
    .have hD5:W5.heap[D]?=some (.deferred (some [])):=(R5.ext.block D (Array.getElem?_eq_some_iff.1 kD).1 hoD).trans kD
     have hoD5:own5 D=none:=by
      cases e:own5 D with
      |none=>rfl
      |some T' =>rcases R5.ext.own D (by rw[e];simp) with h|h
                 .exact absurd hoD h
                 .have:=(Array.getElem?_eq_some_iff.1 kD).1;simp at h;omega
     have R6:=(R4.on hdf R5).putObj (.deferred none) hoD5 (hnsh D (by omega)) (by omega)
     exact .inr ⟨rfl,D,F5,M5,_,hq,⟨_,_,R6⟩,R5.dfr,run_takeDeferred hD5,hrd⟩
    .have:=R5.dfr
     simp[JG] at this
   .rw[hKeep] at hk
    obtain⟨k1,k2,k3,k4,k5⟩:=hk
    obtain⟨F4,M4,hw,hq⟩:=hq
    have hlt:l<W2.heap.size:=(Array.getElem?_eq_some_iff.1 hlr).1
    have hDlt:D<W2.heap.size:=(Array.getElem?_eq_some_iff.1 k5).1
    obtain⟨oL,hend⟩:∃o,(Instr.endLoop l).run C.P W2= .ok (some .ret) (W2.putObj l o):=⟨_,by rw[run_endLoop (P:=C.P) hlr (by rw[hrec];simp),hrec]⟩
    refine⟨some .ret,_,hend,wpIn_ret ?_⟩
    have R4:=R'.putObj oL k3 (hnsh l (by omega)) (by omega)
    have kD:(W2.putObj l oL).heap[D]?=some (.deferred (some [])):=(World.putObj_heap_other (by omega)).trans k5
    obtain⟨σ5,own5,R5,hn5⟩:=R4.weak hw
    have R6:=R5.putObj (.deferred none) (hn5 D (Array.getElem?_eq_some_iff.1 kD).1 (by rw[if_pos hDlt];exact k2)) (hnsh D (by omega)) (by omega)
    have R7:C1 C F4 M4 {({a with defers:=JG D++a.defers}:Act) with defers:=[]} ((W2.putObj l oL).putObj D (.deferred none)):=⟨σ5,_,R6.size,hdf.symm,R6.tmp,R6.mem,R6.shr,R6.ext,R6.key0⟩
    exact .inr ⟨rfl,D,F4,M4,_,hq,R7,by simp[hd0],run_takeDeferred kD,hrd⟩
theorem Ob {w:World} {sh:Nat->Prop} {σ:Nat->Nat->Option St}:∀(j:Nat) (xs:List AV) (vs:List Value),Aw w sh σ xs vs (fun _=>0)->Aw w sh σ (xs.take j) (vs.take j) (fun _=>0)
 |0,xs,vs,_=>by simp[Aw]
 |j+1,[],vs,h=>by simp only[Aw] at h;rw[h.1];simp[Aw]
 |j+1,x::xs,vs,h=>by
  simp only[Aw] at h
  obtain⟨v,rest,f1,f2,rfl,h1,h2,hf⟩:=h
  have e1:f1=fun _=>0:=Fv fun g=>by have:=hf g;omega
  have e2:f2=fun _=>0:=Fv fun g=>by have:=hf g;omega
  subst e1 e2
  exact⟨v,rest.take j,_,_,rfl,h1,Ob j xs rest h2,fun _=>rfl⟩
section
variable {C:Bn} {w:World} {σ:Nat->Nat->Option St} {own:Nat->Option Nat} {M:List Ag} {F:Fr} {a:Act} {T:Nat->Option TI}
theorem AK.copy (tk:BI C.P T) (R:AK C F M a w σ own) {t ty e eb:Nat} {ez:List AV} (htd:Ar T t= .slice e 1 eb ez) {B v off n:Nat} {cs ys:List AV} (hb:Aj M B v=some cs) {x y:Value} (hx:VR w C.sh σ (.tok B v 1 off n) x (fun _=>0)) {ya:AV} (hy:VR w C.sh σ ya y (fun _=>0))
 {m:Nat} (hyc:C2 M ya=some (m,ys)) (hyl:ys.length=m*1) (hyo:ys.all Da=true) (hle:off+n<=cs.length) (hn:0<n) (hm:0<m):
 ∃w',(Builtin.copy_ #[t,t] ty #[x,y]).run C.P w= .ok (.int .i64 (min m n:Nat)) w' /\AK C F (M.set B (.live v (CP cs off (ys.take (min m n))))) a w' σ own:=by
 obtain⟨hD,E,z,hE,hs1,_⟩:=Cf tk htd
 obtain⟨hM,fp,hB,hf⟩:=BS R.mem hb
 simp only[BR] at hB
 obtain⟨h0,hB'⟩:=hB
 simp only[VR] at hx
 obtain⟨_,_,st,hst,hnil,hloc⟩:=hx
 rcases hB' with⟨h1,h2,_⟩ | ⟨h,b,cur,e',fp',h1,h2,h3,h4,h5⟩
 .subst h2;simp at hle;omega
 .rw[h1] at hst;simp at hst;subst hst
  obtain⟨ad0,c,rfl,had,hnc,hcm,hcz⟩:=hloc h b _ rfl
  have hade:=had (by omega)
  subst hade
  obtain⟨ad,c2,news,fpy,rfl,hnw,hv⟩:=HM R.mem hy hyc hyl
  have hv0:=IJ hv hyo
  have hnl:news.length=m:=by rw[BF hv,hyl];omega
  obtain⟨a',rfl,hrow⟩:∃a',ad=some a' /\EE w a' news:=by
   rcases hnw with h|h
   .rw[h] at hnl;simp at hnl;omega
   .exact h
  have hcell:ys.all BO=true:=by
   rw[List.all_eq_true] at hyo |-
   intro c hc
   have:=hyo c hc
   simp[Da] at this;exact this.2
  have ho:own h=some B:=by
   have:=hf h;have h6:=h5 h;simp at h6
   split at this
   .assumption
   .omega
  generalize hj:min m n=j at*
  have hjm:j<=m:=by omega
  have hjn:j<=n:=by omega
  have hvt:=Ob j _ _ hv0
  have hlt:(news.take j).length=j:=by simp;omega
  have hone:∀u∈news.take j,u.oneCell' =true:=fun u hu=>ES hv0 hcell u (List.mem_of_mem_take hu)
  have hrun:=run_copy_row C.P w t t ty e h (b+off) n c a' m c2 cur e' (news.take j) hD (by rw[hE];simp[hs1]) h2 (by rw[hlt];exact hj.symm) (fun i u hu=>hrow i u (by
   rw[List.getElem?_take] at hu
   split at hu
   .exact hu
   .simp at hu)) (by rw[hlt];omega) hone
  rw[hlt] at hrun
  refine⟨_,hrun,I6 R hb h1 ho h2 ?_ (cs' :=CP cs off (ys.take j)) (by rw[Ed];exact h3) ?_⟩
  .simp;omega
  .intro fp hv
   obtain⟨fp',h7,h8⟩:=HV (ys.take j) off hv hvt
   refine⟨fp',?_,h8⟩
   have hlen:((cur.toList.drop b).take cs.length).length=cs.length:=by simp;omega
   rw[KQ _ _ _ (by rw[hlen,hlt];omega)] at h7
   rw[Ed]
   have:=GK cur.toList (news.take j) b off cs.length (by simpa using h3) (by rw[hlt];omega)
   rw[hlt] at this h7
   simp only[List.toList_toArray] at*
   rw[this]
   exact h7
end
theorem CD.sink {C:Bn} {F F' :Fr} {M' :List Ag} {k j u v t s off n:Nat} {xs:List AV} (hp:C.p<=k) (hkj:k<=j) (hj:M'[j]?=some (.live u xs)) (ht:F t= .tok j u s off n)
 (hF:∀t',(F' t' =F t' /\GX k (F t')=true)\/F' t' = .any\/(t' =t/\F' t' = .tok k v s off n)) (hM:(M'.take k).all (Jd k)=true) (hx:Dg k xs=true):CD C F M' F' (M'.take k++[.live v xs]):=by
 rintro a w ⟨σ,own,R⟩
 have hjl:j<M'.length:=by
  rcases Nat.lt_or_ge j M'.length with h|h
  .exact h
  .simp[List.getElem?_eq_none h] at hj
 have hkl:(M'.take k).length=k:=by simp;omega
 let own' :Nat->Option Nat:=fun g=>match own g with|some T=>if T<k then some T else if T=j then some k else none|none=>none
 let σ' :Nat->Nat->Option St:=fun T x=>if T<k then σ T x else if T=k/\x=v then σ j u else none
 have L:Cb w w C.sh C.sh (Hz k σ) σ' :=⟨fun _ _=>rfl,fun _ h=>h,fun T x st h=>by
  simp only[Hz] at h
  split at h
  .rename_i hT;left;simp only[σ',hT,if_true];exact h
  .simp at h⟩
 have ho:∀g T,T<k->own g=some T->own' g=some T:=fun g T hT h=>by simp only[own',h,hT,if_true]
 have hkv:σ' k v=σ j u:=by simp[σ']
 refine⟨σ',own',R.size,R.dfr,fun t' ht' =>?_,⟨fun T B hB=>?_,fun T x hT=>?_⟩,fun g hg=>?_,?_,fun T x st h=>?_⟩
 .rcases hF t' with⟨e,hn⟩ |e| ⟨rfl,e⟩
  .rw[e];exact VR.later L _ _ _ (fun _ _=>rfl) (PM _ _ _ hn (R.tmp t' ht'))
  .rw[e];intro g;rfl
  .rw[e]
   have h:=R.tmp t' ht'
   rw[ht] at h
   simp only[VR] at h |-
   rw[hkv];exact h
 .by_cases hT:T<k
  .rw[List.getElem?_append_left (by omega),List.getElem?_take_of_lt hT] at hB
   obtain⟨fp,b1,b2⟩:=R.mem.blk T B hB
   have hnm:=List.all_eq_true.1 hM B (List.mem_of_getElem? (by rw[List.getElem?_take_of_lt hT];exact hB))
   have hk:∀x,σ' T x=σ T x:=fun x=>by simp only[σ',hT,if_true]
   refine⟨fp,?_,fun g=>?_⟩
   .cases B with
    |free=>exact⟨fun x=>by rw[hk];exact b1.1 x,b1.2⟩
    |dead=>exact b1
    |live y cs=>
     obtain⟨c0,b1⟩:=b1
     refine⟨fun u' hu=>by rw[hk];exact c0 u' hu,?_⟩
     rcases b1 with⟨c1,c2,c3⟩ | ⟨hh,b,cur,e',fp',c1,c2,c3,c4,c5⟩
     .exact .inl ⟨by rw[hk];exact c1,c2,c3⟩
     .exact .inr ⟨hh,b,cur,e',fp',by rw[hk];exact c1,c2,c3,Aw.later L _ _ _ (fun _ _=>rfl) (Gy _ _ _ hnm c4),c5⟩
   .have:=b2 g
    split at this
    .rename_i e;rw[if_pos (ho g T hT e)];exact this
    .omega
  .rw[List.getElem?_append_right (by omega),hkl] at hB
   have hTk:T=k:=by
    rcases Nat.lt_or_ge (T-k) 1 with h|h
    .omega
    .rw[List.getElem?_eq_none (by simpa using h)] at hB;simp at hB
   subst hTk
   simp at hB;subst hB
   obtain⟨fp,b1,b2⟩:=R.mem.blk j _ hj
   refine⟨fp,?_,fun g=>?_⟩
   .obtain⟨c0,b1⟩:=b1
    refine⟨fun u' hu=>?_,?_⟩
    .have:¬u' =v:=by omega
     simp[σ',this]
    rcases b1 with⟨c1,c2,c3⟩ | ⟨hh,b,cur,e',fp',c1,c2,c3,c4,c5⟩
    .exact .inl ⟨by rw[hkv];exact c1,c2,c3⟩
    .exact .inr ⟨hh,b,cur,e',fp',by rw[hkv];exact c1,c2,c3,Aw.later L _ _ _ (fun _ _=>rfl) (Gy _ _ _ hx c4),c5⟩
   .have:=b2 g
    split at this
    .rename_i e
     have:own' g=some T:=by
      have hjT:¬j<T:=by omega
      simp only[own',e,hjT,if_false,if_true]
     rw[if_pos this];assumption
    .omega
 .simp at hT
  have h1:¬T<k:=by omega
  have h2:¬T=k:=by omega
  simp[σ',h1,h2]
 .have h1:=R.shr g hg
  exact⟨by simp only[own',h1.1],h1.2⟩
 .refine⟨R.ext.os,R.ext.tape,R.ext.output,R.ext.size,R.ext.block,fun g hg=>R.ext.own g ?_⟩
  intro e
  simp only[own',e] at hg
  exact hg rfl
 .obtain⟨h1,h2⟩:=R.key0 T x st h
  have:T<k:=by omega
  exact⟨h1,by simp only[σ',this,if_true];exact h2⟩
theorem Wk.sink {p:Nat} {F:Fr} {M' :List Ag} {k j u v t s off n:Nat} {xs:List AV} {S:List (Nat×AV)} (hj:M'[j]?=some (.live u xs)) (ht:F t= .tok j u s off n) (hkj:k<=j) (hp:p<=k) (h:Ad F S) (hn:LH k S=true) (hA:(M'.take k).all (Jd k)=true) (hx:Dg k xs=true):
 Wk p F M' (Abs.fr ((t,.tok k v s off n)::S)) (M'.take k++[.live v xs]):=fun C hC=>CD.sink (by omega) hkj hj ht (fun t' =>by
 by_cases e:t' =t
 .subst e;exact .inr (.inr ⟨rfl,by simp[Abs.fr,Bg]⟩)
 .have e2:Abs.fr ((t,.tok k v s off n)::S) t' =Abs.fr S t' :=by simp[Abs.fr,Bg,e]
  rw[e2]
  rcases Kk F S h t' with h|h
  .exact .inl ⟨h,by rw[<-h];exact Sp k S hn t'⟩
  .exact .inr (.inl h)) hA hx
def bG (p:Nat) (Q:Cn):Cn:=fun e F M=>match e with| .normal=>∃F' M',Wk p F M F' M' /\Q .normal F' M' |e=>Q e F M
theorem W.late {P:Program} {T:Nat->Option TI} {p:Nat} {c:Code} {F:Fr} {M:List Ag} {Q:Cn} (h:W P T p c F M (bG p Q)):W P T p c F M Q:=fun tk C hC hp hb=>
 (h tk C hC hp hb).post fun e F M q=>by
   cases e<;>first|exact⟨F,M,CD.refl _ _ _,q⟩ |skip
   obtain⟨F',M',hw,q'⟩:=q
   exact⟨F',M',hw C (by omega),q'⟩
section
variable {P:Program} {F:Fence} {n:Nat} {b:Frame} {a:Act} {k:List Item} {cs:List Frame} {w:World} {Q:Exit->Act->World->Prop}
theorem EU {c:Code}:step P (lone (b.atR a (.code (.scope c)::k)) cs w)= .next (lone (b.atR a (.code c:: .inScope c::k)) cs w):=
 step_lone_go (by simp[stepG,stepG.exec,Frame.atR])
theorem OB {c:Code}:step P (lone (b.atR a (.inScope c::k)) cs w)= .next (lone (b.atR a k) cs w):=
 step_lone_go (by simp[stepG,stepG.exec,Frame.atR])
theorem SL {c:Code} (h:c.wpIn F n P (Exit.noGoto Q) a w):(Code.scope c).wpIn F n P Q a w:=by
 intro b k cs hro hb hr
 have h0:(lone (b.atR a (.code (.scope c)::k)) cs w).fenced P F:=fenced_calm hb hr rfl
 obtain⟨e,a₁,w₁,hq,harr⟩:=h b (.inScope c::k) cs hro hb hr
 cases e with
 |normal=>exact⟨.normal,a₁,w₁,hq,.head h0 EU (StepsIn.trans harr (.one (fenced_calm hb hr rfl) OB))⟩
 |exit id=>
  have hx:exitTo id (.inScope c::k)=exitTo id k:=by simp[exitTo]
  exact⟨.exit id,a₁,w₁,hq,fun k' hk=> .head h0 EU (harr.1 k' (by rw[hx];exact hk)),
   fun hr' hk=>let ⟨k₁,h1,h2⟩:=harr.2 hr' (by rw[hx];exact hk);⟨k₁,h1,.head h0 EU h2⟩⟩
 |goto l=>exact hq.elim
 |ret=>exact⟨_,a₁,w₁,hq,.of_steps (.one h0 EU) harr⟩
 |panic ch=>exact⟨_,a₁,w₁,hq,.of_steps (.one h0 EU) harr⟩
 |outgrown=>exact⟨_,a₁,w₁,hq,.of_steps (.one h0 EU) harr⟩
end
theorem W.scope {P:Program} {T:Nat->Option TI} {p:Nat} {x:Code} {F:Fr} {M:List Ag} {Q:Cn} (hg:∀l F M,Q (.goto l) F M->False) (h:W P T p x F M Q):W P T p (.scope x) F M Q:=fun tk C hC hp hb=>by
 intro a w hr
 refine SL (wpIn_mono (h tk C hC hp (by simpa[CY] using hb) a w hr) ?_)
 intro e a w q
 cases e<;>first|exact q|skip
 rename_i l
 rcases q with⟨F,M,q,_⟩ | ⟨h,_⟩
 .exact hg l F M q
 .cases h
theorem Aa.nil {P:Program} {f s:Nat} {args:List AV} {Q:AV->Prop} {Q' :List Ag->Prop} (h:Aa P f (.tok 0 0 s 0 0::args) [.live 0 []] (fun r M=>Q r/\Q' M)):Aa P f (.own s 0 []::args) [] (fun r _=>Q r):=by
 refine⟨h.1,fun w sh σ own vals hv m hs=>?_⟩
 have hnone:∀T v,σ T v=none:=fun T v=>m.key T v (Nat.zero_le _)
 let σ' :Nat->Nat->Option St:=fun T v=>if T=0/\v=0 then some .nil else none
 have L:Cb w w sh sh σ σ' :=⟨fun _ _=>rfl,fun _ h=>h,fun T v st e=>by rw[hnone] at e;simp at e⟩
 have hv' :Aw w sh σ' (.tok 0 0 s 0 0::args) vals.toList (fun _=>0):=by
  simp only[Aw] at hv |-
  obtain⟨v,rest,f1,f2,e,h1,h2,hf⟩:=hv
  have z1:f1=fun _=>0:=Fv fun g=>by have:=hf g;simp only at this |-;omega
  have z2:f2=fun _=>0:=Fv fun g=>by have:=hf g;simp only at this |-;omega
  subst z1;subst z2
  refine⟨v,rest,fun _=>0,fun _=>0,e,?_,Aw.later L _ _ _ (fun _ _=>rfl) h2,fun _=>rfl⟩
  simp only[VR] at h1 |-
  rcases h1 with⟨ha,_⟩ | ⟨hh,b,c,cur,e',fp',_,_,_,_,_,_,_,hff⟩
  .refine⟨fun _=>trivial,?_,.nil,by simp[σ'],fun _=>⟨ha,trivial,trivial⟩,fun _ _ _ e=>by cases e⟩
   obtain⟨a,ha⟩:=ha
   exact⟨a,0,ha⟩
  .have:=hff hh
   simp at this
   omega
 have m' :B7 w sh σ' own [.live 0 []]:=by
  refine⟨fun T B hB=>?_,fun T v hT=>?_⟩
  .cases T with
   |zero=>
    simp at hB;subst hB
    exact⟨fun _=>0,⟨fun v' hv' =>by have:¬v' =0:=by omega
                                    simp[σ',this],.inl ⟨by simp[σ'],rfl,fun _=>rfl⟩⟩,fun _=>Nat.zero_le _⟩
   |succ T=>simp at hB
  .have:¬T=0:=by simp at hT;omega
   simp[σ',this]
 refine(h.2 w sh σ' own vals hv' m' hs).mono ?_
 rintro e w' ⟨r,v,M',σ'',own',fpr,he,q,hl,hr,hf,mm,hsh,hE,hL⟩
 refine⟨r,v,[],fun _ _=>none,fun g=>if own' g=some 1 then some 0 else none,fpr,he,q.1,rfl,hr,fun g=>?_,⟨fun T B hB=>by simp at hB,fun _ _ _=>rfl⟩,fun g hg=>?_,⟨hE.os,hE.tape,hE.output,hE.size,hE.block,fun g hg=>hE.own g fun e=>?_⟩,⟨hL.ro,hL.sh,fun T v st e=>by rw[hnone] at e;simp at e⟩⟩
 .have:=hf g
  simp only[List.length_cons,List.length_nil,Nat.zero_add] at this |-
  by_cases e:own' g=some 1
  .rw[if_pos e] at this;simp[e];exact this
  .rw[if_neg e] at this;simp[e];omega
 .simp[hsh g hg]
 .apply hg;simp[e]
end Go.Abs
