/- Steps that the machine doesn't see: names are given, taken back, forgotten. No program. -/
import Derived.Test.YtgdmnlibcdajjaaGreatP2
import Derived.Sort.Grow
import Derived.RangeFuncRecord
import Derived.Scope
open Array renaming getElem?_toList -> vp, getElem?_eq_some_iff -> vu, getD -> vD, getElem_setIfInBounds -> vW, all_eq_true' -> wc, mem_toList_iff -> wq, replicate -> xn
open Bool renaming and_eq_true -> uU, false_eq_true -> vt, or_eq_true -> wT, not_true -> xt, false_or -> xC
open Classical renaming byContradiction -> vv
open List renaming getElem?_set_ne -> uN, getElem?_set_self -> uO, replicate -> uP, getElem?_eq_none -> uR, take_length -> uW, length_append -> u0, all_eq_true -> u1, getElem?_append_right -> vj, getElem?_append_left -> vk, mem_of_getElem? -> vo, length_cons -> vA, mem_filter -> vC, cons_append -> vF, getElem?_drop -> vG, mem_map -> vH, range -> vK, mem_cons -> vL, pairwise_cons -> vP, getElem?_take -> vT, getElem?_map -> wa, getElem?_take_of_lt -> wd, pairwise_append -> wg, filter_eq_self -> wD, length_replicate -> wQ, filter_append -> wV, mem_range -> xj, range' -> xp, filter_cons -> xv
open Nat renaming lt_or_ge -> uY, le_refl -> vg, zero_le -> vn, eq_zero_or_pos -> wm, sub_self -> wp, add_mul -> wK, lt_of_lt_of_le -> xw
open Option renaming map_some -> vI, bind_eq_some_iff -> xb, getD_some -> xz
set_option linter.unusedVariables false
set_option linter.unusedSimpArgs false
namespace Go.Abs
mutual
def Iz (k:Nat):AV->Bool
 | .tok T _ _ _ _=>decide (T<k)
 | .ptr T _ _=>decide (T<k)
 | .agg xs=>D5 k xs
 | .tup xs=>D5 k xs
 | .fn _ xs=>D5 k xs
 |_=>true
def D5 (k:Nat):List AV->Bool
 | []=>true
 |x::xs=>Iz k x&&D5 k xs
end
def KT (k:Nat):Ag->Bool
 | .live _ xs=>D5 k xs
 |_=>true
def I5 (k:Nat) (σ:Nat->Nat->Option St):Nat->Nat->Option St:=λT v=>if T<k then σ T v else none
mutual
theorem RH {w:World} {sh:Nat->Prop} {σ:Nat->Nat->Option St} {k:Nat}:∀(x:AV) (v:Value) (fp:Nat->Nat),Iz k x=true->VR w sh σ x v fp->VR w sh (I5 k σ) x v fp
 | .any,_,_,_,h=>h
 | .bool _,_,_,_,h=>h
 | .int _ _,_,_,_,h=>h
 | .str _,_,_,_,h=>h
 | .nilp,_,_,_,h=>h
 | .ro _ _,_,_,_,h=>by simp only[VR] at h |-;exact h
 | .own _ _ _,_,_,_,h=>by simp only[VR] at h |-;exact h
 | .rptr _,_,_,_,h=>by simp only[VR] at h |-;exact h
 | .optr _,_,_,_,h=>by simp only[VR] at h |-;exact h
 | .tok T u s off n,v,fp,hn,h=>by
   have:T<k:=by simpa[Iz] using hn
   simp only[VR,I5,this,if_true] at h |-;exact h
 | .ptr T u off,v,fp,hn,h=>by
   have:T<k:=by simpa[Iz] using hn
   simp only[VR,I5,this,if_true] at h |-;exact h
 | .agg xs,v,fp,hn,h=>by
   simp only[VR,Iz] at h hn |-;obtain⟨cs,e,hv⟩:=h;exact⟨cs,e,HD xs _ _ hn hv⟩
 | .tup xs,v,fp,hn,h=>by
   simp only[VR,Iz] at h hn |-;obtain⟨cs,e,hv⟩:=h;exact⟨cs,e,HD xs _ _ hn hv⟩
 | .fn f xs,v,fp,hn,h=>by
   simp only[VR,Iz] at h hn |-;obtain⟨h0,cs,e,hv⟩:=h;exact⟨h0,cs,e,HD xs _ _ hn hv⟩
theorem HD {w:World} {sh:Nat->Prop} {σ:Nat->Nat->Option St} {k:Nat}:∀(xs:List AV) (vs:List Value) (fp:Nat->Nat),D5 k xs=true->AI w sh σ xs vs fp->AI w sh (I5 k σ) xs vs fp
 | [],_,_,_,h=>h
 |x::xs,vs,fp,hn,h=>by
  simp only[AI,D5,uU] at h hn |-;obtain⟨v,rest,f1,f2,e,h1,h2,hf⟩:=h;exact⟨v,rest,f1,f2,e,RH x v f1 hn.1 h1,HD xs rest f2 hn.2 h2,hf⟩
end
theorem uv {C:BF} {F F' :Fr} {M bs:List Ag} (hp:C.p<=M.length) (hF:∀t,(F' t=F t/\Iz M.length (F t)=true)\/F' t= .any) (hM:M.all (KT M.length)=true):Dj C F (M++bs) F' M:=by
 rintro a w ⟨σ,own,R⟩;let own' :Nat->Option Nat:=λg=>match own g with|some T=>if T<M.length then some T else none|none=>none
 have ho:∀g T,T<M.length->own g=some T->own' g=some T:=λg T hT h=>by simp only[own',h,hT,if_true]
 refine⟨I5 M.length σ,own',R.size,R.dfr,λt ht=>?_,⟨λT B hB=>?_,λT v hT=>?_⟩,λg hg=>?_,?_,λT v st h=>?_⟩
 .rcases hF t with⟨e,hn⟩ |e
  .rw[e];exact RH _ _ _ hn (R.tmp t ht)
  .rw[e];intro g;rfl
 .have hlt:T<M.length:=by
   rcases uY T M.length with h|h
   .exact h
   .simp[uR h] at hB
  obtain⟨fp,b1,b2⟩:=R.mem.blk T B (by rw[vk hlt];exact hB);have hnm:=u1.1 hM B (vo hB);have hk:∀u,I5 M.length σ T u=σ T u:=λu=>by simp only[I5,hlt,if_true]
  refine⟨fp,?_,λg=>?_⟩
  .cases B with
   |free=>exact⟨λu=>by rw[hk];exact b1.1 u,b1.2⟩
   |dead=>exact b1
   |live u cs=>
    obtain⟨c0,b1⟩:=b1;refine⟨λu' hu=>by rw[hk];exact c0 u' hu,?_⟩;rcases b1 with⟨c1,c2,c3⟩ | ⟨hh,b,cur,e',fp',c1,c2,c3,c4,c5⟩
    .exact .inl ⟨by rw[hk];exact c1,c2,c3⟩
    .exact .inr ⟨hh,b,cur,e',fp',by rw[hk];exact c1,c2,c3,HD _ _ _ hnm c4,c5⟩
  .have:=b2 g;split at this
   .rename_i e;rw[zP (ho g T hlt e)];exact this
   .omega
 .have:¬T<M.length:=zO;simp only[I5,this,if_false]
 .have h1:=R.shr g hg;exact⟨by simp only[own',h1.1],h1.2⟩
 .refine⟨R.ext.os,R.ext.tape,R.ext.output,R.ext.size,R.ext.block,λg hg=>R.ext.own g ?_⟩;intro e;simp only[own',e] at hg;exact hg rfl
 .obtain⟨h1,h2⟩:=R.key0 T v st h;have:T<M.length:=zO;exact⟨h1,by simp only[I5,this,if_true];exact h2⟩
section
variable {P:Program} {T:Nat->Option TI} {p:Nat} {F:Fr} {M:List Ag} {Q:Cj}
def fr:List (Nat×AV)->Fr
 | []=>F0
 |q::s=>Bu (fr s) q.1 q.2
def AA (F:Fr):List (Nat×AV)->Prop
 | []=>True
 |q::s=>F q.1=q.2/\AA F s
def NW (k:Nat):List (Nat×AV)->Bool
 | []=>true
 |q::s=>Iz k q.2&&NW k s
theorem LY (F:Fr):∀S,AA F S->∀t,fr S t=F t\/fr S t= .any
 | [],_,t=> .inr rfl
 |q::S,h,t=>by
  simp only[fr,Bu];split
  .rename_i e;subst e;exact .inl h.1.symm
  .exact LY F S h.2 t
theorem U2 (k:Nat):∀S,NW k S=true->∀t,Iz k (fr S t)=true
 | [],_,t=>rfl
 |q::S,h,t=>by
  simp only[NW,uU] at h;simp only[fr,Bu];split
  .exact h.1
  .exact U2 k S h.2 t
theorem Wk.refl:Wk p F M F M:=λ_ _=>Dj.refl _ _ _
theorem Wk.trans {F' F'' :Fr} {M' M'' :List Ag} (h:Wk p F M F' M') (k:Wk p F' M' F'' M''):Wk p F M F'' M'' :=λC hp=>(h C hp).trans (k C hp)
theorem Wk.fr {S:List (Nat×AV)} (h:AA F S):Wk p F M (fr S) M:=λ_ _=>Dj.drop λt _=>LY F S h t
theorem uw {bs:List Ag} {S:List (Nat×AV)} (h:AA F S) (hn:NW M.length S=true) (hM:M.all (KT M.length)=true) (hp:p<=M.length):Wk p F (M++bs) (Abs.fr S) M:=λC hC=>uv zO (λt=>by
 have h1:=U2 M.length S hn t;rcases LY F S h t with e|e
 .exact .inl ⟨e,by rw[<-e];exact h1⟩
 .exact .inr e) hM
theorem sU {M' :List Ag} {k:Nat} {S:List (Nat×AV)} (h:AA F S) (hk:M'.take k=M) (hl:k<=M'.length) (hn:NW k S=true) (hM:M.all (KT k)=true) (hp:p<=k):Wk p F M' (Abs.fr S) M:=by
 have hlen:M.length=k:=by rw[<-hk];simp;omega
 have:M' =M++M'.drop k:=by rw[<-hk,List.take_append_drop]
 rw[this];exact uw h (by rw[hlen];exact hn) (by rw[hlen];exact hM) zO
theorem sV {c:Code} {α:Type} (Sx:α->List (Nat×AV)) (Mx:α->List Ag) (μ:α->Nat) (I:α->Prop) (x:α) (h0:Wk p F M (fr (Sx x)) (Mx x)) (hI:I x)
 (round:∀x,I x->W P T p c (fr (Sx x)) (Mx x) (DR (λF' M' =>∃y,μ y<μ x/\I y/\Wk p F' M' (fr (Sx y)) (Mx y)) Q)):W P T p (.loop c) F M Q:=
 uG (λk F M=>∃x,k=μ x/\I x/\F=fr (Sx x)/\M=Mx x) (μ x) _ _ h0 ⟨x,rfl,hI,rfl,rfl⟩ (by
  rintro k F M ⟨x,rfl,hx,rfl,rfl⟩;refine(round x hx).mono λe F M q=>?_;cases e<;>first|exact q|skip
  obtain⟨y,h1,h2,h3⟩:=q;exact⟨μ y,_,_,h1,h3,y,rfl,h2,rfl,rfl⟩)
theorem s5 {x y:Code} {Q' :Cj} {α:Type} (Sx:α->List (Nat×AV)) (Mx:α->List Ag) (I:α->Prop)
 (h:W P T p x F M (DR (λF M=>∃x,I x/\Wk p F M (fr (Sx x)) (Mx x)) Q)) (k:∀x,I x->W P T p y (fr (Sx x)) (Mx x) Q'):W P T p x F M (DR (λF M=>W P T p y F M Q') Q):=
 h.mono λe F M q=>by
  cases e<;>first|exact q|skip
  obtain⟨x,h1,h2⟩:=q;exact W.weak h2 (k x h1)
theorem Wk.nil {t s:Nat} (h:F t= .own s 0 []):Wk p F M (Bu F t (.tok M.length 0 s 0 0)) (M++[.live 0 []]):=by
 rintro C hp a w ⟨σ,own,R⟩;let σ' :Nat->Nat->Option St:=λT u=>if T=M.length/\u=0 then some .nil else σ T u
 have keep:∀(T u:Nat) (s:St),σ T u=some s->σ' T u=some s:=λT u s h=>by
  have:¬(T=M.length/\u=0):=λe=>by rw[R.mem.key T u zO] at h;simp at h
  simp only[σ',this,if_false];exact h
 have L:Ci w w C.sh C.sh σ σ' :=⟨λ_ _=>rfl,λ_ h=>h,λT u s h=> .inl (keep T u s h)⟩;refine⟨σ',own,R.size,R.dfr,λt' ht=>?_,⟨λT B hB=>?_,λT u hT=>?_⟩,R.shr,R.ext,R.keyl L⟩
 .simp only[Bu];split
  .rename_i e;subst e;have hv:=R.tmp t' ht;rw[h] at hv;simp only[VR] at hv;rcases hv with⟨⟨ad,e⟩,_⟩ | ⟨hh,b,c,cur,e',fp',_,_,_,_,_,_,_,hf⟩
   .exact⟨λ_=>rfl,⟨ad,0,e⟩,.nil,by simp[σ'],λ_=>⟨⟨ad,e⟩,rfl,rfl⟩,λ_ _ _ e=>by cases e⟩
   .have:=hf hh;simp at this;omega
  .exact VR.later L _ _ _ (λ_ _=>rfl) (R.tmp t' ht)
 .by_cases hT:T<M.length
  .rw[vk hT] at hB;obtain⟨fp,b1,b2⟩:=R.mem.blk T B hB;refine⟨fp,EO L (λ_ _=>rfl) (λu=>?_) b1,b2⟩;have:¬(T=M.length/\u=0):=zO;simp only[σ',this,if_false]
  .rw[vj zO] at hB;have:T=M.length:=by
    rcases uY (T-M.length) 1 with h|h
    .omega
    .rw[uR (by simpa using h)] at hB;simp at hB
   subst this;simp at hB;subst hB;refine⟨λ_=>0,⟨λu hu=>?_,.inl ⟨by simp[σ'],rfl,λ_=>rfl⟩⟩,λ_=>vn _⟩;have:¬u=0:=zO;simp only[σ',this,and_false,if_false];exact R.mem.key _ _ (vg _)
 .simp at hT;have:¬(T=M.length/\u=0):=zO;simp only[σ',this,if_false];exact R.mem.key T u zO
theorem Ic {w:World} {sh:Nat->Prop} {σ:Nat->Nat->Option St}:∀{cs:List AV} {vs:List Value} {fp:Nat->Nat},AI w sh σ cs vs fp->∀{j:Nat} {x:AV},cs[j]?=some x->
 ∃(v:Value) (f f' :Nat->Nat),vs[j]?=some v/\VR w sh σ x v f/\(∀g,fp g=f g+f' g)/\∀τ,Ci w w sh sh σ τ->∀y fy,VR w sh τ y v fy->AI w sh τ (cs.set j y) vs (λg=>fy g+f' g)
 | [],_,_,_,_,_,hx=>by simp at hx
 |c::cs,vs,fp,h,0,x,hx=>by
  simp only[AI] at h;obtain⟨v,rest,f1,f2,rfl,h1,h2,hf⟩:=h;simp at hx;subst hx;exact⟨v,f1,f2,rfl,h1,hf,λτ L y fy hy=>⟨v,rest,fy,f2,rfl,hy,AI.later L _ _ _ (λ_ _=>rfl) h2,λ_=>rfl⟩⟩
 |c::cs,vs,fp,h,j+1,x,hx=>by
  simp only[AI] at h;obtain⟨v0,rest,f1,f2,rfl,h1,h2,hf⟩:=h;obtain⟨v,f,f',a1,a2,a3,a4⟩:=Ic h2 (j:=j) (by simpa using hx);refine⟨v,f,λg=>f1 g+f' g,by simpa using a1,a2,λg=>by have:=hf g;have:=a3 g;show fp g=f g+(f1 g+f' g);omega,λτ L y fy hy=>?_⟩;exact⟨v0,rest,f1,_,rfl,VR.later L _ _ _ (λ_ _=>rfl) h1,a4 τ L y fy hy,λg=>by show fy g+(f1 g+f' g)=f1 g+(fy g+f' g);omega⟩
theorem te {B v j s n:Nat} {cs xs:List AV} (hb:Ah M B v=some cs) (hj:cs[j]?=some (.own s n xs)):Wk p F M F (M.set B (.live v (cs.set j (.tok M.length 0 s 0 n)))++[.live 0 xs]):=by
 rintro C hp a w ⟨σ,own,R⟩;obtain⟨hM,fpB,hB,hfB⟩:=Cv R.mem hb;have hBl:B<M.length:=by
  rcases uY B M.length with h|h
  .exact h
  .simp[uR h] at hM
 obtain⟨hver,hB⟩:=hB;rcases hB with⟨_,h2,_⟩ | ⟨h,b,cur,e,fp',h1,h2,h3,h4,h5⟩
 .rw[h2] at hj;simp at hj
 obtain⟨x,f,f',s1,s2,s3,s4⟩:=Ic h4 hj;have key:∀st:St,(∀τ:Nat->Nat->Option St,τ M.length 0=some st->VR w C.sh τ (.tok M.length 0 s 0 n) x (λ_=>0))->(∀τ:Nat->Nat->Option St,(∀u,0<u->τ M.length u=none)->τ M.length 0=some st->BR w C.sh τ M.length (.live 0 xs) f)->
  Cu C F (M.set B (.live v (cs.set j (.tok M.length 0 s 0 n)))++[.live 0 xs]) a w:=by
  intro st htok hbr;let σ' :Nat->Nat->Option St:=λT u=>if T=M.length/\u=0 then some st else σ T u
  have keep:∀(T u:Nat) (s:St),σ T u=some s->σ' T u=some s:=λT u s h=>by
   have:¬(T=M.length/\u=0):=λe=>by rw[R.mem.key T u zO] at h;simp at h
   simp only[σ',this,if_false];exact h
  have L:Ci w w C.sh C.sh σ σ' :=⟨λ_ _=>rfl,λ_ h=>h,λT u s h=> .inl (keep T u s h)⟩;have hσn:σ' M.length 0=some st:=by simp[σ']
  have hσo:∀T u,T≠M.length->σ' T u=σ T u:=λT u hT=>by simp[σ',hT]
  let own' :Nat->Option Nat:=λg=>if f g≠0 then some M.length else own g
  have hfown:∀g,f g≠0->own g=some B:=λg hg=>by
   have e2:=h5 g;have e3:=s3 g;have e1:=hfB g;by_cases e:own g=some B
   .exact e
   .rw[zM e] at e1;omega
  refine⟨σ',own',R.size,R.dfr,λt ht=>VR.later L _ _ _ (λ_ _=>rfl) (R.tmp t ht),⟨λT BB hT=>?_,λT u hT=>?_⟩,λg hg=>?_,?_,R.keyl L⟩
  .by_cases hTl:T<M.length
   .rw[vk (by simpa using hTl)] at hT;by_cases eT:T=B
    .subst eT;rw[uO hTl] at hT;simp at hT;subst hT;refine⟨λg=>(if g=h then 1 else 0)+f' g,⟨λu hu=>by rw[hσo _ _ zO];exact hver u hu,.inr ⟨h,b,cur,e,f',by rw[hσo _ _ zO];exact h1,h2,by simpa using h3,?_,λ_=>rfl⟩⟩,λg=>?_⟩
     .have:=s4 σ' L _ _ (htok σ' hσn);simpa using this
     .have e1:=hfB g;have e2:=h5 g;have e3:=s3 g;by_cases hf0:f g=0
      .have:own' g=own g:=by simp[own',hf0]
       rw[this];show(if g=h then 1 else 0)+f' g<=_;omega
      .have e4:=hfown g hf0;rw[zP e4] at e1;show(if g=h then 1 else 0)+f' g<=_;omega
    .rw[uN (Ne.symm eT)] at hT;obtain⟨fp,b1,b2⟩:=R.mem.blk T BB hT;refine⟨fp,EO L (λ_ _=>rfl) (λu=>hσo _ _ zO) b1,λg=>?_⟩;have:=b2 g;split at this
     .rename_i e4;have hf0:f g=0:=by
       rcases wm (f g) with h|h
       .exact h
       .have:=hfown g zO;rw[e4] at this;simp at this;exact absurd this eT
      have:own' g=some T:=by simp[own',hf0,e4]
      rw[zP this];assumption
     .omega
   .rw[vj Ao] at hT;have:T=M.length:=by
     rcases uY (T-M.length) 1 with h|h
     .omega
     .rw[uR (by simpa using h)] at hT;simp at hT
    subst this;simp at hT;subst hT;refine⟨f,hbr σ' (λu hu=>?_) hσn,λg=>?_⟩
    .have:¬u=0:=zO;simp only[σ',this,and_false,if_false];exact R.mem.key _ _ (vg _)
    .by_cases hf0:f g=0
     .rw[hf0];exact vn _
     .have:own' g=some M.length:=by simp[own',hf0]
      rw[zP this];have e1:=hfB g;have e2:=h5 g;have e3:=s3 g;split at e1<;>omega
  .simp at hT;rw[hσo _ _ zO];exact R.mem.key T u zO
  .have h7:=R.shr g hg;have hf0:f g=0:=by
    rcases wm (f g) with h|h
    .exact h
    .have:=hfown g zO;rw[h7.1] at this;simp at this
   exact⟨by simp[own',hf0,h7.1],h7.2⟩
  .refine⟨R.ext.os,R.ext.tape,R.ext.output,R.ext.size,R.ext.block,λg hg=>R.ext.own g ?_⟩;by_cases hf0:f g=0
   .simpa[own',hf0] using hg
   .rw[hfown g hf0];simp
 simp only[VR] at s2;rcases s2 with⟨⟨ad,e⟩,rfl,rfl,h0⟩ | ⟨hh,b',c,cur',e',fpx,e,hn,hc,hl,hheap,hsz,hv,hff⟩
 .refine key .nil (λτ hτ=>⟨λ_=>rfl,⟨ad,0,e⟩,.nil,hτ,λ_=>⟨⟨ad,e⟩,rfl,rfl⟩,λ_ _ _ e=>by cases e⟩) λτ h1 h2=>⟨h1,.inl ⟨h2,rfl,h0⟩⟩
 .refine key (.loc hh b' cur'.size) (λτ hτ=>⟨λ_=>rfl,⟨_,c,e⟩,.loc hh b' cur'.size,hτ,(λe=>by cases e),λh' b'' sz' e2=>?_⟩) λτ g1 g2=>⟨g1,.inr ⟨hh,b',cur',e',fpx,g2,hheap,?_,?_,hff⟩⟩
  .cases e2;exact⟨⟨hh,b',none⟩,c,e,λ_=>rfl,hn,hc,zO⟩
  .have:n*s<=c*s:=Nat.mul_le_mul_right _ hn;rw[hl];omega
  .rw[hl];exact AI.up _ hv
theorem Z5 {w:World} {sh:Nat->Prop} {σ:Nat->Nat->Option St} {own:Nat->Option Nat} (m:Cp w sh σ own M) {T v s off n:Nat} {cs:List AV} (hb:Ah M T v=some cs) (hle:off+n*s<=cs.length) (htf:((cs.drop off).take (n*s)).all tf=true) {x:Value} (hx:VR w sh σ (.tok T v s off n) x (λ_=>0)):
 ∃f,VR w sh σ0 (.own s n ((cs.drop off).take (n*s))) x f/\∀g,f g<=if own g=some T then 1 else 0:=by
 obtain⟨hM,fp,hB,hf⟩:=Cv m hb;have hlen:((cs.drop off).take (n*s)).length=n*s:=Ao;simp only[VR] at hx;obtain⟨_,_,st,hst,hnil,hloc⟩:=hx;simp only[BR] at hB;rcases hB.2 with⟨h1,h2,h3⟩ | ⟨h,b,cur,e,fp',h1,h2,h3,h4,h5⟩
 .rw[h1] at hst;simp at hst;subst hst;obtain⟨ha,_,rfl⟩:=hnil rfl;exact⟨λ_=>0,.inl ⟨ha,rfl,zS,λ_=>rfl⟩,λ_=>vn _⟩
 .rw[h1] at hst;simp at hst;subst hst;obtain⟨ad,c,rfl,had,hnc,hcm,hcz⟩:=hloc h b _ rfl;by_cases hc:c=0
  .subst hc;have:n=0:=zO;subst this;exact⟨λ_=>0,.inl ⟨zX,rfl,zS,λ_=>rfl⟩,λ_=>vn _⟩
  .have:=had hc;subst this;obtain⟨f1,h6,h7⟩:=G2 off h4;obtain⟨f2,h8,h9⟩:=I0 (n*s) h6;have e1:(((cur.toList.drop b).take cs.length).drop off).take (n*s)=(cur.toList.drop (b+off)).take (n*s):=by
    rw[List.drop_take,List.take_take,Nat.min_eq_left zO,List.drop_drop]
   rw[e1] at h8;refine⟨λg=>(if g=h then 1 else 0)+f2 g,.inr ⟨h,b+off,c,cur,e,f2,rfl,hnc,hcm,hlen,h2,hcz,Ib σ0 htf h8,λ_=>rfl⟩,λg=>?_⟩;have e1:=hf g;have e2:=h5 g;have e3:=h7 g;have e4:=h9 g;show(if g=h then 1 else 0)+f2 g<=_;omega
theorem sY {B v j T u s off n:Nat} {cs xs:List AV} (hb:Ah M B v=some cs) (hj:cs[j]?=some (.tok T u s off n)) (hT:Ah M T u=some xs) (hne:T≠B) (hle:off+n*s<=xs.length) (htf:((xs.drop off).take (n*s)).all tf=true):
 Wk p F M F ((M.set B (.live v (cs.set j (.own s n ((xs.drop off).take (n*s)))))).set T .dead):=by
 rintro C hp a w ⟨σ,own,R⟩;obtain⟨hM,fpB,hB,hfB⟩:=Cv R.mem hb;obtain⟨hMT,_⟩:=Cv R.mem hT;have hlt:∀{q:Nat} {bl:Ag},M[q]?=some bl->q<M.length:=λ{q bl} h=>by
  rcases uY q M.length with h' |h'
  .exact h'
  .simp[uR h'] at h
 have hBl:=hlt hM;have hTl:=hlt hMT;obtain⟨hver,hB⟩:=hB;rcases hB with⟨_,h2,_⟩ | ⟨h,b,cur,e,fp',h1,h2,h3,h4,h5⟩
 .rw[h2] at hj;simp at hj
 obtain⟨x,f,f',s1,s2,s3,s4⟩:=Ic h4 hj;have hf0:∀g,f g=0:=by simp only[VR] at s2;exact s2.1
 have:f=λ_=>0:=funext hf0;subst this;obtain⟨fy,y1,y2⟩:=Z5 R.mem hT hle htf s2;let own' :Nat->Option Nat:=λg=>if own g=some T then some B else own g
 have L:Ci w w C.sh C.sh σ σ:=⟨λ_ _=>rfl,λ_ h=>h,λ_ _ _ h=> .inl h⟩;refine⟨σ,own',R.size,R.dfr,R.tmp,⟨λT' BB hT' =>?_,λT' u hT' =>R.mem.key T' u (by simpa using hT')⟩,λg hg=>?_,?_,R.key0⟩
 .by_cases e1:T' =T
  .subst e1;rw[uO (by simpa using hTl)] at hT';simp at hT';subst hT';exact⟨λ_=>0,λ_=>rfl,λ_=>vn _⟩
  .rw[uN (Ne.symm e1)] at hT';by_cases e2:T' =B
   .subst e2;rw[uO hBl] at hT';simp at hT';subst hT';refine⟨λg=>(if g=h then 1 else 0)+(fy g+f' g),⟨hver,.inr ⟨h,b,cur,e,λg=>fy g+f' g,h1,h2,by simpa using h3,?_,λ_=>rfl⟩⟩,λg=>?_⟩
    .have:=s4 σ L _ _ (VR.up σ y1);simpa using this
    .have e3:=hfB g;have e4:=h5 g;have e5:=s3 g;have e6:=y2 g;show(if g=h then 1 else 0)+(fy g+f' g)<=_;by_cases e7:own g=some T
     .have:own' g=some T' :=by simp[own',e7]
      rw[zP this];rw[zP e7] at e6;rw[e7] at e3;simp[e1] at e3;simp at e5;split at e3<;>omega
     .have:own' g=own g:=by simp[own',e7]
      rw[this];rw[zM e7] at e6;simp at e5;omega
   .rw[uN (Ne.symm e2)] at hT';obtain⟨fp,b1,b2⟩:=R.mem.blk T' BB hT';refine⟨fp,b1,λg=>?_⟩;have:=b2 g;split at this
    .rename_i e7;have:own' g=some T' :=by simp[own',e7,e1]
     rw[zP this];assumption
    .omega
 .have h7:=R.shr g hg;exact⟨by simp[own',h7.1],h7.2⟩
 .refine⟨R.ext.os,R.ext.tape,R.ext.output,R.ext.size,R.ext.block,λg hg=>R.ext.own g ?_⟩;by_cases e7:own g=some T
  .rw[e7];simp
  .simpa[own',e7] using hg
end
theorem Z6 (F:Fr) (d:Nat) (v:AV) (t:Nat):Bu F d v t=if t=d then v else F t:=rfl
theorem Z7 (v:AV) (K:AV->Prop):Hs (some v) K=K v:=rfl
theorem Z8 (v:List AV) (K:List AV->Prop):Hl (some v) K=K v:=rfl
theorem Z9 (v:TI) (K:TI->Prop):Ht (some v) K=K v:=rfl
theorem aa (v:Nat×List AV) (K:Nat->List AV->Prop):Hy (some v) K=K v.1 v.2:=rfl
theorem Yf (c:Prop) [Decidable c] (x:Option AV) (K:AV->Prop):Hs (if c then x else none) K=(c/\Hs x K):=by
 by_cases h:c<;>simp[h,Hs]
theorem U3 (b:Bool) (K1 K2:Prop):condK (.bool b) K1 K2=((b=true->K1)/\(b=false->K2)):=rfl
theorem wrap_i64 {n:Int} (h1:-9223372036854775808<=n) (h2:n<=9223372036854775807):IntKind.wrap .i64 n=n:=by rw[IntKind.wrap_i64];omega
theorem ab (k:IntKind) (a b:Int):Dq .add (.int k a) (.int k b)=some (.int k (k.wrap (a+b))):=by simp[Dq]
theorem ac (k:IntKind) (a b:Int):Dq .sub (.int k a) (.int k b)=some (.int k (k.wrap (a-b))):=by simp[Dq]
theorem ae (k:IntKind) (a b:Int):Dq .mul (.int k a) (.int k b)=some (.int k (k.wrap (a*b))):=by simp[Dq]
theorem ag (k:IntKind) (a b:Int) (h:b≠0):Dq .quo (.int k a) (.int k b)=some (.int k (k.wrap (a.tdiv b))):=by simp[Dq,h]
theorem ah (k:IntKind) (a b:Int) (h:b≠0):Dq .rem (.int k a) (.int k b)=some (.int k (a.tmod b)):=by simp[Dq,h]
theorem PD (k:IntKind) (a b:Int):Dq .and (.int k a) (.int k b)=some (.int k (k.wrap (BitVec.ofInt k.bits a&&&BitVec.ofInt k.bits b).toNat)):=by simp[Dq]
theorem We (k:IntKind) (a b:Int):Dq .or (.int k a) (.int k b)=some (.int k (k.wrap (BitVec.ofInt k.bits a|||BitVec.ofInt k.bits b).toNat)):=by simp[Dq]
theorem ai (k k' :IntKind) (a b:Int) (h:0<=b):Dq .shl (.int k a) (.int k' b)=some (.int k (k.wrap (a*2^(min b.toNat k.bits)))):=by simp[Dq,h]
theorem aj (k k' :IntKind) (a b:Int) (h:0<=b):Dq .shr (.int k a) (.int k' b)=some (.int k (a.fdiv (2^(min b.toNat k.bits)))):=by simp[Dq,h]
theorem ak (k:IntKind) (a b:Int):Dq .eql (.int k a) (.int k b)=some (.bool (decide (a=b))):=by simp[Dq]
theorem al (k:IntKind) (a b:Int):Dq .neq (.int k a) (.int k b)=some (.bool (!decide (a=b))):=by simp[Dq]
theorem am (k:IntKind) (a b:Int):Dq .lss (.int k a) (.int k b)=some (.bool (decide (a<b))):=by simp[Dq]
theorem ar (k:IntKind) (a b:Int):Dq .leq (.int k a) (.int k b)=some (.bool (decide (a<=b))):=by simp[Dq]
theorem au (k:IntKind) (a b:Int):Dq .gtr (.int k a) (.int k b)=some (.bool (decide (b<a))):=by simp[Dq]
theorem aw (k:IntKind) (a b:Int):Dq .geq (.int k a) (.int k b)=some (.bool (decide (b<=a))):=by simp[Dq]
theorem Yg (T:Nat->Option TI) (op:BinOp) (t:Nat) (k k' :IntKind) (a b:Int):GN T op t (.int k a) (.int k' b)=Dq op (.int k a) (.int k' b):=rfl
theorem dH (b:Bool):un .not (.bool b)=some (.bool !b):=rfl
theorem dI (k:IntKind) (n:Int):un .neg (.int k n)=some (.int k (k.wrap (0-n))):=rfl
theorem Wf (xs:List AV) (o:Nat):J0 xs o 0=some []:=by cases xs<;>rfl
theorem Wg (xs:List AV) (o m:Nat):J0 xs o (m+1)=match xs[o]?,J0 xs (o+1) m with|some x,some r=>some (x::r) |_,_=>none:=rfl
theorem ax (b want:Bool) (K1 K2:AV->Prop):gK (.bool b) want K1 K2=((b=want->K1 (.bool want))/\(b= !want->K2 (.bool !want))):=rfl
theorem fW (K1 K2:AV->Prop):gK (.bool true) true K1 K2=K1 (.bool true):=by simp[gK]
theorem fX (K1 K2:AV->Prop):gK (.bool true) false K1 K2=K2 (.bool true):=by simp[gK]
theorem fY (K1 K2:AV->Prop):gK (.bool false) true K1 K2=K2 (.bool false):=by simp[gK]
theorem fZ (K1 K2:AV->Prop):gK (.bool false) false K1 K2=K1 (.bool false):=by simp[gK]
theorem Yh (want:Bool) (K1 K2:AV->Prop):gK (.tup []) want K1 K2=K2 (.tup []):=rfl
theorem U4 (c:Bool) (x y:AV):Oo (.bool c) x y=some (if c=true then x else y):=rfl
theorem dJ (call:D9) (f:Nat) (cs args:List AV) (M:List Ag) (K:AV->List Ag->Prop):Ly call (.fn f cs) args M K=call f (args++cs) M K:=rfl
theorem dK (F:Fr) (xs:List Operand):LN F xs.toArray=xs.map (ev F):=rfl
section
variable {T:Nat->Option TI} {call:D9} {ops:Array Oper} {rest:List Oper} {d:Option Nat} {op:Op} {ty s:Nat} {pos:String} {af:Array Edge} {F:Fr} {M:List Ag} {K:Fr->List Ag->Prop}
def T4 (F:Fr) (ps:List (Nat×Operand)):List (Nat×AV):=ps.map λp=>(p.1,ev F p.2)
def ED (ops:Array Oper) (j:Nat):Option Nat:=(ops[j]?).bind (·.dst)
def gD (t:Option Nat) (F:Fr) (want:Bool) (K1 K2:Fr->Prop):Prop:=match t with|some t=>gK (F t) want (λb=>K1 (Bu F t b)) (λb=>K2 (Bu F t b)) |none=>False
theorem En {j:Nat} {want:Bool}:Aw T call ops (⟨d,op,ty,pos,af,some (j,want)⟩::rest) s F M K=
 gD (ED ops j) F want (λF=>Dv T call ⟨d,op,ty,pos,af,some (j,want)⟩ s F M λF' M' =>Aw T call ops rest (s+BT ⟨d,op,ty,pos,af,some (j,want)⟩) F' M' K)
  (λF=>Aw T call ops rest (s+BT ⟨d,op,ty,pos,af,some (j,want)⟩) (AB F d (.tup [])) M K):=rfl
theorem Wh {x:Operand}:Aw T call ops (⟨d,.move x,ty,pos,af,none⟩::rest) s F M K=Aw T call ops rest s (AB F d (Hv T ty (ev F x))) M K:=rfl
theorem dL {x:Operand} {j:Nat} {want:Bool}:Aw T call ops (⟨d,.move x,ty,pos,af,some (j,want)⟩::rest) s F M K=gD (ED ops j) F want (λF=>Aw T call ops rest s (AB F d (Hv T ty (ev F x))) M K) λF=>Aw T call ops rest s (AB F d (.tup [])) M K:=by
 rw[En];rfl
theorem Yi {x:Operand}:Aw T call ops (⟨d,.assign x,ty,pos,af,none⟩::rest) s F M K=Aw T call ops rest s (AB F d (Hv T ty (ev F x))) M K:=rfl
theorem dM {c x y:Operand}:Aw T call ops (⟨d,.pick c x y,ty,pos,af,none⟩::rest) s F M K=Hs (Oo (ev F c) (ev F x) (ev F y)) λv=>Aw T call ops rest s (AB F d v) M K:=rfl
theorem dN {c x y:Operand} {j:Nat} {want:Bool}:Aw T call ops (⟨d,.pick c x y,ty,pos,af,some (j,want)⟩::rest) s F M K=gD (ED ops j) F want (λF=>Hs (Oo (ev F c) (ev F x) (ev F y)) λv=>Aw T call ops rest s (AB F d v) M K) λF=>Aw T call ops rest s (AB F d (.tup [])) M K:=by
 rw[En];rfl
theorem dO {t:Nat} {x:Operand}:Aw T call ops (⟨d,.load t x,ty,pos,af,none⟩::rest) s F M K=Hs (Nr T M t (ev F x)) λv=>Aw T call ops rest s (AB F d v) M K:=rfl
theorem dP {t:Nat} {x:Operand} {j:Nat} {want:Bool}:Aw T call ops (⟨d,.load t x,ty,pos,af,some (j,want)⟩::rest) s F M K=gD (ED ops j) F want (λF=>Hs (Nr T M t (ev F x)) λv=>Aw T call ops rest s (AB F d v) M K) λF=>Aw T call ops rest s (AB F d (.tup [])) M K:=by
 rw[En];rfl
theorem Nw {t:Nat} {x:Operand} {f:Nat}:Aw T call ops (⟨d,.fieldAddr t x f,ty,pos,af,none⟩::rest) s F M K=Hs (Jr T M t (ev F x) f) λv=>Aw T call ops rest s (AB F d v) M K:=rfl
theorem Tp {t:Nat} {x:Operand} {f:Nat} {j:Nat} {want:Bool}:Aw T call ops (⟨d,.fieldAddr t x f,ty,pos,af,some (j,want)⟩::rest) s F M K=gD (ED ops j) F want (λF=>Hs (Jr T M t (ev F x) f) λv=>Aw T call ops rest s (AB F d v) M K) λF=>Aw T call ops rest s (AB F d (.tup [])) M K:=by
 rw[En];rfl
theorem Tq {t:Nat} {x i:Operand}:Aw T call ops (⟨d,.indexAddr t x i,ty,pos,af,none⟩::rest) s F M K=Hs (LI T M t (ev F x) (ev F i)) λv=>Aw T call ops rest s (AB F d v) M K:=rfl
theorem Tt {t:Nat} {x i:Operand} {j:Nat} {want:Bool}:Aw T call ops (⟨d,.indexAddr t x i,ty,pos,af,some (j,want)⟩::rest) s F M K=gD (ED ops j) F want (λF=>Hs (LI T M t (ev F x) (ev F i)) λv=>Aw T call ops rest s (AB F d v) M K) λF=>Aw T call ops rest s (AB F d (.tup [])) M K:=by
 rw[En];rfl
theorem ay {b:BinOp} {t t' :Nat} {x:Operand} {y:Nat}:Aw T call ops (⟨d,.binOp b t x (.tmp y) t',ty,pos,af,none⟩::rest) s F M K=Hs (GN T b t (ev F x) (F y)) λv=>Aw T call ops rest s (AB F d v) M K:=by cases b<;>rfl
theorem az {b:BinOp} {t t' :Nat} {x:Operand} {y:Nat} {j:Nat} {want:Bool}:Aw T call ops (⟨d,.binOp b t x (.tmp y) t',ty,pos,af,some (j,want)⟩::rest) s F M K=gD (ED ops j) F want (λF=>Hs (GN T b t (ev F x) (F y)) λv=>Aw T call ops rest s (AB F d v) M K) λF=>Aw T call ops rest s (AB F d (.tup [])) M K:=by
 rw[En];cases b<;>rfl
theorem T5 {b:BinOp} {t t' :Nat} {x:Operand} {k:IntKind} {z:Int}:Aw T call ops (⟨d,.binOp b t x (.const (.int k z)) t',ty,pos,af,none⟩::rest) s F M K=Hs (GN T b t (ev F x) (.int k z)) λv=>Aw T call ops rest s (AB F d v) M K:=by cases b<;>rfl
theorem aA {b:BinOp} {t t' :Nat} {x:Operand} {k:IntKind} {z:Int} {j:Nat} {want:Bool}:Aw T call ops (⟨d,.binOp b t x (.const (.int k z)) t',ty,pos,af,some (j,want)⟩::rest) s F M K=gD (ED ops j) F want (λF=>Hs (GN T b t (ev F x) (.int k z)) λv=>Aw T call ops rest s (AB F d v) M K) λF=>Aw T call ops rest s (AB F d (.tup [])) M K:=by
 rw[En];cases b<;>rfl
theorem Wi {t t' :Nat} {x:Operand}:Aw T call ops (⟨d,.binOp .eql t x (.const (.slice none 0 0)) t',ty,pos,af,none⟩::rest) s F M K=J2 (Ax T t) (Nt (ev F x) false λv=>Aw T call ops rest s (AB F d v) M K):=rfl
theorem jq {b:UnOp} {t:Nat} {x:Operand}:Aw T call ops (⟨d,.unOp b t x,ty,pos,af,none⟩::rest) s F M K=Hs (un b (ev F x)) λv=>Aw T call ops rest s (AB F d v) M K:=rfl
theorem jr {b:UnOp} {t:Nat} {x:Operand} {j:Nat} {want:Bool}:Aw T call ops (⟨d,.unOp b t x,ty,pos,af,some (j,want)⟩::rest) s F M K=gD (ED ops j) F want (λF=>Hs (un b (ev F x)) λv=>Aw T call ops rest s (AB F d v) M K) λF=>Aw T call ops rest s (AB F d (.tup [])) M K:=by
 rw[En];rfl
theorem Wj {t t' :Nat} {x:Operand}:Aw T call ops (⟨d,.convert t t' x,ty,pos,af,none⟩::rest) s F M K=Hs (NR T M t t' (ev F x)) λv=>Aw T call ops rest s (AB F d v) M K:=rfl
theorem aB {t:Nat} {x i:Operand}:Aw T call ops (⟨d,.index t x i,ty,pos,af,none⟩::rest) s F M K=Hs (TQ T t (ev F x) (ev F i)) λv=>Aw T call ops rest s (AB F d v) M K:=rfl
theorem aC {t:Nat} {x i:Operand} {j:Nat} {want:Bool}:Aw T call ops (⟨d,.index t x i,ty,pos,af,some (j,want)⟩::rest) s F M K=gD (ED ops j) F want (λF=>Hs (TQ T t (ev F x) (ev F i)) λv=>Aw T call ops rest s (AB F d v) M K) λF=>Aw T call ops rest s (AB F d (.tup [])) M K:=by
 rw[En];rfl
theorem Wl {x:Operand} {i:Nat}:Aw T call ops (⟨d,.extract x i,ty,pos,af,none⟩::rest) s F M K=Hs (ext (ev F x) i) λv=>Aw T call ops rest s (AB F d v) M K:=rfl
theorem aD {t:Nat} {x:Operand} {lo hi mx:Option Operand}:Aw T call ops (⟨d,.slice t x lo hi mx,ty,pos,af,none⟩::rest) s F M K=Hs (LK T M t (ev F x) (lo.map (ev F)) (hi.map (ev F)) (mx.map (ev F))) λv=>Aw T call ops rest s (AB F d v) M K:=rfl
theorem U5 {x:Operand}:Aw T call ops (⟨d,.nilCheck x,ty,pos,af,none⟩::rest) s F M K=Hs (J1 M (ev F x)) λv=>Aw T call ops rest s (AB F d v) M K:=rfl
theorem U6 {x:Operand} {j:Nat} {want:Bool}:Aw T call ops (⟨d,.nilCheck x,ty,pos,af,some (j,want)⟩::rest) s F M K=gD (ED ops j) F want (λF=>Hs (J1 M (ev F x)) λv=>Aw T call ops rest s (AB F d v) M K) λF=>Aw T call ops rest s (AB F d (.tup [])) M K:=by
 rw[En];rfl
theorem U7 {f:Nat} {caps:Array Operand}:Aw T call ops (⟨d,.makeFunc (.func f) #[] caps,ty,pos,af,none⟩::rest) s F M K=Aw T call ops rest s (AB F d (.fn f (LN F caps))) M K:=rfl
theorem U8 {f:Nat} {caps:Array Operand} {j:Nat} {want:Bool}:Aw T call ops (⟨d,.makeFunc (.func f) #[] caps,ty,pos,af,some (j,want)⟩::rest) s F M K=gD (ED ops j) F want (λF=>Aw T call ops rest s (AB F d (.fn f (LN F caps))) M K) λF=>Aw T call ops rest s (AB F d (.tup [])) M K:=by
 rw[En];rfl
theorem aE {t:Nat} {Ay:List (Nat×Operand)}:Aw T call ops (⟨d,.build t Ay.toArray,ty,pos,af,none⟩::rest) s F M K=Hs (TW T t (T4 F Ay)) λv=>Aw T call ops rest s (AB F d v) M K:=rfl
theorem aF {t:Nat} {Ay:List (Nat×Operand)} {j:Nat} {want:Bool}:Aw T call ops (⟨d,.build t Ay.toArray,ty,pos,af,some (j,want)⟩::rest) s F M K=gD (ED ops j) F want (λF=>Hs (TW T t (T4 F Ay)) λv=>Aw T call ops rest s (AB F d v) M K) λF=>Aw T call ops rest s (AB F d (.tup [])) M K:=by
 rw[En];rfl
theorem ga {x:Operand} {t:Nat}:Aw T call ops (⟨d,.call ⟨.builtin .len, #[x], #[t]⟩,ty,pos,af,none⟩::rest) s F M K=Hs (Pu T t (ev F x)) λv=>Aw T call ops rest s (AB F d v) M K:=rfl
theorem gb {x:Operand} {t:Nat} {j:Nat} {want:Bool}:Aw T call ops (⟨d,.call ⟨.builtin .len, #[x], #[t]⟩,ty,pos,af,some (j,want)⟩::rest) s F M K=gD (ED ops j) F want (λF=>Hs (Pu T t (ev F x)) λv=>Aw T call ops rest s (AB F d v) M K) λF=>Aw T call ops rest s (AB F d (.tup [])) M K:=by
 rw[En];rfl
theorem gc {x y:Operand} {ts:Array Nat}:Aw T call ops (⟨d,.call ⟨.builtin .min, #[x,y],ts⟩,ty,pos,af,none⟩::rest) s F M K=Hs (Q8 (ev F x) (ev F y)) λv=>Aw T call ops rest s (AB F d v) M K:=rfl
theorem gd {x y:Operand} {ts:Array Nat}:Aw T call ops (⟨d,.call ⟨.builtin .max, #[x,y],ts⟩,ty,pos,af,none⟩::rest) s F M K=Hs (Q9 (ev F x) (ev F y)) λv=>Aw T call ops rest s (AB F d v) M K:=rfl
theorem aG {t:Nat}:Aw T call ops (⟨d,.alloc t,ty,pos,af,none⟩::rest) s F M K=Ht (T t) λi=>M[s]?=some .free/\Aw T call ops rest (s+1) (AB F d (.ptr s 0 0)) (M.set s (.live 0 i.zero)) K:=rfl
theorem gg {t:Nat} {x:Operand}:Aw T call ops (⟨d,.box t x,ty,pos,af,none⟩::rest) s F M K=Ht (T t) λi=>Hl (LJ i (ev F x)) λcs=>M[s]?=some .free/\Aw T call ops rest (s+1) (AB F d (.ptr s 0 0)) (M.set s (.live 0 cs)) K:=rfl
theorem Tu {t:Nat} {l c:Operand}:Aw T call ops (⟨d,.makeSlice t l c,ty,pos,af,none⟩::rest) s F M K=PZ (Ax T t) (ev F l) (ev F c) s M λv M' =>Aw T call ops rest (s+1) (AB F d v) M' K:=rfl
theorem RI {t len:Nat} {Ay:List (Nat×Operand)}:Aw T call ops (⟨d,.buildSlice t len Ay.toArray,ty,pos,af,none⟩::rest) s F M K=P0 (Ax T t) len (T4 F Ay) s M λv M' =>Aw T call ops rest (s+1) (AB F d v) M' K:=rfl
theorem aH {t:Nat} {x y:Operand}:Aw T call ops (⟨d,.store t x y,ty,pos,af,none⟩::rest) s F M K=Ht (T t) λi=>Lx i (ev F x) (ev F y) M λM' =>Aw T call ops rest s (AB F d .any) M' K:=rfl
theorem Yj {x y:Operand} {t:Nat}:Aw T call ops (⟨d,.call ⟨.builtin .append, #[x,y], #[t,t]⟩,ty,pos,af,none⟩::rest) s F M K=Jw (Ax T t) (ev F x) (ev F y) DS M λv M' =>Aw T call ops rest s (AB F d v) M' K:=by simp only[Aw,Dv,XZ,Hz];rfl
theorem Wm {x y:Operand} {t t' :Nat} (_:t≠t'):Aw T call ops (⟨d,.call ⟨.builtin .append, #[x,y], #[t,t']⟩,ty,pos,af,none⟩::rest) s F M K=Hz (Ia T t t' (ev F y)) λy' pl=>Jw (Ax T t) (ev F x) y' pl M λv M' =>Aw T call ops rest s (AB F d v) M' K:=by simp only[Aw,Dv];rfl
def U9:=Aw
theorem Et:U9 T call ops rest s F M K=Aw T call ops rest s F M K:=rfl
theorem dQ {f:Operand} {args:List Operand} {ts:Array Nat}:Aw T call ops (⟨d,.call ⟨.value f,args.toArray,ts⟩,ty,pos,af,none⟩::rest) s F M K=Ly call (ev F f) (args.map (ev F)) M λr M' =>U9 T call ops rest s (AB F d r) M' K:=rfl
theorem dR {f:Operand} {args:List Operand} {ts:Array Nat} {j:Nat} {want:Bool}:Aw T call ops (⟨d,.call ⟨.value f,args.toArray,ts⟩,ty,pos,af,some (j,want)⟩::rest) s F M K=gD (ED ops j) F want (λF=>Ly call (ev F f) (args.map (ev F)) M λr M' =>U9 T call ops rest s (AB F d r) M' K) λF=>Aw T call ops rest s (AB F d (.tup [])) M K:=by
 rw[En];rfl
theorem gh {g:Option (Nat×Bool)} {l:List Oper}:ED (⟨some ty,op,s,pos,af,g⟩::l).toArray 0=some ty:=rfl
theorem gk {o:Oper} {l:List Oper} {j:Nat}:ED (o::l).toArray (j+1)=ED l.toArray j:=by simp[ED]
theorem aI {t:Nat} {want:Bool} {K1 K2:Fr->Prop}:gD (some t) F want K1 K2=gK (F t) want (λb=>K1 (Bu F t b)) (λb=>K2 (Bu F t b)):=rfl
theorem aJ:T4 F []=[]:=rfl
theorem Yk {i:Nat} {x:Operand} {ps:List (Nat×Operand)}:T4 F ((i,x)::ps)=(i,ev F x)::T4 F ps:=rfl
theorem Wn {t:Nat} {v:AV}:AB F (some t) v=Bu F t v:=rfl
theorem Wo {v:AV}:AB F none v=F:=rfl
theorem dS {t:Nat}:ev F (.tmp t)=F t:=rfl
theorem dT {k:IntKind} {n:Int}:ev F (.const (.int k n))= .int k n:=rfl
theorem aK {b:Bool}:ev F (.const (.bool b))= .bool b:=rfl
theorem dU:ev F (.const (.slice none 0 0))= .own 0 0 []:=rfl
theorem aL:ev F (.const (.pointer none))= .nilp:=rfl
theorem aM {f:Nat}:ev F (.func f)= .fn f []:=rfl
theorem Yl {b:Bool}:Hv T ty (.bool b)= .bool b:=rfl
theorem aN {k:IntKind} {n:Int}:Hv T ty (.int k n)= .int k n:=rfl
theorem Ym:Hv T ty .nilp= .nilp:=rfl
theorem dV {n:Nat} {xs:List AV}:Hv T ty (.ro n xs)= .ro n xs:=rfl
theorem aO {a b c e n:Nat}:Hv T ty (.tok a b c e n)= .tok a b c e n:=rfl
theorem aP {a b c:Nat}:Hv T ty (.ptr a b c)= .ptr a b c:=rfl
theorem Yn {xs:List AV}:Hv T ty (.rptr xs)= .rptr xs:=rfl
theorem dW {f:Nat} {xs:List AV}:Hv T ty (.fn f xs)= .fn f xs:=rfl
theorem aQ {xs:List AV}:Hv T ty (.tup xs)= .tup xs:=rfl
theorem aR {n:Nat} {xs:List AV}:Hv T ty (.own (s+1) n xs)= .own (s+1) n xs:=rfl
theorem aS:Hv T ty (.own 0 0 [])=match T ty with|some i=>(match i.zero with| [z]=>US z (.own 0 0 []) |_=> .own 0 0 []) |none=> .own 0 0 []:=rfl
theorem Yo {n:Nat}:US (.own n 0 []) (.own 0 0 [])= .own n 0 []:=rfl
@[simp] theorem lW:DS .any=false:=rfl
@[simp] theorem js (b:Bool):DS (.bool b)=true:=rfl
@[simp] theorem lX (k:IntKind) (n:Int):DS (.int k n)=true:=rfl
@[simp] theorem lY (b:ByteArray):DS (.str b)=true:=rfl
@[simp] theorem jt:DS .nilp=true:=rfl
@[simp] theorem nc (n:Nat) (xs:List AV):DS (.ro n xs)=true:=rfl
@[simp] theorem lZ (s n:Nat) (xs:List AV):DS (.own s n xs)=false:=rfl
@[simp] theorem l0 (a b c e f:Nat):DS (.tok a b c e f)=true:=rfl
@[simp] theorem l3 (a b c:Nat):DS (.ptr a b c)=true:=rfl
@[simp] theorem ju (xs:List AV):DS (.rptr xs)=true:=rfl
@[simp] theorem jv (xs:List AV):DS (.optr xs)=false:=rfl
@[simp] theorem nd (f:Nat) (xs:List AV):DS (.fn f xs)=true:=rfl
@[simp] theorem l4 (xs:List AV):DS (.agg xs)=false:=rfl
@[simp] theorem l5 (xs:List AV):DS (.tup xs)=false:=rfl
@[simp] theorem iA:CD .any=false:=rfl
@[simp] theorem gl (b:Bool):CD (.bool b)=true:=rfl
@[simp] theorem iB (k:IntKind) (n:Int):CD (.int k n)=true:=rfl
@[simp] theorem iC (b:ByteArray):CD (.str b)=true:=rfl
@[simp] theorem gn:CD .nilp=true:=rfl
@[simp] theorem jw (n:Nat) (xs:List AV):CD (.ro n xs)=true:=rfl
@[simp] theorem iD (s n:Nat) (xs:List AV):CD (.own s n xs)=true:=rfl
@[simp] theorem iE (a b c e f:Nat):CD (.tok a b c e f)=true:=rfl
@[simp] theorem iF (a b c:Nat):CD (.ptr a b c)=true:=rfl
@[simp] theorem gp (xs:List AV):CD (.rptr xs)=true:=rfl
@[simp] theorem gq (xs:List AV):CD (.optr xs)=true:=rfl
@[simp] theorem jx (f:Nat) (xs:List AV):CD (.fn f xs)=true:=rfl
@[simp] theorem iG (xs:List AV):CD (.agg xs)=false:=rfl
def LA (xs:List AV):Bool:=xs.all DS
def ZJ (xs:List AV):Bool:=xs.all CD
theorem Wp (xs:List AV):xs.all DS=LA xs:=rfl
theorem dX (xs:List AV):xs.all CD=ZJ xs:=rfl
@[simp] theorem l6:LA []=true:=rfl
@[simp] theorem jy (x:AV) (xs:List AV):LA (x::xs)=(DS x&&LA xs):=rfl
@[simp] theorem l7:ZJ []=true:=rfl
@[simp] theorem jz (x:AV) (xs:List AV):ZJ (x::xs)=(CD x&&ZJ xs):=rfl
@[simp] theorem nY (v u:Nat) (cs:List AV):Ah (.live u cs::M) 0 v=if v=u then some cs else none:=rfl
@[simp] theorem nZ (b:Ag) (n v:Nat):Ah (b::M) (n+1) v=Ah M n v:=rfl
@[simp] theorem nf (v:Nat):Ah (.dead::M) 0 v=none:=rfl
@[simp] theorem ng (v:Nat):Ah (.free::M) 0 v=none:=rfl
@[simp] theorem iH (z:List AV):Bv 0 z=[]:=rfl
@[simp] theorem jA (z:List AV):Bv 1 z=z:=by simp[Bv]
end
section
variable {P:Program} {T:Nat->Option TI} {p:Nat} {F:Fr} {M:List Ag} {Q:Cj}
theorem tz {id:Nat} {l:List Oper} (n:Nat) (hn:Bb l=n) (h:∀K:Fr->List Ag->Prop,(∀F M,Q .normal F M->K F M)->Aw T (Ad P) l.toArray l M.length F (M++uP n .free) K):W P T p (.region id l.toArray false) F M Q:=
 uH (by rw[hn];exact h)
theorem tM {id:Nat} {l:List Oper} (n:Nat) (hn:Bb l=n) (L:Bool) (hp:P.follows .mixedOrders=true) (hd:LW L l=true) (h:∀K:Fr->List Ag->Prop,(∀F M,Q .normal F M->K F M)->Aw T (Ai P L) l.toArray l M.length F (M++uP n .free) K):W P T p (.region id l.toArray true) F M Q:=
 uu L hp hd (by rw[hn];exact h)
theorem sW {f:Nat} {args cargs:List AV} {K:AV->List Ag->Prop} {v:AV} (spec:Ac P f cargs [] λr _=>r=v) (hargs:args.map (vw M)=cargs) (hr:EP v=true) (hk:K (EQ M.length v).1 (M++(EQ M.length v).2)):Ad P f args M K:=
 tr spec hargs λr e=>by subst e;exact⟨hr,hk⟩
theorem tg {f:Nat} {args cargs:List AV} {K:AV->List Ag->Prop} {v:AV} (spec:Ac P f cargs [] λr _=>r=v) (hargs:args.map P2=cargs) (hk:K (EQ M.length v).1 (M++(EQ M.length v).2)):Ad P f args M K:=
 Ad.ro spec hargs λr e=>by subst e;exact hk
theorem s6 {f:Nat} {args cargs:List AV} {K:AV->List Ag->Prop} {v:AV} (spec:Ac P f cargs [] λr _=>r=v) (hargs:args.map (vw M)=cargs) (hr:EP v=true) (hk:K (EQ M.length v).1 (M++(EQ M.length v).2)):Ai P true f args M K:=
 ⟨_,_,spec,λ_ r r' h h' =>h.trans h'.symm,.inl ⟨rfl,⟨[],hargs⟩,λr e=>by subst e;exact⟨hr,hk⟩⟩⟩
theorem tu {L:Bool} {f:Nat} {args cargs:List AV} {K:AV->List Ag->Prop} {v:AV} (spec:Ac P f cargs [] λr _=>r=v) (hargs:args.map P2=cargs) (hk:K (EQ M.length v).1 (M++(EQ M.length v).2)):Ai P L f args M K:=
 ⟨_,_,spec,λ_ r r' h h' =>h.trans h'.symm,.inr ⟨hargs,λr e=>by subst e;exact hk⟩⟩
end
section
variable {x x' :Option AV} {y y' :Option (List AV)} {z z' :Option TI} {q q' :Option (Nat×List AV)} {v v' w w' :AV} {d d' :TD} {M M' :List Ag} {t t' :Option Nat}
@[congr] theorem jB {K:AV->Prop} (h:x=x'):Hs x K=Hs x' K:=by rw[h]
@[congr] theorem jC {K:List AV->Prop} (h:y=y'):Hl y K=Hl y' K:=by rw[h]
@[congr] theorem jD {K:TI->Prop} (h:z=z'):Ht z K=Ht z' K:=by rw[h]
@[congr] theorem jE {K:Nat->List AV->Prop} (h:q=q'):Hy q K=Hy q' K:=by rw[h]
@[congr] theorem jF {b:Bool} {K1 K2:AV->Prop} (h:v=v'):gK v b K1 K2=gK v' b K1 K2:=by rw[h]
@[congr] theorem jG {F:Fr} {b:Bool} {K1 K2:Fr->Prop} (h:t=t'):gD t F b K1 K2=gD t' F b K1 K2:=by rw[h]
@[congr] theorem fO {K1 K2:Prop} (h:v=v'):condK v K1 K2=condK v' K1 K2:=by rw[h]
@[congr] theorem iI {b:Bool} {K:AV->Prop} (h:v=v'):Nt v b K=Nt v' b K:=by rw[h]
@[congr] theorem gr {K:Prop} (h:d=d'):J2 d K=J2 d' K:=by rw[h]
@[congr] theorem iJ {s:Nat} {K:AV->List Ag->Prop} (h:d=d') (h1:v=v') (h2:w=w') (h3:M=M'):PZ d v w s M K=PZ d' v' w' s M' K:=by rw[h,h1,h2,h3]
@[congr] theorem iK {n s:Nat} {ps ps' :List (Nat×AV)} {K:AV->List Ag->Prop} (h:d=d') (h1:ps=ps') (h3:M=M'):P0 d n ps s M K=P0 d' n ps' s M' K:=by rw[h,h1,h3]
@[congr] theorem iL {i:TI} {K:List Ag->Prop} (h1:v=v') (h2:w=w') (h3:M=M'):Lx i v w M K=Lx i v' w' M' K:=by rw[h1,h2,h3]
@[congr] theorem iM {pl:AV->Bool} {K:AV->List Ag->Prop} (h:d=d') (h1:v=v') (h2:w=w') (h3:M=M'):Jw d v w pl M K=Jw d' v' w' pl M' K:=by rw[h,h1,h2,h3]
@[congr] theorem iO {call:D9} {as as' :List AV} {K:AV->List Ag->Prop} (h1:v=v') (h2:as=as') (h3:M=M'):Ly call v as M K=Ly call v' as' M' K:=by rw[h1,h2,h3]
@[congr] theorem fP {P:Program} {f:Nat} {as as' :List AV} {K:AV->List Ag->Prop} (h2:as=as') (h3:M=M'):Ad P f as M K=Ad P f as' M' K:=by rw[h2,h3]
@[congr] theorem fQ {P:Program} {L:Bool} {f:Nat} {as as' :List AV} {K:AV->List Ag->Prop} (h2:as=as') (h3:M=M'):Ai P L f as M K=Ai P L f as' M' K:=by rw[h2,h3]
@[congr] theorem gu {T:Nat->Option TI} {call:D9} {ops:Array Oper} {l:List Oper} {s:Nat} {F:Fr} {K:Fr->List Ag->Prop} (h3:M=M'):Aw T call ops l s F M K=Aw T call ops l s F M' K:=by rw[h3]
end
attribute [simp] X4 Wh dL Yi dM dN dO dP Nw Tp Tq Tt ay az T5 aA Wi jq jr Wj aB aC Wl aD U5 U6 U7 U8 aE aF ga gb gc gd aG gg Tu RI aH Yj Wm dQ dR gh gk aJ Yk Wn Wo dS dT aK dU aL aM Yl aN Ym dV aO aP Yn dW aQ aR aS Yo Z6 ab ac ae ag ah ai aj ak al am ar au aw Yg dH dI Wf dK U4
attribute [simp ↓] Z7 Z8 Z9 aa Yf U3 ax Yh dJ aI
attribute [simp] Pu.eq_def LI.eq_def Jr.eq_def ZD.eq_def LK.eq_def J1.eq_def ext.eq_def TQ.eq_def NR.eq_def ZC.eq_def J2.eq_def Nt.eq_def PZ.eq_def P0.eq_def Lx.eq_def Jw.eq_def Ia.eq_def Hz.eq_def De.eq_def LJ.eq_def KH.eq_def cellsOf.eq_def TW.eq_def Q8.eq_def Q9.eq_def ZF.eq_def ZE.eq_def TP.eq_def Hh.eq_def Nr.eq_def Rl.eq_def
attribute [simp] Jt Bt
attribute [simp] Wp dX
attribute [simp ↓ high] fW fX fY fZ
attribute [simp] Wg wrap_i64
@[simp] theorem Yp (F:Fr) (d:Nat) (v:AV) (t:Nat):AB F (some d) v t=if t=d then v else F t:=rfl
attribute [simp] Int.toNat_natCast List.getElem?_cons_zero List.getElem?_cons_succ
@[simp] theorem l8 {a b:Int} (h:0<=a):a.tmod b=a%b:=Int.tmod_eq_emod_of_nonneg h
@[simp] theorem l9 {a b:Int} (h:0<=a):a.tdiv b=a/b:=Int.tdiv_eq_ediv_of_nonneg h
@[simp] theorem ma {a b:Int} (h:0<=b):a.fdiv b=a/b:=Int.fdiv_eq_ediv_of_nonneg a h
section
variable {a b:Int} {m n:Nat}
@[simp] theorem mb (h:a<b):decide (a<b)=true:=by simp[h]
@[simp] theorem mc (h:b<=a):decide (a<b)=false:=Ao
@[simp] theorem md (h:a<=b):decide (a<=b)=true:=by simp[h]
@[simp] theorem me (h:b<a):decide (a<=b)=false:=Ao
@[simp] theorem mf (h:m<n):decide (m<n)=true:=by simp[h]
@[simp] theorem mg (h:n<=m):decide (m<n)=false:=Ao
@[simp] theorem mh (h:m<=n):decide (m<=n)=true:=by simp[h]
@[simp] theorem n4 (h:a≠b):decide (a=b)=false:=by simp[h]
@[simp] theorem n5 (h:m≠n):decide (m=n)=false:=by simp[h]
end
@[simp] theorem iP (n:Nat):(n<=maxLen)=(n<=9223372036854775807):=rfl
@[simp] theorem jH {α:Type} {m n:Nat} {a b:α} (h:m<=n):(if m<=n then a else b)=a:=zP h
@[simp] theorem mi (T:Nat->Option TI) (t:Nat) (a b:Bool):GN T .eql t (.bool a) (.bool b)=(match Ax T t with| .bool=>some (.bool (decide (a=b))) |_=>none):=by
  unfold GN;cases Ax T t<;>rfl
@[simp] theorem mj (T:Nat->Option TI) (t:Nat) (a b:Bool):GN T .neq t (.bool a) (.bool b)=(match Ax T t with| .bool=>some (.bool (!decide (a=b))) |_=>none):=by
  unfold GN;cases Ax T t<;>rfl
@[simp] theorem iQ {α:Type} {a b c d:Int} {x y:α} (h1:a<=b) (h2:c<=d):(if a<=b/\c<=d then x else y)=x:=zP ⟨h1,h2⟩
@[simp] theorem jI {α:Type} {a b:Int} {x y:α} (h1:a<=b):(if a<=b then x else y)=x:=zP h1
section
variable {P:Program} {T:Nat->Option TI} {p:Nat} {F:Fr} {M:List Ag} {Q:Cj}
def RJ (T:Nat->Option TI) (rs:List ResultVar) (p d:Nat) (F:Fr) (M:List Ag) (K:AV->List Ag->Prop):Prop:=
 match PA T M F rs with
 |some r0=>match MW d M r0 with
  |some q=>p<=M.length/\(q.2.take p).all Ot=true/\K q.1 (q.2.take p)
  |none=>False
 |none=>False
theorem CA {rs:List ResultVar} {d:Nat} {K:AV->List Ag->Prop} (h:RJ T rs p d F M K):Rx T rs p K F M:=by
 unfold RJ at h;split at h
 .rename_i r0 h0;split at h
  .rename_i q hq;exact⟨r0,d,q.1,q.2,h0,hq,h⟩
  .exact h.elim
 .exact h.elim
theorem Fw {rs:List ResultVar} {q:Nat} {K:AV->List Ag->Prop} (d:Nat) (h:RJ T rs q d F M K):Fo T rs q K .normal F M:=CA h
@[simp] theorem Va (t:Nat):fr [] t= .any:=rfl
@[simp] theorem Nx (a:Nat) (v:AV) (S:List (Nat×AV)) (t:Nat):fr ((a,v)::S) t=if t=a then v else fr S t:=rfl
theorem BN (K:Fr->List Ag->Prop):DR K Q .normal F M=K F M:=rfl
theorem B6 (K:Fr->List Ag->Prop):DR K Q .ret F M=Q .ret F M:=rfl
theorem Cn (K:Fr->List Ag->Prop) (i:Nat):DR K Q (.exit i) F M=Q (.exit i) F M:=rfl
theorem CB (i:Nat):Jp i Q .normal F M=Q .normal F M:=rfl
theorem C0 (i:Nat):Jp i Q .ret F M=Q .ret F M:=rfl
theorem CC (i j:Nat):Jp i Q (.exit j) F M=if j=i then Q .normal F M else Q (.exit j) F M:=rfl
theorem CM (rs:List ResultVar) (q:Nat) (K:AV->List Ag->Prop):Fo T rs q K .ret F M=Rx T rs q K F M:=rfl
theorem uk {f:Nat} {fn:Func} {c:Code} {args:List AV} {Q:AV->List Ag->Prop} (rs:List ResultVar) (tk:BQ P T) (hf:P.funcs[f]?=some fn) (hb:fn.body=some c) (hname:(fn.name== "runtime.NumGoroutine")=false)
 (hc:CL fn.ntmps c=true) (hl:args.length<=fn.ntmps) (hrs:fn.results.toList=rs) (hr:rs.all (KQ fn.ntmps)=true) (h:W P T M.length c (Ey args) M (Fo T rs M.length Q)):Ac P f args M Q:=
 uj tk hf hb hname hc hl (by rw[hrs];exact hr) (by rw[hrs];exact h)
end
@[simp] theorem nh:tf .any=true:=rfl
@[simp] theorem ml (b:Bool):tf (.bool b)=true:=rfl
@[simp] theorem nj (k:IntKind) (n:Int):tf (.int k n)=true:=rfl
@[simp] theorem nk (b:ByteArray):tf (.str b)=true:=rfl
@[simp] theorem mn:tf .nilp=true:=rfl
@[simp] theorem oe (n:Nat) (xs:List AV):tf (.ro n xs)=true:=rfl
@[simp] theorem nl (s n:Nat) (xs:List AV):tf (.own s n xs)=true:=rfl
@[simp] theorem nm (a b c e f:Nat):tf (.tok a b c e f)=false:=rfl
@[simp] theorem np (a b c:Nat):tf (.ptr a b c)=false:=rfl
@[simp] theorem mo (xs:List AV):tf (.rptr xs)=true:=rfl
@[simp] theorem mq (xs:List AV):tf (.optr xs)=true:=rfl
@[simp] theorem og (f:Nat) (xs:List AV):tf (.fn f xs)=xs.isEmpty:=rfl
@[simp] theorem nq (xs:List AV):tf (.agg xs)=false:=rfl
@[simp] theorem nr (xs:List AV):tf (.tup xs)=false:=rfl
def E0 (xs:List AV):Bool:=xs.all tf
@[simp] theorem LZ (xs:List AV):xs.all tf=E0 xs:=rfl
@[simp] theorem mr:E0 []=true:=rfl
@[simp] theorem jJ (x:AV) (xs:List AV):E0 (x::xs)=(tf x&&E0 xs):=rfl
@[simp] theorem T6 (k:Nat):∀(xs ys:List AV),D5 k (xs++ys)=(D5 k xs&&D5 k ys)
  | [],ys=>by simp[D5]
  |x::xs,ys=>by simp[D5,T6 k xs ys,Bool.and_assoc]
attribute [simp] Iz D5 EP C6 Gd JB CV P2 EQ T0 Lz LR KT Ot MX MW MV Jy Jz PA JA RJ AA NW
@[simp] theorem nt (M:List Ag) (xs:List AV):vw M (.agg xs)= .agg (xs.map (CV M 3)):=rfl
@[simp] theorem oh (M:List Ag) (f:Nat) (xs:List AV):vw M (.fn f xs)= .fn f (xs.map (CV M 3)):=rfl
@[simp] theorem ol (M:List Ag) (n:Nat) (xs:List AV):vw M (.ro n xs)= .ro n xs:=rfl
@[simp] theorem nu (M:List Ag) (k:IntKind) (n:Int):vw M (.int k n)= .int k n:=rfl
@[simp] theorem ms (M:List Ag) (b:Bool):vw M (.bool b)= .bool b:=rfl
@[simp] theorem nw (M:List Ag) (b:ByteArray):vw M (.str b)= .str b:=rfl
@[simp] theorem nx (M:List Ag) (t v s o n:Nat):vw M (.tok t v s o n)=CV M 3 (.tok t v s o n):=rfl
@[simp] theorem ny (M:List Ag) (t v o:Nat):vw M (.ptr t v o)=CV M 3 (.ptr t v o):=rfl
@[simp] theorem mu (M:List Ag) (xs:List AV):vw M (.rptr xs)= .rptr xs:=rfl
@[simp] theorem gw (M:List Ag) (t v s o n:Nat):KN 0 M (.tok t v s o n)=Jz (λM ys=>if ys.all tf then some (ys,M) else none) M (.tok t v s o n):=rfl
theorem Vb:KN 0=Jz λM ys=>if ys.all tf then some (ys,M) else none:=rfl
attribute [simp] Vb
theorem Yq (T:Nat->Option TI) (op:BinOp) (t:Nat) (xs ys:List AV):GN T op t (.agg xs) (.agg ys)=match T t with
 |some i=>if i.cmp=true/\i.agg=true then match A7 i.zero xs ys with
  |some r=>match op with
   | .eql=>some (.bool r)
   | .neq=>some (.bool !r)
   |_=>none
  |none=>none else none
 |none=>none:=rfl
theorem Vc (k:IntKind) (n a b:Int) (zs xs ys:List AV):A7 (.int k n::zs) (.int k a::xs) (.int k b::ys)=match A7 zs xs ys with|some r=>some (decide (a=b)&&r) |none=>none:=by simp[A7,Kf,IE];rfl
theorem Tv (n a b:Bool) (zs xs ys:List AV):A7 (.bool n::zs) (.bool a::xs) (.bool b::ys)=match A7 zs xs ys with|some r=>some (decide (a=b)&&r) |none=>none:=by simp[A7,Kf,IE];rfl
theorem Vd (n a b:ByteArray) (zs xs ys:List AV):A7 (.str n::zs) (.str a::xs) (.str b::ys)=match A7 zs xs ys with|some r=>some (decide (a=b)&&r) |none=>none:=by simp[A7,Kf,IE];rfl
theorem Ve:A7 [] [] []=some true:=rfl
attribute [simp] Yq Vc Tv Vd Ve
def Ab (xs:List Int):List AV:=xs.map (AV.int .i64)
section
variable (xs ys:List Int) (M:List Ag) (k:Nat)
@[simp] theorem jK (i:Nat):(Ab xs)[i]?=(xs[i]?).map (AV.int .i64):=by simp[Ab]
@[simp] theorem Yr:(Ab xs).length=xs.length:=by simp[Ab]
@[simp] theorem jL:Ab []=[]:=rfl
theorem P6 (x:Int):Ab (x::xs)= .int .i64 x::Ab xs:=rfl
theorem B5:Ab (xs++ys)=Ab xs++Ab ys:=by simp[Ab]
@[simp] theorem L0:(Ab xs).take k=Ab (xs.take k):=by simp[Ab,List.map_take]
@[simp] theorem iR:(Ab xs).drop k=Ab (xs.drop k):=by simp[Ab,List.map_drop]
@[simp] theorem mv:LA (Ab xs)=true:=by simp[Ab,LA,-Wp]
@[simp] theorem mw:E0 (Ab xs)=true:=by simp[Ab,E0,-LZ]
@[simp] theorem my:D5 k (Ab xs)=true:=by induction xs<;>simp_all[Ab]
@[simp] theorem jM:C6 (Ab xs)=true:=by induction xs<;>simp_all[Ab]
@[simp] theorem jN:JB (Ab xs)=Ab xs:=by induction xs<;>simp_all[Ab]
@[simp] theorem jO:(Ab xs).map (CV M k)=Ab xs:=by cases k<;>simp[Ab]
end
def Dt:List Nat->Nat->Option Nat
 | [],_=>none
 |t::ts,T=>if t=T then some 0 else match Dt ts T with|some i=>some (i+1) |none=>none
theorem HE:∀{Ts:List Nat} {T i:Nat},Dt Ts T=some i->Ts[i]?=some T
 | [],_,_,h=>by simp[Dt] at h
 |t::ts,T,i,h=>by
  simp only[Dt] at h;split at h
  .rename_i e;simp at h;subst h;simp[e]
  .split at h
   .rename_i j hj;simp at h;subst h;simpa using HE hj
   .simp at h
theorem L1:∀{Ts:List Nat} {T:Nat},Dt Ts T=none->T ∉ Ts
 | [],_,_=>zS
 |t::ts,T,h=>by
  simp only[Dt] at h;split at h
  .simp at h
  .rename_i hne;split at h
   .simp at h
   .rename_i hj;simp only[vL,not_or];exact⟨λe=>hne e.symm,L1 hj⟩
theorem NX:∀{Ts:List Nat} {T i:Nat},Ts.Nodup->Ts[i]?=some T->Dt Ts T=some i
 | [],_,_,_,h=>by simp at h
 |t::ts,T,0,_,h=>by simp at h;simp[Dt,h]
 |t::ts,T,i+1,hn,h=>by
  have h' :ts[i]?=some T:=by simpa using h
  rw[List.nodup_cons] at hn;have:¬t=T:=λe=>hn.1 (e ▸ vo h');simp[Dt,this,NX hn.2 h']
theorem aT {Ts:List Nat} {T i:Nat} (h:Dt Ts T=some i):T∈Ts:=vo (HE h)
theorem I6 {Ts:List Nat} {T:Nat} (h:T ∉ Ts):Dt Ts T=none:=by
 cases e:Dt Ts T with
 |none=>rfl
 |some i=>exact absurd (aT e) h
def HV:List Ag->List Nat->List Ag
 |M,[]=>M
 |M,T::Ts=>HV (M.set T .dead) Ts
theorem P7:∀(Ts:List Nat) (M:List Ag),(HV M Ts).length=M.length
 | [],M=>rfl
 |T::Ts,M=>by rw[HV,P7 Ts];simp
theorem P8:∀(Ts:List Nat) (M:List Ag) (T:Nat),(HV M Ts)[T]?=if T∈Ts then(match M[T]? with|some _=>some .dead|none=>none) else M[T]?
 | [],M,T=>by simp[HV]
 |t::Ts,M,T=>by
  rw[HV,P8 Ts];by_cases e:T=t
  .subst e;by_cases hl:T<M.length
   .simp[hl]
   .simp[hl]
  .have:¬t=T:=λh=>e h.symm;simp[e,this]
def GD:List Ag->List Nat->List Ag->List Ag
 |M,T::Ts,B::Bs=>GD (M.set T B) Ts Bs
 |M,_,_=>M
theorem Id:∀(Ts:List Nat) (Bs M:List Ag),(GD M Ts Bs).length=M.length
 | [],_,M=>by simp[GD]
 |T::Ts,[],M=>by simp[GD]
 |T::Ts,B::Bs,M=>by rw[GD,Id Ts];simp
theorem L2:∀(Ts:List Nat) (Bs M:List Ag) (T:Nat),Ts.Nodup->Ts.length=Bs.length->(∀T∈Ts,T<M.length)->(GD M Ts Bs)[T]?=match Dt Ts T with|some i=>Bs[i]?|none=>M[T]?
 | [],_,M,T,_,_,_=>by simp[GD,Dt]
 |t::Ts,[],M,T,_,h,_=>by simp at h
 |t::Ts,B::Bs,M,T,hn,h,hl=>by
  rw[List.nodup_cons] at hn;rw[GD,L2 Ts Bs _ T hn.2 (by simpa using h) (λT h=>by simp;exact hl T (by simp[h]))];by_cases e:t=T
  .subst e;rw[I6 hn.1];simp[Dt,hl t zS]
  .simp only[Dt,e,if_false];cases Dt Ts T with
   |none=>simp[e]
   |some i=>simp
def RK (Ts:List Nat) (M:List Ag):AV->AV
 | .tok T v s off n=>match Dt Ts T with|some i=> .tok i v s off n|none=>CV M 3 (.tok T v s off n)
 | .ptr T v off=>match Dt Ts T with|some i=> .ptr i v off|none=>CV M 3 (.ptr T v off)
 |x=>CV M 3 x
def nv (Ts:List Nat) (M:List Ag):AV->AV
 | .agg xs=> .agg (xs.map (RK Ts M))
 | .fn f cs=> .fn f (cs.map (RK Ts M))
 | .tup _=> .any
 |x=>RK Ts M x
def Oz:Ag->Bool
 | .live _ cs=>cs.all tf&&C6 cs
 |_=>true
section
variable {P:Program} {f:Nat} {M cM:List Ag} {args cargs:List AV} {K:AV->List Ag->Prop} {Q:AV->List Ag->Prop}
theorem Wq {w:World} {sh shB:Nat->Prop} {σ cσ:Nat->Nat->Option St} {oth:Nat->Option Nat} {Ts:List Nat} (m:Cp w sh σ oth M) (hs:∀g,sh g->shB g) (ho:∀g,oth g≠none->g<w.heap.size->shB g)
 (hc:∀T i,Dt Ts T=some i->∀v,cσ i v=σ T v) {x:AV} {v:Value} (h:VR w sh σ x v (λ_=>0)):VR w shB cσ (RK Ts M x) v (λ_=>0):=by
 have base:VR w shB cσ (CV M 3 x) v (λ_=>0):=VR.up cσ (Ov m hs ho 3 x v _ h (λg hg=>absurd rfl hg));unfold RK;split
 .rename_i T u s off n;split
  .rename_i i hi;simp only[VR] at h |-;rw[hc T i hi];exact h
  .exact base
 .rename_i T u off;split
  .rename_i i hi;simp only[VR] at h |-;rw[hc T i hi];exact h
  .exact base
 .exact base
theorem ZK {w:World} {sh shB:Nat->Prop} {σ cσ:Nat->Nat->Option St} {oth:Nat->Option Nat} {Ts:List Nat} (m:Cp w sh σ oth M) (hs:∀g,sh g->shB g) (ho:∀g,oth g≠none->g<w.heap.size->shB g)
 (hc:∀T i,Dt Ts T=some i->∀v,cσ i v=σ T v) {x:AV} {v:Value} (h:VR w sh σ x v (λ_=>0)):VR w shB cσ (nv Ts M x) v (λ_=>0):=by
 have hmap:=F6 (w:=w) (sh:=sh) (shB:=shB) (σ:=σ) (τ:=cσ) (f:=RK Ts M) (p:=λfp=>∀g,fp g=0) (λa b c hc e=>⟨λg=>by have:=e g;have:=hc g;omega,λg=>by have:=e g;have:=hc g;omega⟩) (λx v fp h hf=>by
  have:fp=λ_=>0:=funext hf;subst this;exact Wq m hs ho hc h)
 unfold nv;split
 .simp only[VR] at h |-;obtain⟨cs,e,hv⟩:=h;exact⟨cs,e,hmap _ _ _ hv zL⟩
 .simp only[VR] at h |-;obtain⟨h0,cs,e,hv⟩:=h;exact⟨λ_=>trivial,cs,e,hmap _ _ _ hv zL⟩
 .exact λ_=>rfl
 .exact Wq m hs ho hc h
theorem sZ (Ts:List Nat) (spec:Ac P f cargs cM Q) (hnd:Ts.Nodup) (hT:(Ts.map λT=>M[T]?)=cM.map some) (hb:cM.all Ot=true) (hargs:args.map (nv Ts (HV M Ts))=cargs)
 (hk:∀r M',Q r M' ->M'.length=cM.length->EP r=true/\M'.all Oz=true/\K (EQ M.length r).1 (GD M Ts M' ++(EQ M.length r).2)):Ad P f args M K:=by
 intro C hC;subst hC;refine⟨spec.1,λF a w σ own vals R hv=>?_⟩;have hlen:Ts.length=cM.length:=by have:=congrArg List.length hT;simpa using this
 have hTi:∀i T:Nat,Ts[i]?=some T->∃B,M[T]?=some B/\cM[i]?=some B:=by
  intro i T h;have h1:(Ts.map λT=>M[T]?)[i]?=(cM.map some)[i]?:=by rw[hT]
  simp only[wa,h,vI] at h1;cases hc:cM[i]? with
  |none=>rw[hc] at h1;simp at h1
  |some B=>rw[hc] at h1;simp at h1;exact⟨B,h1,rfl⟩
 have hTl:∀T∈Ts,T<M.length:=λT h=>by
  obtain⟨i,hi⟩:=List.mem_iff_getElem?.1 h;obtain⟨B,hB,_⟩:=hTi i T hi;rcases uY T M.length with h|h
  .exact h
  .simp[uR h] at hB
 let oth:Nat->Option Nat:=λg=>match own g with|some T=>if T∈Ts then none else some T|none=>none
 let shB:Nat->Prop:=λg=>C.sh g\/(oth g≠none/\g<w.heap.size);let cσ:Nat->Nat->Option St:=λi v=>match Ts[i]? with|some T=>σ T v|none=>none
 let cown:Nat->Option Nat:=λg=>match own g with|some T=>Dt Ts T|none=>none
 have hcσ:∀T i,Dt Ts T=some i->∀v,cσ i v=σ T v:=λT i h v=>by simp only[cσ,HE h]
 have oth_some:∀g T,own g=some T->T ∉ Ts->oth g=some T:=λg T h1 h2=>by simp only[oth,h1,h2,if_false]
 have mD:Cp w C.sh σ oth (HV M Ts):=by
  refine⟨λT B hB=>?_,λT v hT' =>R.mem.key T v (by rw[P7] at hT';exact hT')⟩;rw[P8] at hB;split at hB
  .split at hB
   .simp at hB;subst hB;exact⟨λ_=>0,λ_=>rfl,λ_=>vn _⟩
   .simp at hB
  .rename_i hTn;obtain⟨fp,b1,b2⟩:=R.mem.blk T B hB;refine⟨fp,b1,λg=>?_⟩;have:=b2 g;split at this
   .rename_i e;rw[zP (oth_some g T e hTn)];exact this
   .omega
 have hv' :AI w shB cσ cargs vals.toList (λ_=>0):=by
  rw[<-hargs];have:=F6 (w:=w) (sh:=C.sh) (shB:=shB) (σ:=σ) (τ:=cσ) (f:=nv Ts (HV M Ts)) (p:=λfp=>∀g,fp g=0) (λa b c hc e=>⟨λg=>by have:=e g;have:=hc g;omega,λg=>by have:=e g;have:=hc g;omega⟩) (λx v fp h hf=>by
   have:fp=λ_=>0:=funext hf;subst this;exact ZK mD (λg hg=> .inl hg) (λg hg hlt=> .inr ⟨hg,hlt⟩) hcσ h)
  exact this _ _ _ hv zL
 have hsub:Ci w w C.sh shB cσ cσ:=⟨λ_ _=>rfl,λ_ h=> .inl h,λ_ _ _ h=> .inl h⟩;have mC:Cp w shB cσ cown cM:=by
  refine⟨λi B hB=>?_,λi v hi=>?_⟩
  .have hi:i<Ts.length:=by
    rcases uY i cM.length with h|h
    .omega
    .simp[uR h] at hB
   have hget:Ts[i]?=some Ts[i]:=List.getElem?_eq_getElem hi;obtain⟨B',hM,hc⟩:=hTi i _ hget;rw[hc] at hB;simp at hB;subst hB;have hix:=NX hnd hget;have hk' :∀v,cσ i v=σ Ts[i] v:=hcσ _ _ hix;obtain⟨fp,b1,b2⟩:=R.mem.blk _ _ hM;refine⟨fp,?_,λg=>?_⟩
   .have htf:=u1.1 hb _ (vo hc);cases B' with
    |free=>exact⟨λv=>by rw[hk'];exact b1.1 v,b1.2⟩
    |dead=>exact b1
    |live u cs=>
     obtain⟨c0,b1⟩:=b1;refine⟨λu' hu=>by rw[hk'];exact c0 u' hu,?_⟩;rcases b1 with⟨c1,c2,c3⟩ | ⟨hh,b,cur,e',fp',c1,c2,c3,c4,c5⟩
     .exact .inl ⟨by rw[hk'];exact c1,c2,c3⟩
     .exact .inr ⟨hh,b,cur,e',fp',by rw[hk'];exact c1,c2,c3,AI.later hsub _ _ _ (λ_ _=>rfl) (Ib cσ htf c4),c5⟩
   .have:=b2 g;split at this
    .rename_i e;have:cown g=some i:=by simp only[cown,e];exact hix
     rw[zP this];assumption
    .omega
  .have:Ts[i]?=none:=uR zO;simp only[cσ,this]
 have hshc:∀g,shB g->cown g=none/\g<w.heap.size:=by
  intro g hg;rcases hg with hg| ⟨hg,hlt⟩
  .have:=R.shr g hg;exact⟨by simp only[cown,this.1],this.2⟩
  .refine⟨?_,hlt⟩;cases e:own g with
   |none=>simp only[cown,e]
   |some T=>
    have:T ∉ Ts:=λh=>hg (by simp only[oth,e,h,if_true]);simp only[cown,e];exact I6 this
 refine(spec.2 w shB cσ cown vals hv' mC hshc).mono ?_;rintro e w' ⟨r,v,M',σ',own',fpr,rfl,hq,hl,hr,hf,hm,hsn,he,hlt⟩;obtain⟨hrof,hbo,hK⟩:=hk r M' hq hl;let σ2:Nat->Nat->Option St:=λT v=>match Dt Ts T with|some i=>σ' i v|none=>σ T v
 let own2:Nat->Option Nat:=λg=>match own' g with|some i=>if i<cM.length then Ts[i]? else none|none=>if g<w.heap.size then oth g else none
 have L:Ci w w' C.sh C.sh σ σ2:=by
  refine⟨λg hg=>hlt.ro g (.inl hg),λ_ h=>h,λT v st h=>?_⟩;cases e:Dt Ts T with
  |none=>exact .inl (by simp only[σ2,e];exact h)
  |some i=>
   simp only[σ2,e];exact hlt.key i v st (by rw[hcσ T i e];exact h)
 have hothn:∀g T,own g=some T->T ∉ Ts->g<w.heap.size->own' g=none/\own2 g=some T:=λg T h1 h2 h3=>by
  have:=hsn g (.inr ⟨by rw[oth_some g T h1 h2];simp,h3⟩);exact⟨this,by simp only[own2,this,h3,if_true];exact oth_some g T h1 h2⟩
 have hown2:∀g,own2 g≠none->own g≠none\/w.heap.size<=g:=by
  intro g hg;cases e:own' g with
  |none=>
   simp only[own2,e] at hg;split at hg
   .left;intro e2;simp only[oth,e2] at hg;exact hg rfl
   .exact absurd rfl hg
  |some i=>
   rcases he.own g (by rw[e];simp) with h|h
   .left;intro e2;simp only[cown,e2] at h;exact h rfl
   .exact .inr h
 have R1:AS C F (GD M Ts M') a w' σ2 own2:=by
  refine⟨R.size,R.dfr,λt ht=>VR.later L _ _ _ (λ_ h=>absurd rfl h) (R.tmp t ht),⟨λT B hB=>?_,λT v hT' =>?_⟩,λg hg=>?_,?_,R.keyl L⟩
  .rw[L2 Ts M' M T hnd zO hTl] at hB;cases hix:Dt Ts T with
   |some i=>
    rw[hix] at hB;simp only at hB;obtain⟨fp,b1,b2⟩:=hm.blk i B hB;have hiM:i<cM.length:=by
     rcases uY i M'.length with h|h
     .omega
     .simp[uR h] at hB
    have hk' :∀v,σ2 T v=σ' i v:=λv=>by simp only[σ2,hix]
    refine⟨fp,?_,λg=>?_⟩
    .have hbk:=u1.1 hbo _ (vo hB);cases B with
     |free=>exact⟨λv=>by rw[hk'];exact b1.1 v,b1.2⟩
     |dead=>exact b1
     |live u cs=>
      simp only[Oz,uU] at hbk;obtain⟨c0,b1⟩:=b1;refine⟨λu' hu=>by rw[hk'];exact c0 u' hu,?_⟩;rcases b1 with⟨c1,c2,c3⟩ | ⟨hh,b,cur,e',fp',c1,c2,c3,c4,c5⟩
      .exact .inl ⟨by rw[hk'];exact c1,c2,c3⟩
      .exact .inr ⟨hh,b,cur,e',fp',by rw[hk'];exact c1,c2,c3,G9 _ _ _ hbk.2 (Ib σ2 hbk.1 c4),c5⟩
    .have:=b2 g;split at this
     .rename_i e;have:own2 g=some T:=by simp only[own2,e,hiM,if_true];exact HE hix
      rw[zP this];assumption
     .omega
   |none=>
    rw[hix] at hB;simp only at hB;have hTn:=L1 hix;obtain⟨fp,b1,b2⟩:=R.mem.blk T B hB;have hsome:∀g,fp g≠0->own g=some T/\g<w.heap.size:=λg hg=>by
     have:=b2 g;split at this
     .rename_i e;exact⟨e,KJ b1 g hg⟩
     .omega
    refine⟨fp,EO L (λg hg=>?_) (λv=>by simp only[σ2,hix]) b1,λg=>?_⟩
    .obtain⟨h1,h2⟩:=hsome g hg;exact hlt.ro g (.inr ⟨by rw[oth_some g T h1 hTn];simp,h2⟩)
    .by_cases h0:fp g=0
     .rw[h0];exact vn _
     .obtain⟨h1,h2⟩:=hsome g h0;rw[zP (hothn g T h1 hTn h2).2];have:=b2 g;rw[zP h1] at this;exact this
  .rw[Id] at hT';have:Dt Ts T=none:=I6 λh=>by have:=hTl T h;omega
   simp only[σ2,this];exact R.mem.key T v hT'
  .have h1:=R.shr g hg;have h2:=hsn g (.inl hg);have:=he.size;refine⟨?_,zO⟩;simp only[own2,h2,h1.2,if_true,oth,h1.1]
  .refine R.ext.trans ⟨he.os,he.tape,he.output,he.size,λg hg ho=>he.block g hg (by simp only[cown,ho]),hown2⟩
 obtain⟨σ3,own3,R3,r3,_,_⟩:=RB C F _ a w' σ2 own2 r v fpr R1 (LQ r v fpr hrof hr) (λg=>by have:=hf g;split at this<;>omega) (λg hg=>by
  have h1:own' g=some cM.length:=by
   have:=hf g;split at this
   .assumption
   .omega
  refine⟨by simp only[own2,h1,Nat.lt_irrefl,if_false],λhs=>?_,?_⟩
  .have:=hsn g (.inl hs);rw[h1] at this;simp at this
  .rcases he.own g (by rw[h1];simp) with h|h
   .have:own g≠none:=by
     intro e2;simp only[cown,e2] at h;exact h rfl
    exact R.ext.own g this|>.imp id (λh=>h)
   .exact .inr (by have:=R.ext.size;omega))
 rw[Id] at R3 r3;exact⟨_,v,_,σ3,own3,rfl,hK,R3,r3⟩
end
attribute [simp] Dt HV GD RK nv Oz
open Go.Sort
theorem P9 {w:World} {sh:Nat->Prop} {σ:Nat->Nat->Option St}:∀{xs:List Int} {vs:List Value} {fp:Nat->Nat},AI w sh σ (Ab xs) vs fp->vs=xs.map (Value.int .i64)/\∀g,fp g=0
 | [],vs,fp,h=>⟨h.1,h.2⟩
 |x::xs,vs,fp,h=>by
  simp only[P6,AI] at h;obtain⟨v,rest,f1,f2,rfl,h1,h2,hf⟩:=h;obtain⟨rfl,h3⟩:=P9 h2;obtain⟨rfl,h4⟩:=h1;exact⟨rfl,λg=>by rw[hf,h3,h4]⟩
theorem L3 {w:World} {sh:Nat->Prop} {σ:Nat->Nat->Option St}:∀(xs:List Int),AI w sh σ (Ab xs) (xs.map (Value.int .i64)) (λ_=>0)
 | []=>⟨rfl,λ_=>rfl⟩
 |x::xs=>⟨_,_,_,_,rfl,⟨rfl,λ_=>rfl⟩,L3 xs,λ_=>rfl⟩
theorem Tw {P:Program} {f:Nat} (hc:KP P f) (h:∀(blk off cap:Nat) (zs:List Int) (w:World),Holds (Value.int .i64) w blk off zs.toArray->blk<w.heap.size->zs.length<4611686018427387904->
 Calls P f #[.slice (some ⟨blk,off,none⟩) zs.length cap] w λe w' =>e= .returned (.tuple #[])/\∃n os,w' =grow (putRow (Value.int .i64) (Sort.ahead w n) blk off (zs.mergeSort λx y=>decide (x<=y)).toArray) os)
 (xs:List Int) (v:Nat) (hx:xs.length<4611686018427387904) (hn:0<xs.length):Ac P f [.tok 0 v 1 0 xs.length] [.live v (Ab xs)] (λr M=>r= .tup []/\M=[.live v (Ab (xs.mergeSort λx y=>decide (x<=y)))]):=by
 refine⟨hc,λw sh σ own vals hv m hs=>?_⟩;simp only[AI] at hv;obtain⟨x,rest,f1,f2,he,h1,⟨h2,_⟩,hf⟩:=hv;have e1:f1=λ_=>0:=Gc λg=>by have:=hf g;omega
 subst e1 h2;have hb:Ah [Ag.live v (Ab xs)] 0 v=some (Ab xs):=by simp[Ah]
 obtain⟨hh,b,cur,e,c,rfl,hnc,hcm,hcz,hst,how,hheap,hbl,_⟩:=G7 m hb h1 hn;obtain⟨_,fp,hB,hfp⟩:=Cv m hb;obtain⟨hver,hB⟩:=hB;have hlen:(Ab xs).length=xs.length:=zS;rcases hB with⟨h3,_⟩ | ⟨hh',b',cur',e',fp',g1,g2,g3,g4,g5⟩
 .rw[hst] at h3;simp at h3
 rw[hst] at g1;simp at g1;obtain⟨rfl,rfl,_⟩:=g1;rw[hheap] at g2;simp at g2;obtain⟨rfl,rfl⟩:=g2;obtain⟨hvs,hz⟩:=P9 g4;rw[hlen] at g3 hvs;have hlt:hh<w.heap.size:=(vu.1 hheap).1;have hcell:∀j,j<xs.length->cur[b+j]?=(xs[j]?).map (Value.int .i64):=λj hj=>by
  have:=congrArg (λl=>l[j]?) hvs;simp only[vT,hj,if_true,vG,wa,vp] at this;exact this
 have hH:Holds (Value.int .i64) w hh b xs.toArray:=by
  intro j hj;have hj' :j<xs.length:=by simpa using hj
  refine⟨?_,by simp[World.frozen?,hheap]⟩;simp only[World.cell?,hheap,Option.isSome_none,vt,if_false];rw[hcell j hj'];simp[hj']
 have hvals:vals= #[.slice (some ⟨hh,b,none⟩) xs.length c]:=by
  apply Array.ext';rw[he];simp
 rw[hvals];refine(h hh b c xs w hH hlt hx).mono ?_;rintro _ w' ⟨rfl,n,os,rfl⟩;have hl2:(xs.mergeSort λx y=>decide (x<=y)).length=xs.length:=List.length_mergeSort _;generalize (xs.mergeSort λx y=>decide (x<=y))=ys at hl2 |-;have hheap2:(grow (putRow (Value.int .i64) (Sort.ahead w n) hh b ys.toArray) os).heap[hh]?=some (.cells (putCells (Value.int .i64) b ys.toArray cur) e (0,0)):=by
  rw[heap_grow_old _ _ (by simp[putRow,mapBlock,Sort.ahead];exact hlt)];simp[putRow,mapBlock,Sort.ahead,Array.getElem?_modify,hheap,onCells]
 have hother:∀k,k<w.heap.size->k≠hh->(grow (putRow (Value.int .i64) (Sort.ahead w n) hh b ys.toArray) os).heap[k]?=w.heap[k]?:=λk hk hne=>by
  rw[heap_grow_old _ _ (by simp[putRow,mapBlock,Sort.ahead];exact hk)];simp[putRow,mapBlock,Sort.ahead,Array.getElem?_modify,Ne.symm hne]
 have hshne:∀g,sh g->g≠hh/\g<w.heap.size:=λg hg=>⟨λe=>by have:=(hs g hg).1;rw[e,how] at this;simp at this,(hs g hg).2⟩;refine⟨.tup [],_,[.live v (Ab ys)],σ,own,λ_=>0,rfl,⟨rfl,rfl⟩,rfl,⟨#[],rfl,rfl,λ_=>rfl⟩,λ_=>vn _,⟨λT B hB=>?_,λT v hT=>m.key T v (by simpa using hT)⟩,λg hg=>(hs g hg).1,?_,?_⟩
 .cases T with
  |succ T=>simp at hB
  |zero=>
   simp at hB;subst hB;refine⟨fp,⟨hver,.inr ⟨hh,b,putCells (Value.int .i64) b ys.toArray cur,e,λ_=>0,?_,hheap2,?_,?_,λg=>?_⟩⟩,hfp⟩
   .rw[hst];simp[putCells]
   .simp[putCells];omega
   .have:((putCells (Value.int .i64) b ys.toArray cur).toList.drop b).take (Ab ys).length=ys.map (Value.int .i64):=by
     apply List.ext_getElem?;intro j;rw[show(Ab ys).length=ys.length by simp];by_cases hj:j<ys.length
     .rw[wd hj,vG,vp];simp[putCells,hj,show b+j<cur.size by omega]
     .rw[List.getElem?_take_eq_none zO,uR Ao]
    rw[this];exact L3 ys
   .rw[g5,hz]
 .refine⟨rfl,rfl,rfl,by simp[putRow,mapBlock,Sort.ahead],λg hg ho=>hother g hg (λe=>by rw[e,how] at ho;simp at ho),λg hg=> .inl hg⟩
 .exact⟨λg hg=>hother g (hshne g hg).2 (hshne g hg).1,λ_ h=>h,λT u st h=> .inl h⟩
theorem RL {P:Program} {f:Nat} (hc:KP P f) {k k2:IntKind} {n m:Int} (h:∀w,Calls P f #[.int k n] w λe w' =>e= .returned (.int k2 m)/\w' =w):Ac P f [.int k n] [] (λr _=>r= .int k2 m):=by
 refine⟨hc,λw sh σ own vals hv mm hs=>?_⟩;simp only[AI] at hv;obtain⟨x,rest,f1,f2,he,⟨rfl,_⟩,⟨h2,_⟩,hf⟩:=hv;subst h2;have hvals:vals= #[.int k n]:=by apply Array.ext';rw[he]
 rw[hvals];refine(h w).mono ?_;rintro _ w' ⟨rfl,rfl⟩;exact⟨_,_,[],σ,own,λ_=>0,rfl,rfl,rfl,⟨rfl,λ_=>rfl⟩,λ_=>vn _,mm,λg hg=>(hs g hg).1,GJ.refl _ _,λ_ _=>rfl,λ_ h=>h,λ_ _ _ h=> .inl h⟩
def Vf (a b:AV):Bool:=match ER a,ER b with
 |some p,some q=>p.1 !=q.1
 |_,_=>true
def J6:List (Nat×Nat)->Fr->Prop
 | [],_=>True
 |p::X,F=>Vf (F p.1) (F p.2)=true/\J6 X F
theorem RM {F:Fr}:∀{X:List (Nat×Nat)},J6 X F->∀p∈X,Vf (F p.1) (F p.2)=true
 |p::X,h,q,hq=>by
  rcases vL.1 hq with rfl|hq
  .exact h.1
  .exact RM h.2 q hq
def I7 (ops:Array Oper) (k a:Nat):Bool:=(ops.toList.drop k).all λo=> !(o.dst==some a)
def Vg (x:Operand) (p:Nat->Bool):Bool:=match x with| .tmp a=>p a|_=>true
def Vh (ops:Array Oper) (X:List (Nat×Nat)) (k:Nat) (ok:Oper) (i:Nat) (oi:Oper):Bool:=
 ok.apart ops oi&&(decide (1<=AR ok.op)&&decide (AR ok.op<=2))&&(decide (AR oi.op=4) ||decide (AR oi.op=5))&&
 ok.op.operands.toList.all (λx=>Vg x λa=>I7 ops k a&&oi.op.operands.toList.all λy=>Vg y λb=>X.contains (a,b)&&I7 ops i b)
def Kn (c:Nat->Oper->Nat->Oper->Bool) (ops:Array Oper):List Oper->List Nat->List (Nat×Oper)->Nat->Bool
 | [],_,_,_=>true
 |o::r,A,done,i=>Ow (LV A o) λm=>(Cz o).all (·<i)&&(done.all λp=>m.testBit p.1||c p.1 p.2 i o)&&Ow (i+1) λi' =>Kn c ops r (A++[m]) ((i,o)::done) i'
def cX (L:Bool) (X:List (Nat×Nat)) (ops:Array Oper) (k:Nat) (ok:Oper) (i:Nat) (oi:Oper):Bool:=Fp L ops ok oi||Vh ops X k ok i oi
def Vi (L:Bool) (X:List (Nat×Nat)) (l:List Oper):Bool:=Kn (cX L X l.toArray) l.toArray l [] [] 0&&l.all λo=>decide (AR o.op<=5)
section
variable {ops:Array Oper}
theorem I8 {c:Nat->Oper->Nat->Oper->Bool}:∀(r pre:List Oper) (A:List Nat) (done:List (Nat×Oper)),ops.toList=pre++r->A.length=pre.length->ZI ops A->(∀k o,ops[k]?=some o->k<pre.length->(k,o)∈done)->Kn c ops r A done pre.length=true->
 ∀(i k:Nat) (oi ok:Oper),ops[i]?=some oi->ops[k]?=some ok->pre.length<=i->(∀p∈Cz oi,p<i)/\(k<i->c k ok i oi=true\/∀S,J5 ops S->(∀p∈Cz oi,S p)->S k)
 | [],pre,A,done,ho,hA,hanc,hd,h,i,k,oi,ok,hi,hk,hle=>by
   exfalso;rw[<-vp,ho,List.append_nil,uR hle] at hi;simp at hi
 |o::r,pre,A,done,ho,hA,hanc,hd,h,i,k,oi,ok,hi,hk,hle=>by
  simp only[Kn,RF,uU] at h;obtain⟨⟨h1,h2⟩,h3⟩:=h;have hself:ops[pre.length]?=some o:=by rw[<-vp,ho];simp
  by_cases e:i=pre.length
  .subst e;rw[hself] at hi;simp at hi;subst hi;refine⟨λp hp=>by simpa using u1.1 h1 p hp,λhlt=>?_⟩;have:=u1.1 h2 _ (hd k ok hk hlt);simp only[wT] at this;rcases this with h|h
   .exact .inr λS hc hp=>hanc.mask h hc hp
   .exact .inl h
  .have:=I8 r (pre++[o]) (A++[LV A o]) ((pre.length,o)::done) (by simp[ho]) (by simp[hA]) ?_ ?_ (by simpa using h3) i k oi ok hi hk Ao
   .exact this
   .intro t m ht k hk S hc hp;by_cases et:t<A.length
    .rw[vk et] at ht;exact hanc t m ht k hk S hc hp
    .rw[vj zO] at ht;have et2:t=A.length:=by
      rcases uY (t-A.length) 1 with h|h
      .omega
      .rw[uR (by simpa using h)] at ht;simp at ht
     subst et2;simp at ht;subst ht;exact hanc.mask hk hc (hp o (by rw[hA];exact hself))
   .intro k o' hk hlt;simp at hlt;by_cases ek:k=pre.length
    .subst ek;rw[hself] at hk;simp at hk;subst hk;simp
    .exact List.mem_cons_of_mem _ (hd k o' hk zO)
theorem LB {k a:Nat} (h:I7 ops k a=true) {t:Nat} {o:Oper} (ht:k<=t) (ho:ops[t]?=some o):o.dst≠some a:=by
 have:=u1.1 h o (by
  rw[<-vp] at ho;refine vo (i:=t-k) ?_;rw[vG,show k+(t-k)=t by omega];exact ho)
 simpa using this
structure Vj (ops:Array Oper) (X:List (Nat×Nat)) (k:Nat) (ok:Oper) (i:Nat) (oi:Oper):Prop where
 ap:Ap ops ok oi
 c1:1<=AR ok.op
 c2:AR ok.op<=2
 cw:AR oi.op=4\/AR oi.op=5
 fk:∀a,Operand.tmp a∈ok.op.operands->∀b,Operand.tmp b∈oi.op.operands->(a,b)∈X/\I7 ops k a=true/\I7 ops i b=true
theorem Vk {X:List (Nat×Nat)} {k i:Nat} {ok oi:Oper} (h:Vh ops X k ok i oi=true):Vj ops X k ok i oi:=by
 simp only[Vh,uU,wT,decide_eq_true_eq] at h;obtain⟨⟨⟨h1,h2⟩,h3⟩,h4⟩:=h;refine⟨uq h1,h2.1,h2.2,h3,λa ha b hb=>?_⟩;have h5:=u1.1 h4 _ (by simpa using ha);simp only[Vg,uU] at h5;have h6:=u1.1 h5.2 _ (by simpa using hb);simp only[Vg,uU] at h6;exact⟨by simpa using h6.1,h5.1,h6.2⟩
end
section
variable {P:Program} {L:Bool} {n:Nat} {T:Nat->Option TI} {ops:Array Oper} {sl:Nat->Nat} {F:Fr} {M:List Ag} {K:Fr->List Ag->Prop} {o oi oj:Oper} {X:List (Nat×Nat)}
theorem PE (tk:BQ P T) (hops:∀(k:Nat) (o:Oper),ops[k]?=some o->Bx n o=true) (hc5:∀(k:Nat) (o:Oper),ops[k]?=some o->AR o.op<=5):∀(rem:List Nat) (F:Fr) (M:List Ag),CI T (Ai P L) ops sl rem F M K->Ds P n F M->
 ∃F' M',K F' M' /\∀d,(∀k∈rem,∀o,ops[k]?=some o->o.dst≠some d)->F' d=F d
 | [],F,M,h,_=>⟨F,M,h,λ_ _=>rfl⟩
 |i::rem,F,M,h,I=>by
  simp only[CI] at h;cases hi:ops[i]? with
  |none=>
   unfold CE at h;rw[hi] at h;obtain⟨F',M',hk,hf⟩:=PE tk hops hc5 rem F M h I;exact⟨F',M',hk,λd hd=>hf d λk hk o ho=>hd k (by simp[hk]) o ho⟩
  |some oi=>
   obtain⟨F1,M1,h1,⟨v,rfl⟩,_,I1⟩:=Hk tk hi (hops i oi hi) (hc5 i oi hi) h I;obtain⟨F',M',hk,hf⟩:=PE tk hops hc5 rem _ M1 h1 I1;refine⟨F',M',hk,λd hd=>?_⟩;rw[hf d λk hk o ho=>hd k (by simp[hk]) o ho];have:=hd i zS oi hi;cases hdst:oi.dst with
   |none=>rfl
   |some e=>
    have:¬d=e:=λh=>this (by rw[hdst,h]);simp[AB,Bu,this]
theorem T7 {x:Operand} {p:Nat×Nat} (h:ER (ev F x)=some p):∃a,x= .tmp a:=by
 cases x with
 |tmp t=>exact⟨t,rfl⟩
 |const c=>exfalso;simp only[ev] at h;unfold TO at h;split at h<;>simp[ER] at h
 |global g=>simp[ev,ER] at h
 |func f=>simp[ev,ER] at h
theorem aU {sj si:Nat} {v:AV} {Kj Kj' :Fr->List Ag->Prop} (hap:Ap ops oj oi) (hc:AR oj.op=4\/AR oj.op=5) (hd:D8 T ops oi si F M v none)
 (hsep:∀x∈oi.op.operands,∀y∈oj.op.operands,∀B u B' u',ER (ev F x)=some (B,u)->ER (ev F y)=some (B',u')->B≠B')
 (hk:∀F1 M1,D8 T ops oi si F1 M1 v none->Kj' (AB F1 oi.dst v) M1->Kj F1 M1) (h:Dv T (Ai P L) oj sj (AB F oi.dst v) M Kj'):Dv T (Ai P L) oj sj F M Kj:=by
 have hev:∀x∈oj.op.operands,ev (AB F oi.dst v) x=ev F x:=FK hap.symm;have hevi:∀u,∀x∈oi.op.operands,ev (AB F oj.dst u) x=ev F x:=λu=>FK hap;have hcomm:∀u,AB (AB F oi.dst v) oj.dst u=AB (AB F oj.dst u) oi.dst v:=λu=>(E6 hap.dd).symm;have hden:∀(u:AV) (B w:Nat) (b:Ag) (y:Operand),y∈oj.op.operands->ER (ev F y)=some (B,w)->D8 T ops oi si (AB F oj.dst u) (M.set B b) v none:=by
  intro u B w b y hy ht;refine hd.up' (Dw hap) (hevi u) (.inl ?_) (λh=>absurd rfl h);rw[Fh (hevi u)];refine Rb λx hx B' v' hx' =>?_;have hne:B≠B' :=λe=>hsep x hx y hy _ _ _ _ hx' ht e.symm;simp only[Ah,uN hne]
 unfold Dv at h |-;split at h<;>(rename_i hop)<;>(try (exfalso;rcases hc with e|e<;>(rw[hop] at e;simp[AR] at e);done))
 .rename_i t x y;simp only[hop,Op.operands] at hev;simp only[hop] at hden;simp only[hev x zS,hev y zS] at h;unfold Ht Lx Hl at h |-;split at h
  .rename_i i hi;split at h
   .rename_i B u off hx;split at h
    .rename_i cs hcs;simp only[hi,hcs];split at h
     .rename_i xs hxs;refine⟨h.1,hk _ _ (hden _ B u _ x (by simp[Op.operands]) (by rw[hx];rfl)) ?_⟩;rw[<-hcomm];exact h.2
     .exact h.elim
    .exact h.elim
   .exact h.elim
  .exact h.elim
 .rename_i args ts;split at h
  .rename_i x y t t' hx ht;have hxm:x∈args:=by rw[<-wq,hx];simp
   have hym:y∈args:=by rw[<-wq,hx];simp
   simp only[hop] at hev hden;simp only[hev x (by simp[Op.operands,Call.operands,hxm]),hev y (by simp[Op.operands,Call.operands,hym])] at h;cases hq:Ia T t t' (ev F y) with
   |none=>rw[hq] at h;exact h.elim
   |some pq=>
   obtain⟨y',pl⟩:=pq;rw[hq] at h;unfold Hz at h |-;simp only at h |-;unfold Jw Hl Hy at h |-;split at h
   .rename_i e es eb ez B u s' off n htd hxe;split at h
    .rename_i cs hcs;simp only[hcs];split at h
     .rename_i p hp;obtain⟨h1,h2,h3,h4,h5,h6,h7,h8,h⟩:=h;refine⟨h1,h2,h3,h4,h5,h6,h7,h8,hk _ _ (hden _ B u _ x (by simp[Op.operands,Call.operands,hxm]) (by rw[hxe];rfl)) ?_⟩;rw[<-hcomm];exact h
     .exact h.elim
    .exact h.elim
   .exact h.elim
  .exact h.elim
 .exfalso;rcases hc with e|e
  .obtain⟨t,x,y,e⟩:=RD e;simp_all
  .obtain⟨args,ts,e⟩:=PC e;simp_all
theorem T8 (tk:BQ P T) (hops:∀(k:Nat) (o:Oper),ops[k]?=some o->Bx n o=true) (hc5:∀(k:Nat) (o:Oper),ops[k]?=some o->AR o.op<=5) (hK:∀F M,K F M->J6 X F) {j:Nat} (hj:ops[j]?=some oj) (hcj:3<=AR oj.op) {post:List Nat}:∀(pre:List Nat) (F:Fr) (M:List Ag),
 (pre++j::post).Pairwise (·<·)->(∀i∈pre,∀oi,ops[i]?=some oi->Fp L ops oi oj=true\/Vj ops X i oi j oj)->Ds P n F M->CI T (Ai P L) ops sl (pre++j::post) F M K->CE T (Ai P L) ops sl j F M λF' M' =>CI T (Ai P L) ops sl (pre++post) F' M' K
 | [],F,M,_,_,_,h=>h
 |i::pre,F,M,hs,hc,I,h=>by
  have hs0:(i::(pre++j::post)).Pairwise (·<·):=hs;have hs' :=(vP.1 hs0).2;have hgt:=(vP.1 hs0).1;have ih:=λF M=>T8 tk hops hc5 hK hj hcj (post:=post) pre F M hs' (λk hk=>hc k (by simp[hk]));have h0:=h;simp only[vF,CI] at h |-;cases hi:ops[i]? with
  |none=>
   unfold CE at h;rw[hi] at h;have:∀F' M',CE T (Ai P L) ops sl i F' M' (λF' M' =>CI T (Ai P L) ops sl (pre++post) F' M' K)=CI T (Ai P L) ops sl (pre++post) F' M' K:=λF' M' =>by unfold CE;rw[hi]
   simp only[this];exact ih F M I h
  |some oi=>
   have hci:AR oi.op<=2:=by
    rcases hc i zS oi hi with hcm|hl
    .obtain⟨hap,hcc⟩:=E7 hcm;rcases hcc with h|h|h|h|h|h|h<;>omega
    .exact hl.c2
   have hap:Ap ops oi oj:=by
    rcases hc i zS oi hi with hcm|hl
    .exact(E7 hcm).1
    .exact hl.ap
   obtain⟨F1,M1,⟨vi,bi,hdi,rfl,rfl,hk⟩,_,_,I1⟩:=Hk (L:=L) (K:=λF' M' =>∃vi bi,D8 T ops oi (sl i) F M vi bi/\F' =AB F oi.dst vi/\M' =Cq M (sl i) bi/\CI T (Ai P L) ops sl (pre++j::post) F' M' K) tk hi (hops i oi hi) zO ((D3 hi hci).2 (by
    obtain⟨vi,bi,hdi,hk⟩:=(D3 hi hci).1 h;exact⟨vi,bi,hdi,vi,bi,hdi,rfl,rfl,hk⟩)) I
   have h2:=ih _ _ I1 hk;generalize hKK:(λF' M' =>CE T (Ai P L) ops sl i F' M' λF' M' =>CI T (Ai P L) ops sl (pre++post) F' M' K)=KK;rcases hc i zS oi hi with hcm|hl
   .obtain⟨_,hcc⟩:=E7 hcm;have hcj' :(AR oj.op=3/\(L=false\/Bh oi.op=false))\/(AR oj.op=4/\AR oi.op<=1)\/(AR oj.op=5/\AR oi.op=0):=by
     rcases hcc with h|h|h|h|h|h|h
     .omega
     .omega
     .omega
     .omega
     .exact .inl ⟨h.1,h.2.2⟩
     .exact .inr (.inl h)
     .exact .inr (.inr h)
    unfold CE at h2 |-;simp only[hj] at h2 |-;rw[Dw hap] at h2;split at h2
    .refine Wc hap.symm hcj' (hops j oj hj) I hdi (λF1 M1 hd1 hk1=>?_) h2;rw[<-hKK];exact(D3 hi hci).2 ⟨vi,bi,hd1,hk1⟩
    .rw[<-hKK];refine(D3 hi hci).2 ⟨vi,bi,?_,?_⟩
     .exact hdi.up (Dw hap.symm) (FK hap.symm) (.inr λB v cs h=>h) (λhf=>hf)
     .rw[E6 hap.symm.dd];exact h2
    .exact h2.elim
   .have hbn:bi=none:=by
     rcases hdi.slot with h|h
     .exact h
     .have:=JC h.2.1;have:=hl.c1;omega
    subst hbn;simp only[Cq] at h2;obtain⟨Fe,Me,hKe,hFe⟩:=PE tk hops hc5 _ F M h0 I;have hsepL:=hK _ _ hKe;have hsep:∀x∈oi.op.operands,∀y∈oj.op.operands,∀B u B' u',ER (ev F x)=some (B,u)->ER (ev F y)=some (B',u')->B≠B' :=by
     intro x hx y hy B u B' u' h1 h2;obtain⟨a,rfl⟩:=T7 h1;obtain⟨b,rfl⟩:=T7 h2;obtain⟨hm,ha,hb⟩:=hl.fk a hx b hy;have h3:=RM hsepL _ hm;have ea:Fe a=F a:=hFe a λk hk o ho=>by
      have:i<=k:=by
       rcases vL.1 (by simpa using hk:k∈i::(pre++j::post)) with h|h
       .omega
       .exact Nat.le_of_lt (hgt k h)
      exact LB ha this ho
     have eb:Fe b=F b:=hFe b λk hk o ho=>by
      have hk' :k∈i::pre\/k∈j::post:=by
       rcases List.mem_append.1 hk with h|h
       .exact .inl h
       .exact .inr h
      rcases hk' with hk' |hk'
      .have hap' :Ap ops o oj:=by
        rcases hc k hk' o ho with hcm|hl
        .exact(E7 hcm).1
        .exact hl.ap
       intro e;exact hap'.xy b e (by
        unfold Oper.looksAt;exact List.mem_append_left _ (List.mem_filterMap.2 ⟨.tmp b,by simpa using hy,rfl⟩))
      .refine LB hb ?_ ho;rcases vL.1 hk' with h|h
       .omega
       .exact Nat.le_of_lt ((vP.1 (wg.1 hs).2.1).1 k h)
     simp only[ev] at h1 h2;rw[ea,eb] at h3;simp only[Vf,h1,h2] at h3;simpa using h3
    unfold CE at h2 |-;simp only[hj] at h2 |-;rw[Dw hap] at h2;split at h2
    .refine aU hap.symm hl.cw hdi hsep (λF1 M1 hd1 hk1=>?_) h2;rw[<-hKK];exact(D3 hi hci).2 ⟨vi,none,hd1,hk1⟩
    .rw[<-hKK];refine(D3 hi hci).2 ⟨vi,none,?_,?_⟩
     .exact hdi.up (Dw hap.symm) (FK hap.symm) (.inr λB v cs h=>h) (λhf=>hf)
     .rw[E6 hap.symm.dd];exact h2
    .exact h2.elim
theorem gx (tk:BQ P T) (hops:∀(k:Nat) (o:Oper),ops[k]?=some o->Bx n o=true) (hc5:∀(k:Nat) (o:Oper),ops[k]?=some o->AR o.op<=5) (hK:∀F M,K F M->J6 X F) (hsl:∀(i k:Nat) (oi ok:Oper),ops[i]?=some oi->ops[k]?=some ok->Bh oi.op=true->Bh ok.op=true->i≠k->sl i≠sl k)
 {j:Nat} (hj:ops[j]?=some oj) (pre post:List Nat) (hs:(pre++j::post).Pairwise (·<·)) (hc:∀i∈pre,∀oi,ops[i]?=some oi->Fp L ops oi oj=true\/Vj ops X i oi j oj) (hl:Bh oj.op=true->sl j<M.length) (I:Ds P n F M) (h:CI T (Ai P L) ops sl (pre++j::post) F M K):
 CE T (Ai P L) ops sl j F M λF' M' =>CI T (Ai P L) ops sl (pre++post) F' M' K:=by
 by_cases hcj:AR oj.op<=2
 .refine Yd tk hops hsl hj pre post (λi hi=>Nat.ne_of_lt ((wg.1 hs).2.2 i hi j zS)) (λi hi oi ho=>?_) hl I h;rcases hc i hi oi ho with h|h
  .exact h
  .have:=h.cw;omega
 .exact T8 tk hops hc5 hK hj zO pre F M hs hc I h
theorem Wr {C:BF} (hC:C.P=P) (tk:BQ P T) {l:List Oper} (hops:∀(k:Nat) (o:Oper),l.toArray[k]?=some o->Bx C.n o=true) (hK:∀F M,K F M->J6 X F) (hd:∀(i k:Nat) (oi ok:Oper),l.toArray[i]?=some oi->l.toArray[k]?=some ok->(∀p∈Cz oi,p<i)/\(k<i->(Fp L l.toArray ok oi=true\/Vj l.toArray X k ok i oi)\/∀S,J5 l.toArray S->(∀p∈Cz oi,S p)->S k)) (hc5:∀(k:Nat) (o:Oper),l.toArray[k]?=some o->AR o.op<=5)
 (hsl:∀(i k:Nat) (oi ok:Oper),l.toArray[i]?=some oi->l.toArray[k]?=some ok->Bh oi.op=true->Bh ok.op=true->i≠k->sl i≠sl k) {Q' :Exit->Act->World->Prop} (hQ:∀F M a w,K F M->Cu C F M a w->Q' .normal a w):
 ∀(fuel:Nat) (listed:Array Bool) (rem:List Nat) (F:Fr) (M:List Ag) (a:Act) (w:World),rem=(vK l.length).filter (λi=> !listed.getD i true)->rem.length<=fuel->listed.size=l.length->J5 l.toArray (λi=>listed.getD i false=true)->
 (∀j oj,l.toArray[j]?=some oj->Bh oj.op=true->sl j<M.length)->CI T (Ai P L) l.toArray sl rem F M K->Cu C F M a w->wpAnyIn (FX C) 0 C.P .any l.toArray Q' fuel listed a w:=by
 intro fuel;have hready:∀(listed:Array Bool) i,i∈Region.ready .any l.toArray listed->i<l.length/\listed.getD i true=false/\∀o,l.toArray[i]?=some o->∀p∈Cz o,listed.getD p false=true:=by
  intro listed i hi;simp only[Region.ready,vC,xj,uU] at hi;obtain⟨h1,h2,h3⟩:=hi;refine⟨by simpa using h1,by simpa using h2,λo ho p hp=>?_⟩;rw[ho] at h3;simp only[vI,xz] at h3;simp only[Cz,vH,vC] at hp;obtain⟨e,⟨he,hb⟩,rfl⟩:=hp;have h4:=wc.1 h3 e (by simpa using he);simp only[hb,xt,xC] at h4;exact h4
 have hnone:∀(listed:Array Bool),listed.size=l.length->Region.ready .any l.toArray listed=[]->(vK l.length).filter (λi=> !listed.getD i true)=[]:=by
  intro listed hsz hr;cases hrem:(vK l.length).filter (λi=> !listed.getD i true) with
  |nil=>rfl
  |cons i rest=>
   exfalso;have hmem:i∈(vK l.length).filter (λi=> !listed.getD i true):=by rw[hrem];simp
   have hp:((vK l.length).filter (λi=> !listed.getD i true)).Pairwise (·<·):=(Fv _).filter _;have hmem' :=vC.1 hmem;have hlt:i<l.length:=by simpa using hmem'.1
   have hmin:∀p,p<i->listed.getD p false=true:=by
    intro p hp';apply vv;intro hno;have:p∈(vK l.length).filter (λi=> !listed.getD i true):=by
     refine vC.2 ⟨Ao,?_⟩;have hps:p<listed.size:=zO;simp[vD,hps] at hno |-;exact hno
    rw[hrem] at this hp;rcases vL.1 this with h|h
    .omega
    .have:=(vP.1 hp).1 p h;omega
   have hi2:l.toArray[i]?=some l[i]:=by simp[hlt]
   have:i∈Region.ready .any l.toArray listed:=by
    simp only[Region.ready,vC,xj,uU];refine⟨by simpa using hlt,by simpa using hmem'.2,?_⟩;rw[hi2];simp only[vI,xz];rw[wc];intro e he;cases hb:Region.binds .any e with
    |false=>rfl
    |true=>
     simp only[xt,xC];refine hmin _ ((hd i i _ _ hi2 hi2).1 _ ?_);simp only[Cz,vH,vC];exact⟨e,⟨by simpa using he,hb⟩,rfl⟩
   rw[hr] at this;simp at this
 induction fuel with
 |zero=>
  intro listed rem F M a w hrem hlen hsz hcl hsm h r;have:rem=[]:=by simpa using hlen
  subst this;refine⟨?_,hQ _ _ _ _ h r⟩;apply vv;intro hne;obtain⟨i,hi⟩:=List.exists_mem_of_ne_nil _ hne;have h1:=hready listed i hi;have:i∈(vK l.length).filter (λi=> !listed.getD i true):=vC.2 ⟨by simpa using h1.1,by simp[h1.2.1]⟩;rw[<-hrem] at this;simp at this
 |succ fuel ih=>
  intro listed rem F M a w hrem hlen hsz hcl hsm h r;refine⟨λhr=>?_,λi hi=>?_⟩
  .rw[hnone listed hsz hr] at hrem;subst hrem;exact hQ _ _ _ _ h r
  .have h1:=hready listed i hi;have hi2:l.toArray[i]?=some (l[i]'h1.1):=by simp[h1.1]
   have hmem:i∈rem:=by rw[hrem];exact vC.2 ⟨by simpa using h1.1,by simp[h1.2.1]⟩
   obtain⟨pre,post,hpp⟩:=List.append_of_mem hmem;have hsorted:rem.Pairwise (·<·):=by rw[hrem];exact(Fv _).filter _
   rw[hpp] at hsorted;have hs1:=wg.1 hsorted;have hprelt:∀k∈pre,k<i:=λk hk=>hs1.2.2 k hk i zS;have hpostgt:∀k∈post,i<k:=(vP.1 hs1.2.1).1;have hpull:=gx (n:=C.n) (sl:=sl) (L:=L) (K:=K) (F:=F) (M:=M) (X:=X) tk hops hc5 hK hsl hi2 pre post hsorted (λk hk ok hok=>?_) (λha=>hsm i _ hi2 ha) ⟨C,a,w,hC,rfl,r⟩ (by rw[<-hpp];exact h)
   .refine NV hC (hC ▸ tk) hi2 hops (λF' M' a' w' hk r' =>?_) (KR hops hc5 hpull) r;refine ih _ (pre++post) F' M' a' w' ?_ ?_ (by simpa using hsz) ?_ (λj oj hj ha=>xw (hsm j oj hj ha) hk.2) hk.1 r'
    .have:(vK l.length).filter (λt=> !(listed.setIfInBounds i true).getD t true)=((vK l.length).filter (λt=> !listed.getD t true)).filter (λt=>t !=i):=by
      rw[List.filter_filter];refine List.filter_congr λt ht=>?_;have htl:t<listed.size:=by rw[hsz];simpa using ht
      by_cases e:t=i
      .subst e;simp[vD,htl]
      .have:¬i=t:=λh=>e h.symm;simp[vD,htl,e,this,vW]
     rw[this,<-hrem,hpp,wV,xv];simp only[bne_self_eq_false,vt,if_false];rw[wD.2 (λk hk=>by simp;exact Nat.ne_of_lt (hprelt k hk)),wD.2 (λk hk=>by simp;exact(Nat.ne_of_gt (hpostgt k hk)))]
    .rw[hpp] at hlen;simp at hlen |-;omega
    .intro k o hk hlist p hp;have key:∀t,(listed.setIfInBounds i true).getD t false=true↔t=i\/listed.getD t false=true:=by
      intro t;have hil:i<listed.size:=by rw[hsz];exact h1.1
      by_cases e:t=i
      .subst e;simp[vD,hil]
      .have:¬i=t:=λh=>e h.symm;by_cases htl:t<listed.size
       .simp[vD,htl,e,this,vW]
       .simp[vD,htl,e]
     rw[key] at hlist |-;rcases hlist with rfl|hlist
     .exact .inr (h1.2.2 o hk p hp)
     .exact .inr (hcl k o hk hlist p hp)
   .rcases(hd i k _ ok hi2 hok).2 (hprelt k hk) with h|h
    .exact h
    .exfalso;have h3:=h _ hcl (h1.2.2 _ hi2);have h4:k∈rem:=by rw[hpp];simp[hk]
     rw[hrem] at h4;have h5:=(vC.1 h4).2;have hks:k<listed.size:=by rw[hsz];have:=hprelt k hk;have:=h1.1;omega
     simp[vD,hks] at h3 h5;simp[h3] at h5
theorem tj {p:Nat} {Q:Cj} {id:Nat} {l:List Oper} (n:Nat) (X:List (Nat×Nat)) (hn:Bb l=n) (L:Bool) (hp:P.follows .mixedOrders=true) (hd:Vi L X l=true) (h:∀K:Fr->List Ag->Prop,(∀F M,J6 X F->Q .normal F M->K F M)->Aw T (Ai P L) l.toArray l M.length F (M++uP n .free) K):W P T p (.region id l.toArray true) F M Q:=by
 intro tk C hC hp' hb a w r;simp only[Vi,uU] at hd;simp only[CL] at hb;subst hn;have hops:∀(k:Nat) (o:Oper),l.toArray[k]?=some o->Bx C.n o=true:=λk o ho=>by
  refine u1.1 hb o ?_;rw[<-vp] at ho;exact vo ho
 have hc5:∀(k:Nat) (o:Oper),l.toArray[k]?=some o->AR o.op<=5:=λk o ho=>by
  have:=u1.1 hd.2 o (vo (by simpa using ho));simpa using this
 refine wpIn_region_any (hC ▸ hp) ?_;obtain⟨σ,own,R⟩:=r;have h' :=LX (base:=M.length) l [] F _ rfl (h (λF M=>J6 X F/\Q .normal F M) λF M h1 h2=>⟨h1,h2⟩);refine Wr (X:=X) (l:=l) (L:=L) hC tk hops (K:=λF M=>J6 X F/\Q .normal F M) (λF M h=>h.1) (λi k oi ok hi hk=>?_) hc5 (sl:=λi=>M.length+Bb (l.take i)) (λi k oi ok hi hk ha ha' hne=>?_) (Q' :=aq C Q) (λF M a w h r=> .inl ⟨F,M,h.2,r⟩) l.toArray.size (xn l.toArray.size false) (xp 0 l.length) F _ a w.drew ?_ ?_ ?_ ?_ ?_ h' ⟨σ,own,(R.grow _).drew⟩
 .have:=I8 (ops:=l.toArray) l [] [] [] zS rfl (λt m h=>by simp at h) (λk o _ h=>by simp at h) hd.1 i k oi ok hi hk (vn _);refine⟨this.1,λhlt=>?_⟩;rcases this.2 hlt with h|h
  .simp only[cX,wT] at h;exact .inl (h.imp (λh=>h) Vk)
  .exact .inr h
 .have s1:BT oi=1:=by simp[BT,ha]
  have s2:BT ok=1:=by simp[BT,ha']
  rcases Nat.lt_or_gt_of_ne hne with h|h
  .have:=Ef (l:=l) (by simpa using hi) h;omega
  .have:=Ef (l:=l) (by simpa using hk) h;omega
 .rw[<-List.range_eq_range'];symm;rw[wD];intro t ht;have:t<l.length:=by simpa using ht
  simp[vD,this]
 .simp
 .simp
 .intro i o ho hl;simp[vD] at hl
 .intro j oj hj ha;have s1:BT oj=1:=by simp[BT,ha]
  have hjl:j<l.length:=by
   rcases uY j l.length with h|h
   .exact h
   .rw[show l.toArray[j]?=l[j]? by simp,uR h] at hj;simp at hj
  have:=Ef (l:=l) (by simpa using hj) hjl;rw[uW] at this;simp only[u0,wQ];omega
end
attribute [simp] J6 Vf ER
section
variable {P:Program} {C:BF} {w:World} {σ:Nat->Nat->Option St} {own:Nat->Option Nat} {M:List Ag} {F:Fr} {a:Act} {T:Nat->Option TI}
theorem ES {C:BF} (tk:BQ C.P T) {ops:Array Oper} {Q' :Exit->Act->World->Prop} {K:Fr->List Ag->Prop} {l2:List Oper} (hQ:∀F M a w,K F M->Cu C F M a w->wpListIn (FX C) 0 C.P ops Q' l2 a w):
 ∀(l:List Oper) (s:Nat) (F:Fr) (M:List Ag) (a:Act) (w:World),l.all (Bx C.n)=true->ops.toList.all (Bx C.n)=true->Aw T (Cd C) ops l s F M K->Cu C F M a w->wpListIn (FX C) 0 C.P ops Q' (l++l2) a w
 | [],s,F,M,a,w,_,_,h,r=>hQ F M a w h r
 |o::rest,s,F,M,a,w,hb,hbo,h,r=>by
  simp only[List.all_cons,uU] at hb;simp only[vF,wpListIn];simp only[Aw] at h;split at h
  .rename_i hg;rw[zP (by simp[Region.wanted,hg])];obtain⟨σ,own,R⟩:=r;exact I2 tk hb.1 h R λF' M' a' w' hk r' =>ES tk hQ rest _ F' M' a' w' hb.2 hbo hk r'
  .rename_i j want hg;split at h
   .rename_i d hd;unfold gK at h;split at h
    .rename_i b hFd;obtain⟨σ,own,R⟩:=r;obtain⟨oj,hj,hdj⟩:=xb.1 hd;have hdn:d<C.n:=by
      have h1:=u1.1 hbo oj (by rw[<-vp] at hj;exact vo hj);simp only[Bx,uU,hdj] at h1;simpa using h1.2
     have hv:=R.tmp d hdn;rw[hFd] at hv;have he:=hv.1;have hget:a.tmps[d]?=some (.bool b):=by
      have hs:=R.size;have hlt:d<a.tmps.size:=by rw[hs];exact hdn
      simp[vD,hlt] at he;simp[hlt,he]
     have hy:yielded ops a.tmps j=some b:=by simp[yielded,hd,hget]
     have refr:∀c:Bool,b=c->Cu C (Bu F d (.bool c)) M a w:=by
      rintro c rfl;refine⟨σ,own,R.size,R.dfr,λt ht=>?_,R.mem,R.shr,R.ext,R.key0⟩;simp only[Bu];split
      .rename_i e;subst e;exact hv
      .exact R.tmp t ht
     by_cases hbw:b=want
     .rw[zP (by simp[Region.wanted,hg,hy,hbw])];obtain⟨σ',own',R'⟩:=refr want hbw;exact I2 tk hb.1 (h.1 hbw) R' λF' M' a' w' hk r' =>ES tk hQ rest _ F' M' a' w' hb.2 hbo hk r'
     .have hbn:b= !want:=by cases b<;>cases want<;>simp_all
      rw[zM (by simp[Region.wanted,hg,hy,hbw])];obtain⟨σ',own',R'⟩:=refr (!want) hbn;refine⟨λ_ _=>trivial,?_⟩;exact ES tk hQ rest _ _ M _ w hb.2 hbo (h.2 hbn) ⟨σ',own',R'.put o.dst (v:=undef) ⟨#[],rfl,rfl,λ_=>rfl⟩⟩
    .rename_i hFd;obtain⟨σ,own,R⟩:=r;obtain⟨oj,hj,hdj⟩:=xb.1 hd;have hdn:d<C.n:=by
      have h1:=u1.1 hbo oj (by rw[<-vp] at hj;exact vo hj);simp only[Bx,uU,hdj] at h1;simpa using h1.2
     have hv:=R.tmp d hdn;rw[hFd] at hv;obtain⟨cs,he,_⟩:=hv;have hget:a.tmps[d]?=some (.tuple cs):=by
      have hs:=R.size;have hlt:d<a.tmps.size:=by rw[hs];exact hdn
      simp[vD,hlt] at he;simp[hlt,he]
     have hy:yielded ops a.tmps j=none:=by simp[yielded,hd,hget]
     rw[zM (by simp[Region.wanted,hg,hy])];refine⟨λ_ _=>trivial,?_⟩;refine ES tk hQ rest _ _ M _ w hb.2 hbo h ⟨σ,own,AS.put ?_ o.dst (v:=undef) ⟨#[],rfl,rfl,λ_=>rfl⟩⟩;refine⟨R.size,R.dfr,λt ht=>?_,R.mem,R.shr,R.ext,R.key0⟩;simp only[Bu];split
     .rename_i e;subst e;have:=R.tmp t hdn;rw[hFd] at this;exact this
     .exact R.tmp t ht
    .exact h.elim
   .exact h.elim
theorem ET (tk:BQ C.P T) {ops:Array Oper} {o:Oper} {rest:List Oper} {Q:Exit->Act->World->Prop} (R:AS C F M a w σ own) (hb:Bx C.n o=true) (hg:o.guard=none) (hnd:∀c,o.op≠ .defer c) {r:AV} (hv:pv T M F o=some r)
 (h:∀u,VR w C.sh σ r u (λ_=>0)->AS C (AB F o.dst r) M (a.put o.dst u) w σ own->wpListIn (FX C) 0 C.P ops Q rest (a.put o.dst u) w):wpListIn (FX C) 0 C.P ops Q (o::rest) a w:=by
 obtain⟨u,hu,hr⟩:=MT tk R hb hv;simp only[wpListIn];rw[zP (by simp[Region.wanted,hg])];exact tc hnd hu (h u hr (R.put _ hr))
theorem AS.world (R:AS C F M a w σ own) {w' :World} (hs:w.heap.size<=w'.heap.size) (ho:w'.os=w.os) (ht:w'.tape=w.tape) (hou:w'.output=w.output)
 (hb:∀g,g<w.heap.size->(own g≠none\/C.sh g\/g<C.w0.heap.size)->w'.heap[g]?=w.heap[g]?):AS C F M a w' σ (λg=>if g<w.heap.size then own g else none):=by
 have L:Ci w w' C.sh C.sh σ σ:=⟨λg hg=>hb g (R.shr g hg).2 (.inr (.inl hg)),λ_ h=>h,λ_ _ _ h=> .inl h⟩;refine⟨R.size,R.dfr,λt ht=>VR.later L _ _ _ (λ_ h=>absurd rfl h) (R.tmp t ht),⟨λT B hM=>?_,R.mem.key⟩,λg hg=>?_,?_,R.key0⟩
 .obtain⟨fp,b1,b2⟩:=R.mem.blk T B hM;have hlt:∀g,fp g≠0->g<w.heap.size:=λg hg=>KJ b1 g hg;have how:∀g,fp g≠0->own g≠none:=λg hg e=>by have:=b2 g;rw[e] at this;simp at this;omega
  refine⟨fp,EO L (λg hg=>hb g (hlt g hg) (.inl (how g hg))) zL b1,λg=>?_⟩;by_cases h0:fp g=0
  .rw[h0];exact vn _
  .have:=b2 g;simp only[hlt g h0,if_true];exact this
 .have h1:=R.shr g hg;simp only[h1.2,if_true];exact⟨h1.1,zO⟩
 .refine⟨ho.trans R.ext.os,ht.trans R.ext.tape,hou.trans R.ext.output,Nat.le_trans R.ext.size hs,λg hg hn=>?_,λg hg=>?_⟩
  .rw[hb g (xw hg R.ext.size) (.inr (.inr hg))];exact R.ext.block g hg hn
  .split at hg
   .exact R.ext.own g hg
   .exact absurd rfl hg
theorem AS.putObj (R:AS C F M a w σ own) {l:Nat} (o:Obj) (h1:own l=none) (h2:¬C.sh l) (h3:C.w0.heap.size<=l):AS C F M a (w.putObj l o) σ (λg=>if g<w.heap.size then own g else none):=by
 refine R.world zS rfl rfl rfl λg hg h=>World.putObj_heap_other λe=>?_;subst e;rcases h with h|h|h
 .exact h h1
 .exact h2 h
 .omega
theorem AS.allocO (R:AS C F M a w σ own) (o:Obj):AS C F M a (w.alloc o) σ (λg=>if g<w.heap.size then own g else none):=
 R.world zS rfl rfl rfl λg hg _=>DL hg
theorem AS.back (R:AS C F M a w σ own) {P' :Program} {n2 p2:Nat} {rd2:Option Nat} {df2:List Deferred} {F2:Fr} {M2:List Ag} {a2:Act} {w2:World} {σ2:Nat->Nat->Option St} {own2:Nat->Option Nat}
 (R2:AS ⟨P',n2,C.sh,w,own,σ,p2,rd2,df2⟩ F2 M2 a2 w2 σ2 own2):AS C F M2 a w2 σ2 own2:=by
 have L:Ci w w2 C.sh C.sh σ σ2:=⟨λg hg=>R2.ext.block g (R.shr g hg).2 (R.shr g hg).1,λ_ h=>h,λT v st h=>(R2.key0 T v st h).2⟩;exact⟨R.size,R.dfr,λt ht=>VR.later L _ _ _ (λ_ h=>absurd rfl h) (R.tmp t ht),R2.mem,R2.shr,R.ext.trans R2.ext,R.keyl L⟩
theorem AS.into (R:AS C F M a w σ own) {F2:Fr} {a2:Act} (hs:a2.tmps.size=C.n) (hd:a2.defers=[]) (ht:∀t,t<C.n->VR w C.sh σ (F2 t) (a2.tmps.getD t undef) (λ_=>0)) (rd:Option Nat):
 AS ⟨C.P,C.n,C.sh,w,own,σ,M.length,rd,[]⟩ F2 M a2 w σ own:=
 ⟨hs,hd,ht,R.mem,R.shr,GJ.refl w own,λT v st h=>⟨by
  rcases uY T M.length with h2|h2
  .exact h2
  .have h' :σ T v=some st:=h;rw[R.mem.key T v h2] at h';simp at h',.inl h⟩⟩
theorem AS.on (R:AS C F M a w σ own) (hdf:C.df=[]) {P' :Program} {p2:Nat} {rd2:Option Nat} {df2:List Deferred} {F2:Fr} {M2:List Ag} {a2:Act} {w2:World} {σ2:Nat->Nat->Option St} {own2:Nat->Option Nat}
 (R2:AS ⟨P',C.n,C.sh,w,own,σ,p2,rd2,df2⟩ F2 M2 a2 w2 σ2 own2):AS C F2 M2 {a2 with defers:=[]} w2 σ2 own2:=by
 have L:Ci w w2 C.sh C.sh σ σ2:=⟨λg hg=>R2.ext.block g (R.shr g hg).2 (R.shr g hg).1,λ_ h=>h,λT v st h=>(R2.key0 T v st h).2⟩;exact⟨R2.size,hdf.symm,R2.tmp,R2.mem,R2.shr,R.ext.trans R2.ext,R.keyl L⟩
theorem AS.weak (R:AS C F M a w σ own) {F' :Fr} {M' :List Ag} (h:Wk C.p F M F' M'):∃σ' own',AS C F' M' a w σ' own' /\∀g,g<w.heap.size->own g=none->own' g=none:=by
 have R0:AS ⟨C.P,C.n,C.sh,w,own,C.k0,C.p,C.rd,C.df⟩ F M a w σ own:=⟨R.size,R.dfr,R.tmp,R.mem,R.shr,GJ.refl w own,R.key0⟩;obtain⟨σ',own',R1⟩:=h ⟨C.P,C.n,C.sh,w,own,C.k0,C.p,C.rd,C.df⟩ (vg _) a w ⟨σ,own,R0⟩;refine⟨σ',own',⟨R1.size,R1.dfr,R1.tmp,R1.mem,R1.shr,R.ext.trans R1.ext,R1.key0⟩,λg hg hn=>?_⟩;cases e:own' g with
 |none=>rfl
 |some T' =>rcases R1.ext.own g (by rw[e];simp) with h|h
            .exact absurd hn h
            .simp at h;omega
end
def dY (P:Program) (gf:Nat) (lb:Array Value) (n:Nat) (val:Nat->Array Value) (V:World->Prop):Prop:=∀(l:Nat) (J:Nat->World->Prop) (Jx:World->Prop) (w:World),(∀k W,J k W->V W)->
 (∀k W,k<n->J k W->∃f tm as bd,(Instr.yield l (val k)).run P W= .ok (.round l f tm as bd) W/\RoundIn Fence.wide 0 P l f tm as bd W (λe W' =>(e= .returned (.bool true)/\J (k+1) W')\/(e= .returned (.bool false)/\Jx W')))->
 J 0 w->CallsIn Fence.wide 0 P gf (#[.func (.yield l) #[] #[]]++lb) w (λe W' =>(∃v,e= .returned v)/\(J n W' \/Jx W'))
theorem Ys {C:BF} {w:World} {σ:Nat->Nat->Option St} {own:Nat->Option Nat} {M:List Ag} {F:Fr} {a:Act} {T:Nat->Option TI} (tk:BQ C.P T) (hrd:C.rd=none) (hdf:C.df=[]) (R:AS C F M a w σ own) {g:Operand} {b0 p1 p2:Nat} {assign body rest:Code} {gf:Nat} {lb:Array Value}
 (hg:a.eval g= .func (.func gf) #[] lb) (hcf:∀args w,(callFunc gf args).run C.P w= .ok (.enter gf args) w) {n:Nat} {val:Nat->Array Value} {V:World->Prop} (hseq:dY C.P gf lb n val V) {va vb:Nat->AV}
 (hval:∀k,∃x y,val k= #[x,y]/\∀w σ,VR w C.sh σ (va k) x (λ_=>0)/\VR w C.sh σ (vb k) y (λ_=>0)) {h:Nat} (hh:own h=none) (hhl:h<w.heap.size) (hh0:C.w0.heap.size<=h)
 (I:Nat->List Ag->Prop) (hI0:I 0 M) (hV:∀k W M' σ' own',AS C F M' a W σ' own' ->W.heap[h]?=w.heap[h]?->I k M' ->V W) {Q:Cj}
 (hca:CL C.n assign=true) (hcb:CL C.n body=true) (hcr:CL C.n rest=true)
 (hround:∀k M',k<n->I k M' ->W C.P T M'.length assign (Bu (Bu F p1 (va k)) p2 (vb k)) M' (λe F2 M2=>e= .normal/\W C.P T M2.length body F2 M2 (λe F3 M3=>
   (e= .normal/\∃M4,Wk C.p F M3 F M4/\I (k+1) M4)\/(e= .ret/\∃F4 M4,Wk C.p F M3 F4 M4/\Q .ret F4 M4))))
 (hafter:∀M',I n M' ->W C.P T M'.length rest F M' (λe F M=>e= .ret/\Q .ret F M)):
 (Code.block b0 (.rangeFunc g #[p1,p2] assign body)).wpIn (FX C) 0 C.P (Exit.then (rest.wpIn (FX C) 0 C.P (aq C Q)) (aq C Q)) a w:=by
 have hFX:FX C=Fence.wide:=by simp only[FX,hrd];rfl
 have hd0:a.defers=[]:=by rw[R.dfr,hdf]
 rw[hFX];refine wpIn_block ?_;refine wpIn_rangeFunc λfn _=>?_;obtain⟨rec,hrec⟩:∃rec:LoopState->Option Code->Loop,rec=λst pe=>{state:=st,pending:=pe,fn,tmps:=a.tmps,params:= #[p1,p2],assign,body,defers:=w.heap.size}:=zX;obtain⟨D,hD⟩:∃D,D=w.heap.size:=zX;obtain⟨l,hl⟩:∃l,l=w.heap.size+1:=zX;obtain⟨W1,hW1⟩:∃W1,(w.alloc (.deferred (some []))).alloc (.loop (rec .ready none))=W1:=zX;have hL1:W1.heap[l]?=some (.loop (rec .ready none)):=by
  rw[<-hW1,hl];have:=World.alloc_heap_new (w.alloc (.deferred (some []))) (.loop (rec .ready none));rwa [World.size_alloc] at this
 have hK1:W1.heap[D]?=some (.deferred (some [])):=by
  rw[<-hW1,hD];exact(DL zS).trans (World.alloc_heap_new w _)
 have hh1:W1.heap[h]?=w.heap[h]?:=by
  rw[<-hW1];exact(DL Ao).trans (DL hhl)
 have hnsh:∀g,w.heap.size<=g->¬C.sh g:=λg h1 h2=>by have:=(R.shr g h2).2;omega
 have hw0:C.w0.heap.size<=w.heap.size:=R.ext.size;have R1:=(R.allocO (.deferred (some []))).allocO (.loop (rec .ready none));rw[hW1] at R1;have hown1:∀g,w.heap.size<=g->(λg=>if g<(w.alloc (.deferred (some []))).heap.size then(if g<w.heap.size then own g else none) else none) g=none:=λg hg=>by
  simp only;split
  .rw[zM zO]
  .rfl
 obtain⟨Keep,hKeep⟩:∃Keep:World->(Nat->Option Nat)->Prop,Keep=λW own' =>own' h=none/\own' D=none/\own' l=none/\W.heap[h]?=w.heap[h]?/\W.heap[D]?=some (.deferred (some [])):=zX;refine⟨l,LH D,W1,{target:= .fn (.func gf) lb,args:= #[.func (.yield l) #[] #[]]},W1,gf, #[.func (.yield l) #[] #[]]++lb,W1,?_,?_,λ_ _=>trivial,?_,λh=>absurd h (by simp[Fence.wide]),?_⟩
 .rw[<-hW1,hrec,hl,hD];exact run_enterLoop_outer _ _ _ _ _
 .simp only[resolve,hg];simp[go_sem]
 .simp[invoke,go_sem,hcf]
 .refine(hseq l (λk W=>∃M' σ' own',AS C F M' a W σ' own' /\I k M' /\Keep W own' /\W.heap[l]?=some (.loop (rec .ready none)))
   (λW=>∃M' σ' own',AS C F M' a W σ' own' /\(∃F4 M4,Wk C.p F M' F4 M4/\Q .ret F4 M4)/\Keep W own' /\W.heap[l]?=some (.loop (rec .done (some .ret)))) W1 ?_ ?_ ?_).mono ?_
  .rintro k W ⟨M',σ',own',R',hI,hk,_⟩;rw[hKeep] at hk;exact hV k W M' σ' own' R' hk.2.2.2.1 hI
  .
   rintro k W hkn ⟨M',σ',own',R',hI,hk,hlr⟩;rw[hKeep] at hk;obtain⟨k1,k2,k3,k4,k5⟩:=hk;have hlt:l<W.heap.size:=(vu.1 hlr).1;have hDlt:D<W.heap.size:=(vu.1 k5).1;obtain⟨x,y,hxy,hvr⟩:=hval k;have hy:=run_yield (P:=C.P) (args:=val k) hlr (by rw[hrec,hxy];rfl);rw[hrec] at hy;refine⟨_,_,_,_,hy,roundIn_of_wpIn trivial ?_⟩;have etm:((#[p1,p2]:Array Tmp).zip (val k)).foldl (λtmps (t,a)=>tmps.setIfInBounds t a) a.tmps=(a.tmps.setIfInBounds p1 x).setIfInBounds p2 y:=by rw[hxy];simp
   simp only;rw[etm];have Rr:=R'.into (F2:=Bu (Bu F p1 (va k)) p2 (vb k)) (a2:={tmps:=(a.tmps.setIfInBounds p1 x).setIfInBounds p2 y,defers:=[]}) (by simp;exact R'.size) rfl (λt ht=>by
    have hs:=R'.size;simp only[Bu];by_cases e2:t=p2
    .subst e2;rw[zP rfl];have:((a.tmps.setIfInBounds p1 x).setIfInBounds t y).getD t undef=y:=by simp[vD,hs,ht]
     rw[this];exact(hvr W σ').2
    .rw[zM e2];have e3:((a.tmps.setIfInBounds p1 x).setIfInBounds p2 y).getD t undef=(a.tmps.setIfInBounds p1 x).getD t undef:=by
      have:¬p2=t:=λe=>e2 e.symm;simp[vD,hs,ht,vW,this]
     rw[e3];by_cases e1:t=p1
     .subst e1;rw[zP rfl];have:(a.tmps.setIfInBounds t x).getD t undef=x:=by simp[vD,hs,ht]
      rw[this];exact(hvr W σ').1
     .rw[zM e1];have e4:(a.tmps.setIfInBounds p1 x).getD t undef=a.tmps.getD t undef:=by
       have:¬p1=t:=λe=>e1 e.symm;simp[vD,hs,ht,vW,this]
      rw[e4];exact R'.tmp t ht) (some l)
   refine wpIn_mono (hround k M' hkn hI tk ⟨C.P,C.n,C.sh,W,own',σ',M'.length,some l,[]⟩ rfl (vg _) hca _ W ⟨σ',own',Rr⟩) ?_;rintro e a2 W2 (⟨F2,M2,⟨rfl,hbody⟩,σ2,own2,R2⟩ | ⟨rfl,_,_,_,_,⟨q,_⟩,_⟩);rotate_left
   .cases q
   have hun:∀g,g<W.heap.size->own' g=none->own2 g=none/\W2.heap[g]?=W.heap[g]?:=λg h1 h2=>⟨by
    cases e:own2 g with
    |none=>rfl
    |some T' =>rcases R2.ext.own g (by rw[e];simp) with h|h
               .exact absurd h2 h
               .simp at h;omega,R2.ext.block g h1 h2⟩
   have hhW:h<W.heap.size:=by
    rcases uY h W.heap.size with e|e
    .exact e
    .rw[Array.getElem?_eq_none e,Array.getElem?_eq_getElem hhl] at k4;simp at k4
   have hl2:=(hun l hlt k3).2.trans hlr;have hlt2:l<W2.heap.size:=(vu.1 hl2).1;refine⟨_,run_beginRound hl2 (by rw[hrec]),?_⟩;have R2c:=R'.back R2;have R2d:=R2c.putObj (.loop {rec .ready none with state:= .busy}) (hun l hlt k3).1 (hnsh l zO) zO;have Rr2:=R2d.into (F2:=F2) (a2:=a2) R2.size R2.dfr (λt ht=>VR.later ⟨λg hg=>World.putObj_heap_other (λe=>hnsh l zO (by rw[<-e];exact hg)),λ_ h=>h,λ_ _ _ h=> .inl h⟩ _ _ _ (λ_ h=>absurd rfl h) (R2.tmp t ht)) (some l);refine wpIn_mono (hbody tk ⟨C.P,C.n,C.sh,W2.putObj l (.loop {rec .ready none with state:= .busy}),λg=>if g<W2.heap.size then own2 g else none,σ2,M2.length,some l,[]⟩ rfl (vg _) hcb _ _ ⟨σ2,_,Rr2⟩) ?_;have hl3:(W2.putObj l (.loop {rec .ready none with state:= .busy})).heap[l]?=some (.loop {rec .ready none with state:= .busy}):=World.putObj_heap_same hlt2;have fin:∀(F3:Fr) (M3:List Ag) (a3:Act) (W3:World) (jump:Option Code),Cu ⟨C.P,C.n,C.sh,W2.putObj l (.loop {rec .ready none with state:= .busy}),λg=>if g<W2.heap.size then own2 g else none,σ2,M2.length,some l,[]⟩ F3 M3 a3 W3->
    ∃W4,(Instr.endRound l jump).run C.P W3= .ok (.bool jump.isNone) W4/\∃σ4 own4,AS C F M3 a W4 σ4 own4/\Keep W4 own4/\W4.heap[l]?=some (.loop (rec (if jump.isNone then .ready else .done) jump)):=by
    rintro F3 M3 a3 W3 jump ⟨σ3,own3,R3⟩;have hun3:∀g,g<W2.heap.size->own2 g=none->own3 g=none/\W3.heap[g]?=(W2.putObj l (.loop {rec .ready none with state:= .busy})).heap[g]?:=λg h1 h2=>⟨by
     cases e:own3 g with
     |none=>rfl
     |some T' =>rcases R3.ext.own g (by rw[e];simp) with h|h
                .simp only[h1,if_true] at h;exact absurd h2 h
                .simp at h;omega,R3.ext.block g (by simpa using h1) (by simp only[h1,if_true];exact h2)⟩
    have hl4:=(hun3 l hlt2 (hun l hlt k3).1).2.trans hl3;have hlt3:l<W3.heap.size:=(vu.1 hl4).1;have hsz:W.heap.size<=W2.heap.size:=R2.ext.size;have hsz3:W2.heap.size<=W3.heap.size:=by have:=R3.ext.size;simpa using this
    have R3c:=R2d.back R3;have hend:=run_endRound (P:=C.P) jump hl4;have eo:({{rec .ready none with state:= .busy} with state:=if jump.isNone then .ready else .done,pending:=jump}:Loop)=rec (if jump.isNone then .ready else .done) jump:=by rw[hrec]
    rw[eo] at hend;refine⟨_,hend,_,_,R3c.putObj (.loop (rec (if jump.isNone then .ready else .done) jump)) (hun3 l hlt2 (hun l hlt k3).1).1 (hnsh l zO) zO,?_,?_⟩
    .rw[hKeep];have g1:=(hun3 h zO (hun h hhW k1).1);have g2:=(hun3 D zO (hun D hDlt k2).1);have g3:=(hun3 l zO (hun l hlt k3).1);refine⟨?_,?_,?_,?_,?_⟩
     .simp only;rw[zP zO];exact g1.1
     .simp only;rw[zP zO];exact g2.1
     .simp only;rw[zP zO];exact g3.1
     .rw[World.putObj_heap_other zO,g1.2,World.putObj_heap_other zO,(hun h hhW k1).2,k4]
     .rw[World.putObj_heap_other zO,g2.2,World.putObj_heap_other zO,(hun D hDlt k2).2,k5]
    .exact World.putObj_heap_same hlt3
   rintro e a3 W3 (⟨F3,M3,(⟨rfl,M4,hw,hI4⟩ | ⟨rfl,hq⟩),r3⟩ | ⟨rfl,_,F3,M3,_,hq,r3,hm,ht,hrd2⟩)
   .obtain⟨W4,hend,σ4,own4,R4,hk4,hl4⟩:=fin F3 M3 a3 W3 none r3;obtain⟨σ5,own5,R5,hn5⟩:=R4.weak hw;refine⟨_,_,hend,.inl ⟨rfl,M4,σ5,own5,R5,hI4,?_,hl4⟩⟩;rw[hKeep] at hk4 |-;obtain⟨e1,e2,e3,e4,e5⟩:=hk4;have hhl4:h<W4.heap.size:=by
     rcases uY h W4.heap.size with e|e
     .exact e
     .rw[Array.getElem?_eq_none e,Array.getElem?_eq_getElem hhl] at e4;simp at e4
    exact⟨hn5 h hhl4 e1,hn5 D (vu.1 e5).1 e2,hn5 l (vu.1 hl4).1 e3,e4,e5⟩
   .obtain⟨W4,hend,σ4,own4,R4,hk4,hl4⟩:=fin F3 M3 a3 W3 (some .ret) r3;exact⟨_,_,hend,.inr ⟨rfl,M3,σ4,own4,R4,hq,hk4,hl4⟩⟩
   .simp at hrd2
  .exact⟨M,σ,_,R1,hI0,by
    rw[hKeep];exact⟨by simp only;rw[zP Ao,zP hhl];exact hh,hown1 D zO,hown1 l zO,hh1,hK1⟩,hL1⟩
  .
   rintro e W2 ⟨⟨v,rfl⟩,(⟨M',σ',own',R',hI,hk,hlr⟩ | ⟨M',σ',own',R',hq,hk,hlr⟩)⟩
   .rw[hKeep] at hk;obtain⟨k1,k2,k3,k4,k5⟩:=hk;have hlt:l<W2.heap.size:=(vu.1 hlr).1;have hDlt:D<W2.heap.size:=(vu.1 k5).1;obtain⟨oL,hend⟩:∃o,(Instr.endLoop l).run C.P W2= .ok none (W2.putObj l o):=⟨_,by rw[run_endLoop (P:=C.P) hlr (by rw[hrec];simp),hrec]⟩;refine⟨none,_,hend,?_⟩;have R4:=R'.putObj oL k3 (hnsh l zO) zO;have kD:(W2.putObj l oL).heap[D]?=some (.deferred (some [])):=(World.putObj_heap_other zO).trans k5;generalize hW3:W2.putObj l oL=W3 at*;generalize ho4:(λg=>if g<W2.heap.size then own' g else none)=own4 at*;have hoD:own4 D=none:=by rw[<-ho4];simp only;rw[zP hDlt];exact k2
    have Rn:AS ⟨C.P,C.n,C.sh,W3,own4,σ',M'.length,none,LH D⟩ F M' {a with defers:=LH D++a.defers} W3 σ' own4:=
     ⟨R4.size,by simp[hd0],R4.tmp,R4.mem,R4.shr,GJ.refl _ _,λT v st h=>⟨by
      rcases uY T M'.length with h2|h2
      .exact h2
      .have h' :σ' T v=some st:=h;rw[R4.mem.key T v h2] at h';simp at h',.inl h⟩⟩
    refine wpIn_mono (hafter M' hI tk ⟨C.P,C.n,C.sh,W3,own4,σ',M'.length,none,LH D⟩ rfl (vg _) hcr _ W3 ⟨σ',own4,Rn⟩) ?_;rintro e a5 W5 (⟨F5,M5,⟨rfl,hq⟩,σ5,own5,R5⟩ | ⟨rfl,_,_,_,_,_,⟨_,_,R5⟩,_⟩)
    .have hD5:W5.heap[D]?=some (.deferred (some [])):=(R5.ext.block D (vu.1 kD).1 hoD).trans kD;have hoD5:own5 D=none:=by
      cases e:own5 D with
      |none=>rfl
      |some T' =>rcases R5.ext.own D (by rw[e];simp) with h|h
                 .exact absurd hoD h
                 .have:=(vu.1 kD).1;simp at h;omega
     have R6:=(R4.on hdf R5).putObj (.deferred none) hoD5 (hnsh D zO) zO;exact .inr ⟨rfl,D,F5,M5,_,hq,⟨_,_,R6⟩,R5.dfr,run_takeDeferred hD5,hrd⟩
    .have:=R5.dfr;simp[LH] at this
   .rw[hKeep] at hk;obtain⟨k1,k2,k3,k4,k5⟩:=hk;obtain⟨F4,M4,hw,hq⟩:=hq;have hlt:l<W2.heap.size:=(vu.1 hlr).1;have hDlt:D<W2.heap.size:=(vu.1 k5).1;obtain⟨oL,hend⟩:∃o,(Instr.endLoop l).run C.P W2= .ok (some .ret) (W2.putObj l o):=⟨_,by rw[run_endLoop (P:=C.P) hlr (by rw[hrec];simp),hrec]⟩;refine⟨some .ret,_,hend,wpIn_ret ?_⟩;have R4:=R'.putObj oL k3 (hnsh l zO) zO;have kD:(W2.putObj l oL).heap[D]?=some (.deferred (some [])):=(World.putObj_heap_other zO).trans k5;obtain⟨σ5,own5,R5,hn5⟩:=R4.weak hw;have R6:=R5.putObj (.deferred none) (hn5 D (vu.1 kD).1 (by rw[zP hDlt];exact k2)) (hnsh D zO) zO;have R7:Cu C F4 M4 {({a with defers:=LH D++a.defers}:Act) with defers:=[]} ((W2.putObj l oL).putObj D (.deferred none)):=⟨σ5,_,R6.size,hdf.symm,R6.tmp,R6.mem,R6.shr,R6.ext,R6.key0⟩;exact .inr ⟨rfl,D,F4,M4,_,hq,R7,by simp[hd0],run_takeDeferred kD,hrd⟩
theorem Qa {w:World} {sh:Nat->Prop} {σ:Nat->Nat->Option St}:∀(j:Nat) (xs:List AV) (vs:List Value),AI w sh σ xs vs (λ_=>0)->AI w sh σ (xs.take j) (vs.take j) (λ_=>0)
 |0,xs,vs,_=>by simp[AI]
 |j+1,[],vs,h=>by simp only[AI] at h;rw[h.1];simp[AI]
 |j+1,x::xs,vs,h=>by
  simp only[AI] at h;obtain⟨v,rest,f1,f2,rfl,h1,h2,hf⟩:=h;have e1:f1=λ_=>0:=Gc λg=>by have:=hf g;omega
  have e2:f2=λ_=>0:=Gc λg=>by have:=hf g;omega
  subst e1 e2;exact⟨v,rest.take j,_,_,rfl,h1,Qa j xs rest h2,λ_=>rfl⟩
section
variable {C:BF} {w:World} {σ:Nat->Nat->Option St} {own:Nat->Option Nat} {M:List Ag} {F:Fr} {a:Act} {T:Nat->Option TI}
theorem AS.copy (tk:BQ C.P T) (R:AS C F M a w σ own) {t ty e eb:Nat} {ez:List AV} (htd:Ax T t= .slice e 1 eb ez) {B v off n:Nat} {cs ys:List AV} (hb:Ah M B v=some cs) {x y:Value} (hx:VR w C.sh σ (.tok B v 1 off n) x (λ_=>0)) {ya:AV} (hy:VR w C.sh σ ya y (λ_=>0))
 {m:Nat} (hyc:De M ya=some (m,ys)) (hyl:ys.length=m*1) (hyo:ys.all DS=true) (hle:off+n<=cs.length) (hn:0<n) (hm:0<m):
 ∃w',(Builtin.copy_ #[t,t] ty #[x,y]).run C.P w= .ok (.int .i64 (min m n:Nat)) w' /\AS C F (M.set B (.live v (Bt cs off (ys.take (min m n))))) a w' σ own:=by
 obtain⟨hD,E,z,hE,hs1,_⟩:=CH tk htd;obtain⟨hM,fp,hB,hf⟩:=Cv R.mem hb;simp only[BR] at hB;obtain⟨h0,hB'⟩:=hB;simp only[VR] at hx;obtain⟨_,_,st,hst,hnil,hloc⟩:=hx;rcases hB' with⟨h1,h2,_⟩ | ⟨h,b,cur,e',fp',h1,h2,h3,h4,h5⟩
 .subst h2;simp at hle;omega
 .rw[h1] at hst;simp at hst;subst hst;obtain⟨ad0,c,rfl,had,hnc,hcm,hcz⟩:=hloc h b _ rfl;have hade:=had zO;subst hade;obtain⟨ad,c2,news,fpy,rfl,hnw,hv⟩:=Ju R.mem hy hyc hyl;have hv0:=KI hv hyo;have hnl:news.length=m:=by rw[Ca hv,hyl];omega
  obtain⟨a',rfl,hrow⟩:∃a',ad=some a' /\E4 w a' news:=by
   rcases hnw with h|h
   .rw[h] at hnl;simp at hnl;omega
   .exact h
  have hcell:ys.all CD=true:=by
   rw[u1] at hyo |-;intro c hc;have:=hyo c hc;simp[DS] at this;exact this.2
  have ho:own h=some B:=by
   have:=hf h;have h6:=h5 h;simp at h6;split at this
   .assumption
   .omega
  generalize hj:min m n=j at*;have hjm:j<=m:=zO;have hjn:j<=n:=zO;have hvt:=Qa j _ _ hv0;have hlt:(news.take j).length=j:=Ao;have hone:∀u∈news.take j,u.oneCell' =true:=λu hu=>Fd hv0 hcell u (List.mem_of_mem_take hu);have hrun:=run_copy_row C.P w t t ty e h (b+off) n c a' m c2 cur e' (news.take j) hD (by rw[hE];simp[hs1]) h2 (by rw[hlt];exact hj.symm) (λi u hu=>hrow i u (by
   rw[vT] at hu;split at hu
   .exact hu
   .simp at hu)) (by rw[hlt];omega) hone
  rw[hlt] at hrun;refine⟨_,hrun,KL R hb h1 ho h2 ?_ (cs' :=Bt cs off (ys.take j)) (by rw[Fc];exact h3) ?_⟩
  .simp;omega
  .intro fp hv;obtain⟨fp',h7,h8⟩:=Jv (ys.take j) off hv hvt;refine⟨fp',?_,h8⟩;have hlen:((cur.toList.drop b).take cs.length).length=cs.length:=Ao;rw[MU _ _ _ (by rw[hlen,hlt];omega)] at h7;rw[Fc];have:=HU cur.toList (news.take j) b off cs.length (by simpa using h3) (by rw[hlt];omega);rw[hlt] at this h7;simp only[List.toList_toArray] at*;rw[this];exact h7
end
theorem ux {C:BF} {F F' :Fr} {M' :List Ag} {k j u v t s off n:Nat} {xs:List AV} (hp:C.p<=k) (hkj:k<=j) (hj:M'[j]?=some (.live u xs)) (ht:F t= .tok j u s off n)
 (hF:∀t',(F' t' =F t' /\Iz k (F t')=true)\/F' t' = .any\/(t' =t/\F' t' = .tok k v s off n)) (hM:(M'.take k).all (KT k)=true) (hx:D5 k xs=true):Dj C F M' F' (M'.take k++[.live v xs]):=by
 rintro a w ⟨σ,own,R⟩;have hjl:j<M'.length:=by
  rcases uY j M'.length with h|h
  .exact h
  .simp[uR h] at hj
 have hkl:(M'.take k).length=k:=Ao;let own' :Nat->Option Nat:=λg=>match own g with|some T=>if T<k then some T else if T=j then some k else none|none=>none
 let σ' :Nat->Nat->Option St:=λT x=>if T<k then σ T x else if T=k/\x=v then σ j u else none
 have L:Ci w w C.sh C.sh (I5 k σ) σ' :=⟨λ_ _=>rfl,λ_ h=>h,λT x st h=>by
  simp only[I5] at h;split at h
  .rename_i hT;left;simp only[σ',hT,if_true];exact h
  .simp at h⟩
 have ho:∀g T,T<k->own g=some T->own' g=some T:=λg T hT h=>by simp only[own',h,hT,if_true]
 have hkv:σ' k v=σ j u:=by simp[σ']
 refine⟨σ',own',R.size,R.dfr,λt' ht' =>?_,⟨λT B hB=>?_,λT x hT=>?_⟩,λg hg=>?_,?_,λT x st h=>?_⟩
 .rcases hF t' with⟨e,hn⟩ |e| ⟨rfl,e⟩
  .rw[e];exact VR.later L _ _ _ (λ_ _=>rfl) (RH _ _ _ hn (R.tmp t' ht'))
  .rw[e];intro g;rfl
  .rw[e];have h:=R.tmp t' ht';rw[ht] at h;simp only[VR] at h |-;rw[hkv];exact h
 .by_cases hT:T<k
  .rw[vk zO,wd hT] at hB;obtain⟨fp,b1,b2⟩:=R.mem.blk T B hB;have hnm:=u1.1 hM B (vo (by rw[wd hT];exact hB));have hk:∀x,σ' T x=σ T x:=λx=>by simp only[σ',hT,if_true]
   refine⟨fp,?_,λg=>?_⟩
   .cases B with
    |free=>exact⟨λx=>by rw[hk];exact b1.1 x,b1.2⟩
    |dead=>exact b1
    |live y cs=>
     obtain⟨c0,b1⟩:=b1;refine⟨λu' hu=>by rw[hk];exact c0 u' hu,?_⟩;rcases b1 with⟨c1,c2,c3⟩ | ⟨hh,b,cur,e',fp',c1,c2,c3,c4,c5⟩
     .exact .inl ⟨by rw[hk];exact c1,c2,c3⟩
     .exact .inr ⟨hh,b,cur,e',fp',by rw[hk];exact c1,c2,c3,AI.later L _ _ _ (λ_ _=>rfl) (HD _ _ _ hnm c4),c5⟩
   .have:=b2 g;split at this
    .rename_i e;rw[zP (ho g T hT e)];exact this
    .omega
  .rw[vj zO,hkl] at hB;have hTk:T=k:=by
    rcases uY (T-k) 1 with h|h
    .omega
    .rw[uR (by simpa using h)] at hB;simp at hB
   subst hTk;simp at hB;subst hB;obtain⟨fp,b1,b2⟩:=R.mem.blk j _ hj;refine⟨fp,?_,λg=>?_⟩
   .obtain⟨c0,b1⟩:=b1;refine⟨λu' hu=>?_,?_⟩
    .have:¬u' =v:=zO;simp[σ',this]
    rcases b1 with⟨c1,c2,c3⟩ | ⟨hh,b,cur,e',fp',c1,c2,c3,c4,c5⟩
    .exact .inl ⟨by rw[hkv];exact c1,c2,c3⟩
    .exact .inr ⟨hh,b,cur,e',fp',by rw[hkv];exact c1,c2,c3,AI.later L _ _ _ (λ_ _=>rfl) (HD _ _ _ hx c4),c5⟩
   .have:=b2 g;split at this
    .rename_i e;have:own' g=some T:=by
      have hjT:¬j<T:=zO;simp only[own',e,hjT,if_false,if_true]
     rw[zP this];assumption
    .omega
 .simp at hT;have h1:¬T<k:=zO;have h2:¬T=k:=zO;simp[σ',h1,h2]
 .have h1:=R.shr g hg;exact⟨by simp only[own',h1.1],h1.2⟩
 .refine⟨R.ext.os,R.ext.tape,R.ext.output,R.ext.size,R.ext.block,λg hg=>R.ext.own g ?_⟩;intro e;simp only[own',e] at hg;exact hg rfl
 .obtain⟨h1,h2⟩:=R.key0 T x st h;have:T<k:=zO;exact⟨h1,by simp only[σ',this,if_true];exact h2⟩
theorem tw {p:Nat} {F:Fr} {M' :List Ag} {k j u v t s off n:Nat} {xs:List AV} {S:List (Nat×AV)} (hj:M'[j]?=some (.live u xs)) (ht:F t= .tok j u s off n) (hkj:k<=j) (hp:p<=k) (h:AA F S) (hn:NW k S=true) (hA:(M'.take k).all (KT k)=true) (hx:D5 k xs=true):
 Wk p F M' (Abs.fr ((t,.tok k v s off n)::S)) (M'.take k++[.live v xs]):=λC hC=>ux zO hkj hj ht (λt' =>by
 by_cases e:t' =t
 .subst e;exact .inr (.inr ⟨rfl,by simp[Abs.fr,Bu]⟩)
 .have e2:Abs.fr ((t,.tok k v s off n)::S) t' =Abs.fr S t' :=by simp[Abs.fr,Bu,e]
  rw[e2];rcases LY F S h t' with h|h
  .exact .inl ⟨h,by rw[<-h];exact U2 k S hn t'⟩
  .exact .inr (.inl h)) hA hx
def gy (p:Nat) (Q:Cj):Cj:=λe F M=>match e with| .normal=>∃F' M',Wk p F M F' M' /\Q .normal F' M' |e=>Q e F M
theorem tN {P:Program} {T:Nat->Option TI} {p:Nat} {c:Code} {F:Fr} {M:List Ag} {Q:Cj} (h:W P T p c F M (gy p Q)):W P T p c F M Q:=λtk C hC hp hb=>
 (h tk C hC hp hb).post λe F M q=>by
   cases e<;>first|exact⟨F,M,Dj.refl _ _ _,q⟩ |skip
   obtain⟨F',M',hw,q'⟩:=q;exact⟨F',M',hw C zO,q'⟩
section
variable {P:Program} {F:Fence} {n:Nat} {b:Frame} {a:Act} {k:List Item} {cs:List Frame} {w:World} {Q:Exit->Act->World->Prop}
theorem F8 {c:Code}:step P (lone (b.atR a (.code (.scope c)::k)) cs w)= .next (lone (b.atR a (.code c:: .inScope c::k)) cs w):=
 step_lone_go (by simp[stepG,stepG.exec,Frame.atR])
theorem Q3 {c:Code}:step P (lone (b.atR a (.inScope c::k)) cs w)= .next (lone (b.atR a k) cs w):=
 step_lone_go (by simp[stepG,stepG.exec,Frame.atR])
theorem Vl {c:Code} (h:c.wpIn F n P (Exit.noGoto Q) a w):(Code.scope c).wpIn F n P Q a w:=by
 intro b k cs hro hb hr;have h0:(lone (b.atR a (.code (.scope c)::k)) cs w).fenced P F:=fenced_calm hb hr rfl;obtain⟨e,a₁,w₁,hq,harr⟩:=h b (.inScope c::k) cs hro hb hr;cases e with
 |normal=>exact⟨.normal,a₁,w₁,hq,.head h0 F8 (StepsIn.trans harr (.one (fenced_calm hb hr rfl) Q3))⟩
 |exit id=>
  have hx:exitTo id (.inScope c::k)=exitTo id k:=by simp[exitTo]
  exact⟨.exit id,a₁,w₁,hq,λk' hk=> .head h0 F8 (harr.1 k' (by rw[hx];exact hk)),
   λhr' hk=>let ⟨k₁,h1,h2⟩:=harr.2 hr' (by rw[hx];exact hk);⟨k₁,h1,.head h0 F8 h2⟩⟩
 |goto l=>exact hq.elim
 |ret=>exact⟨_,a₁,w₁,hq,.of_steps (.one h0 F8) harr⟩
 |panic ch=>exact⟨_,a₁,w₁,hq,.of_steps (.one h0 F8) harr⟩
 |outgrown=>exact⟨_,a₁,w₁,hq,.of_steps (.one h0 F8) harr⟩
end
theorem uy {P:Program} {T:Nat->Option TI} {p:Nat} {x:Code} {F:Fr} {M:List Ag} {Q:Cj} (hg:∀l F M,Q (.goto l) F M->False) (h:W P T p x F M Q):W P T p (.scope x) F M Q:=λtk C hC hp hb=>by
 intro a w hr;refine Vl (wpIn_mono (h tk C hC hp (by simpa[CL] using hb) a w hr) ?_);intro e a w q;cases e<;>first|exact q|skip
 rename_i l;rcases q with⟨F,M,q,_⟩ | ⟨h,_⟩
 .exact hg l F M q
 .cases h
theorem Ac.nil {P:Program} {f s:Nat} {args:List AV} {Q:AV->Prop} {Q' :List Ag->Prop} (h:Ac P f (.tok 0 0 s 0 0::args) [.live 0 []] (λr M=>Q r/\Q' M)):Ac P f (.own s 0 []::args) [] (λr _=>Q r):=by
 refine⟨h.1,λw sh σ own vals hv m hs=>?_⟩;have hnone:∀T v,σ T v=none:=λT v=>m.key T v (vn _);let σ' :Nat->Nat->Option St:=λT v=>if T=0/\v=0 then some .nil else none
 have L:Ci w w sh sh σ σ' :=⟨λ_ _=>rfl,λ_ h=>h,λT v st e=>by rw[hnone] at e;simp at e⟩;have hv' :AI w sh σ' (.tok 0 0 s 0 0::args) vals.toList (λ_=>0):=by
  simp only[AI] at hv |-;obtain⟨v,rest,f1,f2,e,h1,h2,hf⟩:=hv;have z1:f1=λ_=>0:=Gc λg=>by have:=hf g;simp only at this |-;omega
  have z2:f2=λ_=>0:=Gc λg=>by have:=hf g;simp only at this |-;omega
  subst z1;subst z2;refine⟨v,rest,λ_=>0,λ_=>0,e,?_,AI.later L _ _ _ (λ_ _=>rfl) h2,λ_=>rfl⟩;simp only[VR] at h1 |-;rcases h1 with⟨ha,_⟩ | ⟨hh,b,c,cur,e',fp',_,_,_,_,_,_,_,hff⟩
  .refine⟨λ_=>trivial,?_,.nil,by simp[σ'],λ_=>⟨ha,trivial,trivial⟩,λ_ _ _ e=>by cases e⟩;obtain⟨a,ha⟩:=ha;exact⟨a,0,ha⟩
  .have:=hff hh;simp at this;omega
 have m' :Cp w sh σ' own [.live 0 []]:=by
  refine⟨λT B hB=>?_,λT v hT=>?_⟩
  .cases T with
   |zero=>
    simp at hB;subst hB
    exact⟨λ_=>0,⟨λv' hv' =>by have:¬v' =0:=zO
                              simp[σ',this],.inl ⟨by simp[σ'],rfl,λ_=>rfl⟩⟩,λ_=>vn _⟩
   |succ T=>simp at hB
  .have:¬T=0:=by simp at hT;omega
   simp[σ',this]
 refine(h.2 w sh σ' own vals hv' m' hs).mono ?_;rintro e w' ⟨r,v,M',σ'',own',fpr,he,q,hl,hr,hf,mm,hsh,hE,hL⟩;refine⟨r,v,[],λ_ _=>none,λg=>if own' g=some 1 then some 0 else none,fpr,he,q.1,rfl,hr,λg=>?_,⟨λT B hB=>by simp at hB,λ_ _ _=>rfl⟩,λg hg=>?_,⟨hE.os,hE.tape,hE.output,hE.size,hE.block,λg hg=>hE.own g λe=>?_⟩,⟨hL.ro,hL.sh,λT v st e=>by rw[hnone] at e;simp at e⟩⟩
 .have:=hf g;simp only[vA,List.length_nil,Nat.zero_add] at this |-;by_cases e:own' g=some 1
  .rw[zP e] at this;simp[e];exact this
  .rw[zM e] at this;simp[e];omega
 .simp[hsh g hg]
 .apply hg;simp[e]
section
variable {P:Program} {L:Bool} {T:Nat->Option TI} {ops:Array Oper} {sl:Nat->Nat} {K:Fr->List Ag->Prop}
theorem NY {C:BF} {call:D9} (hcall:∀f args M (K K' :AV->List Ag->Prop),(∀r M,K r M->K' r M)->call f args M K->Cd C f args M K') (tk:BQ C.P T) {i:Nat} {o:Oper} (ho:ops[i]?=some o) (hops:∀(k:Nat) (o:Oper),ops[k]?=some o->Bx C.n o=true) {Q' :Exit->Act->World->Prop} {next:Act->World->Prop} {F:Fr} {M:List Ag} {a:Act} {w:World}
 (hN:∀F M a w,K F M->Cu C F M a w->next a w) (h:CE T call ops sl i F M K) (r:Cu C F M a w):wpOpIn (FX C) 0 C.P ops Q' i next a w:=by
 unfold CE at h;unfold wpOpIn;simp only[ho] at h |-;have go:∀F,Dv T call o (sl i) F M K->Cu C F M a w->o.wpIn (FX C) 0 C.P a w next Q' :=λF h r=>by
  obtain⟨σ,own,R⟩:=r;exact I2 tk (hops i o ho) (Fg (call:=call) (call' :=Cd C) (λf args M K K' hk hc=>hcall f args M K K' (λr M h=>hk _ _ h) hc) (λ_ _ h=>h) h) R hN
 unfold G3 at h;cases hg:o.guard with
 |none=>
  simp only[hg] at h;rw[zP (by simp[Region.wanted,hg])];exact go F h r
 |some g=>
  obtain⟨j,want⟩:=g;simp only[hg] at h;cases hd:(ops[j]?).bind (·.dst) with
  |none=>simp only[hd] at h
  |some d=>
   simp only[hd] at h;have hor:(∃b,F d= .bool b)\/F d= .tup []:=by
    cases hFd:F d<;>simp only[hFd] at h
    .exact .inl zX
    .rename_i xs;cases xs with
     |nil=>exact .inr rfl
     |cons x xs=>simp at h
   have r' :=r;obtain⟨σ,own,R⟩:=r';obtain⟨oj,hj,hdj⟩:=xb.1 hd;have hdn:d<C.n:=by
    have h1:=hops j oj hj;simp only[Bx,uU,hdj] at h1;simpa using h1.2
   have hv:=R.tmp d hdn;rcases hor with⟨b,hFd⟩ |hFd
   rotate_left
   .rw[hFd] at hv;obtain⟨cs,he,_⟩:=hv;have hget:a.tmps[d]?=some (.tuple cs):=by
     have hs:=R.size;have hlt:d<a.tmps.size:=by rw[hs];exact hdn
     simp[vD,hlt] at he;simp[hlt,he]
    have hy:yielded ops a.tmps j=none:=by simp[yielded,hd,hget]
    rw[zM (by simp[Region.wanted,hg,hy])];simp only[hFd] at h;exact⟨λ_ _=>trivial,hN _ _ _ _ h ⟨σ,own,R.put o.dst (v:=undef) ⟨#[],rfl,rfl,λ_=>rfl⟩⟩⟩
   rw[hFd] at hv;simp only[hFd] at h;have he:=hv.1;have hget:a.tmps[d]?=some (.bool b):=by
    have hs:=R.size;have hlt:d<a.tmps.size:=by rw[hs];exact hdn
    simp[vD,hlt] at he;simp[hlt,he]
   have hy:yielded ops a.tmps j=some b:=by simp[yielded,hd,hget]
   by_cases hbw:b=want
   .rw[zP (by simp[Region.wanted,hg,hy,hbw])];simp only[hbw,beq_self_eq_true] at h;exact go F h r
   .rw[zM (by simp[Region.wanted,hg,hy,hbw])];have:(b==want)=false:=by simpa using hbw
    simp only[this] at h;exact⟨λ_ _=>trivial,hN _ _ _ _ h ⟨σ,own,R.put o.dst (v:=undef) ⟨#[],rfl,rfl,λ_=>rfl⟩⟩⟩
end
section
variable {P:Program} {L:Bool} {T:Nat->Option TI} {K:Fr->List Ag->Prop}
theorem L4 {call:D9} (hm:∀f args M (K K' :AV->List Ag->Prop),(∀r M,K r M->K' r M)->call f args M K->call f args M K') {K' :Fr->List Ag->Prop} (hK:∀F M,K F M->K' F M) {l tl:List Oper} {base:Nat}:∀(rest pre:List Oper) (F:Fr) (M:List Ag),l=pre++rest++tl->Aw T call l.toArray rest (base+Bb pre) F M K->
 CI T call l.toArray (λi=>base+Bb (l.take i)) (xp pre.length rest.length) F M K'
 | [],pre,F,M,hl,h=>hK _ _ h
 |o::rest,pre,F,M,hl,h=>by
  have hi:l.toArray[pre.length]?=some o:=by rw[hl];simp
  have ht:l.take pre.length=pre:=by rw[hl];simp
  have ih:∀F M,Aw T call l.toArray rest (base+Bb pre+BT o) F M K->CI T call l.toArray (λi=>base+Bb (l.take i)) (xp (pre.length+1) rest.length) F M K' :=λF M h=>by
   have:=L4 hm hK (l:=l) (tl:=tl) (base:=base) rest (pre++[o]) F M (by rw[hl];simp) (by rw[IF,KS,<-Nat.add_assoc];exact h);simpa using this
  simp only[vA,List.range'_succ,CI];unfold CE;simp only[hi,ht];simp only[Aw] at h;have mono:∀F,Dv T call o (base+Bb pre) F M (λF' M' =>Aw T call l.toArray rest (base+Bb pre+BT o) F' M' K)->Dv T call o (base+Bb pre) F M (λF' M' =>CI T call l.toArray (λi=>base+Bb (l.take i)) (xp (pre.length+1) rest.length) F' M' K'):=λF h=>
   Fg (call:=call) (call' :=call) (λf args M K K' hk h=>hm f args M K K' (λr M h=>hk _ _ h) h) (λF M h=>ih F M h) h
  unfold G3;split at h
  .rename_i hg;simp only[hg];exact mono _ h
  .rename_i j want hg;simp only[hg];split at h
   .rename_i d hd;simp only[hd];unfold gK at h;split at h
    .rename_i b hF;simp only[hF];by_cases hb:b=want
     .simp only[hb,beq_self_eq_true];have:=h.1 hb;simp only at this;rw[FL F d _ (by rw[hF,hb])] at this;exact mono _ this
     .have e:(b==want)=false:=by simpa using hb
      simp only[e];have hbn:b= !want:=by cases b<;>cases want<;>simp_all
      have:=h.2 hbn;simp only at this;rw[FL F d _ (by rw[hF,hbn])] at this;exact ih _ _ this
    .rename_i hF;simp only[hF];rw[FL F d _ hF] at h;exact ih _ _ h
    .exact h.elim
   .exact h.elim
end
section
variable {P:Program} {L:Bool} {T:Nat->Option TI} {sl:Nat->Nat} {K:Fr->List Ag->Prop}
theorem aV {C:BF} {m:Nat} (hC:C.P=P) (tk:BQ P T) {l:List Oper} (hops:∀(k:Nat) (o:Oper),l.toArray[k]?=some o->Bx C.n o=true) (hml:m<=l.length) (hd:∀(i k:Nat) (oi ok:Oper),l.toArray[i]?=some oi->l.toArray[k]?=some ok->(∀p∈Cz oi,p<i)/\(k<i->(i<m/\Fp L l.toArray ok oi=true)\/∀S,J5 l.toArray S->(∀p∈Cz oi,S p)->S k)) (hc5:∀(k:Nat) (o:Oper),l.toArray[k]?=some o->AR o.op<=5)
 (hsl:∀(i k:Nat) (oi ok:Oper),l.toArray[i]?=some oi->l.toArray[k]?=some ok->Bh oi.op=true->Bh ok.op=true->i≠k->sl i≠sl k) {Q' :Exit->Act->World->Prop} (hQ:∀F M a w,K F M->Cu C F M a w->Q' .normal a w):
 ∀(fuel:Nat) (listed:Array Bool) (rem:List Nat) (F:Fr) (M:List Ag) (a:Act) (w:World),rem=(vK m).filter (λi=> !listed.getD i true)->rem.length+(l.length-m)<=fuel->(∀i,m<=i->listed.getD i false=false)->listed.size=l.length->J5 l.toArray (λi=>listed.getD i false=true)->
 (∀j oj,l.toArray[j]?=some oj->Bh oj.op=true->sl j<M.length)->CI T (Ai P L) l.toArray sl rem F M (λF M=>∃F' M',Dj C F M F' M' /\CI T (Ad P) l.toArray sl (xp m (l.length-m)) F' M' K)->Cu C F M a w->wpAnyIn (FX C) 0 C.P .any l.toArray Q' fuel listed a w:=by
 intro fuel;have hready:∀(listed:Array Bool) i,i∈Region.ready .any l.toArray listed->i<l.length/\listed.getD i true=false/\∀o,l.toArray[i]?=some o->∀p∈Cz o,listed.getD p false=true:=by
  intro listed i hi;simp only[Region.ready,vC,xj,uU] at hi;obtain⟨h1,h2,h3⟩:=hi;refine⟨by simpa using h1,by simpa using h2,λo ho p hp=>?_⟩;rw[ho] at h3;simp only[vI,xz] at h3;simp only[Cz,vH,vC] at hp;obtain⟨e,⟨he,hb⟩,rfl⟩:=hp;have h4:=wc.1 h3 e (by simpa using he);simp only[hb,xt,xC] at h4;exact h4
 have hleast:∀(listed:Array Bool) (i:Nat),listed.size=l.length->i<l.length->listed.getD i true=false->(∀p,p<i->listed.getD p false=true)->i∈Region.ready .any l.toArray listed:=by
  intro listed i hsz hlt hi hmin;have hi2:l.toArray[i]?=some l[i]:=by simp[hlt]
  simp only[Region.ready,vC,xj,uU];refine⟨by simpa using hlt,by simp[hi],?_⟩;rw[hi2];simp only[vI,xz];rw[wc];intro e he;cases hb:Region.binds .any e with
  |false=>rfl
  |true=>
   simp only[xt,xC];refine hmin _ ((hd i i _ _ hi2 hi2).1 _ ?_);simp only[Cz,vH,vC];exact⟨e,⟨by simpa using he,hb⟩,rfl⟩
 have hstep:∀(listed:Array Bool) (i:Nat),listed.size=l.length->i<l.length->∀t,(listed.setIfInBounds i true).getD t false=true↔t=i\/listed.getD t false=true:=by
  intro listed i hsz hil t;have hil:i<listed.size:=by rw[hsz];exact hil
  by_cases e:t=i
  .subst e;simp[vD,hil]
  .have:¬i=t:=λh=>e h.symm;by_cases htl:t<listed.size
   .simp[vD,htl,e,this,vW]
   .simp[vD,htl,e]
 have hTF:∀(listed:Array Bool) t,listed.size=l.length->t<l.length->(listed.getD t true=false↔¬listed.getD t false=true):=by
  intro listed t hsz ht;have:t<listed.size:=zO;simp[vD,this]
 have chain:∀(fuel:Nat) (listed:Array Bool) (j:Nat) (F:Fr) (M:List Ag) (a:Act) (w:World),m<=j->j<=l.length->l.length-j<=fuel->listed.size=l.length->(∀t,listed.getD t false=true↔t<j)->
  CI T (Ad P) l.toArray sl (xp j (l.length-j)) F M K->Cu C F M a w->wpAnyIn (FX C) 0 C.P .any l.toArray Q' fuel listed a w:=by
  intro fuel
  induction fuel with
  |zero=>
   intro listed j F M a w hmj hjl hf hsz hls h r;have hj:j=l.length:=zO;subst hj;rw[wp] at h;refine⟨?_,hQ _ _ _ _ h r⟩;apply vv;intro hne;obtain⟨i,hi⟩:=List.exists_mem_of_ne_nil _ hne;have h1:=hready listed i hi;exact((hTF listed i hsz h1.1).1 h1.2.1) ((hls i).2 h1.1)
  |succ fuel ih=>
   intro listed j F M a w hmj hjl hf hsz hls h r;refine⟨λhr=>?_,λi hi=>?_⟩
   .have hj:j=l.length:=by
     apply vv;intro hne;have:=hleast listed j hsz zO ((hTF listed j hsz zO).2 λe=>by have:=(hls j).1 e;omega) (λp hp=>(hls p).2 hp);rw[hr] at this;simp at this
    subst hj;rw[wp] at h;exact hQ _ _ _ _ h r
   .have h1:=hready listed i hi;have hij:i=j:=by
     have hge:¬i<j:=λhlt=>((hTF listed i hsz h1.1).1 h1.2.1) ((hls i).2 hlt);apply vv;intro hne;have hlt:j<i:=zO;have hjm:j<l.length:=zO;rcases(hd i j _ _ (show l.toArray[i]?=some (l[i]'h1.1) by simp[h1.1]) (show l.toArray[j]?=some (l[j]'hjm) by simp[hjm])).2 hlt with⟨h,_⟩ |h
     .omega
     .have:=h (λt=>listed.getD t false=true) (λt o ho ht p hp=>by
       have ht' :=(hls t).1 ht;show listed.getD p false=true;rw[hls];have:=(hd t t o o ho ho).1 p hp;omega) (h1.2.2 _ (by simp[h1.1]))
      have:=(hls j).1 this;omega
    subst hij;have hi2:l.toArray[i]?=some (l[i]'h1.1):=by simp[h1.1]
    rw[show l.length-i=(l.length-(i+1))+1 by omega,List.range'_succ] at h;refine NY (call:=Ad P) (λf args M K K' hk hc=>(hc C hC).mono hk) (hC ▸ tk) hi2 hops (λF' M' a' w' hk r' =>?_) h r;exact ih _ (i+1) F' M' a' w' zO zO zO (by simpa using hsz) (λt=>by rw[hstep listed i hsz h1.1 t,hls];omega) hk r'
 induction fuel with
 |zero=>
  intro listed rem F M a w hrem hlen hlt hsz hcl hsm h r;have hr0:rem=[]:=by
   have:rem.length=0:=zO;simpa using this
  subst hr0;obtain⟨F',M',hw,h⟩:=h;refine chain 0 listed m F' M' a w (vg _) hml (by simp at hlen;omega) hsz (λt=>⟨λht=>?_,λht=>?_⟩) h (hw a w r)
  .apply vv;intro hn;rw[hlt t zO] at ht;simp at ht
  .apply vv;intro hn;have:t∈(vK m).filter (λi=> !listed.getD i true):=vC.2 ⟨by simpa using ht,by simp[(hTF listed t hsz zO).2 hn]⟩;rw[<-hrem] at this;simp at this
 |succ fuel ih=>
  intro listed rem F M a w hrem hlen hlt hsz hcl hsm h r;by_cases hr0:rem=[]
  .subst hr0;obtain⟨F',M',hw,h⟩:=h;refine chain (fuel+1) listed m F' M' a w (vg _) hml (by simp at hlen;omega) hsz (λt=>⟨λht=>?_,λht=>?_⟩) h (hw a w r)
   .apply vv;intro hn;rw[hlt t zO] at ht;simp at ht
   .apply vv;intro hn;have:t∈(vK m).filter (λi=> !listed.getD i true):=vC.2 ⟨by simpa using ht,by simp[(hTF listed t hsz zO).2 hn]⟩;rw[<-hrem] at this;simp at this
  refine⟨λhr=>?_,λi hi=>?_⟩
  .exfalso;obtain⟨i,rest,hir⟩:=List.exists_cons_of_ne_nil hr0;have hmem:i∈rem:=by rw[hir];simp
   have hpw:rem.Pairwise (·<·):=by rw[hrem];exact(Fv _).filter _
   have hmem' :=vC.1 (hrem ▸ hmem);have him:i<m:=by simpa using hmem'.1
   have hmin:∀p,p<i->listed.getD p false=true:=by
    intro p hp;apply vv;intro hno;have:p∈rem:=by
     rw[hrem];exact vC.2 ⟨Ao,by simp[(hTF listed p hsz zO).2 hno]⟩
    rw[hir] at this hpw;rcases vL.1 this with h|h
    .omega
    .have:=(vP.1 hpw).1 p h;omega
   have:=hleast listed i hsz zO (by simpa using hmem'.2) hmin;rw[hr] at this;simp at this
  .have h1:=hready listed i hi;have hi2:l.toArray[i]?=some (l[i]'h1.1):=by simp[h1.1]
   have him:i<m:=by
    apply vv;intro hge;obtain⟨k,rest,hkr⟩:=List.exists_cons_of_ne_nil hr0;have hkm:k∈rem:=by rw[hkr];simp
    have hk' :=vC.1 (hrem ▸ hkm);have hkm:k<m:=by simpa using hk'.1
    rcases(hd i k _ _ hi2 (show l.toArray[k]?=some (l[k]'zO) by simp)).2 zO with⟨h,_⟩ |h
    .omega
    .have h3:=h _ hcl (h1.2.2 _ hi2);exact((hTF listed k hsz zO).1 (by simpa using hk'.2)) h3
   have hmem:i∈rem:=by rw[hrem];exact vC.2 ⟨by simpa using him,by simp[h1.2.1]⟩
   obtain⟨pre,post,hpp⟩:=List.append_of_mem hmem;have hsorted:rem.Pairwise (·<·):=by rw[hrem];exact(Fv _).filter _
   rw[hpp] at hsorted;have hs1:=wg.1 hsorted;have hprelt:∀k∈pre,k<i:=λk hk=>hs1.2.2 k hk i zS;have hpostgt:∀k∈post,i<k:=(vP.1 hs1.2.1).1;have hpull:=Yd (n:=C.n) (sl:=sl) (L:=L) (F:=F) (M:=M) tk hops hsl hi2 pre post (λk hk=>Nat.ne_of_lt (hprelt k hk)) (λk hk ok hok=>?_) (λha=>hsm i _ hi2 ha) ⟨C,a,w,hC,rfl,r⟩ (by rw[<-hpp];exact h)
   .refine NV hC (hC ▸ tk) hi2 hops (λF' M' a' w' hk r' =>?_) (KR hops hc5 hpull) r;refine ih _ (pre++post) F' M' a' w' ?_ ?_ ?_ (by simpa using hsz) ?_ (λj oj hj ha=>xw (hsm j oj hj ha) hk.2) hk.1 r'
    .have:(vK m).filter (λt=> !(listed.setIfInBounds i true).getD t true)=((vK m).filter (λt=> !listed.getD t true)).filter (λt=>t !=i):=by
      rw[List.filter_filter];refine List.filter_congr λt ht=>?_
      have htl:t<listed.size:=by rw[hsz];have:t<m:=by simpa using ht
                                 omega
      by_cases e:t=i
      .subst e;simp[vD,htl]
      .have:¬i=t:=λh=>e h.symm;simp[vD,htl,e,this,vW]
     rw[this,<-hrem,hpp,wV,xv];simp only[bne_self_eq_false,vt,if_false];rw[wD.2 (λk hk=>by simp;exact Nat.ne_of_lt (hprelt k hk)),wD.2 (λk hk=>by simp;exact(Nat.ne_of_gt (hpostgt k hk)))]
    .rw[hpp] at hlen;simp at hlen |-;omega
    .intro t ht;apply vv;intro hn;have hn' :(listed.setIfInBounds i true).getD t false=true:=by simpa using hn
     rw[hstep listed i hsz h1.1 t] at hn';rcases hn' with h|h
     .omega
     .rw[hlt t ht] at h;simp at h
    .intro k o hk hlist p hp;rw[hstep listed i hsz h1.1] at hlist |-;rcases hlist with rfl|hlist
     .exact .inr (h1.2.2 o hk p hp)
     .exact .inr (hcl k o hk hlist p hp)
   .have hkrem:k∈rem:=by rw[hpp];simp[hk]
    have hkm:=vC.1 (hrem ▸ hkrem);rcases(hd i k _ ok hi2 hok).2 (hprelt k hk) with h|h
    .exact h.2
    .exfalso;have h3:=h _ hcl (h1.2.2 _ hi2);have hkl:k<l.length:=by have:=hprelt k hk;omega
     exact((hTF listed k hsz hkl).1 (by simpa using hkm.2)) h3
end
def Vm (L:Bool) (m:Nat) (l:List Oper):Bool:=Kn (λ_ ok i oi=>decide (i<m)&&Fp L l.toArray ok oi) l.toArray l [] [] 0&&(decide (m<=l.length)&&l.all λo=>decide (AR o.op<=5))
theorem uz {P:Program} {T:Nat->Option TI} {p:Nat} {F:Fr} {M:List Ag} {Q:Cj} {id:Nat} {l:List Oper} (n m:Nat) (hn:Bb l=n) (L:Bool) (hp:P.follows .mixedOrders=true) (hd:Vm L m l=true)
 (h:∀K:Fr->List Ag->Prop,(∀F M,Q .normal F M->K F M)->Aw T (Ai P L) l.toArray (l.take m) M.length F (M++uP n .free) λF' M' =>∃F₁ M₁,Wk p F' M' F₁ M₁/\Aw T (Ad P) l.toArray (l.drop m) (M.length+Bb (l.take m)) F₁ M₁ K):W P T p (.region id l.toArray true) F M Q:=by
 intro tk C hC hp' hb a w r;simp only[Vm,uU] at hd;simp only[CL] at hb;subst hn;have hops:∀(k:Nat) (o:Oper),l.toArray[k]?=some o->Bx C.n o=true:=λk o ho=>by
  refine u1.1 hb o ?_;rw[<-vp] at ho;exact vo ho
 have hc5:∀(k:Nat) (o:Oper),l.toArray[k]?=some o->AR o.op<=5:=λk o ho=>by
  have:=u1.1 hd.2.2 o (vo (by simpa using ho));simpa using this
 have hml:m<=l.length:=by simpa using hd.2.1
 refine wpIn_region_any (hC ▸ hp) ?_;obtain⟨σ,own,R⟩:=r;have hm1:∀f args M (K K' :AV->List Ag->Prop),(∀r M,K r M->K' r M)->Ai P L f args M K->Ai P L f args M K' :=λf args M K K' hk h=>Ai.mono (λr bs h=>hk _ _ h) h;have hm2:∀f args M (K K' :AV->List Ag->Prop),(∀r M,K r M->K' r M)->Ad P f args M K->Ad P f args M K' :=λf args M K K' hk h C hC=>(h C hC).mono hk;have hlt:(l.take m).length=m:=Ao;have h' :=L4 (call:=Ai P L) hm1 (K' :=λF' M' =>∃F₁ M₁,Dj C F' M' F₁ M₁/\CI T (Ad P) l.toArray (λi=>M.length+Bb (l.take i)) (xp m (l.length-m)) F₁ M₁ (Q .normal)) (λF' M' hk=>by
  obtain⟨F₁,M₁,hw,hk⟩:=hk;have:=L4 (call:=Ad P) hm2 (K' :=Q .normal) (λ_ _ h=>h) (l:=l) (tl:=[]) (base:=M.length) (l.drop m) (l.take m) F₁ M₁ zS hk;rw[hlt,List.length_drop] at this;exact⟨F₁,M₁,hw C hp',this⟩) (l:=l) (tl:=l.drop m) (base:=M.length) (l.take m) [] F _ zS (h _ λ_ _ h=>h)
 rw[hlt] at h';refine aV (m:=m) (l:=l) (L:=L) hC tk hops hml (λi k oi ok hi hk=>?_) hc5 (sl:=λi=>M.length+Bb (l.take i)) (λi k oi ok hi hk ha ha' hne=>?_) (K:=Q .normal) (Q' :=aq C Q) (λF M a w h r=> .inl ⟨F,M,h,r⟩) l.toArray.size (xn l.toArray.size false) (xp 0 m) F _ a w.drew ?_ ?_ ?_ ?_ ?_ ?_ h' ⟨σ,own,(R.grow _).drew⟩
 .have:=I8 (ops:=l.toArray) l [] [] [] zS rfl (λt m h=>by simp at h) (λk o _ h=>by simp at h) hd.1 i k oi ok hi hk (vn _);refine⟨this.1,λhlt=>?_⟩;rcases this.2 hlt with h|h
  .simp only[uU,decide_eq_true_eq] at h;exact .inl h
  .exact .inr h
 .have s1:BT oi=1:=by simp[BT,ha]
  have s2:BT ok=1:=by simp[BT,ha']
  rcases Nat.lt_or_gt_of_ne hne with h|h
  .have:=Ef (l:=l) (by simpa using hi) h;omega
  .have:=Ef (l:=l) (by simpa using hk) h;omega
 .rw[<-List.range_eq_range'];symm;rw[wD];intro t ht
  have:t<l.length:=by have:t<m:=by simpa using ht
                      omega
  simp[vD,this]
 .simp;omega
 .intro i _;simp[vD]
 .simp
 .intro i o ho hl;simp[vD] at hl
 .intro j oj hj ha;have s1:BT oj=1:=by simp[BT,ha]
  have hjl:j<l.length:=by
   rcases uY j l.length with h|h
   .exact h
   .rw[show l.toArray[j]?=l[j]? by simp,uR h] at hj;simp at hj
  have:=Ef (l:=l) (by simpa using hj) hjl;rw[uW] at this;simp only[u0,wQ];omega
theorem tO {P:Program} {T:Nat->Option TI} {p:Nat} {F:Fr} {M:List Ag} {Q:Cj} {id:Nat} {l:List Oper} (n m:Nat) (hn:Bb l=n) (L:Bool) (hp:P.follows .mixedOrders=true) (hd:Vm L m l=true)
 (h:∀K:Fr->List Ag->Prop,(∀F M,Q .normal F M->K F M)->Aw T (Ai P L) l.toArray (l.take m) M.length F (M++uP n .free) λF' M' =>Aw T (Ad P) l.toArray (l.drop m) (M.length+Bb (l.take m)) F' M' K):W P T p (.region id l.toArray true) F M Q:=
 uz n m hn L hp hd λK hK=>Dk (call:=Ai P L) (call' :=Ai P L) (λf args M K K' hk h=>Ai.mono (λr bs h=>hk _ _ h) h) (λF' M' (h:Aw T (Ad P) l.toArray (l.drop m) (M.length+Bb (l.take m)) F' M' K)=>⟨F',M',Wk.refl,h⟩) _ _ _ _ (h K hK)
def Qb (M:List Ag):AV->AV
 | .own _ 0 []=> .own 1 0 []
 |x=>vw M x
section
variable {P:Program} {f:Nat} {M:List Ag} {args cargs:List AV} {K:AV->List Ag->Prop} {Q:AV->List Ag->Prop}
theorem dZ {w:World} {sh shB:Nat->Prop} {σ:Nat->Nat->Option St} {own:Nat->Option Nat} (m:Cp w sh σ own M) (hs:∀g,sh g->shB g) (ho:∀g,own g≠none->g<w.heap.size->shB g) {x:AV} {v:Value} (h:VR w sh σ x v (λ_=>0)):VR w shB σ0 (Qb M x) v (λ_=>0):=by
 unfold Qb;split
 .simp only[VR] at h |-;rcases h with⟨ha,_⟩ | ⟨hh,b,c,cur,e',fp',_,_,_,_,_,_,_,hff⟩
  .exact .inl ⟨ha,trivial,trivial,λ_=>trivial⟩
  .have:=hff hh;simp at this;omega
 .exact UU m hs ho h
theorem uA (spec:Ac P f cargs [] Q) (hargs:args.map (Qb M)=cargs) (hk:∀r,Q r []->EP r=true/\K (EQ M.length r).1 (M++(EQ M.length r).2)):Ad P f args M K:=by
 intro C hC;subst hC;refine⟨spec.1,λF a w σ own vals R hv=>?_⟩;have hv' :AI w (λg=>C.sh g\/(own g≠none/\g<w.heap.size)) σ0 cargs vals.toList (λ_=>0):=by
  rw[<-hargs];have:=F6 (w:=w) (sh:=C.sh) (shB:=λg=>C.sh g\/(own g≠none/\g<w.heap.size)) (σ:=σ) (τ:=σ0) (f:=Qb M) (p:=λfp=>∀g,fp g=0) (λa b c hc e=>⟨λg=>by have:=e g;have:=hc g;omega,λg=>by have:=e g;have:=hc g;omega⟩) (λx v fp h hf=>by
   have:fp=λ_=>0:=funext hf;subst this;exact dZ R.mem (λg hg=> .inl hg) (λg hg hlt=> .inr ⟨hg,hlt⟩) h)
  exact this _ _ _ hv zL
 refine(spec.2 w _ σ0 (λ_=>none) vals hv' (HC _ _) (λg hg=>⟨rfl,?_⟩)).mono ?_
 .rcases hg with hg|hg
  .exact(R.shr g hg).2
  .exact hg.2
 .rintro e w' ⟨r,v,M',σ',own',fpr,rfl,hq,hl,hr,hf,hm,_,he,_⟩;have:M' =[]:=List.eq_nil_of_length_eq_zero (by simpa using hl);subst this;obtain⟨h1,h2⟩:=hk r hq;have hσ:σ' =σ0:=by funext T u;exact hm.key T u (vn _)
  subst hσ;obtain⟨σ2,own2,R2,r2⟩:=LS R he (LQ r v fpr h1 hr) hf;exact⟨_,v,_,σ2,own2,rfl,h2,R2,r2⟩
theorem tY {v:AV} (spec:Ac P f cargs [] λr _=>r=v) (hargs:args.map (Qb M)=cargs) (hr:EP v=true) (hk:K (EQ M.length v).1 (M++(EQ M.length v).2)):Ad P f args M K:=
 uA spec hargs λr e=>by subst e;exact⟨hr,hk⟩
end
theorem Dj.move {C:BF} {F F' :Fr} {M:List Ag} {j u t s off n:Nat} {xs:List AV} (hp:C.p<=j) (hj:M[j]?=some (.live u xs)) (ht:F t= .tok j u s off n)
 (hF:∀t',F' t' =F t' \/F' t' = .any\/(t' =t/\F' t' = .tok M.length 0 s off n)):Dj C F M F' (M.set j .dead++[.live 0 xs]):=by
 rintro a w ⟨σ,own,R⟩;have hjl:j<M.length:=(List.getElem?_eq_some_iff.1 hj).1;obtain⟨fpB,hB,hfB⟩:=R.mem.blk j _ hj;let σ' :Nat->Nat->Option St:=λT x=>if T=M.length then(if x=0 then σ j u else none) else σ T x
 let own' :Nat->Option Nat:=λg=>if own g=some j then some M.length else own g
 have keep:∀T x st,σ T x=some st->σ' T x=some st:=λT x st h=>by
  have:T≠M.length:=λe=>by rw[R.mem.key T x zO] at h;simp at h
  simp only[σ',this,if_false];exact h
 have L:Ci w w C.sh C.sh σ σ' :=⟨λ_ _=>rfl,λ_ h=>h,λT x st h=> .inl (keep T x st h)⟩;have hne:∀T x,T≠M.length->σ' T x=σ T x:=λT x h=>by simp only[σ',h,if_false]
 refine⟨σ',own',R.size,R.dfr,λt' ht' =>?_,⟨λT B hT=>?_,λT x hT=>?_⟩,λg hg=>?_,?_,R.keyl L⟩
 .rcases hF t' with h|h| ⟨rfl,h⟩
  .rw[h];exact VR.later L _ _ _ (λ_ _=>rfl) (R.tmp t' ht')
  .rw[h];intro g;rfl
  .have h1:=R.tmp t' ht';rw[ht] at h1;rw[h];simp only[VR] at h1 |-;obtain⟨h2,h3,st,h4,h5,h6⟩:=h1;exact⟨h2,h3,st,by simp only[σ',if_true];exact h4,h5,h6⟩
 .by_cases hTl:T<M.length
  .rw[vk (by simpa using hTl)] at hT;by_cases e:j=T
   .subst e;rw[uO hjl] at hT;simp at hT;subst hT;exact⟨λ_=>0,λ_=>rfl,λ_=>vn _⟩
   .rw[uN e] at hT;obtain⟨fp,b1,b2⟩:=R.mem.blk T B hT;refine⟨fp,EO L (λ_ _=>rfl) (λv=>hne T v zO) b1,λg=>?_⟩;have:=b2 g;split at this
    .rename_i eg;have:own' g=some T:=by
      have:¬own g=some j:=by rw[eg];simp;omega
      simp only[own',this,if_false];exact eg
     rw[zP this];assumption
    .omega
  .rw[vj (by simpa using Nat.le_of_not_lt hTl)] at hT;simp only[List.length_set] at hT;have hTe:T=M.length:=by
    rcases uY (T-M.length) 1 with h|h
    .omega
    .rw[uR (by simpa using h)] at hT;simp at hT
   subst hTe;simp at hT;subst hT;refine⟨fpB,?_,λg=>?_⟩
   .simp only[BR] at hB |-
    refine⟨λv' hv' =>by have:¬v' =0:=zO
                        simp only[σ',if_true,this,if_false],?_⟩
    rcases hB.2 with⟨h1,h2,h3⟩ | ⟨h,b,cur,e,fp',h1,h2,h3,h4,h5⟩
    .exact .inl ⟨by simp only[σ',if_true];exact h1,h2,h3⟩
    .exact .inr ⟨h,b,cur,e,fp',by simp only[σ',if_true];exact h1,h2,h3,AI.later L _ _ _ (λ_ _=>rfl) h4,h5⟩
   .have:=hfB g;split at this
    .rename_i eg;have:own' g=some M.length:=by simp only[own',eg,if_true]
     rw[zP this];assumption
    .omega
 .simp at hT;have:T≠M.length:=zO;rw[hne T x this];exact R.mem.key T x zO
 .have h2:=R.shr g hg;have:¬own g=some j:=by rw[h2.1];simp
  simp only[own',this,if_false];exact h2
 .refine⟨R.ext.os,R.ext.tape,R.ext.output,R.ext.size,R.ext.block,λg hg=>R.ext.own g ?_⟩;simp only[own'] at hg;split at hg
  .rename_i e;rw[e];simp
  .exact hg
theorem Wk.move {p:Nat} {F:Fr} {M:List Ag} {j u t s off n:Nat} {xs:List AV} {S:List (Nat×AV)} (hj:M[j]?=some (.live u xs)) (ht:F t= .tok j u s off n) (hp:p<=j) (h:AA F S):
 Wk p F M (Abs.fr ((t,.tok M.length 0 s off n)::S)) (M.set j .dead++[.live 0 xs]):=λC hC=>Dj.move zO hj ht λt' =>by
 by_cases e:t' =t
 .subst e;exact .inr (.inr ⟨rfl,by simp[Abs.fr,Bu]⟩)
 .have e2:Abs.fr ((t,.tok M.length 0 s off n)::S) t' =Abs.fr S t' :=by simp[Abs.fr,Bu,e]
  rw[e2];rcases LY F S h t' with h|h
  .exact .inl h
  .exact .inr (.inl h)
section
variable {C:BF} {w:World} {σ:Nat->Nat->Option St} {own:Nat->Option Nat} {M:List Ag} {F:Fr} {a:Act} {T:Nat->Option TI}
theorem T9 (R:AS C F M a w σ own) {B u h b sz:Nat} {cs:List AV} (hb:Ah M B u=some cs) (hs:σ B u=some (.loc h b sz)):∃cur e,sz=cur.size/\own h=some B/\w.heap[h]?=some (.cells cur e (0,0))/\b+cs.length<=cur.size:=by
 obtain⟨hM,fp,hB,hf⟩:=Cv R.mem hb;simp only[BR] at hB;rcases hB.2 with⟨h1,_,_⟩ | ⟨h',b',cur,e,fp',h1,h2,h3,h4,h5⟩
 .rw[h1] at hs;simp at hs
 .rw[h1] at hs;simp at hs;obtain⟨rfl,rfl,rfl⟩:=hs;refine⟨cur,e,rfl,?_,h2,h3⟩;have:=hf h';have h6:=h5 h';simp at h6;split at this
  .assumption
  .omega
theorem AS.rows (R:AS C F M a w σ own) {B u h b:Nat} {cs ys:List AV} {news:List Value} {cur:Array Value} {e:TypeId} (hb:Ah M B u=some cs) (hs:σ B u=some (.loc h b cur.size)) (ho:own h=some B) (hh:w.heap[h]?=some (.cells cur e (0,0))) (hbl:b+cs.length<=cur.size) (off:Nat)
 (hv:AI w C.sh σ ys news (λ_=>0)) (hle:off+ys.length<=cs.length):AS C F (M.set B (.live u (Bt cs off ys))) a (w.setRow h (cur.toList.take (b+off)++news++cur.toList.drop (b+off+news.length)).toArray) σ own:=by
 have hnl:=Ca hv;refine KL R hb hs ho hh ?_ (cs' :=Bt cs off ys) (by rw[Fc];exact hbl) ?_
 .simp;omega
 .intro fp hv2;obtain⟨fp',h5,h6⟩:=Jv ys off hv2 hv;refine⟨fp',?_,h6⟩;have hlen:((cur.toList.drop b).take cs.length).length=cs.length:=Ao;rw[MU _ _ _ (by rw[hlen,hnl];omega)] at h5;rw[Fc];have:=HU cur.toList news b off cs.length (by simpa using hbl) (by rw[hnl];exact hle);rw[show(cur.toList.take (b+off)++news++cur.toList.drop (b+off+news.length)).toArray.toList=cur.toList.take (b+off)++news++cur.toList.drop (b+off+news.length) from rfl,this];exact h5
theorem RN {ys:List AV} (h:ys.all DS=true):ys.all CD=true:=by
 rw[u1] at h |-;intro c hc;have:=h c hc;simp[DS] at this;exact this.2
theorem AS.appRoom (tk:BQ C.P T) (R:AS C F M a w σ own) {t ty e s eb:Nat} {ez:List AV} (htd:Ax T t= .slice e s eb ez) {B u h b sz n c:Nat} {cs ys:List AV} (hb:Ah M B u=some cs) (hs:σ B u=some (.loc h b sz)) {y:Value} {ya:AV} (hy:VR w C.sh σ ya y (λ_=>0))
 {m:Nat} (hyc:De M ya=some (m,ys)) (hyl:ys.length=m*s) (hyo:ys.all DS=true) (hroom:n+m<=c) (hle:(n+m)*s<=cs.length):
 ∃w',(Builtin.append_ #[t,t] ty #[.slice (some ⟨h,b,none⟩) n c,y]).run C.P w= .ok (.slice (some ⟨h,b,none⟩) (n+m) c) w' /\AS C F (M.set B (.live u (Bt cs (n*s) ys))) a w' σ own:=by
 obtain⟨hD,E,z,hE,hs1,_⟩:=CH tk htd;obtain⟨cur,e',rfl,ho,hh,hbl⟩:=T9 R hb hs;obtain⟨ad,c2,news,fpy,rfl,hnw,hv⟩:=Ju R.mem hy hyc hyl;have hv0:=KI hv hyo;have hnl:news.length=m*s:=by rw[Ca hv,hyl]
 have hm:n*s+m*s<=cs.length:=by rw[<-wK];exact hle
 have hrun:=LO (P:=C.P) (w:=w) t ty e E hD hE h b n c cur e' hh ad m c2 news (by rw[hs1];exact hnl) hnw (Fd hv0 (RN hyo)) hroom (by rw[hs1];omega);rw[hs1] at hrun;exact⟨_,hrun,R.rows hb hs ho hh hbl (n*s) hv0 zO⟩
theorem Vn (z:Array Value) (n:Nat):(Builtin.zeroCells z n).toList=(uP n z.toList).flatten:=by
 unfold Builtin.zeroCells;refine List.ext_getElem zS λi h1 h2=>?_;have hz:0<z.size:=by
  rcases wm z.size with h|h
  .simp[h] at h1
  .exact h
 have hi:i<n*z.size:=by simpa using h1
 simp only[Array.toList_map,Array.toList_range,List.getElem_map,List.getElem_range]
 induction n generalizing i with
 |zero=>simp at hi
 |succ n ih=>
  simp only[List.replicate_succ,List.flatten_cons];by_cases hlt:i<z.size
  .rw[List.getElem_append_left (by simpa using hlt),Nat.mod_eq_of_lt hlt];simp[hlt]
  .rw[List.getElem_append_right (by simpa using Nat.le_of_not_lt hlt)];have h3:i-z.size<n*z.size:=by rw[wK,Nat.one_mul] at hi;omega
   have:=ih (i-z.size) (by simpa using h3) (by simpa using h3) h3;have e:(i-z.size)%z.size=i%z.size:=(Nat.mod_eq_sub_mod (Nat.le_of_not_lt hlt)).symm;rw[e] at this;simpa using this
theorem AS.clr (tk:BQ C.P T) (R:AS C F M a w σ own) {t ty e s eb:Nat} {ez:List AV} (htd:Ax T t= .slice e s eb ez) {B u h b sz n c off:Nat} {cs:List AV} (hb:Ah M B u=some cs) (hs:σ B u=some (.loc h b sz)) (hp:ez.all DS=true) (hn:0<n) (hle:off+n*s<=cs.length):
 ∃w',(Builtin.clear_ #[t] ty #[.slice (some ⟨h,b+off,none⟩) n c]).run C.P w= .ok (.tuple #[]) w' /\AS C F (M.set B (.live u (Bt cs off (Bv n ez)))) a w' σ own:=by
 obtain⟨hD,E,z,hE,hs1,_,hz,hzs,hzb⟩:=CH tk htd;obtain⟨cur,e',rfl,ho,hh,hbl⟩:=T9 R hb hs;have hz0:=IZ hzb w C.sh σ;obtain⟨vs,hvs,hv⟩:=Kh hz0 n;have hvl:vs.length=n*s:=by rw[hvs];simp[hzs]
 have hrl:(Bv n ez).length=n*s:=by rw[<-Ca hv];exact hvl
 have hpr:(Bv n ez).all CD=true:=by
  unfold Bv;rw[u1];intro x hx;obtain⟨l,hl,hx⟩:=List.mem_flatten.1 hx;rw[List.eq_of_mem_replicate hl] at hx;exact u1.1 (RN hp) x hx
 have hst:=run_storeCells_at C.P h (b+off) e' vs 0 cur w hh zO (Fd hv hpr);simp only[Nat.add_zero] at hst;obtain⟨m,rfl⟩:∃m,n=m+1:=⟨n-1,zO⟩;refine⟨_,?_,R.rows hb hs ho hh hbl off hv zO⟩;rw[hvs] at hst |-;simp[Builtin.clear_,run_underlying hD,zeroValue,typeInfo,hE,hz,Vn,hst]
end
end Go.Abs
