/- Own memory with a known capacity: cut, moved, written, operation by operation. No program. -/
import Derived.Test.YtgdmnlibcdajjaaGreatP3
import Derived.WalkKit
import Derived.ProofKit
import Derived.OpenShut
import Derived.SizedLaws
import Derived.ReadAgain
import Derived.Test.YtgdmnlibcdajjaaGreatProg
import Derived.KernelRfl
open Array renaming getD -> vD, getElem_setIfInBounds -> vW, all_eq_true' -> wc, replicate -> xn
open Bool renaming and_eq_true -> uU, or_eq_true -> wT
open Int renaming eq_ofNat_of_zero_le -> uS
open List renaming take_of_length_le -> uM, getElem?_set_ne -> uN, getElem?_set_self -> uO, replicate -> uP, getElem?_eq_none -> uR, getElem?_eq_getElem -> uT, take_add_one -> uV, take_length -> uW, drop_eq_getElem_cons -> uX, append_assoc -> uZ, all_eq_true -> u1, mem_append -> vd, mem_of_getElem? -> vo, length_cons -> vA, cons_append -> vF, take_append_drop -> vJ, range -> vK, mem_cons -> vL, findIdx?_eq_some_iff_getElem -> vN, replicate_succ -> vO, getElem?_map -> wa, map_cons -> wj, drop_drop -> wr, getElem?_eq_some_iff -> wv, take -> wL, findIdx?_cons -> w9, map_congr_left -> xf, map_nil -> xo, all_cons -> xu
open Nat renaming lt_or_ge -> uY, le_refl -> vg, zero_le -> vn, log2 -> vR, eq_zero_or_pos -> wm, pow_le_pow_right -> wI, add_mul -> wK, pow_succ -> w8, pow_pos -> xq, div_lt_iff_lt_mul -> xJ
open Option renaming map_some -> vI
set_option linter.unusedVariables false
set_option linter.unusedSimpArgs false
namespace Go.Abs
section
variable {C:BF} {w:World} {σ:Nat->Nat->Option St} {own:Nat->Option Nat} {M:List Ag} {F:Fr} {a:Act} {T:Nat->Option TI}
theorem L5 (R:AS C F M a w σ own) {t B u s off n:Nat} {cs:List AV} (hn:t<C.n) (hF:F t= .tok B u s off n) (hb:Ah M B u=some cs) (h0:0<n):
 ∃h b sz c,σ B u=some (.loc h b sz)/\a.tmps.getD t undef= .slice (some ⟨h,b+off,none⟩) n c/\n<=c/\c<=maxLen/\b+off+c*s<=sz:=by
 have hx:=R.tmp t hn;rw[hF] at hx;obtain⟨_,fp,hB,_⟩:=Cv R.mem hb;simp only[VR] at hx;obtain⟨_,⟨ad,c,hval⟩,st,hst,hnil,hloc⟩:=hx;simp only[BR] at hB;rcases hB.2 with⟨h1,_,_⟩ | ⟨g,b,cur,e',fp',h1,_⟩
 .rw[h1] at hst;simp at hst;subst hst;have:=(hnil rfl).2.2;omega
 .rw[h1] at hst;simp at hst;subst hst;obtain⟨a2,c2,e2,e3,e4,e5,e6⟩:=hloc _ _ _ rfl;have:=e3 zO;subst this;exact⟨g,b,cur.size,c2,h1,e2,e4,e5,e6⟩
theorem L6 {sh:Nat->Prop} {B u s h b sz off n c:Nat} (hs:σ B u=some (.loc h b sz)) (hn:n<=c) (hc:c<=maxLen) (hz:b+off+c*s<=sz) {ad:Addr} (had:c≠0->ad=⟨h,b+off,none⟩):VR w sh σ (.tok B u s off n) (.slice (some ad) n c) (λ_=>0):=by
 simp only[VR];refine⟨zS,⟨_,_,rfl⟩,_,hs,nofun,λh' b' sz' e=>?_⟩;cases e;exact⟨_,_,rfl,had,hn,hc,hz⟩
theorem Vo (tk:BQ C.P T) {t e es eb:Nat} {ez:List AV} (htd:Ax T t= .slice e es eb ez) {ad:Option Addr} {n c l h:Nat} {lo hi:Option Nat} (h1:hi.getD n=h) (h2:lo.getD 0=l) (hlh:l<=h) (hhc:h<=c) (w:World):
 (Instr.sliceAt t (.slice ad n c) (lo.map λx:Nat=>Value.int .i64 (x:Int)) (hi.map λx:Nat=>Value.int .i64 (x:Int)) none).run C.P w= .ok (.slice (if c=l then ad else ad.map (·.add (l*es))) (h-l) (c-l)) w:=by
 obtain⟨hD,E,z,hE,hs,_⟩:=CH tk htd;have hb:(Instr.sliceBounds true n c (lo.map λx:Nat=>Value.int .i64 (x:Int)) (hi.map λx:Nat=>Value.int .i64 (x:Int)) none).run C.P w= .ok (l,h,c) w:=by
  unfold Instr.sliceBounds;cases hi with
  |none=>
   simp at h1;subst h1;cases lo with
   |none=>simp at h2;subst h2;simp
   |some l' =>
    simp at h2;subst h2;simp[Instr.sliceBound,asIntOf,hlh]
  |some h' =>
   simp at h1;subst h1;cases lo with
   |none=>simp at h2;subst h2;simp[Instr.sliceBound,asIntOf,hhc]
   |some l' =>
    simp at h2;subst h2;simp[Instr.sliceBound,asIntOf,hlh,hhc]
 simp only[Instr.sliceAt,Sem.run_bind,run_underlying hD,Result.andThen_ok,Instr.slice,hb,Cr hE,hs,Sem.run_pure]
theorem Ws (tk:BQ C.P T) {t e es eb:Nat} {ez:List AV} (htd:Ax T t= .slice e es eb ez) {ad:Option Addr} {n c l h m:Nat} (hlh:l<=h) (hhc:h<=m) (hmc:m<=c) (w:World):
 ∃v,(Instr.sliceAt t (.slice ad n c) (some (.int .i64 l)) (some (.int .i64 h)) (some (.int .i64 m))).run C.P w= .ok v w:=by
 obtain⟨hD,E,z,hE,hs,_⟩:=CH tk htd;have hb:(Instr.sliceBounds true n c (some (.int .i64 l)) (some (.int .i64 h)) (some (.int .i64 m))).run C.P w= .ok (l,h,m) w:=by
  unfold Instr.sliceBounds;simp[Instr.sliceBound,asIntOf,hlh,hhc,hmc]
 simp only[Instr.sliceAt,Sem.run_bind,run_underlying hD,Result.andThen_ok,Instr.slice,hb,Cr hE,hs,Sem.run_pure];exact zX
theorem Ua (hrd:C.rd=none) {K:Act->World->Prop} {ops:Array Oper} {i d fuel:Nat} {listed:Array Bool} {o:Oper} {v:Value} {av:AV} (R:AS C F M a w σ own) (ho:ops[i]?=some o) (hd:o.dst=some d) (hg:o.guard=none) (hs:Region.noSelect ops=true) (hf:Region.free .any ops listed i=true) (hr:(Region.ready .any ops listed).contains i=true) (hdn:d<C.n)
 (hv:VR w C.sh σ av v (λ_=>0)) (hrun:∀w,(execOp a.eval o).run C.P w= .ok (.value v) w) (hab:∀w,o.about C.P w a.eval=none) (next:∀a',AS C (Bu F d av) M a' w σ own->a'.tmps.getD d undef=v->(∀t,t≠d->a'.tmps.getD t undef=a.tmps.getD t undef)->wpAnyIn (FX C) 0 C.P .any ops (λe a w=>e= .normal/\K a w) fuel (listed.setIfInBounds i true) a' w):wpAnyIn (FX C) 0 C.P .any ops (λe a w=>e= .normal/\K a w) (fuel+1) listed a w:=by
 refine wpAnyIn_take (i:=i) (v:=v) (by simp[FX,hrd]) ho hs hf hr (λ_ _ _ h=>by cases h.1) ⟨.inl ⟨by simp[Region.wanted,hg],hrun⟩,hab⟩ ?_;rw[hd];refine next _ (R.put (some d) hv) ?_ λt ht=>?_
 .have:=R.size;simp[Act.put,vD,this,hdn]
 .have:¬d=t:=λe=>ht e.symm;by_cases ht:t<a.tmps.size<;>simp[Act.put,vD,ht,vW,this]
theorem FC (hrd:C.rd=none) {K:Act->World->Prop} {ops:Array Oper} {i d s ty fuel:Nat} {pos:String} {af:Array Edge} {listed:Array Bool} (R:AS C F M a w σ own) (ho:ops[i]?=some {dst:=some d,op:= .move (.tmp s),type:=ty,pos:=pos,after:=af,guard:=none}) (hs:Region.noSelect ops=true) (hf:Region.free .any ops listed i=true) (hr:(Region.ready .any ops listed).contains i=true) (hdn:d<C.n) (hn:s<C.n)
 (next:∀a',AS C (Bu F d (F s)) M a' w σ own->a'.tmps.getD d undef=a.tmps.getD s undef->(∀t,t≠d->a'.tmps.getD t undef=a.tmps.getD t undef)->wpAnyIn (FX C) 0 C.P .any ops (λe a w=>e= .normal/\K a w) fuel (listed.setIfInBounds i true) a' w):wpAnyIn (FX C) 0 C.P .any ops (λe a w=>e= .normal/\K a w) (fuel+1) listed a w:=
 Ua hrd R ho rfl rfl hs hf hr hdn (R.tmp s hn) (λw=>by simp only[execOp];rfl) zL next
theorem IG (tk:BQ C.P T) (hrd:C.rd=none) {K:Act->World->Prop} {ops:Array Oper} {i d s ty t e es eb fuel B u hp b sz n c l h:Nat} {ez:List AV} {lo hi:Option (Nat×Nat)} {pos:String} {af:Array Edge} {listed:Array Bool} (R:AS C F M a w σ own) (ho:ops[i]?=some {dst:=some d,op:= .slice t (.tmp s) (lo.map λx=> .tmp x.1) (hi.map λx=> .tmp x.1) none,type:=ty,pos:=pos,after:=af,guard:=none}) (hs:Region.noSelect ops=true) (hf:Region.free .any ops listed i=true) (hr:(Region.ready .any ops listed).contains i=true) (hdn:d<C.n) (htd:Ax T t= .slice e es eb ez) (hst:σ B u=some (.loc hp b sz)) (hval:a.tmps.getD s undef= .slice (some ⟨hp,b,none⟩) n c) (hcm:c<=maxLen) (hsz:b+c*es<=sz) (hlo:∀x,lo=some x->a.tmps.getD x.1 undef= .int .i64 x.2) (hhi:∀x,hi=some x->a.tmps.getD x.1 undef= .int .i64 x.2)
 (h1:(hi.map λx=>x.2).getD n=h) (h2:(lo.map λx=>x.2).getD 0=l) (hlh:l<=h) (hhc:h<=c)
 (next:∀a',AS C (Bu F d (.tok B u es (l*es) (h-l))) M a' w σ own->a'.tmps.getD d undef= .slice (if c=l then some ⟨hp,b,none⟩ else some ⟨hp,b+l*es,none⟩) (h-l) (c-l)->(∀t,t≠d->a'.tmps.getD t undef=a.tmps.getD t undef)->wpAnyIn (FX C) 0 C.P .any ops (λe a w=>e= .normal/\K a w) fuel (listed.setIfInBounds i true) a' w):wpAnyIn (FX C) 0 C.P .any ops (λe a w=>e= .normal/\K a w) (fuel+1) listed a w:=by
 have el:(lo.map λx=>Operand.tmp x.1).map a.eval=(lo.map λx=>x.2).map λx:Nat=>Value.int .i64 (x:Int):=by
  cases lo with
  |none=>rfl
  |some x=>simp only[vI];exact congrArg some (hlo x rfl)
 have eh:(hi.map λx=>Operand.tmp x.1).map a.eval=(hi.map λx=>x.2).map λx:Nat=>Value.int .i64 (x:Int):=by
  cases hi with
  |none=>rfl
  |some x=>simp only[vI];exact congrArg some (hhi x rfl)
 have e1:a.eval (.tmp s)= .slice (some ⟨hp,b,none⟩) n c:=hval;have hrun:=Vo tk htd (ad:=some ⟨hp,b,none⟩) h1 h2 hlh hhc;have hv:VR w C.sh σ (.tok B u es (l*es) (h-l)) (.slice (if c=l then some ⟨hp,b,none⟩ else some ⟨hp,b+l*es,none⟩) (h-l) (c-l)) (λ_=>0):=by
  have hz:b+l*es+(c-l)*es<=sz:=by
   rw[Nat.add_assoc,<-wK,Nat.add_sub_cancel' zO];exact hsz
  split
  .exact L6 hst zO zO hz zO
  .exact L6 hst zO zO hz zL
 refine Ua hrd R ho rfl rfl hs hf hr hdn hv (λw=>?_) zL next
 have h3:=hrun w;simp only[execOp,e1,el,eh,Option.map_none,Sem.run_bind];rw[h3];simp only[Result.andThen_ok,Sem.run_pure];split<;>simp[Addr.add]
theorem ZL (tk:BQ C.P T) (R:AS C F M a w σ own) {t e s eb d tx ty ty' :Nat} {ez:List AV} {pos:String} {af:Array Edge} (htd:Ax T t= .slice e s eb ez) {B u h b sz n c:Nat} {cs ys:List AV} (hb:Ah M B u=some cs) (hs:σ B u=some (.loc h b sz)) (hx:a.tmps.getD tx undef= .slice (some ⟨h,b,none⟩) n c) (hyn:ty<C.n)
 {m:Nat} (hyc:De M (F ty)=some (m,ys)) (hyl:ys.length=m*s) (hyo:ys.all DS=true) (hroom:n+m<=c) (hle:(n+m)*s<=cs.length) (hcm:c<=maxLen) (hsz:b+c*s<=sz) {next:Act->World->Prop} {Q:Exit->Act->World->Prop}
 (hdn:d<C.n) (hK:∀a' w',AS C (Bu F d (.tok B u s 0 (n+m))) (M.set B (.live u (Bt cs (n*s) ys))) a' w' σ own->a'.tmps.getD d undef= .slice (some ⟨h,b,none⟩) (n+m) c->next a' w'):
 Oper.wpIn (FX C) 0 C.P {dst:=some d,op:= .call {callee:= .builtin .append,args:= #[.tmp tx,.tmp ty],argTypes:= #[t,t]},type:=ty',pos:=pos,after:=af,guard:=none} a w next Q:=by
 obtain⟨w',hrun,R'⟩:=R.appRoom (ty:=ty') tk htd hb hs (R.tmp ty hyn) hyc hyl hyo hroom hle;have hv:VR w' C.sh σ (.tok B u s 0 (n+m)) (.slice (some ⟨h,b,none⟩) (n+m) c) (λ_=>0):=L6 hs hroom hcm hsz zL;refine tc (λ_ h=>by cases h) (v:= .slice (some ⟨h,b,none⟩) (n+m) c) (w' :=w') ?_ (hK _ _ (R'.put (some d) hv) (by have:=R'.size;simp[Act.put,vD,this,hdn]));have e2:∀t,a.eval (.tmp t)=a.tmps.getD t undef:=λ_=>rfl;simp only[execOp,resolve,invoke,builtin,e2,hx,List.map_toArray,wj,xo,Sem.run_bind,hrun,Result.andThen_ok,Sem.run_pure]
theorem GW {o:Oper} {d:Nat} (R:AS C F M a w σ own) (hnd:∀c,o.op≠ .defer c) (hd:o.dst=some d) (hdn:d<C.n) {v:Value} {av:AV} (hv:VR w C.sh σ av v (λ_=>0)) (hrun:(execOp a.eval o).run C.P w= .ok (.value v) w) {next:Act->World->Prop} {Q:Exit->Act->World->Prop}
 (hK:∀a',AS C (Bu F d av) M a' w σ own->a'.tmps.getD d undef=v->(∀t,t≠d->a'.tmps.getD t undef=a.tmps.getD t undef)->next a' w):o.wpIn (FX C) 0 C.P a w next Q:=by
 refine tc hnd hrun ?_;rw[hd];refine hK _ (R.put (some d) hv) ?_ λt ht=>?_
 .have:=R.size;simp[Act.put,vD,this,hdn]
 .have:¬d=t:=λe=>ht e.symm;by_cases ht:t<a.tmps.size<;>simp[Act.put,vD,ht,vW,this]
theorem Vp (tk:BQ C.P T) (R:AS C F M a w σ own) {t e s eb tx ty' :Nat} {ez:List AV} {pos:String} {af:Array Edge} (htd:Ax T t= .slice e s eb ez) {B u h b sz n c off:Nat} {cs:List AV} (hb:Ah M B u=some cs) (hs:σ B u=some (.loc h b sz)) (hx:a.tmps.getD tx undef= .slice (some ⟨h,b+off,none⟩) n c) (hp:ez.all DS=true) (hn:0<n) (hle:off+n*s<=cs.length)
 {next:Act->World->Prop} {Q:Exit->Act->World->Prop}
 (hK:∀a' w',AS C F (M.set B (.live u (Bt cs off (Bv n ez)))) a' w' σ own->next a' w'):
 Oper.wpIn (FX C) 0 C.P {dst:=none,op:= .call {callee:= .builtin .clear,args:= #[.tmp tx],argTypes:= #[t]},type:=ty',pos:=pos,after:=af,guard:=none} a w next Q:=by
 obtain⟨w',hrun,R'⟩:=R.clr (ty:=ty') (c:=c) tk htd hb hs hp hn hle;refine tc (λ_ h=>by cases h) (v:= .tuple #[]) (w' :=w') ?_ (hK _ _ R');have e2:∀t,a.eval (.tmp t)=a.tmps.getD t undef:=λ_=>rfl;simp only[execOp,resolve,invoke,builtin,e2,hx,List.map_toArray,wj,xo,Sem.run_bind,hrun,Result.andThen_ok,Sem.run_pure]
end
def d7 (x y:AV):Prop:=y=x\/y= .any\/∃s n xs,x= .own s n xs/\y= .ro n []
def gz:List AV->List AV->Prop
 | [],[]=>True
 |x::xs,y::ys=>d7 x y/\gz xs ys
 |_,_=>False
def IH (K:List (Nat×Nat)) (T v:Nat):Option Nat:=K.findIdx? λq=>decide (q.1=T/\q.2=v)
mutual
def rn (K:List (Nat×Nat)):AV->AV
 | .tok T v s off n=>match IH K T v with|some i=> .tok i 0 s off n|none=> .any
 | .ptr T v off=>match IH K T v with|some i=> .ptr i 0 off|none=> .any
 | .agg xs=> .agg (IA K xs)
 | .tup xs=> .tup (IA K xs)
 | .fn f cs=> .fn f (IA K cs)
 |x=>x
def IA (K:List (Nat×Nat)):List AV->List AV
 | []=> []
 |x::xs=>rn K x::IA K xs
end
theorem MZ (K:List (Nat×Nat)):∀xs,IA K xs=xs.map (rn K)
 | []=>rfl
 |x::xs=>by rw[IA,MZ K xs];rfl
mutual
theorem ZM {w:World} {sh:Nat->Prop} {σ τ:Nat->Nat->Option St} {K:List (Nat×Nat)} (hσ:∀T v i,IH K T v=some i->τ i 0=σ T v):∀(x:AV) (v:Value) (fp:Nat->Nat),VR w sh σ x v fp->VR w sh τ (rn K x) v fp
 | .any,_,_,h=>h
 | .bool _,_,_,h=>h
 | .int _ _,_,_,h=>h
 | .str _,_,_,h=>h
 | .nilp,_,_,h=>h
 | .ro _ _,_,_,h=>by simp only[VR,rn] at h |-;exact h
 | .own _ _ _,_,_,h=>by simp only[VR,rn] at h |-;exact h
 | .rptr _,_,_,h=>by simp only[VR,rn] at h |-;exact h
 | .optr _,_,_,h=>by simp only[VR,rn] at h |-;exact h
 | .tok T u s off n,v,fp,h=>by
   simp only[rn];split
   .rename_i i hi;simp only[VR] at h |-;rw[hσ T u i hi];exact h
   .simp only[VR] at h |-;exact h.1
 | .ptr T u off,v,fp,h=>by
   simp only[rn];split
   .rename_i i hi;simp only[VR] at h |-;rw[hσ T u i hi];exact h
   .simp only[VR] at h |-;exact h.1
 | .agg xs,v,fp,h=>by
   simp only[VR,rn] at h |-;obtain⟨cs,e,hv⟩:=h;exact⟨cs,e,L7 hσ xs _ _ hv⟩
 | .tup xs,v,fp,h=>by
   simp only[VR,rn] at h |-;obtain⟨cs,e,hv⟩:=h;exact⟨cs,e,L7 hσ xs _ _ hv⟩
 | .fn f xs,v,fp,h=>by
   simp only[VR,rn] at h |-;obtain⟨h0,cs,e,hv⟩:=h;exact⟨h0,cs,e,L7 hσ xs _ _ hv⟩
theorem L7 {w:World} {sh:Nat->Prop} {σ τ:Nat->Nat->Option St} {K:List (Nat×Nat)} (hσ:∀T v i,IH K T v=some i->τ i 0=σ T v):∀(xs:List AV) (vs:List Value) (fp:Nat->Nat),AI w sh σ xs vs fp->AI w sh τ (IA K xs) vs fp
 | [],_,_,h=>h
 |x::xs,vs,fp,h=>by
  simp only[AI,IA] at h |-;obtain⟨v,rest,f1,f2,e,h1,h2,hf⟩:=h;exact⟨v,rest,f1,f2,e,ZM hσ x v f1 h1,L7 hσ xs rest f2 h2,hf⟩
end
theorem gA (K:List (Nat×Nat)):∀x,tf x=true->rn K x=x:=λx h=>by
 cases x<;>simp[tf] at h<;>simp[rn];subst h;rfl
theorem RO (K:List (Nat×Nat)) {xs:List AV} (h:xs.all tf=true):IA K xs=xs:=by
 rw[MZ]
 conv=>rhs;rw[<-List.map_id xs]
 exact xf λx hx=>gA K x (u1.1 h x hx)
theorem aW (K:List (Nat×Nat)) (xs ys:List AV):IA K (xs++ys)=IA K xs++IA K ys:=by simp[MZ]
def RP (K:List (Nat×Nat)) (F:Fr):List (Nat×AV)->Prop
 | []=>True
 |q::s=>rn K (F q.1)=q.2/\RP K F s
theorem Wt (K:List (Nat×Nat)) (F:Fr):∀S,RP K F S->∀t,Abs.fr S t=rn K (F t)\/Abs.fr S t= .any
 | [],_,t=> .inr rfl
 |q::S,h,t=>by
  simp only[Abs.fr,Bu];split
  .rename_i e;subst e;exact .inl h.1.symm
  .exact Wt K F S h.2 t
def Ub (K:List (Nat×Nat)) (M:List Ag):List (Option (List AV)):=K.map λq=>Ah M q.1 q.2
theorem ue {F:Fr} {M N:List Ag} {S:List (Nat×AV)} (K:List (Nat×Nat)) (Xs:List (List AV)) (hnd:(K.map λq=>q.1).Nodup) (hX:Ub K M=Xs.map some) (hS:RP K F S) (hN:Xs.map (λxs=>Ag.live 0 (IA K xs))=N):Wk 0 F M (Abs.fr S) N:=by
 subst hN;rintro C hp a w ⟨σ,own,R⟩;have hlen:K.length=Xs.length:=by have:=congrArg List.length hX;simpa[Ub] using this
 have hcell:∀(i:Nat) (q:Nat×Nat),K[i]?=some q->∃xs,Xs[i]?=some xs/\Ah M q.1 q.2=some xs:=λi q hq=>by
  have h1:(Ub K M)[i]?=(Xs.map some)[i]?:=by rw[hX]
  simp only[Ub,wa,hq,vI] at h1;cases e:Xs[i]? with
  |none=>rw[e] at h1;simp at h1
  |some xs=>rw[e] at h1;exact⟨xs,rfl,by simpa using h1⟩
 let τ:Nat->Nat->Option St:=λT v=>if v=0 then(match K[T]? with|some q=>σ q.1 q.2|none=>none) else none
 let own' :Nat->Option Nat:=λg=>match own g with|some B=>K.findIdx? λq=>decide (q.1=B) |none=>none
 have hτ:∀T v i,IH K T v=some i->τ i 0=σ T v:=λT v i h=>by
  obtain⟨hi,h1,_⟩:=vN.1 h;simp only[decide_eq_true_eq] at h1;simp only[τ,if_true,uT hi];rw[h1.1,h1.2]
 have hown:∀(i:Nat) (q:Nat×Nat),K[i]?=some q->∀g,own g=some q.1->own' g=some i:=λi q hq g hg=>by
  simp only[own',hg];obtain⟨hi,e⟩:=wv.1 hq;refine vN.2 ⟨hi,by simp[e],λj hj=>?_⟩;simp only[Bool.not_eq_true,decide_eq_false_iff_not];intro h;have h2:=List.pairwise_iff_getElem.1 hnd j i Ao (by simpa using hi) hj;simp only[List.getElem_map] at h2;exact h2 (by rw[h,e])
 refine⟨τ,own',R.size,R.dfr,λt ht=>?_,⟨λT B hB=>?_,λT v hT=>?_⟩,λg hg=>?_,?_,λT v st h=>?_⟩
 .rcases Wt K F S hS t with e|e
  .rw[e];exact ZM hτ _ _ _ (R.tmp t ht)
  .rw[e];intro g;rfl
 .rw[wa] at hB;cases hx:Xs[T]? with
  |none=>rw[hx] at hB;simp at hB
  |some xs=>
   rw[hx] at hB;simp at hB;subst hB;have hTl:T<K.length:=by
    rw[hlen];rcases uY T Xs.length with h|h
    .exact h
    .rw[uR h] at hx;simp at hx
   have hKT:K[T]?=some K[T]:=uT hTl;obtain⟨ys,h1,h2⟩:=hcell T _ hKT;rw[hx] at h1;cases h1;obtain⟨hM,fp,hb,hf⟩:=Cv R.mem h2;refine⟨fp,?_,λg=>?_⟩
   .obtain⟨c0,b1⟩:=hb;refine⟨λu hu=>?_,?_⟩
    .have:¬u=0:=zO;simp only[τ,this,if_false]
    .have hτT:τ T 0=σ K[T].1 K[T].2:=by simp only[τ,if_true,hKT]
     have hl:(IA K xs).length=xs.length:=by rw[MZ];simp
     rcases b1 with⟨c1,c2,c3⟩ | ⟨hh,b,cur,e',fp',c1,c2,c3,c4,c5⟩
     .exact .inl ⟨by rw[hτT];exact c1,by rw[c2];rfl,c3⟩
     .exact .inr ⟨hh,b,cur,e',fp',by rw[hτT];exact c1,c2,by rw[hl];exact c3,by rw[hl];exact L7 hτ _ _ _ c4,c5⟩
   .have:=hf g;split at this
    .rename_i e;rw[zP (hown T _ hKT g e)];exact this
    .omega
 .simp only[List.length_map] at hT;have:K[T]?=none:=uR zO;simp only[τ,this];split<;>rfl
 .have h1:=R.shr g hg;exact⟨by simp only[own',h1.1],h1.2⟩
 .refine⟨R.ext.os,R.ext.tape,R.ext.output,R.ext.size,R.ext.block,λg hg=>R.ext.own g ?_⟩;intro e;simp only[own',e] at hg;exact hg rfl
 .obtain⟨h1,_⟩:=R.key0 T v st h;omega
def ZN (ops:Array Oper) (listed:Array Bool) (i:Nat):Bool:=match ops[i]? with
 |some ⟨some _,.move _,_,_,_,none⟩=>Region.free .any ops listed i
 |some ⟨some _,.fieldAddr _ _ _,_,_,_,none⟩=>Region.free .any ops listed i
 |some ⟨some _,.binOp .add _ _ (.const (.int _ _)) _,_,_,_,none⟩=>Region.free .any ops listed i
 |_=>false
theorem aX {T:Nat->Option TI} {t:Nat} {x:AV} {k:IntKind} {z:Int} {r:AV} (h:GN T .add t x (.int k z)=some r):∃a,x= .int k a/\r= .int k (k.wrap (a+z)):=by
 cases x<;>simp[GN,Dq] at h;obtain⟨rfl,rfl⟩:=h;exact⟨_,rfl,rfl⟩
theorem aY {C:BF} {w:World} {σ:Nat->Nat->Option St} {T:Nat->Option TI} {own:Nat->Option Nat} {M:List Ag} (m:Cp w C.sh σ own M) (tk:BQ C.P T) {t f:Nat} {x:AV} {v:Value} (hx:VR w C.sh σ x v (λ_=>0)) {r:AV} (h:Jr T M t x f=some r):∃u,∀w',(Instr.fieldAt t v f).run C.P w' = .ok u w' :=by
 unfold Jr at h;split at h
 .rename_i fs hfs;obtain⟨fields,hD,hf⟩:=Jq tk hfs;split at h
  .rename_i o s g hq;obtain⟨fl,E,D,h1,h2,h3,h4,h5,_,_⟩:=hf f _ hq;have run:∀(ad:Addr) (w' :World),(Instr.fieldAt t (.pointer (some ad)) f).run C.P w' = .ok (.pointer (some (ad.add o))) w' :=by
    intro ad w';simp[Instr.fieldAt,run_underlying hD,h1,Instr.sureAddr,fieldPlace,Cr h3,h4,h5,h2]
   split at h
   .rename_i B v' off;split at h
    .rename_i hl;obtain⟨cs,hcs⟩:=Option.isSome_iff_exists.1 hl;obtain⟨hh,b,cur,e,rfl,hs,_⟩:=Gh m hcs hx;exact⟨_,run _⟩
    .simp at h
   .simp only[VR] at hx;obtain⟨_,ad,vs,rfl,hx⟩:=hx;exact⟨_,run ad⟩
   .simp at h
  .simp at h
 .simp at h
inductive Tr where
 |l (is:List Nat)
 |a (i:Nat) (t r:Tr)
 |s
def JD:Tr->List Nat
 | .a i _ r=>i::JD r
 |_=> []
def PF (ops:Array Oper):Nat->List Nat->Array Bool->Bool
 |_,[],listed=>(Region.ready .any ops listed).isEmpty
 |0,_::_,_=>false
 |n+1,i::is,listed=>(Region.ready .any ops listed).contains i&&(ZN ops listed i|| (Region.ready .any ops listed).all (·==i))&&PF ops n is (listed.setIfInBounds i true)
def L8 (ops:Array Oper):Tr->Bool->Nat->Array Bool->Bool
 | .l is,ER,n,listed=>ER&&PF ops n is listed
 | .s,ER,_,_=> !ER
 | .a _ _ _,_,0,_=>false
 | .a i t r,ER,n+1,listed=>(!ER||ZN ops listed i|| (Region.ready .any ops listed).all (i::JD r).contains)&&(Region.ready .any ops listed).contains i&&L8 ops t true n (listed.setIfInBounds i true)&&L8 ops r false (n+1) listed
def pick (ops:Array Oper) (o:List Nat):List Oper:=o.filterMap λi=>ops[i]?
def GE (T:Nat->Option TI) (call:D9) (ops:Array Oper):Tr->Nat->Fr->List Ag->(Fr->List Ag->Prop)->Prop
 | .l is,s,F,M,K=>Aw T call ops (pick ops is) s F M K
 | .s,_,_,_,_=>True
 | .a i t r,s,F,M,K=>Aw T call ops (pick ops [i]) s F M (λF' M' =>GE T call ops t (s+Bb (pick ops [i])) F' M' K)/\GE T call ops r s F M K
section
variable {C:BF} {T:Nat->Option TI} {ops:Array Oper} {K:Fr->List Ag->Prop}
theorem OA {call:D9} {i s:Nat} {o:Oper} {rest:List Oper} (ho:ops[i]?=some o) {F:Fr} {M:List Ag} (h:Aw T call ops (o::rest) s F M K):CE T call ops (λ_=>s) i F M λF M=>Aw T call ops rest (s+BT o) F M K:=by
 unfold CE G3;simp only[ho];simp only[Aw] at h;split at h
 .rename_i hg;simp only[hg];exact h
 .rename_i j want hg;simp only[hg];split at h
  .rename_i d hd;simp only[hd];unfold gK at h;split at h
   .rename_i b hF;simp only[hF];by_cases hb:b=want
    .simp only[hb,beq_self_eq_true];have:=h.1 hb;simp only at this
     rwa [FL F d _ (by rw[hF,hb])] at this
    .have e:(b==want)=false:=by simpa using hb
     simp only[e];have hbn:b= !want:=by cases b<;>cases want<;>simp_all
     have:=h.2 hbn;simp only at this
     rwa [FL F d _ (by rw[hF,hbn])] at this
   .rename_i hF;simp only[hF]
    rwa [FL F d _ hF] at h
   .exact h.elim
  .exact h.elim
def Ko (ops:Array Oper):Bool:=ops.all λo=>match o.op with| .defer _=>false|_=>true
theorem G4 (C:BF) {Q:Exit->Act->World->Prop} (hd:Ko ops=true):∀(n:Nat) (listed:Array Bool) (a:Act) (w:World),wpAnyIn (FX C) 0 C.P .any ops Q n listed a w=wpAnyIn Fence.wide 0 C.P .any ops Q n listed a w
 |0,_,_,_=>rfl
 |n+1,listed,a,w=>by
  have ih:∀i,wpAnyIn (FX C) 0 C.P .any ops Q n (listed.setIfInBounds i true)=wpAnyIn Fence.wide 0 C.P .any ops Q n (listed.setIfInBounds i true):=λi=>by
   funext a w;exact G4 C hd n _ a w
  have hop:∀i K,wpOpIn (FX C) 0 C.P ops Q i K a w=wpOpIn Fence.wide 0 C.P ops Q i K a w:=λi K=>by
   unfold wpOpIn;cases ho:ops[i]? with
   |none=>rfl
   |some o=>
    have hnd:∀c,o.op≠ .defer c:=λc h=>by
     have:=wc.1 hd o (Array.mem_of_getElem? ho);simp[h] at this
    simp only;split
    .unfold Oper.wpIn;rw[Oper.semAt_eq _ _ _ hnd,Oper.semAt_eq _ _ _ hnd];rfl
    .rfl
  simp only[wpAnyIn,ih,hop]
def OB (C:BF) (K:Fr->List Ag->Prop):Exit->Act->World->Prop:=λe a w=>e= .normal/\∃F M,K F M/\Cu C F M a w
theorem Wu (tk:BQ C.P T) {i s:Nat} {o:Oper} {rest:List Oper} (ho:ops[i]?=some o) (hops:∀(k:Nat) (o:Oper),ops[k]?=some o->Bx C.n o=true) {Q' :Exit->Act->World->Prop} {next:Act->World->Prop} {F:Fr} {M:List Ag} {a:Act} {w:World}
 (hN:∀s F M a w,Aw T (Cd C) ops rest s F M K->Cu C F M a w->next a w) (h:Aw T (Cd C) ops (o::rest) s F M K) (r:Cu C F M a w):wpOpIn (FX C) 0 C.P ops Q' i next a w:=by
 refine NY (call:=Cd C) (sl:=λ_=>s) (K:=λF M=>Aw T (Cd C) ops rest (s+BT o) F M K) (λf args M K K' hk hc=>hc.mono hk) tk ho hops (λF M a w h r=>?_) ?_ r
 .exact hN _ F M a w h r
 exact OA ho h
theorem Uc (tk:BQ C.P T) (hnd:Ko ops=true) (hsel:Region.noSelect ops=true) (hops:∀(k:Nat) (o:Oper),ops[k]?=some o->Bx C.n o=true) {i n:Nat} {o:Oper} {listed:Array Bool} (hi:ops[i]?=some o) (hc:(Region.ready .any ops listed).contains i=true) (hm:ZN ops listed i=true) {rest:List Oper} {s:Nat} {F:Fr} {M:List Ag} {K K' :Fr->List Ag->Prop} {a:Act} {w:World}
 (h:Aw T (Cd C) ops (o::rest) s F M K) (r:Cu C F M a w) (hN:∀F a w,Aw T (Cd C) ops rest (s+BT o) F M K->Cu C F M a w->wpAnyIn (FX C) 0 C.P .any ops (OB C K') n (listed.setIfInBounds i true) a w):wpAnyIn (FX C) 0 C.P .any ops (OB C K') (n+1) listed a w:=by
 unfold ZN at hm;split at hm
 .rename_i d x ty pos af hi';rw[hi] at hi';obtain rfl:=Option.some.inj hi';rw[Wh] at h;obtain⟨σ,own,R⟩:=r;obtain⟨u,hu1,hu2⟩:=MT tk R (hops i _ hi) (o:=⟨some d,.move x,ty,pos,af,none⟩) (r:=Hv T ty (ev F x)) rfl;have hrun:∀w,(execOp a.eval ⟨some d,.move x,ty,pos,af,none⟩).run C.P w= .ok (.value (a.eval x)) w:=λw=>by simp only[execOp];rfl
  have hv:u=a.eval x:=by
   have:=(hrun w).symm.trans hu1;simp at this;exact this.symm
  subst hv;rw[G4 C hnd];refine wpAnyIn_take (i:=i) (v:=a.eval x) rfl hi hsel hm (by simpa using hc) (λ_ _ _ h=>by cases h.1) ⟨.inl ⟨by simp[Region.wanted],hrun⟩,λ_=>rfl⟩ ?_;rw[<-G4 C hnd];exact hN _ _ w h ⟨σ,own,R.put (some d) hu2⟩
 .rename_i d t x f ty pos af hi';rw[hi] at hi';obtain rfl:=Option.some.inj hi';rw[Nw] at h;obtain⟨σ,own,R⟩:=r;cases hp:Jr T M t (ev F x) f with
  |none=>rw[hp] at h;exact h.elim
  |some r=>
   rw[hp] at h;obtain⟨u,hu1,hu2⟩:=MT tk R (hops i _ hi) (o:=⟨some d,.fieldAddr t x f,ty,pos,af,none⟩) (r:=r) hp;have hbx:FH C.n x=true:=by
    have:=hops i _ hi;simp only[Bx,uU] at this;exact wc.1 this.1 x (by simp[Op.operands])
   obtain⟨u',hu'⟩:=aY R.mem tk (R.ev hbx) hp;have hrun:∀w,(execOp a.eval ⟨some d,.fieldAddr t x f,ty,pos,af,none⟩).run C.P w= .ok (.value u') w:=λw=>by simp[execOp,hu']
   have hv:u=u' :=by
    have:=(hrun w).symm.trans hu1;simp at this;exact this.symm
   subst hv;rw[G4 C hnd];refine wpAnyIn_take (i:=i) (v:=u) rfl hi hsel hm (by simpa using hc) (λ_ _ _ h=>by cases h.1) ⟨.inl ⟨by simp[Region.wanted],hrun⟩,λ_=>rfl⟩ ?_;rw[<-G4 C hnd];exact hN _ _ w h ⟨σ,own,R.put (some d) hu2⟩
 .rename_i d t x k z t' ty pos af hi';rw[hi] at hi';obtain rfl:=Option.some.inj hi';rw[T5] at h;obtain⟨σ,own,R⟩:=r;cases hp:GN T .add t (ev F x) (.int k z) with
  |none=>rw[hp] at h;exact h.elim
  |some r=>
   rw[hp] at h;obtain⟨u,hu1,hu2⟩:=MT tk R (hops i _ hi) (o:=⟨some d,.binOp .add t x (.const (.int k z)) t',ty,pos,af,none⟩) (r:=r) hp;have hbx:FH C.n x=true:=by
    have:=hops i _ hi;simp only[Bx,uU] at this;exact wc.1 this.1 x (by simp[Op.operands])
   obtain⟨c,hx,rfl⟩:=aX hp;have hex:a.eval x= .int k c:=by have:=R.ev hbx;rw[hx] at this;exact this.1
   have hrun:∀w,(execOp a.eval ⟨some d,.binOp .add t x (.const (.int k z)) t',ty,pos,af,none⟩).run C.P w= .ok (.value (.int k (k.wrap (c+z)))) w:=λw=>by
    obtain⟨u',h1,h2⟩:=TT (C:=C) (w:=w) (σ:=σ) tk (op:= .add) (t:=t) (ox:=x) (oy:= .const (.int k z)) (x:= .int k c) (y:= .int k z) (vx:= .int k c) (vy:= .int k z) ⟨rfl,λ_=>rfl⟩ ⟨rfl,λ_=>rfl⟩ (hx ▸ hp);have e:u' = .int k (k.wrap (c+z)):=h2.1;subst e;have e2:a.eval (.const (.int k z))= .int k z:=rfl;simp only[execOp,Sem.run_bind,hex,e2] at h1 |-;rw[h1];rfl
   have hv:u= .int k (k.wrap (c+z)):=by
    have:=(hrun w).symm.trans hu1;simp at this;exact this.symm
   subst hv;rw[G4 C hnd];refine wpAnyIn_take (i:=i) (v:= .int k (k.wrap (c+z))) rfl hi hsel hm (by simpa using hc) (λ_ _ _ h=>by cases h.1) ⟨.inl ⟨by simp[Region.wanted],hrun⟩,λ_=>rfl⟩ ?_;rw[<-G4 C hnd];exact hN _ _ w h ⟨σ,own,R.put (some d) hu2⟩
 .cases hm
theorem PG (tk:BQ C.P T) (hnd:Ko ops=true) (hsel:Region.noSelect ops=true) (hops:∀(k:Nat) (o:Oper),ops[k]?=some o->Bx C.n o=true):
 ∀(n:Nat) (is:List Nat) (listed:Array Bool) (s:Nat) (F:Fr) (M:List Ag) (a:Act) (w:World),PF ops n is listed=true->Aw T (Cd C) ops (pick ops is) s F M K->Cu C F M a w->wpAnyIn (FX C) 0 C.P .any ops (OB C K) n listed a w
 |n,[],listed,s,F,M,a,w,ho,h,r=>by
  unfold PF at ho;exact wpAnyIn_done (by simpa using ho) ⟨rfl,F,M,h,r⟩ _
 |0,i::is,listed,s,F,M,a,w,ho,h,r=>by simp[PF] at ho
 |n+1,i::is,listed,s,F,M,a,w,ho,h,r=>by
  simp only[PF,uU,wT] at ho;obtain⟨⟨hc,hm⟩,hl⟩:=ho;obtain⟨o,hi⟩:∃o,ops[i]?=some o:=by
   obtain⟨_,o,ho,_⟩:=mem_ready.1 (by simpa using hc);exact⟨o,ho⟩
  have e:pick ops (i::is)=o::pick ops is:=by unfold pick;rw[List.filterMap_cons,hi]
  rw[e] at h;rcases hm with hm|hm
  .exact Uc tk hnd hsel hops hi hc hm h r λF a w h r=>PG tk hnd hsel hops n is _ _ F M a w hl h r
  .refine wpAnyIn_all rfl (λh0=>by rw[h0] at hc;simp at hc) λj hj=>?_;have:j=i:=by simpa using u1.1 hm j hj
   subst this;exact Wu tk hi hops (λs F M a w h r=>PG tk hnd hsel hops n is _ s F M a w hl h r) h r
theorem L9 (tk:BQ C.P T) (hnd:Ko ops=true) (hsel:Region.noSelect ops=true) (hops:∀(k:Nat) (o:Oper),ops[k]?=some o->Bx C.n o=true):
 ∀(t:Tr) (n:Nat) (listed:Array Bool) (s:Nat) (F:Fr) (M:List Ag) (a:Act) (w:World),GE T (Cd C) ops t s F M K->Cu C F M a w->
  (L8 ops t true n listed=true->wpAnyIn (FX C) 0 C.P .any ops (OB C K) n listed a w)/\
  (L8 ops t false (n+1) listed=true->∀j∈JD t,wpOpIn (FX C) 0 C.P ops (OB C K) j (wpAnyIn (FX C) 0 C.P .any ops (OB C K) n (listed.setIfInBounds j true)) a w)
 | .l is,n,listed,s,F,M,a,w,h,r=>⟨λhc=>PG tk hnd hsel hops n is listed s F M a w (by simpa[L8] using hc) h r,λ_ j hj=>by simp[JD] at hj⟩
 | .s,n,listed,s,F,M,a,w,h,r=>⟨λhc=>by simp[L8] at hc,λ_ j hj=>by simp[JD] at hj⟩
 | .a i t r',n,listed,s,F,M,a,w,h,r=>by
   have key:∀n,L8 ops t true n (listed.setIfInBounds i true)=true->(Region.ready .any ops listed).contains i=true->wpOpIn (FX C) 0 C.P ops (OB C K) i (wpAnyIn (FX C) 0 C.P .any ops (OB C K) n (listed.setIfInBounds i true)) a w:=λn h1 hc=>by
    obtain⟨o,hi⟩:∃o,ops[i]?=some o:=by
     obtain⟨_,o,ho,_⟩:=mem_ready.1 (by simpa using hc);exact⟨o,ho⟩
    have e:pick ops [i]=[o]:=by unfold pick;simp[hi]
    have h2:=h.1;simp only[e] at h2;refine NY (call:=Cd C) (sl:=λ_=>s) (K:=λF' M' =>GE T (Cd C) ops t (s+Bb [o]) F' M' K) (λf args M K K' hk hc=>hc.mono hk) tk hi hops (λF M a w h r=>(L9 tk hnd hsel hops t n _ _ F M a w h r).1 h1) ?_ r;exact OA hi h2
   refine⟨λhc=>?_,λhc j hj=>?_⟩
   .cases n with
    |zero=>simp[L8] at hc
    |succ n=>
     simp only[L8,Bool.not_true,Bool.false_or,uU] at hc;obtain⟨⟨⟨c1,c2⟩,c3⟩,c4⟩:=hc;rw[wT] at c1;rcases c1 with c1|c1
     .obtain⟨o,hi⟩:∃o,ops[i]?=some o:=by
       obtain⟨_,o,ho,_⟩:=mem_ready.1 (by simpa using c2);exact⟨o,ho⟩
      have e:pick ops [i]=[o]:=by unfold pick;simp[hi]
      have h2:=h.1;simp only[e] at h2;exact Uc tk hnd hsel hops hi c2 c1 h2 r λF a w h r=>(L9 tk hnd hsel hops t n _ _ F M a w h r).1 c3
     refine wpAnyIn_all rfl (λh0=>by rw[h0] at c2;simp at c2) λj hj=>?_;have hm:=u1.1 c1 j hj;have hm:j=i\/j∈JD r' :=by simpa using hm
     rcases hm with rfl|hm
     .exact key n c3 c2
     .exact(L9 tk hnd hsel hops r' n listed s F M a w h.2 r).2 c4 j hm
   .simp only[L8,Bool.not_false,Bool.true_or,Bool.true_and,uU] at hc;obtain⟨⟨c2,c3⟩,c4⟩:=hc;rcases vL.1 (by simpa[JD] using hj:j∈i::JD r') with rfl|hm
    .exact key n c3 c2
    .exact(L9 tk hnd hsel hops r' n listed s F M a w h.2 r).2 c4 j hm
end
theorem Cb {T:Nat->Option TI} {call:D9} {ops:Array Oper} {i s:Nat} {o:Oper} {t r:Tr} {F:Fr} {M:List Ag} {K:Fr->List Ag->Prop} (ho:ops[i]?=some o) (h:Aw T call ops [o] s F M λF' M' =>GE T call ops t (s+BT o) F' M' K) (h2:GE T call ops r s F M K):GE T call ops (.a i t r) s F M K:=by
 have e:pick ops [i]=[o]:=by unfold pick;simp[ho]
 simp only[GE,e];exact⟨h,h2⟩
theorem Bp {T:Nat->Option TI} {call:D9} {ops:Array Oper} {s:Nat} {F:Fr} {M:List Ag} {K:Fr->List Ag->Prop}:GE T call ops .s s F M K:=trivial
theorem Eo {T:Nat->Option TI} {call:D9} {ops:Array Oper} {s:Nat} {F:Fr} {M:List Ag} {K:Fr->List Ag->Prop} (h:K F M):GE T call ops (.l []) s F M K:=h
def d8 (t:Tr) (l:List Oper):Bool:=Region.noSelect l.toArray&&Ko l.toArray&&L8 l.toArray t true l.length (xn l.length false)
theorem tv {P:Program} {T:Nat->Option TI} {p:Nat} {F:Fr} {M:List Ag} {Q:Cj} {id:Nat} {l:List Oper} (n:Nat) (t:Tr) (hn:Bb l=n) (hp:P.follows .mixedOrders=true) (hd:d8 t l=true)
 (h:∀K:Fr->List Ag->Prop,(∀F M,Q .normal F M->K F M)->GE T (Ad P) l.toArray t M.length F (M++uP n .free) K):W P T p (.region id l.toArray true) F M Q:=by
 intro tk C hC hp' hb a w r;have tk:BQ C.P T:=hC ▸ tk;simp only[CL] at hb;simp only[d8,uU] at hd;have hops:∀(k:Nat) (o:Oper),l.toArray[k]?=some o->Bx C.n o=true:=λk o ho=>by
  refine u1.1 hb o ?_;rw[<-Array.getElem?_toList] at ho;exact vo ho
 obtain⟨σ,own,R⟩:=r;have hm:∀(t:Tr) (s:Nat) (F:Fr) (M:List Ag),GE T (Ad P) l.toArray t s F M (Q .normal)->GE T (Cd C) l.toArray t s F M (Q .normal):=λt=>by
  induction t with
  |l is=>exact λs F M h=>Dk (λf args M K K' hk h=>(h C hC).mono hk) (λ_ _ h=>h) _ _ _ _ h
  |s=>exact λ_ _ _ h=>h
  |a i t r iht ihr=>exact λs F M h=>⟨Dk (λf args M K K' hk h=>(h C hC).mono hk) (λF M h=>iht _ F M h) _ _ _ _ h.1,ihr _ _ _ h.2⟩
 refine wpIn_mono (Q:=OB C (Q .normal)) (wpIn_region_any (hC ▸ hp) ?_) λe a w h=>?_
 .have:=(L9 tk hd.1.2 hd.1.1 hops t l.toArray.size (xn l.toArray.size false) M.length F _ a w.drew (hm t _ _ _ (h _ λ_ _ h=>h)) ⟨σ,own,(R.grow n).drew⟩).1 (by simpa using hd.2);exact this
 .obtain⟨rfl,F,M,h1,h2⟩:=h;exact .inl ⟨F,M,h1,h2⟩
def ZO (C:BF) (Q:Cj):Exit->Act->World->Prop:=λe a w=>∃sh:Nat->Prop,(∀g,C.sh g->sh g)/\aq {C with sh:=sh} Q e a w
def WX (P:Program) (T:Nat->Option TI) (p:Nat) (c:Code) (F:Fr) (M:List Ag) (Q:Cj):Prop:=BQ P T->∀C:BF,C.P=P->C.p<=p->CL C.n c=true->∀a w,Cu C F M a w->c.wpIn (FX C) 0 C.P (ZO C Q) a w
section
variable {P:Program} {T:Nat->Option TI} {p:Nat} {F:Fr} {M:List Ag} {Q:Cj}
theorem RQ {C:BF} {sh:Nat->Prop} (h:∀g,C.sh g->sh g) {Q:Cj} {e:Exit} {a:Act} {w:World} (k:ZO {C with sh:=sh} Q e a w):ZO C Q e a w:=by
 obtain⟨s2,h2,k⟩:=k;exact⟨s2,λg hg=>h2 g (h g hg),k⟩
theorem W.lift {c:Code} (h:W P T p c F M Q):WX P T p c F M Q:=λtk C hC hp hb a w hr=>wpIn_mono (h tk C hC hp hb a w hr) λe a w q=>⟨C.sh,λ_ h=>h,q⟩
theorem WX.mono {c:Code} {Q' :Cj} (h:WX P T p c F M Q) (hq:∀e F M,Q e F M->Q' e F M):WX P T p c F M Q' :=λtk C hC hp hb a w hr=>wpIn_mono (h tk C hC hp hb a w hr) λe a w q=>by
 obtain⟨sh,hsh,⟨F',M',q,r⟩ | ⟨rfl,D,F',M',w1,q,r⟩⟩:=q
 .exact⟨sh,hsh,.inl ⟨F',M',hq _ _ _ q,r⟩⟩
 .exact⟨sh,hsh,.inr ⟨rfl,D,F',M',w1,hq _ _ _ q,r⟩⟩
theorem WX.skip (h:Q .normal F M):WX P T p .skip F M Q:=(W.skip h).lift
theorem tR {id:Nat} (h:Q (.exit id) F M):WX P T p (.exit id) F M Q:=(s7 h).lift
theorem tE (h:Q .ret F M):WX P T p .ret F M Q:=(tq h).lift
theorem tp {x y:Code} (h:WX P T p x F M (DR (λF M=>WX P T p y F M Q) Q)):WX P T p (.seq x y) F M Q:=λtk C hC hp hb=>by
 simp only[CL,uU] at hb;intro a w hr;refine wpIn_seq (wpIn_mono (h tk C hC hp hb.1 a w hr) ?_);rintro e a' w' ⟨sh,hsh,⟨F',M',q,r⟩ | ⟨rfl,D,F',M',w1,q,r⟩⟩
 .cases e<;>first|exact wpIn_mono (q tk {C with sh:=sh} hC hp hb.2 a' w' r) (λe a w k=>RQ hsh k) |exact⟨sh,hsh,.inl ⟨F',M',q,r⟩⟩
 .exact⟨sh,hsh,.inr ⟨rfl,D,F',M',w1,q,r⟩⟩
theorem WX.block {id:Nat} {x:Code} (h:WX P T p x F M (Jp id Q)):WX P T p (.block id x) F M Q:=λtk C hC hp hb=>by
 intro a w hr;refine wpIn_block (wpIn_mono (h tk C hC hp (by simpa[CL] using hb) a w hr) ?_);rintro e a' w' ⟨sh,hsh,⟨F',M',q,r⟩ | ⟨rfl,D,F',M',w1,q,r⟩⟩
 .cases e<;>first|exact⟨sh,hsh,.inl ⟨F',M',q,r⟩⟩ |skip
  simp only[Exit.inBlock,Jp] at q |-;split<;>rename_i By
  .simp only[By,if_true] at q;exact⟨sh,hsh,.inl ⟨F',M',q,r⟩⟩
  .simp only[By,if_false] at q;exact⟨sh,hsh,.inl ⟨F',M',q,r⟩⟩
 .exact⟨sh,hsh,.inr ⟨rfl,D,F',M',w1,q,r⟩⟩
theorem uB {t:Nat} {x y:Code} {b:Bool} (hc:F t= .bool b) (ht:b=true->WX P T p x F M Q) (hf:b=false->WX P T p y F M Q):WX P T p (.cond (.tmp t) x y) F M Q:=λtk C hC hp hb=>by
 simp only[CL,uU,FH] at hb;intro a w hr;have he:a.eval (.tmp t)= .bool b:=by
  obtain⟨σ,own,R⟩:=hr;have:=R.tmp t (by simpa using hb.1.1);rw[hc] at this;exact this.1
 exact wpIn_cond_split he (λh=>ht h tk C hC hp hb.1.2 a w hr) (λh=>hf h tk C hC hp hb.2 a w hr)
theorem WX.condK {t:Nat} {x y:Code} (h:∀K1 K2:Prop,(WX P T p x F M Q->K1)->(WX P T p y F M Q->K2)->condK (F t) K1 K2):WX P T p (.cond (.tmp t) x y) F M Q:=by
 have h1:=h _ _ id id;unfold Abs.condK at h1;split at h1
 .rename_i b hb;exact uB hb h1.1 h1.2
 .exact h1.elim
theorem WX.weak {c:Code} {F' :Fr} {M' :List Ag} (h:Wk p F M F' M') (k:WX P T p c F' M' Q):WX P T p c F M Q:=λtk C hC hp hb a w hr=>k tk C hC hp hb a w (h C hp a w hr)
theorem Wv {FF:Fence} {n:Nat} {c:Code} {Q Q' :Exit->Act->World->Prop} (hq:∀e a w,Q e a w->Q' e a w) (m:Nat):∀j a w,Code.roundsIn FF n P c Q j a w->Code.roundsIn FF n P c Q' (j+m) a w:=by
 intro j
 induction j with
 |zero=>intro a w h;exact h.elim
 |succ j ihj=>
  intro a w h;rw[show j+1+m=(j+m)+1 by omega];refine wpIn_mono h ?_;intro e a w h;cases e<;>first|exact hq _ _ _ h|exact ihj _ _ h
theorem uC {c:Code} (I:Nat->Fr->List Ag->Prop) (k:Nat) (F₀:Fr) (M₀:List Ag) (h0:Wk p F M F₀ M₀) (hI:I k F₀ M₀)
 (round:∀k F M,I k F M->WX P T p c F M (DR (λF' M' =>∃k' F₁ M₁,k' <k/\Wk p F' M' F₁ M₁/\I k' F₁ M₁) Q)):WX P T p (.loop c) F M Q:=λtk C hC hp hb=>by
 intro a w hr;have key:∀k,∀F M,I k F M->∀(sh:Nat->Prop) a w,Cu {C with sh:=sh} F M a w->Code.roundsIn (FX C) 0 C.P c (ZO {C with sh:=sh} Q) (k+1) a w:=by
  intro k
  induction k using Nat.strongRecOn with
  |_ k ih=>
   intro F M hI sh a w hr;refine wpIn_mono (round k F M hI tk {C with sh:=sh} hC hp (by simpa[CL] using hb) a w hr) ?_;rintro e a' w' ⟨sh2,hsh,⟨F',M',q,r⟩ | ⟨rfl,D,F',M',w1,q,r⟩⟩;rotate_left
   .exact⟨sh2,hsh,.inr ⟨rfl,D,F',M',w1,q,r⟩⟩
   cases e<;>first|exact⟨sh2,hsh,.inl ⟨F',M',q,r⟩⟩ |skip
   obtain⟨k',F₁,M₁,hk,hw,hI'⟩:=q;have h1:=ih k' hk F₁ M₁ hI' sh2 a' w' (hw {C with sh:=sh2} hp a' w' r);have:=Wv (λe a w q=>RQ (C:={C with sh:=sh}) hsh q) (k-(k' +1)) (k' +1) a' w' h1;rw[show k' +1+(k-(k' +1))=k by omega] at this;exact this
 exact wpIn_loop_rounds (k+1) (key k F₀ M₀ hI C.sh a w (h0 C hp a w hr))
theorem tZ {c:Code} {α:Type} (Sx:α->List (Nat×AV)) (Mx:α->List Ag) (μ:α->Nat) (I:α->Prop) (x:α) (h0:Wk p F M (fr (Sx x)) (Mx x)) (hI:I x)
 (round:∀x,I x->WX P T p c (fr (Sx x)) (Mx x) (DR (λF' M' =>∃y,μ y<μ x/\I y/\Wk p F' M' (fr (Sx y)) (Mx y)) Q)):WX P T p (.loop c) F M Q:=
 uC (λk F M=>∃x,k=μ x/\I x/\F=fr (Sx x)/\M=Mx x) (μ x) _ _ h0 ⟨x,rfl,hI,rfl,rfl⟩ (by
  rintro k F M ⟨x,rfl,hx,rfl,rfl⟩;refine(round x hx).mono λe F M q=>?_;cases e<;>first|exact q|skip
  obtain⟨y,h1,h2,h3⟩:=q;exact⟨μ y,_,_,h1,h3,y,rfl,h2,rfl,rfl⟩)
theorem tF {x y:Code} {Q' :Cj} {α:Type} (Sx:α->List (Nat×AV)) (Mx:α->List Ag) (I:α->Prop)
 (h:WX P T p x F M (DR (λF M=>∃x,I x/\Wk p F M (fr (Sx x)) (Mx x)) Q)) (k:∀x,I x->WX P T p y (fr (Sx x)) (Mx x) Q'):WX P T p x F M (DR (λF M=>WX P T p y F M Q') Q):=
 h.mono λe F M q=>by
  cases e<;>first|exact q|skip
  obtain⟨x,h1,h2⟩:=q;exact WX.weak h2 (k x h1)
theorem tG {id:Nat} {l:List Oper} (n:Nat) (hn:Bb l=n) (h:∀K:Fr->List Ag->Prop,(∀F M,Q .normal F M->K F M)->Aw T (Ad P) l.toArray l M.length F (M++uP n .free) K):WX P T p (.region id l.toArray false) F M Q:=(tz n hn h).lift
theorem tS {id:Nat} {l:List Oper} (n:Nat) (hn:Bb l=n) (L:Bool) (hp:P.follows .mixedOrders=true) (hd:LW L l=true) (h:∀K:Fr->List Ag->Prop,(∀F M,Q .normal F M->K F M)->Aw T (Ai P L) l.toArray l M.length F (M++uP n .free) K):WX P T p (.region id l.toArray true) F M Q:=(tM n hn L hp hd h).lift
theorem ul {id:Nat} {l:List Oper} (n:Nat) (X:List (Nat×Nat)) (hn:Bb l=n) (L:Bool) (hp:P.follows .mixedOrders=true) (hd:Vi L X l=true) (h:∀K:Fr->List Ag->Prop,(∀F M,J6 X F->Q .normal F M->K F M)->Aw T (Ai P L) l.toArray l M.length F (M++uP n .free) K):WX P T p (.region id l.toArray true) F M Q:=(tj n X hn L hp hd h).lift
theorem tH {c:Code} {B v j:Nat} {cs:List AV} {x:AV} (hb:Ah M B v=some cs) (hj:cs[j]?=some x) (k:WX P T p c F (M.set B (.live v (cs.set j (Gd x)))) Q):WX P T p c F M Q:=λtk C hC hp hbb a w hr=>by
 obtain⟨σ,own,R⟩:=hr;obtain⟨hM,fpB,hB,hfB⟩:=Cv R.mem hb;have hBl:B<M.length:=by
  rcases uY B M.length with h|h
  .exact h
  .simp[uR h] at hM
 obtain⟨hver,hB⟩:=hB;rcases hB with⟨_,h2,_⟩ | ⟨h,b,cur,e,fp',h1,h2,h3,h4,h5⟩
 .rw[h2] at hj;simp at hj
 obtain⟨u,f,f',s1,s2,s3,s4⟩:=Ic h4 hj;have hfown:∀g,f g≠0->own g=some B:=λg hg=>by
  have e2:=h5 g;have e3:=s3 g;have e1:=hfB g;by_cases e:own g=some B
  .exact e
  .rw[zM e] at e1;omega
 have hflt:∀g,f g≠0->g<w.heap.size:=λg hg=>ZG _ _ _ s2 g hg;let sh:Nat->Prop:=λg=>C.sh g\/f g≠0;let own' :Nat->Option Nat:=λg=>if f g≠0 then none else own g
 have L:Ci w w C.sh sh σ σ:=⟨λ_ _=>rfl,λ_ h=> .inl h,λ_ _ _ h=> .inl h⟩;have hro:VR w sh σ (Gd x) u (λ_=>0):=VR.later (Ci.up w sh σ) _ _ _ (λ_ _=>rfl) (Kl (λ_ h=> .inl h) x u f s2 (λg hg=> .inr hg));have hcs:AI w sh σ (cs.set j (Gd x)) ((cur.toList.drop b).take cs.length) (λg=>0+f' g):=by
  have q1:=s4 σ ⟨λ_ _=>rfl,λ_ h=>h,λ_ _ _ h=> .inl h⟩ .any (λ_=>0) zL;have q2:=AI.later L _ _ _ (λ_ _=>rfl) q1;have hjl:j<cs.length:=(wv.1 hj).1;obtain⟨u2,f2,f2',t1,t2,t3,t4⟩:=Ic q2 (j:=j) (x:= .any) (by simp[hjl]);have eu:u2=u:=by rw[s1] at t1;simpa using t1.symm
  subst eu;have q3:=t4 σ ⟨λ_ _=>rfl,λ_ h=>h,λ_ _ _ h=> .inl h⟩ (Gd x) (λ_=>0) hro;rw[List.set_set] at q3;have ef:f2' =f' :=funext λg=>by have h1:=t3 g;have h2:f2 g=0:=t2 g;omega
  rw[ef] at q3;exact q3
 have R' :AS {C with sh:=sh} F (M.set B (.live v (cs.set j (Gd x)))) a w σ own' :=by
  refine⟨R.size,R.dfr,λt ht=>VR.later L _ _ _ (λ_ _=>rfl) (R.tmp t ht),⟨λT' BB hT=>?_,λT' u' hT=>R.mem.key T' u' (by simpa using hT)⟩,λg hg=>?_,?_,R.key0⟩
  .by_cases eT:T' =B
   .subst eT;rw[uO hBl] at hT;simp at hT;subst hT;refine⟨λg=>(if g=h then 1 else 0)+(0+f' g),⟨hver,.inr ⟨h,b,cur,e,λg=>0+f' g,h1,h2,by simpa using h3,by simpa using hcs,λ_=>rfl⟩⟩,λg=>?_⟩;have e1:=hfB g;have e2:=h5 g;have e3:=s3 g;by_cases hf0:f g=0
    .have:own' g=own g:=by simp[own',hf0]
     rw[this];show(if g=h then 1 else 0)+(0+f' g)<=_;omega
    .have e4:=hfown g hf0;rw[zP e4] at e1;show(if g=h then 1 else 0)+(0+f' g)<=_;omega
   .rw[uN (Ne.symm eT)] at hT;obtain⟨fp,b1,b2⟩:=R.mem.blk T' BB hT;refine⟨fp,EO L (λ_ _=>rfl) (λu=>rfl) b1,λg=>?_⟩;have:=b2 g;split at this
    .rename_i e4;have hf0:f g=0:=by
      rcases wm (f g) with h|h
      .exact h
      .have:=hfown g zO;rw[e4] at this;simp at this;exact absurd this eT
     have:own' g=some T' :=by simp[own',hf0,e4]
     rw[zP this];assumption
    .omega
  .rcases hg with hg|hg
   .have h7:=R.shr g hg;have hf0:f g=0:=by
     rcases wm (f g) with h|h
     .exact h
     .have:=hfown g zO;rw[h7.1] at this;simp at this
    exact⟨by simp[own',hf0,h7.1],h7.2⟩
   .exact⟨by simp[own',hg],hflt g hg⟩
  .refine⟨R.ext.os,R.ext.tape,R.ext.output,R.ext.size,R.ext.block,λg hg=>R.ext.own g ?_⟩;by_cases hf0:f g=0
   .simpa[own',hf0] using hg
   .rw[hfown g hf0];simp
 exact wpIn_mono (k tk {C with sh:=sh} hC hp hbb a w ⟨σ,own',R'⟩) λe a w q=>RQ (C:=C) (λg hg=> .inl hg) q
theorem uK {c:Code} {t:Nat} {B:Bool->Prop} (h:WX P T p c F M (λe F' M' =>e= .ret/\M.length<=M'.length/\∃b,F' t= .bool b/\B b)) (hp0:p=0) (hM:M=[]):W P T p c F M (Fo T [.tmp t] 0 (λr _=>∃b,r= .bool b/\B b)):=λtk C hC hp hb=>by
 intro a w hr;have fin:∀(sh:Nat->Prop) (F' :Fr) (M' :List Ag) (b:Bool) (a:Act) (w:World),(∀g,C.sh g->sh g)->F' t= .bool b->Cu {C with sh:=sh} F' M' a w->Cu C (fr (if t<C.n then [(t,.bool b)] else [(t,.bool b)])) (uP M'.length .dead) a w:=by
  rintro sh F' M' b a w hsh hb ⟨σ,own,R⟩;refine⟨σ,own,R.size,R.dfr,λt' ht=>?_,⟨λT' BB hT=>?_,λT' u hT=>R.mem.key T' u (by simpa using hT)⟩,λg hg=>R.shr g (hsh g hg),R.ext,R.key0⟩
  .simp only[ite_self,Nx,Va];by_cases e:t' =t
   .rw[zP e,e];have:=R.tmp t (by rw[<-e];exact ht);rw[hb] at this;exact this
   .rw[zM e];exact λ_=>rfl
  .rw[List.getElem?_replicate] at hT;split at hT
   .simp at hT;subst hT;exact⟨λ_=>0,λ_=>rfl,λ_=>vn _⟩
   .simp at hT
 have hq:∀(M' :List Ag) (b:Bool),B b->Fo T [.tmp t] 0 (λr _=>∃b,r= .bool b/\B b) .ret (fr (if t<C.n then [(t,.bool b)] else [(t,.bool b)])) (uP M'.length .dead):=λM' b hb=>by
  rw[CM];refine CA (d:=0) ?_;simp[RJ,PA,JA,MX,MW,MV,KN,Jz,hb]
 refine wpIn_mono (h tk C hC hp hb a w hr) ?_;rintro e a' w' ⟨sh,hsh,⟨F',M',⟨rfl,_,b,hF,hb⟩,r⟩ | ⟨rfl,D,F',M',w1,⟨_,_,b,hF,hb⟩,r,h1⟩⟩
 .exact .inl ⟨_,_,hq M' b hb,fin sh F' M' b _ _ hsh hF r⟩
 .exact .inr ⟨rfl,D,_,_,w1,hq M' b hb,fin sh F' M' b _ _ hsh hF r,h1⟩
theorem tb {p:Nat} {F:Fr} {M:List Ag} (B:Nat):Wk p F M F (M.set B .dead):=by
 rintro C hp a w ⟨σ,own,R⟩;refine⟨σ,own,R.size,R.dfr,R.tmp,⟨λT' BB hT=>?_,λT' u hT=>R.mem.key T' u (by simpa using hT)⟩,R.shr,R.ext,R.key0⟩;by_cases e:T' =B
 .subst e;have hl:T' <M.length:=by
   rcases uY T' M.length with h|h
   .exact h
   .rw[uR (by simpa using h)] at hT;simp at hT
  rw[uO hl] at hT;simp at hT;subst hT;exact⟨λ_=>0,λ_=>rfl,λ_=>vn _⟩
 .rw[uN (Ne.symm e)] at hT;exact R.mem.blk T' BB hT
theorem Ma:∀S:List (Nat×AV),(S.all λp=>EP p.2)=true->∀t,EP (fr S t)=true
 | [],_,_=>rfl
 | (a,v)::S,h,t=>by
   simp only[xu,uU] at h;rw[Nx];split
   .exact h.1
   .exact Ma S h.2 t
theorem d9 {w:World} {sh sh' :Nat->Prop} {σ:Nat->Nat->Option St} {T' :Nat} {B:Ag} {fp:Nat->Nat} (hB:(match B with| .live _ xs=>C6 xs|_=>true)=true) (h:BR w sh σ T' B fp):BR w sh' σ T' B fp:=by
 cases B with
 |free=>exact h
 |dead=>exact h
 |live v xs=>
  obtain⟨h1,h2⟩:=h;refine⟨h1,?_⟩;rcases h2 with h2| ⟨h,b,cur,e,fp',g1,g2,g3,g4,g5⟩
  .exact .inl h2
  .exact .inr ⟨h,b,cur,e,fp',g1,g2,g3,G9 xs _ _ hB g4,g5⟩
theorem uL {c:Code} {Q:Cj} (h:WX P T p c F M (λe F' M' =>Q e F' M' /\(∀t,EP (F' t)=true)/\∀B∈M',(match B with| .live _ xs=>C6 xs|_=>true)=true)):W P T p c F M Q:=λtk C hC hp hb=>by
 intro a w hr;have fin:∀(sh:Nat->Prop) (F' :Fr) (M' :List Ag) (a:Act) (w:World),(∀g,C.sh g->sh g)->(∀t,EP (F' t)=true)->(∀B∈M',(match B with| .live _ xs=>C6 xs|_=>true)=true)->Cu {C with sh:=sh} F' M' a w->Cu C F' M' a w:=by
  rintro sh F' M' a w hsh hF hM ⟨σ,own,R⟩;refine⟨σ,own,R.size,R.dfr,λt ht=>LQ _ _ _ (hF t) (R.tmp t ht),⟨λT' BB hT=>?_,R.mem.key⟩,λg hg=>R.shr g (hsh g hg),R.ext,R.key0⟩;obtain⟨fp,b1,b2⟩:=R.mem.blk T' BB hT;exact⟨fp,d9 (hM BB (vo hT)) b1,b2⟩
 refine wpIn_mono (h tk C hC hp hb a w hr) ?_;rintro e a' w' ⟨sh,hsh,⟨F',M',⟨q,hF,hM⟩,r⟩ | ⟨rfl,D,F',M',w1,⟨q,hF,hM⟩,r,h1⟩⟩
 .exact .inl ⟨F',M',q,fin sh F' M' _ _ hsh hF hM r⟩
 .exact .inr ⟨rfl,D,F',M',w1,q,fin sh F' M' _ _ hsh hF hM r,h1⟩
end
theorem uI {P:Program} {T:Nat->Option TI} {p:Nat} {F:Fr} {M:List Ag} {Q:Cj} {id:Nat} {l:List Oper} (n m:Nat) (hn:Bb l=n)
 (h:∀K:Fr->List Ag->Prop,(∀F M,Q .normal F M->K F M)->Aw T (Ad P) l.toArray (l.take m) M.length F (M++uP n .free) λF' M' =>∃F₁ M₁,Wk p F' M' F₁ M₁/\Aw T (Ad P) l.toArray (l.drop m) (M.length+Bb (l.take m)) F₁ M₁ K):W P T p (.region id l.toArray false) F M Q:=by
 intro tk C hC hp hb a w r;simp only[CL] at hb;refine wpIn_region_lit ?_;obtain⟨σ,own,R⟩:=r;subst hn;have hb0:l.all (Bx C.n)=true:=hb;have hb1:(l.take m).all (Bx C.n)=true:=u1.2 λx hx=>u1.1 hb0 x (List.mem_of_mem_take hx);have hb2:(l.drop m).all (Bx C.n)=true:=u1.2 λx hx=>u1.1 hb0 x (List.mem_of_mem_drop hx);have cm:∀f args M (K K' :AV->List Ag->Prop),(∀r M,K r M->K' r M)->Ad P f args M K->Cd C f args M K' :=λf args M K K' hk hc=>(hc C hC).mono hk;have h' :=Dk (call:=Ad P) (call' :=Cd C) cm (K' :=λF' M' =>∃F₁ M₁,Dj C F' M' F₁ M₁/\Aw T (Cd C) l.toArray (l.drop m) (M.length+Bb (l.take m)) F₁ M₁ (Q .normal))
  (λF' M' hk=>by
    obtain⟨F1,M1,hw,hk⟩:=hk;exact⟨F1,M1,hw C hp,Dk cm (λ_ _ h=>h) _ _ _ _ hk⟩) (l.take m) _ F _ (h _ λ_ _ h=>h)
 have:=ES (hC ▸ tk) (ops:=l.toArray) (Q' :=aq C Q) (l2:=l.drop m) (λF' M' a w hk r=>by
  obtain⟨F1,M1,hw,hk⟩:=hk;have:=ES (hC ▸ tk) (ops:=l.toArray) (Q' :=aq C Q) (l2:=[]) (λF M a w h r=> .inl ⟨F,M,h,r⟩) (l.drop m) _ F1 M1 a w hb2 hb hk (hw a w r);simpa using this) (l.take m) _ F _ a w hb1 hb h' ⟨σ,own,R.grow _⟩
 rwa [vJ] at this
section
variable {P:Program} {f:Nat} {M cM:List Ag} {args cargs:List AV} {K:AV->List Ag->Prop} {Q:AV->List Ag->Prop}
theorem tP (Ts:List Nat) (spec:Ac P f cargs cM Q) (hnd:Ts.Nodup) (hT:(Ts.map λT=>M[T]?)=cM.map some) (hb:cM.all Ot=true) (hargs:args.map (nv Ts (M.map λ_=>Ag.dead))=cargs)
 (hk:∀r M',Q r M' ->M'.length=cM.length->M'.all Oz=true/\K (EQ M.length r).1 (GD M Ts M' ++(EQ M.length r).2)):Ad P f args M K:=by
 intro C hC;subst hC;refine⟨spec.1,λF a w σ own vals R hv=>?_⟩;have hlen:Ts.length=cM.length:=by have:=congrArg List.length hT;simpa using this
 have hTi:∀i T:Nat,Ts[i]?=some T->∃B,M[T]?=some B/\cM[i]?=some B:=by
  intro i T h;have h1:(Ts.map λT=>M[T]?)[i]?=(cM.map some)[i]?:=by rw[hT]
  simp only[wa,h,vI] at h1;cases hc:cM[i]? with
  |none=>rw[hc] at h1;simp at h1
  |some B=>rw[hc] at h1;simp at h1;exact⟨B,h1,rfl⟩
 have hTl:∀T∈Ts,T<M.length:=λT h=>by
  obtain⟨i,hi⟩:=List.mem_iff_getElem?.1 h;obtain⟨B,hB,_⟩:=hTi i T hi;rcases uY T M.length with h|h
  .exact h
  .simp[uR h] at hB
 let oth:Nat->Option Nat:=λg=>match own g with|some T=>if T∈Ts then none else some T|none=>none
 let shB:Nat->Prop:=C.sh;let cσ:Nat->Nat->Option St:=λi v=>match Ts[i]? with|some T=>σ T v|none=>none
 let cown:Nat->Option Nat:=λg=>match own g with|some T=>Dt Ts T|none=>none
 have hcσ:∀T i,Dt Ts T=some i->∀v,cσ i v=σ T v:=λT i h v=>by simp only[cσ,HE h]
 have oth_some:∀g T,own g=some T->T ∉ Ts->oth g=some T:=λg T h1 h2=>by simp only[oth,h1,h2,if_false]
 have mD:Cp w C.sh σ (λ_=>none) (M.map λ_=>Ag.dead):=by
  refine⟨λT B hB=>?_,λT v hT' =>R.mem.key T v (by simpa using hT')⟩;rw[wa] at hB;cases h:M[T]? with
  |none=>rw[h] at hB;simp at hB
  |some B' =>rw[h] at hB;simp at hB;subst hB;exact⟨λ_=>0,λ_=>rfl,λ_=>vn _⟩
 have hv' :AI w shB cσ cargs vals.toList (λ_=>0):=by
  rw[<-hargs];have:=F6 (w:=w) (sh:=C.sh) (shB:=shB) (σ:=σ) (τ:=cσ) (f:=nv Ts (M.map λ_=>Ag.dead)) (p:=λfp=>∀g,fp g=0) (λa b c hc e=>⟨λg=>by have:=e g;have:=hc g;omega,λg=>by have:=e g;have:=hc g;omega⟩) (λx v fp h hf=>by
   have:fp=λ_=>0:=funext hf;subst this;exact ZK mD (λg hg=>hg) (λg hg _=>absurd rfl hg) hcσ h)
  exact this _ _ _ hv zL
 have hsub:Ci w w C.sh shB cσ cσ:=⟨λ_ _=>rfl,λ_ h=>h,λ_ _ _ h=> .inl h⟩;have mC:Cp w shB cσ cown cM:=by
  refine⟨λi B hB=>?_,λi v hi=>?_⟩
  .have hi:i<Ts.length:=by
    rcases uY i cM.length with h|h
    .omega
    .simp[uR h] at hB
   have hget:Ts[i]?=some Ts[i]:=uT hi;obtain⟨B',hM,hc⟩:=hTi i _ hget;rw[hc] at hB;simp at hB;subst hB;have hix:=NX hnd hget;have hk' :∀v,cσ i v=σ Ts[i] v:=hcσ _ _ hix;obtain⟨fp,b1,b2⟩:=R.mem.blk _ _ hM;refine⟨fp,?_,λg=>?_⟩
   .have htf:=u1.1 hb _ (vo hc);cases B' with
    |free=>exact⟨λv=>by rw[hk'];exact b1.1 v,b1.2⟩
    |dead=>exact b1
    |live u cs=>
     obtain⟨c0,b1⟩:=b1;refine⟨λu' hu=>by rw[hk'];exact c0 u' hu,?_⟩;rcases b1 with⟨c1,c2,c3⟩ | ⟨hh,b,cur,e',fp',c1,c2,c3,c4,c5⟩
     .exact .inl ⟨by rw[hk'];exact c1,c2,c3⟩
     .exact .inr ⟨hh,b,cur,e',fp',by rw[hk'];exact c1,c2,c3,AI.later hsub _ _ _ (λ_ _=>rfl) (Ib cσ htf c4),c5⟩
   .have:=b2 g;split at this
    .rename_i e;have:cown g=some i:=by simp only[cown,e];exact hix
     rw[zP this];assumption
    .omega
  .have:Ts[i]?=none:=uR zO;simp only[cσ,this]
 have hshc:∀g,shB g->cown g=none/\g<w.heap.size:=by
  intro g hg;have:=R.shr g hg;exact⟨by simp only[cown,this.1],this.2⟩
 refine(spec.2 w shB cσ cown vals hv' mC hshc).mono ?_;rintro e w' ⟨r,v,M',σ',own',fpr,rfl,hq,hl,hr,hf,hm,hsn,he,hlt⟩;obtain⟨hbo,hK⟩:=hk r M' hq hl;let σ2:Nat->Nat->Option St:=λT v=>match Dt Ts T with|some i=>σ' i v|none=>σ T v
 let own2:Nat->Option Nat:=λg=>match own' g with|some i=>if i<cM.length then Ts[i]? else none|none=>if g<w.heap.size then oth g else none
 have L:Ci w w' C.sh C.sh σ σ2:=by
  refine⟨λg hg=>hlt.ro g hg,λ_ h=>h,λT v st h=>?_⟩;cases e:Dt Ts T with
  |none=>exact .inl (by simp only[σ2,e];exact h)
  |some i=>
   simp only[σ2,e];exact hlt.key i v st (by rw[hcσ T i e];exact h)
 have hothn:∀g T,own g=some T->T ∉ Ts->g<w.heap.size->own' g=none/\own2 g=some T:=λg T h1 h2 h3=>by
  have:own' g=none:=by
   cases e:own' g with
   |none=>rfl
   |some i=>
    rcases he.own g (by rw[e];simp) with h|h
    .exact absurd (by simp only[cown,h1];exact I6 h2) h
    .omega
  exact⟨this,by simp only[own2,this,h3,if_true];exact oth_some g T h1 h2⟩
 have hown2:∀g,own2 g≠none->own g≠none\/w.heap.size<=g:=by
  intro g hg;cases e:own' g with
  |none=>
   simp only[own2,e] at hg;split at hg
   .left;intro e2;simp only[oth,e2] at hg;exact hg rfl
   .exact absurd rfl hg
  |some i=>
   rcases he.own g (by rw[e];simp) with h|h
   .left;intro e2;simp only[cown,e2] at h;exact h rfl
   .exact .inr h
 have R1:AS C F (GD M Ts M') a w' σ2 own2:=by
  refine⟨R.size,R.dfr,λt ht=>VR.later L _ _ _ (λ_ h=>absurd rfl h) (R.tmp t ht),⟨λT B hB=>?_,λT v hT' =>?_⟩,λg hg=>?_,?_,R.keyl L⟩
  .rw[L2 Ts M' M T hnd zO hTl] at hB;cases hix:Dt Ts T with
   |some i=>
    rw[hix] at hB;simp only at hB;obtain⟨fp,b1,b2⟩:=hm.blk i B hB;have hiM:i<cM.length:=by
     rcases uY i M'.length with h|h
     .omega
     .simp[uR h] at hB
    have hk' :∀v,σ2 T v=σ' i v:=λv=>by simp only[σ2,hix]
    refine⟨fp,?_,λg=>?_⟩
    .have hbk:=u1.1 hbo _ (vo hB);cases B with
     |free=>exact⟨λv=>by rw[hk'];exact b1.1 v,b1.2⟩
     |dead=>exact b1
     |live u cs=>
      simp only[Oz,uU] at hbk;obtain⟨c0,b1⟩:=b1;refine⟨λu' hu=>by rw[hk'];exact c0 u' hu,?_⟩;rcases b1 with⟨c1,c2,c3⟩ | ⟨hh,b,cur,e',fp',c1,c2,c3,c4,c5⟩
      .exact .inl ⟨by rw[hk'];exact c1,c2,c3⟩
      .exact .inr ⟨hh,b,cur,e',fp',by rw[hk'];exact c1,c2,c3,Ib σ2 hbk.1 c4,c5⟩
    .have:=b2 g;split at this
     .rename_i e;have:own2 g=some T:=by simp only[own2,e,hiM,if_true];exact HE hix
      rw[zP this];assumption
     .omega
   |none=>
    rw[hix] at hB;simp only at hB;have hTn:=L1 hix;obtain⟨fp,b1,b2⟩:=R.mem.blk T B hB;have hsome:∀g,fp g≠0->own g=some T/\g<w.heap.size:=λg hg=>by
     have:=b2 g;split at this
     .rename_i e;exact⟨e,KJ b1 g hg⟩
     .omega
    refine⟨fp,EO L (λg hg=>?_) (λv=>by simp only[σ2,hix]) b1,λg=>?_⟩
    .obtain⟨h1,h2⟩:=hsome g hg;exact he.block g h2 (by simp only[cown,h1];exact hix)
    .by_cases h0:fp g=0
     .rw[h0];exact vn _
     .obtain⟨h1,h2⟩:=hsome g h0;rw[zP (hothn g T h1 hTn h2).2];have:=b2 g;rw[zP h1] at this;exact this
  .rw[Id] at hT';have:Dt Ts T=none:=I6 λh=>by have:=hTl T h;omega
   simp only[σ2,this];exact R.mem.key T v hT'
  .have h1:=R.shr g hg;have h2:=hsn g hg;have:=he.size;refine⟨?_,zO⟩;simp only[own2,h2,h1.2,if_true,oth,h1.1]
  .refine R.ext.trans ⟨he.os,he.tape,he.output,he.size,λg hg ho=>he.block g hg (by simp only[cown,ho]),hown2⟩
 obtain⟨σ3,own3,R3,r3,_,_⟩:=RB C F _ a w' σ2 own2 r v fpr R1 hr (λg=>by have:=hf g;split at this<;>omega) (λg hg=>by
  have h1:own' g=some cM.length:=by
   have:=hf g;split at this
   .assumption
   .omega
  refine⟨by simp only[own2,h1,Nat.lt_irrefl,if_false],λhs=>?_,?_⟩
  .have:=hsn g hs;rw[h1] at this;simp at this
  .rcases he.own g (by rw[h1];simp) with h|h
   .have:own g≠none:=by
     intro e2;simp only[cown,e2] at h;exact h rfl
    exact R.ext.own g this|>.imp id (λh=>h)
   .exact .inr (by have:=R.ext.size;omega))
 rw[Id] at R3 r3;exact⟨_,v,_,σ3,own3,rfl,hK,R3,r3⟩
end
def sl:Bool->Nat->Nat->List AV->AV
 |true,s,n,xs=> .own s n xs
 |false,_,n,xs=> .ro n xs
@[simp] theorem aZ (s n:Nat) (xs:List AV):sl true s n xs= .own s n xs:=rfl
@[simp] theorem jP (s n:Nat) (xs:List AV):sl false s n xs= .ro n xs:=rfl
def Aa {α:Type} (f:α->List AV):List α->List AV
 | []=> []
 |x::xs=>f x++Aa f xs
section
variable {α:Type} (f:α->List AV)
@[simp] theorem jQ:Aa f []=[]:=rfl
theorem AG (x:α) (xs:List α):Aa f (x::xs)=f x++Aa f xs:=rfl
theorem BI (xs ys:List α):Aa f (xs++ys)=Aa f xs++Aa f ys:=by
 induction xs with
 |nil=>rfl
 |cons x xs ih=>simp[AG,ih]
theorem Bk {s:Nat} (h:∀x,(f x).length=s) (xs:List α):(Aa f xs).length=xs.length*s:=by
 induction xs with
 |nil=>simp
 |cons x xs ih=>simp[AG,ih,h,wK];omega
theorem II {s:Nat} (h:∀x,(f x).length=s):∀(k:Nat) (xs:List α),(Aa f xs).drop (k*s)=Aa f (xs.drop k)
 |0,xs=>zS
 |k+1,[]=>zS
 |k+1,x::xs=>by
  rw[AG,show(k+1)*s=(f x).length+k*s by rw[h];rw[wK];omega,List.drop_append];simp only[List.drop_succ_cons];rw[<-II h k xs];simp
theorem E8 {s:Nat} (h:∀x,(f x).length=s):∀(k:Nat) (xs:List α),(Aa f xs).take (k*s)=Aa f (xs.take k)
 |0,xs=>zS
 |k+1,[]=>zS
 |k+1,x::xs=>by
  rw[AG,show(k+1)*s=(f x).length+k*s by rw[h];rw[wK];omega,List.take_append];simp only[List.take_succ_cons,AG];rw[<-E8 h k xs,uM zO];simp
theorem Ie {s:Nat} (h:∀x,(f x).length=s) {k:Nat} {xs:List α} (hk:k<xs.length):(Aa f xs).drop (k*s)=f xs[k]++Aa f (xs.drop (k+1)):=by
 rw[II f h,uX hk,AG]
theorem KU {p:AV->Bool} (h:∀x,(f x).all p=true) (xs:List α):(Aa f xs).all p=true:=by
 induction xs with
 |nil=>rfl
 |cons x xs ih=>rw[AG,List.all_append,h,ih];rfl
theorem HF {g:AV->AV} {f' :α->List AV} (h:∀x,(f x).map g=f' x) (xs:List α):(Aa f xs).map g=Aa f' xs:=by
 induction xs with
 |nil=>rfl
 |cons x xs ih=>rw[AG,List.map_append,h,ih,AG]
theorem IS (k:Nat):∀xs,D5 k xs=xs.all (Iz k)
 | []=>by simp[D5]
 |x::xs=>by simp only[D5,xu,IS k xs]
end
@[ext] structure DX where
  data:ByteArray
  n:Int
  deriving DecidableEq
@[ext] structure Obj where
  id:Int
  base:Int
  data:DX
  deriving DecidableEq
@[ext] structure Bn where
  id:Int
  parent:Int
  base:Int
  data:DX
  at_:Int
  tag:Bool
  gone:Bool
  deriving DecidableEq
@[ext] structure Gr where
  n:Int
  out:List (List Int)
  deriving DecidableEq
@[ext] structure B7 where
  kind:Int
  a:Int
  at_:Int
  move:Bool
  list:List Int
  out:List Int
  deriving DecidableEq
@[ext] structure B3 where
  opn:Bool
  pin:Int
  on:Bool
  frm:Int
  sT:Gr
  job:B7
  deriving DecidableEq
@[ext] structure An where
  keep:Int
  sS:Int
  sQ:List Bn
  sR:List B3
  deriving DecidableEq
def DB (m:Bool) (xs:List Int):AV:=sl m 1 xs.length (Ab xs)
def Ak (m:Bool) (xs:List (List Int)):List AV:=xs.map (DB m)
def DH (m:Bool) (xs:List (List Int)):AV:=sl m 1 xs.length (Ak m xs)
def Dd (b:DX):List AV:=[.str b.data,iN b.n]
def Al (r:Int×Int):List AV:=[iN r.1,iN r.2]
def gB (m:Bool) (l:List (Int×Int)):AV:=sl m 2 l.length (Aa Al l)
def Ar (o:Obj):List AV:=[iN o.id,iN o.base,.str o.data.data,iN o.data.n]
def As (v:Bn):List AV:=[iN v.id,iN v.parent,iN v.base,.str v.data.data,iN v.data.n,iN v.at_,.bool v.tag,.bool v.gone]
def A1 (m:Bool) (g:Gr):List AV:=[iN g.n,DH m g.out]
def BY (m:Bool) (j:B7):List AV:=[iN j.kind,iN j.a,iN j.at_,.bool j.move,DB m j.list,DB m j.out]
def Af (m:Bool) (s:B3):List AV:=[.bool s.opn,iN s.pin,.bool s.on,iN s.frm,iN s.sT.n,DH m s.sT.out,iN s.job.kind,iN s.job.a,iN s.job.at_,.bool s.job.move,DB m s.job.list,DB m s.job.out]
def gC (m:Bool) (l:List Obj):AV:=sl m 4 l.length (Aa Ar l)
def GF (m:Bool) (l:List Bn):AV:=sl m 8 l.length (Aa As l)
def KV (m:Bool) (l:List B3):AV:=sl m 12 l.length (Aa (Af m) l)
def Aj (m:Bool) (s:An):List AV:=[iN s.keep,iN s.sS,GF m s.sQ,KV m s.sR]
def Ww (w:World) (g:Nat):Prop:=g<w.heap.size
theorem bc {w:World} {a:Addr} {v:Value} (h:w.cell? a=some v):a.block<w.heap.size:=by
 rcases uY a.block w.heap.size with h1|h1
 .exact h1
 .simp[World.cell?,Array.getElem?_eq_none h1] at h
theorem Wx (a:Addr) (i:Nat):(a.add i).block=a.block:=by unfold Addr.add;split<;>rfl
theorem RS {H:Type} {P:Program} {e:TypeId}:∀{l:List (DataW H)} {d:DataW H},d∈l->∀n∈d.weights P e,n∈DataW.weightsAll P e l
 |d' ::r,d,hd,n,hn=>by
  simp only[DataW.weightsAll,vd];rcases vL.1 hd with rfl|h
  .exact .inl hn
  .exact .inr (RS h n hn)
section
variable {H:Type} {enc:TypeId×Value->H} {P:Program} {w:World} {t e:TypeId}
def B4 {α:Type} (enc:TypeId×Value->H) (P:Program) (w:World) (t:TypeId) (f:α->List AV) (good:α->Prop):Prop:=
 ∀fuel cs x,DataW.trod enc P w 0 (λ_=>true) true fuel t cs=some x->(∀n∈x.1.weights P t,n<=reachBytes)->∃a,AI w (Ww w) σ0 (f a) cs (λ_=>0)/\good a
theorem ec (ht:P.underlying t=some (.slice e)) (es sp:List (DataW H)):DataW.weights P t (.slice es sp)=(es.length+sp.length)*P.bytesOf e::(DataW.weightsAll P e es++DataW.weightsAll P e sp):=by simp[DataW.weights,ht]
theorem RT {sh:Nat->Prop} {a:AV} {v:Value} (h:VR w sh σ0 a v (λ_=>0)):AI w sh σ0 [a] [v] (λ_=>0):=⟨v,[],λ_=>0,λ_=>0,rfl,h,⟨rfl,λ_=>rfl⟩,λ_=>rfl⟩
theorem B4.map {α β:Type} {f:α->List AV} {f' :β->List AV} {good:α->Prop} {good' :β->Prop} (h:B4 enc P w t f good) (g:α->β) (hf:∀a,f a=f' (g a)) (hg:∀a,good a->good' (g a)):B4 enc P w t f' good' :=λfuel cs x hx hw=>by
 obtain⟨a,h1,h2⟩:=h fuel cs x hx hw;exact⟨g a,hf a ▸ h1,hg a h2⟩
theorem B4.int {k:IntKind} (ht:P.underlying t=some (.int k)):B4 enc P w t (λn:Int=> [.int k n]) λ_=>True:=λfuel cs x hx _=>by
 obtain⟨n,rfl,_,_⟩:=DataW.trod_int ht hx;exact⟨n,RT ⟨rfl,λ_=>rfl⟩,trivial⟩
theorem uD {k:IntKind} (ht:P.underlying t=some (.int k)):B4 enc P w t (λn:Int=> [.int k n]) λn=>(Lit.int k n).wf=true:=λfuel cs x hx _=>by
 obtain⟨n,rfl,_,hwf⟩:=DataW.trod_int ht hx;exact⟨n,RT ⟨rfl,λ_=>rfl⟩,hwf⟩
theorem B4.bool (ht:P.underlying t=some .bool):B4 enc P w t (λb:Bool=> [.bool b]) λ_=>True:=λfuel cs x hx _=>by
 obtain⟨b,rfl,_⟩:=DataW.trod_bool ht hx;exact⟨b,RT ⟨rfl,λ_=>rfl⟩,trivial⟩
theorem uJ (ht:P.underlying t=some .string):B4 enc P w t (λs:ByteArray=> [.str s]) λs=>s.size<=reachBytes:=λfuel cs x hx hw=>by
 obtain⟨s,rfl,rfl,_⟩:=DataW.trod_string ht hx;refine⟨s,RT ⟨rfl,λ_=>rfl⟩,?_⟩;have:=hw s.data.toList.length (by simp[DataW.weights]);simpa using this
theorem tV {α:Type} {f:α->List AV} {good:α->Prop} (h:B4 enc P w e f good) (ht:P.underlying t=some (.slice e)):B4 enc P w t (λxs:List α=> [.ro xs.length (Aa f xs)]) λxs=>xs.length*P.bytesOf e<=reachBytes/\∀a∈xs,good a:=λfuel cs x hx hw=>by
 rcases DataW.trod_slice ht hx with⟨rfl,_⟩ | ⟨a,len,cap,elems,rest,n,rfl,rfl,rfl,_,hlc,_,hel,hget,_⟩
 .exact⟨[],RT ⟨λ_=>rfl,none,0,rfl,vg _,λ_=>rfl,.inl rfl⟩,zS,zS⟩
 .have hl:=hw ((elems.length+rest.length)*P.bytesOf e) (by simp[DataW.weights,ht]);rw[hel] at hl;have key:∀m,m<=len->∃(xs:List α) (vs:List Value),xs.length=m/\vs.length=m*P.cellsOf e/\AI w (Ww w) σ0 (Aa f xs) vs (λ_=>0)/\E4 w a vs/\∀a∈xs,good a:=by
   intro m
   induction m with
   |zero=>intro _;exact⟨[],[],rfl,zS,⟨rfl,λ_=>rfl⟩,by intro i v hv;simp at hv,zS⟩
   |succ m ih=>
    intro hm;obtain⟨xs,vs,e1,e2,h3,h4,h5⟩:=ih zO;have hmlt:m<elems.length:=zO;have hg:=hget m zO;rw[uT hmlt] at hg;obtain⟨cs',hc,hx'⟩:=Option.bind_eq_some_iff.1 hg;obtain⟨b,hv,hgood⟩:=h n cs' _ hx' (λk hk=>hw k (by
     rw[ec ht];exact List.mem_cons_of_mem _ (List.mem_append_left _ (RS (List.mem_map.2 ⟨_,List.getElem_mem hmlt,rfl⟩) k hk))))
    have hcl:cs'.length=P.cellsOf e:=by
     unfold World.cells? at hc;rw[zP (vn _)] at hc;simpa using mapM_some_length hc
    refine⟨xs++[b],vs++cs',by simp[e1],by simp[e2,hcl,wK],?_,?_,?_⟩
    .have:Aa f (xs++[b])=Aa f xs++f b:=by rw[BI];simp[Aa]
     rw[this];exact FJ h3 hv
    .intro i v hiv;rcases uY i vs.length with hlt|hge
     .exact h4 i v (by rwa [List.getElem?_append_left hlt] at hiv)
     .rw[List.getElem?_append_right hge] at hiv;unfold World.cells? at hc;rw[zP (vn _)] at hc;have hi' :i-vs.length<P.cellsOf e:=by
       rw[<-hcl];rcases uY (i-vs.length) cs'.length with h9|h9
       .exact h9
       .rw[uR h9] at hiv;simp at hiv
      have:=mapM_some_get hc (i-vs.length) (i-vs.length) (by simp[hi']);rw[hiv,tB] at this;rw[<-this];congr 2;omega
    .intro c hc';rcases vd.1 hc' with h9|h9
     .exact h5 c h9
     .simp at h9;subst h9;exact hgood
  obtain⟨xs,vs,e1,e2,h3,h4,h5⟩:=key len (vg _);refine⟨xs,RT ⟨λ_=>rfl,some a,cap,by rw[e1],zO,zS,?_⟩,by rw[e1];exact Nat.le_trans (Nat.mul_le_mul_right _ (Nat.le_add_right _ _)) hl,h5⟩;cases hvs:vs with
  |nil=>
   left;rw[hvs] at h3;have:=Ca h3;exact List.length_eq_zero_iff.1 (by simpa using this.symm)
  |cons v vs' =>
   right;refine⟨a,vs,rfl,?_,h4,h3⟩;have:=bc (h4 0 v (by rw[hvs];rfl))
   rwa [Wx] at this
theorem tI {α:Type} {f:α->List AV} {good:α->Prop} (h:B4 enc P w e f good) (ht:P.underlying t=some (.slice e)) (hb:0<P.bytesOf e):B4 enc P w t (λxs:List α=> [.ro xs.length (Aa f xs)]) λxs=>xs.length<=reachBytes/\∀a∈xs,good a:=
 B4.map (tV h ht) id zL λxs g=>⟨Nat.le_trans (Nat.le_mul_of_pos_right _ hb) g.1,g.2⟩
def PH {α:Type} (enc:TypeId×Value->H) (P:Program) (w:World) (fs:List Field) (off:Nat) (f:α->List AV) (good:α->Prop):Prop:=
 ∀(cs:List Value) (k:Nat) (xs:List (DataW H×List MemPlace)),xs.length=fs.length->(∀(i:Nat) (fd:Field),fs[i]?=some fd->DataW.trod enc P w 0 (λ_=>true) true k fd.type ((cs.drop fd.offset).take (P.cellsOf fd.type))=xs[i]?)->(∀(i:Nat) (fd:Field) (x:DataW H×List MemPlace),fs[i]?=some fd->xs[i]?=some x->∀n∈x.1.weights P fd.type,n<=reachBytes)->
  cs.length=off+(fs.map λfd=>P.cellsOf fd.type).sum->∃a,AI w (Ww w) σ0 (f a) (cs.drop off) (λ_=>0)/\good a
theorem PH.nil {off:Nat}:PH enc P w [] off (λ_:Unit=> []) λ_=>True:=λcs k xs _ _ _ hl=>⟨(),by
 have:cs.drop off=[]:=List.drop_eq_nil_of_le (by simp at hl;omega);rw[this];exact⟨rfl,λ_=>rfl⟩,trivial⟩
theorem PH.cons {α β:Type} {fd:Field} {fs:List Field} {off s:Nat} {f:α->List AV} {g:β->List AV} {good:α->Prop} {good' :β->Prop} (h:B4 enc P w fd.type f good) (hsz:P.cellsOf fd.type=s) (ho:fd.offset=off) (hs:PH enc P w fs (off+s) g good'):PH enc P w (fd::fs) off (λx:α×β=>f x.1++g x.2) λx=>good x.1/\good' x.2:=λcs k xs hxl hx hw hl=>by
 subst hsz;cases xs with
 |nil=>simp at hxl
 |cons x xs=>
  have h0:=hx 0 fd rfl;obtain⟨a,h1,h2⟩:=h k _ x h0 (hw 0 fd x rfl rfl);obtain⟨b,h3,h4⟩:=hs cs k xs (by simpa using hxl) (λi fd' hi=>hx (i+1) fd' (by simpa using hi)) (λi fd' x' hi hx' =>hw (i+1) fd' x' (by simpa using hi) (by simpa using hx')) (by simp at hl;omega);refine⟨(a,b),?_,h2,h4⟩;have:cs.drop off=(cs.drop fd.offset).take (P.cellsOf fd.type)++cs.drop (off+P.cellsOf fd.type):=by
   rw[ho,<-wr,vJ]
  rw[this];exact FJ h1 h3
theorem tt {α:Type} {fs:Array Field} {f:α->List AV} {good:α->Prop} (ht:P.underlying t=some (.struct fs)) (h:PH enc P w fs.toList 0 f good) (hc:P.cellsOf t=(fs.toList.map λfd=>P.cellsOf fd.type).sum):B4 enc P w t f good:=λfuel cs x hx hw=>by
 obtain⟨xs,n,_,rfl,hl,hxl,hget⟩:=DataW.trod_struct ht hx;obtain⟨a,h1,h2⟩:=h cs n xs (by simpa using hxl) (λi fd hi=>hget i fd (by simpa using hi)) (λi fd y hi hy k hk=>hw k (by
  simp only[DataW.weights,ht];exact DataW.weights_mem_each (j:=i) (by simp[hi]) (by simp[hy]) k hk)) (by rw[hl,hc];omega)
 exact⟨a,by simpa using h1,h2⟩
end
attribute [simp] DB DH gC GF KV gB Dd Ar As A1 BY Af Aj
theorem NZ {α:Type} (f:α->List AV) (h:∀x,LA (f x)=true) (xs:List α):LA (Aa f xs)=true:=KU f h xs
theorem I9 {α:Type} (f:α->List AV) (h:∀x,E0 (f x)=true) (xs:List α):E0 (Aa f xs)=true:=KU f h xs
theorem Ja {α:Type} (f:α->List AV) (k:Nat) (h:∀x,D5 k (f x)=true) (xs:List α):D5 k (Aa f xs)=true:=by
 rw[IS];exact KU f (λx=>by rw[<-IS];exact h x) xs
theorem If {α:Type} (f:α->List AV) (h:∀x,C6 (f x)=true) (xs:List α):C6 (Aa f xs)=true:=by
 rw[NT];exact KU f (λx=>by rw[<-NT];exact h x) xs
theorem RU {α:Type} (f f' :α->List AV) (h:∀x,JB (f x)=f' x) (xs:List α):JB (Aa f xs)=Aa f' xs:=by
 rw[MY];exact HF f (λx=>by rw[<-MY];exact h x) xs
@[simp] theorem om (m:Bool) (s n:Nat) (xs:List AV):tf (sl m s n xs)=true:=by cases m<;>simp
@[simp] theorem oo (m:Bool) (k s n:Nat) (xs:List AV):Iz k (sl m s n xs)=true:=by cases m<;>simp
section
variable (xs ys:List (List Int)) (m:Bool) (M:List Ag) (k:Nat)
@[simp] theorem iS (i:Nat):(Ak m xs)[i]?=(xs[i]?).map (DB m):=by simp[Ak]
@[simp] theorem iT:(Ak m xs).length=xs.length:=by simp[Ak]
@[simp] theorem iU:Ak m []=[]:=rfl
theorem FM (x:List Int):Ak m (x::xs)=DB m x::Ak m xs:=rfl
theorem Wy:Ak m (xs++ys)=Ak m xs++Ak m ys:=by simp[Ak]
@[simp] theorem KW:(Ak m xs).take k=Ak m (xs.take k):=by simp[Ak,List.map_take]
@[simp] theorem gE:(Ak m xs).drop k=Ak m (xs.drop k):=by simp[Ak,List.map_drop]
@[simp] theorem jR:LA (Ak false xs)=true:=by induction xs<;>simp_all[FM]
@[simp] theorem jS:E0 (Ak m xs)=true:=by induction xs<;>simp_all[FM]
@[simp] theorem jT:D5 k (Ak m xs)=true:=by induction xs<;>simp_all[FM]
@[simp] theorem iV:C6 (Ak true xs)=true:=by induction xs<;>simp_all[FM]
@[simp] theorem iW:JB (Ak m xs)=Ak false xs:=by induction xs<;>cases m<;>simp_all[FM]
@[simp] theorem iX:(Ak m xs).map (CV M k)=Ak false xs:=by induction xs<;>cases m<;>simp_all[FM]
end
section
variable (xs ys:List (Int×Int)) (m:Bool) (M:List Ag) (k:Nat)
@[simp] theorem jU:(Aa Al xs).length=xs.length*2:=Bk _ (λx=>by simp[Al]) xs
@[simp] theorem iY (h:k<xs.length):(Aa Al xs).drop (k*2)=Al xs[k]++Aa Al (xs.drop (k+1)):=Ie _ (λx=>by simp[Al]) h
@[simp] theorem iZ:(Aa Al xs).take (k*2)=Aa Al (xs.take k):=E8 _ (λx=>by simp[Al]) k xs
@[simp] theorem mz:E0 (Aa Al xs)=true:=I9 _ (λx=>by simp[Al]) xs
@[simp] theorem mA:D5 k (Aa Al xs)=true:=Ja _ k (λx=>by simp[Al]) xs
@[simp] theorem jV:C6 (Aa Al xs)=true:=If _ (λx=>by simp[Al]) xs
@[simp] theorem jW:(Aa Al xs).map (CV M k)=Aa Al xs:=HF _ (λx=>by simp[Al]) xs
end
section
variable (xs ys:List Obj) (m:Bool) (M:List Ag) (k:Nat)
@[simp] theorem jX:(Aa Ar xs).length=xs.length*4:=Bk _ (λx=>by simp[Ar]) xs
@[simp] theorem i6 (h:k<xs.length):(Aa Ar xs).drop (k*4)=Ar xs[k]++Aa Ar (xs.drop (k+1)):=Ie _ (λx=>by simp[Ar]) h
@[simp] theorem i7:(Aa Ar xs).take (k*4)=Aa Ar (xs.take k):=E8 _ (λx=>by simp[Ar]) k xs
@[simp] theorem mB:LA (Aa Ar xs)=true:=NZ _ (λx=>by simp[Ar]) xs
@[simp] theorem mE:E0 (Aa Ar xs)=true:=I9 _ (λx=>by simp[Ar]) xs
@[simp] theorem mF:D5 k (Aa Ar xs)=true:=Ja _ k (λx=>by simp[Ar]) xs
@[simp] theorem jY:C6 (Aa Ar xs)=true:=If _ (λx=>by simp[Ar]) xs
@[simp] theorem jZ:(Aa Ar xs).map (CV M k)=Aa Ar xs:=HF _ (λx=>by simp[Ar]) xs
end
section
variable (xs ys:List Bn) (m:Bool) (M:List Ag) (k:Nat)
@[simp] theorem j6:(Aa As xs).length=xs.length*8:=Bk _ (λx=>by simp[As]) xs
@[simp] theorem i8 (h:k<xs.length):(Aa As xs).drop (k*8)=As xs[k]++Aa As (xs.drop (k+1)):=Ie _ (λx=>by simp[As]) h
@[simp] theorem i9:(Aa As xs).take (k*8)=Aa As (xs.take k):=E8 _ (λx=>by simp[As]) k xs
@[simp] theorem be:LA (Aa As xs)=true:=NZ _ (λx=>by simp[As]) xs
@[simp] theorem mG:E0 (Aa As xs)=true:=I9 _ (λx=>by simp[As]) xs
@[simp] theorem mH:D5 k (Aa As xs)=true:=Ja _ k (λx=>by simp[As]) xs
@[simp] theorem j7:C6 (Aa As xs)=true:=If _ (λx=>by simp[As]) xs
@[simp] theorem j8:JB (Aa As xs)=Aa As xs:=RU _ _ (λx=>by simp[As]) xs
@[simp] theorem j9:(Aa As xs).map (CV M k)=Aa As xs:=HF _ (λx=>by simp[As]) xs
end
section
variable (xs ys:List B3) (m:Bool) (M:List Ag) (k:Nat)
@[simp] theorem RV:(Aa (Af m) xs).length=xs.length*12:=Bk _ (λx=>by simp[Af]) xs
@[simp] theorem ja (h:k<xs.length):(Aa (Af m) xs).drop (k*12)=(Af m) xs[k]++Aa (Af m) (xs.drop (k+1)):=Ie _ (λx=>by simp[Af]) h
@[simp] theorem jb:(Aa (Af m) xs).take (k*12)=Aa (Af m) (xs.take k):=E8 _ (λx=>by simp[Af]) k xs
@[simp] theorem mI:LA (Aa (Af false) xs)=true:=NZ _ (λx=>by simp[Af]) xs
@[simp] theorem mJ:E0 (Aa (Af m) xs)=true:=I9 _ (λx=>by simp[Af]) xs
@[simp] theorem mK:D5 k (Aa (Af m) xs)=true:=Ja _ k (λx=>by simp[Af]) xs
@[simp] theorem ke:C6 (Aa (Af true) xs)=true:=If _ (λx=>by simp[Af]) xs
@[simp] theorem kf:JB (Aa (Af m) xs)=Aa (Af false) xs:=RU _ _ (λx=>by cases m<;>simp[Af]) xs
@[simp] theorem RW:(Aa (Af m) xs).map (CV M k)=Aa (Af false) xs:=HF _ (λx=>by cases m<;>simp[Af]) xs
end
set_option maxRecDepth 100000
def tL:List (Option TI):=[
 none,
 none,
 some ⟨false,1,8,[.int .i64 0],.int .i64,false⟩,
 some ⟨false,1,8,[.int .i64 0],.int .i64,false⟩,
 some ⟨false,1,1,[.bool false],.bool,false⟩,
 some ⟨false,1,1,[.int .u8 0],.int .u8,false⟩,
 some ⟨false,1,1,[.int .u8 0],.int .u8,false⟩,
 some ⟨true,4,24,[.int .i64 0,.int .i64 0,.bool false,.int .u8 0],.struct [(0,1,false),(1,1,false),(2,1,false),(3,1,false)],false⟩,
 some ⟨true,4,24,[.int .i64 0,.int .i64 0,.bool false,.int .u8 0],.struct [(0,1,false),(1,1,false),(2,1,false),(3,1,false)],false⟩,
 some ⟨false,1,16,[.str ByteArray.empty],.str,false⟩,
 some ⟨false,1,16,[.str ByteArray.empty],.str,false⟩,
 some ⟨false,1,16,[.str ByteArray.empty],.str,false⟩,
 some ⟨false,1,8,[.int .u64 0],.int .u64,false⟩,
 some ⟨true,2,24,[.str ByteArray.empty,.int .u64 0],.struct [(0,1,false),(1,1,false)],false⟩,
 some ⟨true,2,24,[.str ByteArray.empty,.int .u64 0],.struct [(0,1,false),(1,1,false)],false⟩,
 some ⟨false,1,8,[.nilp],.ptr,false⟩,
 some ⟨false,1,8,[.nilp],.ptr,false⟩,
 some ⟨false,1,8,[.nilp],.ptr,false⟩,
 some ⟨true,1,8,[.nilp],.struct [(0,1,false)],false⟩,
 some ⟨true,1,8,[.nilp],.struct [(0,1,false)],false⟩,
 none,
 some ⟨false,1,4,[.int .i32 0],.int .i32,false⟩,
 some ⟨false,1,24,[.own 8 0 []],.slice 61 8 64 [.int .i64 0,.int .i64 0,.int .i64 0,.str ByteArray.empty,.int .i64 0,.int .i64 0,.bool false,.bool false],false⟩,
 some ⟨false,1,24,[.own 12 0 []],.slice 40 12 144 [.bool false,.int .i64 0,.bool false,.int .i64 0,.int .i64 0,.own 1 0 [],.int .i64 0,.int .i64 0,.int .i64 0,.bool false,.own 1 0 [],.own 1 0 []],false⟩,
 some ⟨true,4,64,[.int .i64 0,.int .i64 0,.own 8 0 [],.own 12 0 []],.struct [(0,1,false),(1,1,false),(2,1,false),(3,1,false)],false⟩,
 some ⟨true,4,64,[.int .i64 0,.int .i64 0,.own 8 0 [],.own 12 0 []],.struct [(0,1,false),(1,1,false),(2,1,false),(3,1,false)],false⟩,
 some ⟨false,1,24,[.own 6 0 []],.slice 42 6 48 [.int .i64 0,.int .i64 0,.int .i64 0,.int .i64 0,.int .i64 0,.int .i64 0],false⟩,
 some ⟨true,5,88,[.int .i64 0,.int .i64 0,.own 8 0 [],.own 12 0 [],.own 6 0 []],.struct [(0,4,true),(4,1,false)],false⟩,
 some ⟨true,5,88,[.int .i64 0,.int .i64 0,.own 8 0 [],.own 12 0 [],.own 6 0 []],.struct [(0,4,true),(4,1,false)],false⟩,
 none,
 none,
 some ⟨false,1,24,[.own 2 0 []],.slice 34 2 32 [.int .i64 0,.own 1 0 []],false⟩,
 some ⟨false,1,24,[.own 1 0 []],.slice 36 1 24 [.own 1 0 []],false⟩,
 some ⟨true,2,32,[.int .i64 0,.own 1 0 []],.struct [(0,1,false),(1,1,false)],false⟩,
 some ⟨true,2,32,[.int .i64 0,.own 1 0 []],.struct [(0,1,false),(1,1,false)],false⟩,
 none,
 some ⟨false,1,24,[.own 1 0 []],.slice 3 1 8 [.int .i64 0],false⟩,
 some ⟨true,6,80,[.int .i64 0,.int .i64 0,.int .i64 0,.bool false,.own 1 0 [],.own 1 0 []],.struct [(0,1,false),(1,1,false),(2,1,false),(3,1,false),(4,1,false),(5,1,false)],false⟩,
 some ⟨true,6,80,[.int .i64 0,.int .i64 0,.int .i64 0,.bool false,.own 1 0 [],.own 1 0 []],.struct [(0,1,false),(1,1,false),(2,1,false),(3,1,false),(4,1,false),(5,1,false)],false⟩,
 some ⟨true,12,144,[.bool false,.int .i64 0,.bool false,.int .i64 0,.int .i64 0,.own 1 0 [],.int .i64 0,.int .i64 0,.int .i64 0,.bool false,.own 1 0 [],.own 1 0 []],.struct [(0,1,false),(1,1,false),(2,1,false),(3,1,false),(4,2,true),(6,6,true)],false⟩,
 some ⟨true,12,144,[.bool false,.int .i64 0,.bool false,.int .i64 0,.int .i64 0,.own 1 0 [],.int .i64 0,.int .i64 0,.int .i64 0,.bool false,.own 1 0 [],.own 1 0 []],.struct [(0,1,false),(1,1,false),(2,1,false),(3,1,false),(4,2,true),(6,6,true)],false⟩,
 some ⟨true,6,48,[.int .i64 0,.int .i64 0,.int .i64 0,.int .i64 0,.int .i64 0,.int .i64 0],.struct [(0,1,false),(1,1,false),(2,1,false),(3,1,false),(4,1,false),(5,1,false)],false⟩,
 some ⟨true,6,48,[.int .i64 0,.int .i64 0,.int .i64 0,.int .i64 0,.int .i64 0,.int .i64 0],.struct [(0,1,false),(1,1,false),(2,1,false),(3,1,false),(4,1,false),(5,1,false)],true⟩,
 none,
 some ⟨true,3,40,[.int .i64 0,.int .i64 0,.own 1 0 []],.struct [(0,1,false),(1,1,false),(2,1,false)],false⟩,
 some ⟨true,3,40,[.int .i64 0,.int .i64 0,.own 1 0 []],.struct [(0,1,false),(1,1,false),(2,1,false)],false⟩,
 some ⟨false,1,8,[.int .i64 0],.int .i64,false⟩,
 none,
 none,
 none,
 none,
 none,
 none,
 none,
 none,
 none,
 none,
 none,
 some ⟨true,2,24,[.str ByteArray.empty,.int .i64 0],.struct [(0,1,false),(1,1,false)],false⟩,
 some ⟨true,2,24,[.str ByteArray.empty,.int .i64 0],.struct [(0,1,false),(1,1,false)],true⟩,
 some ⟨true,8,64,[.int .i64 0,.int .i64 0,.int .i64 0,.str ByteArray.empty,.int .i64 0,.int .i64 0,.bool false,.bool false],.struct [(0,1,false),(1,1,false),(2,1,false),(3,2,true),(5,1,false),(6,1,false),(7,1,false)],false⟩,
 some ⟨true,8,64,[.int .i64 0,.int .i64 0,.int .i64 0,.str ByteArray.empty,.int .i64 0,.int .i64 0,.bool false,.bool false],.struct [(0,1,false),(1,1,false),(2,1,false),(3,2,true),(5,1,false),(6,1,false),(7,1,false)],true⟩,
 none,
 none,
 some ⟨false,1,24,[.own 4 0 []],.slice 25 4 64 [.int .i64 0,.int .i64 0,.own 8 0 [],.own 12 0 []],false⟩,
 some ⟨false,1,24,[.own 1 0 []],.slice 86 1 24 [.own 4 0 []],false⟩,
 some ⟨false,1,24,[.own 3 0 []],.slice 341 3 24 [.int .i64 0,.int .i64 0,.int .i64 0],false⟩,
 some ⟨true,2,48,[.own 2 0 [],.own 3 0 []],.struct [(0,1,false),(1,1,false)],false⟩,
 some ⟨true,2,48,[.own 2 0 [],.own 3 0 []],.struct [(0,1,false),(1,1,false)],false⟩,
 some ⟨true,4,96,[.own 1 0 [],.own 2 0 [],.own 3 0 [],.own 1 0 []],.struct [(0,1,false),(1,2,true),(3,1,false)],false⟩,
 some ⟨true,4,96,[.own 1 0 [],.own 2 0 [],.own 3 0 [],.own 1 0 []],.struct [(0,1,false),(1,2,true),(3,1,false)],false⟩,
 some ⟨true,5,120,[.own 4 0 [],.own 1 0 [],.own 2 0 [],.own 3 0 [],.own 1 0 []],.struct [(0,1,false),(1,4,true)],false⟩,
 some ⟨true,5,120,[.own 4 0 [],.own 1 0 [],.own 2 0 [],.own 3 0 [],.own 1 0 []],.struct [(0,1,false),(1,4,true)],false⟩,
 none,
 none,
 none,
 none,
 none,
 none,
 none,
 none,
 some ⟨false,1,24,[.own 3 0 []],.slice 45 3 40 [.int .i64 0,.int .i64 0,.own 1 0 []],false⟩,
 none,
 none,
 none,
 none,
 some ⟨false,1,24,[.own 4 0 []],.slice 127 4 40 [.int .i64 0,.int .i64 0,.str ByteArray.empty,.int .i64 0],false⟩,
 none,
 none,
 none,
 some ⟨false,1,24,[.own 2 0 []],.slice 131 2 16 [.int .i64 0,.int .i64 0],false⟩,
 none,
 none,
 none,
 none,
 none,
 none,
 none,
 none,
 none,
 none,
 none,
 none,
 some ⟨false,1,24,[.own 2 0 []],.slice 106 2 16 [.int .i64 0,.int .i64 0],false⟩,
 none,
 some ⟨true,2,16,[.int .i64 0,.int .i64 0],.struct [(0,1,false),(1,1,false)],false⟩,
 some ⟨true,2,16,[.int .i64 0,.int .i64 0],.struct [(0,1,false),(1,1,false)],true⟩,
 none,
 none,
 none,
 none,
 none,
 none,
 none,
 none,
 none,
 none,
 none,
 none,
 none,
 some ⟨false,1,8,[.nilp],.ptr,false⟩,
 none,
 none,
 none,
 none,
 none,
 some ⟨true,4,40,[.int .i64 0,.int .i64 0,.str ByteArray.empty,.int .i64 0],.struct [(0,1,false),(1,1,false),(2,2,true)],false⟩,
 some ⟨true,4,40,[.int .i64 0,.int .i64 0,.str ByteArray.empty,.int .i64 0],.struct [(0,1,false),(1,1,false),(2,2,true)],true⟩,
 none,
 none,
 some ⟨true,2,16,[.int .i64 0,.int .i64 0],.struct [(0,1,false),(1,1,false)],false⟩,
 some ⟨true,2,16,[.int .i64 0,.int .i64 0],.struct [(0,1,false),(1,1,false)],true⟩,
 none,
 none,
 none,
 some ⟨false,1,24,[.own 1 0 []],.slice 5 1 1 [.int .u8 0],false⟩,
 some ⟨false,1,24,[.own 1 0 []],.slice 5 1 1 [.int .u8 0],false⟩,
 none,
 none,
 none,
 none,
 none,
 none,
 none,
 none,
 none,
 some ⟨false,1,8,[.nilp],.ptr,false⟩,
 some ⟨true,4,64,[.int .i64 0,.int .i64 0,.own 8 0 [],.own 12 0 []],.struct [(0,4,true)],false⟩,
 some ⟨true,4,64,[.int .i64 0,.int .i64 0,.own 8 0 [],.own 12 0 []],.struct [(0,4,true)],false⟩,
 none,
 none,
 none,
 none,
 none,
 none,
 some ⟨false,1,8,[.nilp],.ptr,false⟩,
 some ⟨true,2,16,[.int .i64 0,.int .i64 0],.struct [(0,1,false),(1,1,false)],false⟩,
 some ⟨true,2,16,[.int .i64 0,.int .i64 0],.struct [(0,1,false),(1,1,false)],true⟩,
 none,
 none,
 none,
 none,
 none,
 none,
 none,
 none,
 none,
 none,
 none,
 none,
 none,
 none,
 none,
 none,
 some ⟨false,1,24,[.own 1 0 []],.slice 4 1 1 [.bool false],false⟩,
 none,
 none,
 none,
 none,
 none,
 none,
 none,
 none,
 none,
 none,
 none,
 none,
 none,
 none,
 none,
 none,
 none,
 none,
 none,
 none,
 none,
 none,
 none,
 none,
 none,
 none,
 none,
 none,
 none,
 none,
 none,
 none,
 none,
 none,
 none,
 none,
 none,
 none,
 none,
 none,
 none,
 none,
 none,
 none,
 none,
 none,
 none,
 none,
 some ⟨false,1,8,[.int .u64 0],.int .u64,false⟩,
 some ⟨true,16,16,[.bool false,.bool false,.bool false,.bool false,.bool false,.bool false,.bool false,.bool false,.bool false,.bool false,.bool false,.bool false,.bool false,.bool false,.bool false,.bool false],.array 16 4 1,false⟩,
 none,
 none,
 none,
 none,
 none,
 none,
 none,
 none,
 none,
 none,
 none,
 none,
 none,
 none,
 none,
 none,
 some ⟨false,1,8,[.nilp],.ptr,false⟩,
 none,
 none,
 none,
 none,
 none,
 none,
 none,
 none,
 none,
 none,
 none,
 none,
 none,
 none,
 none,
 none,
 none,
 none,
 none,
 none,
 none,
 none,
 none,
 none,
 none,
 none,
 none,
 none,
 none,
 none,
 some ⟨false,1,8,[.nilp],.ptr,false⟩,
 none,
 none,
 none,
 none,
 some ⟨true,2,32,[.own 1 0 [],.int .i64 0],.struct [(0,1,false),(1,1,false)],false⟩,
 some ⟨true,2,32,[.own 1 0 [],.int .i64 0],.struct [(0,1,false),(1,1,false)],false⟩,
 none,
 none,
 none,
 none,
 none,
 none,
 none,
 none,
 none,
 none,
 none,
 some ⟨false,1,8,[.nilp],.ptr,false⟩,
 some ⟨true,4,40,[.str ByteArray.empty,.int .i64 0,.int .i64 0,.bool false],.struct [(0,2,true),(2,1,false),(3,1,false)],false⟩,
 some ⟨true,4,40,[.str ByteArray.empty,.int .i64 0,.int .i64 0,.bool false],.struct [(0,2,true),(2,1,false),(3,1,false)],true⟩,
 none,
 none,
 none,
 none,
 none,
 none,
 none,
 none,
 none,
 some ⟨false,1,4,[.int .u32 0],.int .u32,false⟩,
 none,
 none,
 some ⟨false,1,8,[.int .u64 0],.int .u64,false⟩,
 none,
 none,
 none,
 none,
 some ⟨false,1,8,[.int .i64 0],.int .i64,false⟩,
 none,
 none,
 none,
 none,
 none,
 none,
 none,
 some ⟨false,1,8,[.int .u64 0],.int .u64,false⟩,
 none,
 none,
 none,
 some ⟨false,1,8,[.nilp],.ptr,false⟩,
 none,
 some ⟨false,1,8,[.nilp],.ptr,false⟩,
 none,
 none,
 some ⟨true,4,40,[.nilp,.nilp,.nilp,.str ByteArray.empty],.struct [(0,1,false),(1,1,false),(2,1,false),(3,1,false)],false⟩,
 some ⟨true,4,40,[.nilp,.nilp,.nilp,.str ByteArray.empty],.struct [(0,1,false),(1,1,false),(2,1,false),(3,1,false)],false⟩,
 some ⟨true,0,0,[],.array 0 16 1,false⟩,
 none,
 none,
 some ⟨false,1,1,[.int .u8 0],.int .u8,false⟩,
 some ⟨false,1,1,[.int .u8 0],.int .u8,false⟩,
 none,
 some ⟨false,1,8,[.nilp],.ptr,false⟩,
 some ⟨false,1,4,[.int .i32 0],.int .i32,false⟩,
 some ⟨false,1,4,[.int .i32 0],.int .i32,false⟩,
 none,
 none,
 some ⟨true,3,24,[.int .i64 0,.int .i64 0,.int .i64 0],.struct [(0,1,false),(1,1,false),(2,1,false)],false⟩,
 some ⟨true,3,24,[.int .i64 0,.int .i64 0,.int .i64 0],.struct [(0,1,false),(1,1,false),(2,1,false)],true⟩,
 none
]
def tT (t:Nat):Option TI:=match tL[t]? with|some x=>x|none=>none
noncomputable abbrev pg:Program:=Go.Proofs.Tryz.prog
theorem nz:((vK 343).all λt=>match tT t with|some i=>dr pg t i|none=>true)=true:=by kernel_rfl
theorem tk:BQ pg tT:=λt i h=>by
 have hl:t<343:=by
  rcases uY t 343 with h1|h1
  .exact h1
  .have h2:tL[t]?=none:=uR h1;simp[tT,h2] at h
 have:=u1.1 nz t (List.mem_range.2 hl);rw[h] at this;exact this
@[simp] theorem sy:tT 2=some ⟨false,1,8,[.int .i64 0],.int .i64,false⟩:=rfl
@[simp] theorem sA:Ax tT 2= .int .i64:=rfl
@[simp] theorem sB:tT 3=some ⟨false,1,8,[.int .i64 0],.int .i64,false⟩:=rfl
@[simp] theorem sC:Ax tT 3= .int .i64:=rfl
@[simp] theorem sD:tT 4=some ⟨false,1,1,[.bool false],.bool,false⟩:=rfl
@[simp] theorem sE:Ax tT 4= .bool:=rfl
@[simp] theorem sF:tT 5=some ⟨false,1,1,[.int .u8 0],.int .u8,false⟩:=rfl
@[simp] theorem sG:Ax tT 5= .int .u8:=rfl
@[simp] theorem sH:tT 6=some ⟨false,1,1,[.int .u8 0],.int .u8,false⟩:=rfl
@[simp] theorem sI:Ax tT 6= .int .u8:=rfl
@[simp] theorem sJ:tT 7=some ⟨true,4,24,[.int .i64 0,.int .i64 0,.bool false,.int .u8 0],.struct [(0,1,false),(1,1,false),(2,1,false),(3,1,false)],false⟩:=rfl
@[simp] theorem sK:Ax tT 7= .struct [(0,1,false),(1,1,false),(2,1,false),(3,1,false)]:=rfl
@[simp] theorem sL:tT 8=some ⟨true,4,24,[.int .i64 0,.int .i64 0,.bool false,.int .u8 0],.struct [(0,1,false),(1,1,false),(2,1,false),(3,1,false)],false⟩:=rfl
@[simp] theorem sM:Ax tT 8= .struct [(0,1,false),(1,1,false),(2,1,false),(3,1,false)]:=rfl
@[simp] theorem sN:tT 9=some ⟨false,1,16,[.str ByteArray.empty],.str,false⟩:=rfl
@[simp] theorem sO:Ax tT 9= .str:=rfl
@[simp] theorem ql:tT 10=some ⟨false,1,16,[.str ByteArray.empty],.str,false⟩:=rfl
@[simp] theorem qn:Ax tT 10= .str:=rfl
@[simp] theorem qo:tT 11=some ⟨false,1,16,[.str ByteArray.empty],.str,false⟩:=rfl
@[simp] theorem qp:Ax tT 11= .str:=rfl
@[simp] theorem qq:tT 12=some ⟨false,1,8,[.int .u64 0],.int .u64,false⟩:=rfl
@[simp] theorem qr:Ax tT 12= .int .u64:=rfl
@[simp] theorem qs:tT 13=some ⟨true,2,24,[.str ByteArray.empty,.int .u64 0],.struct [(0,1,false),(1,1,false)],false⟩:=rfl
@[simp] theorem qt:Ax tT 13= .struct [(0,1,false),(1,1,false)]:=rfl
@[simp] theorem qu:tT 14=some ⟨true,2,24,[.str ByteArray.empty,.int .u64 0],.struct [(0,1,false),(1,1,false)],false⟩:=rfl
@[simp] theorem qv:Ax tT 14= .struct [(0,1,false),(1,1,false)]:=rfl
@[simp] theorem qw:tT 15=some ⟨false,1,8,[.nilp],.ptr,false⟩:=rfl
@[simp] theorem qx:Ax tT 15= .ptr:=rfl
@[simp] theorem qy:tT 16=some ⟨false,1,8,[.nilp],.ptr,false⟩:=rfl
@[simp] theorem qz:Ax tT 16= .ptr:=rfl
@[simp] theorem qA:tT 17=some ⟨false,1,8,[.nilp],.ptr,false⟩:=rfl
@[simp] theorem qB:Ax tT 17= .ptr:=rfl
@[simp] theorem qC:tT 18=some ⟨true,1,8,[.nilp],.struct [(0,1,false)],false⟩:=rfl
@[simp] theorem qD:Ax tT 18= .struct [(0,1,false)]:=rfl
@[simp] theorem qE:tT 19=some ⟨true,1,8,[.nilp],.struct [(0,1,false)],false⟩:=rfl
@[simp] theorem qF:Ax tT 19= .struct [(0,1,false)]:=rfl
@[simp] theorem qG:tT 21=some ⟨false,1,4,[.int .i32 0],.int .i32,false⟩:=rfl
@[simp] theorem qH:Ax tT 21= .int .i32:=rfl
@[simp] theorem qI:tT 22=some ⟨false,1,24,[.own 8 0 []],.slice 61 8 64 [.int .i64 0,.int .i64 0,.int .i64 0,.str ByteArray.empty,.int .i64 0,.int .i64 0,.bool false,.bool false],false⟩:=rfl
@[simp] theorem qJ:Ax tT 22= .slice 61 8 64 [.int .i64 0,.int .i64 0,.int .i64 0,.str ByteArray.empty,.int .i64 0,.int .i64 0,.bool false,.bool false]:=rfl
@[simp] theorem qK:tT 23=some ⟨false,1,24,[.own 12 0 []],.slice 40 12 144 [.bool false,.int .i64 0,.bool false,.int .i64 0,.int .i64 0,.own 1 0 [],.int .i64 0,.int .i64 0,.int .i64 0,.bool false,.own 1 0 [],.own 1 0 []],false⟩:=rfl
@[simp] theorem qL:Ax tT 23= .slice 40 12 144 [.bool false,.int .i64 0,.bool false,.int .i64 0,.int .i64 0,.own 1 0 [],.int .i64 0,.int .i64 0,.int .i64 0,.bool false,.own 1 0 [],.own 1 0 []]:=rfl
@[simp] theorem qM:tT 24=some ⟨true,4,64,[.int .i64 0,.int .i64 0,.own 8 0 [],.own 12 0 []],.struct [(0,1,false),(1,1,false),(2,1,false),(3,1,false)],false⟩:=rfl
@[simp] theorem qN:Ax tT 24= .struct [(0,1,false),(1,1,false),(2,1,false),(3,1,false)]:=rfl
@[simp] theorem qO:tT 25=some ⟨true,4,64,[.int .i64 0,.int .i64 0,.own 8 0 [],.own 12 0 []],.struct [(0,1,false),(1,1,false),(2,1,false),(3,1,false)],false⟩:=rfl
@[simp] theorem qP:Ax tT 25= .struct [(0,1,false),(1,1,false),(2,1,false),(3,1,false)]:=rfl
@[simp] theorem qQ:tT 26=some ⟨false,1,24,[.own 6 0 []],.slice 42 6 48 [.int .i64 0,.int .i64 0,.int .i64 0,.int .i64 0,.int .i64 0,.int .i64 0],false⟩:=rfl
@[simp] theorem qR:Ax tT 26= .slice 42 6 48 [.int .i64 0,.int .i64 0,.int .i64 0,.int .i64 0,.int .i64 0,.int .i64 0]:=rfl
@[simp] theorem qS:tT 27=some ⟨true,5,88,[.int .i64 0,.int .i64 0,.own 8 0 [],.own 12 0 [],.own 6 0 []],.struct [(0,4,true),(4,1,false)],false⟩:=rfl
@[simp] theorem qT:Ax tT 27= .struct [(0,4,true),(4,1,false)]:=rfl
@[simp] theorem qU:tT 28=some ⟨true,5,88,[.int .i64 0,.int .i64 0,.own 8 0 [],.own 12 0 [],.own 6 0 []],.struct [(0,4,true),(4,1,false)],false⟩:=rfl
@[simp] theorem qV:Ax tT 28= .struct [(0,4,true),(4,1,false)]:=rfl
@[simp] theorem qW:tT 31=some ⟨false,1,24,[.own 2 0 []],.slice 34 2 32 [.int .i64 0,.own 1 0 []],false⟩:=rfl
@[simp] theorem qX:Ax tT 31= .slice 34 2 32 [.int .i64 0,.own 1 0 []]:=rfl
@[simp] theorem qY:tT 32=some ⟨false,1,24,[.own 1 0 []],.slice 36 1 24 [.own 1 0 []],false⟩:=rfl
@[simp] theorem qZ:Ax tT 32= .slice 36 1 24 [.own 1 0 []]:=rfl
@[simp] theorem q0:tT 33=some ⟨true,2,32,[.int .i64 0,.own 1 0 []],.struct [(0,1,false),(1,1,false)],false⟩:=rfl
@[simp] theorem q6:Ax tT 33= .struct [(0,1,false),(1,1,false)]:=rfl
@[simp] theorem q7:tT 34=some ⟨true,2,32,[.int .i64 0,.own 1 0 []],.struct [(0,1,false),(1,1,false)],false⟩:=rfl
@[simp] theorem q8:Ax tT 34= .struct [(0,1,false),(1,1,false)]:=rfl
@[simp] theorem q9:tT 36=some ⟨false,1,24,[.own 1 0 []],.slice 3 1 8 [.int .i64 0],false⟩:=rfl
@[simp] theorem rc:Ax tT 36= .slice 3 1 8 [.int .i64 0]:=rfl
@[simp] theorem re:tT 37=some ⟨true,6,80,[.int .i64 0,.int .i64 0,.int .i64 0,.bool false,.own 1 0 [],.own 1 0 []],.struct [(0,1,false),(1,1,false),(2,1,false),(3,1,false),(4,1,false),(5,1,false)],false⟩:=rfl
@[simp] theorem rg:Ax tT 37= .struct [(0,1,false),(1,1,false),(2,1,false),(3,1,false),(4,1,false),(5,1,false)]:=rfl
@[simp] theorem rh:tT 38=some ⟨true,6,80,[.int .i64 0,.int .i64 0,.int .i64 0,.bool false,.own 1 0 [],.own 1 0 []],.struct [(0,1,false),(1,1,false),(2,1,false),(3,1,false),(4,1,false),(5,1,false)],false⟩:=rfl
@[simp] theorem rj:Ax tT 38= .struct [(0,1,false),(1,1,false),(2,1,false),(3,1,false),(4,1,false),(5,1,false)]:=rfl
@[simp] theorem rk:tT 39=some ⟨true,12,144,[.bool false,.int .i64 0,.bool false,.int .i64 0,.int .i64 0,.own 1 0 [],.int .i64 0,.int .i64 0,.int .i64 0,.bool false,.own 1 0 [],.own 1 0 []],.struct [(0,1,false),(1,1,false),(2,1,false),(3,1,false),(4,2,true),(6,6,true)],false⟩:=rfl
@[simp] theorem rl:Ax tT 39= .struct [(0,1,false),(1,1,false),(2,1,false),(3,1,false),(4,2,true),(6,6,true)]:=rfl
@[simp] theorem rq:tT 40=some ⟨true,12,144,[.bool false,.int .i64 0,.bool false,.int .i64 0,.int .i64 0,.own 1 0 [],.int .i64 0,.int .i64 0,.int .i64 0,.bool false,.own 1 0 [],.own 1 0 []],.struct [(0,1,false),(1,1,false),(2,1,false),(3,1,false),(4,2,true),(6,6,true)],false⟩:=rfl
@[simp] theorem rr:Ax tT 40= .struct [(0,1,false),(1,1,false),(2,1,false),(3,1,false),(4,2,true),(6,6,true)]:=rfl
@[simp] theorem rt:tT 41=some ⟨true,6,48,[.int .i64 0,.int .i64 0,.int .i64 0,.int .i64 0,.int .i64 0,.int .i64 0],.struct [(0,1,false),(1,1,false),(2,1,false),(3,1,false),(4,1,false),(5,1,false)],false⟩:=rfl
@[simp] theorem ru:Ax tT 41= .struct [(0,1,false),(1,1,false),(2,1,false),(3,1,false),(4,1,false),(5,1,false)]:=rfl
@[simp] theorem rx:tT 42=some ⟨true,6,48,[.int .i64 0,.int .i64 0,.int .i64 0,.int .i64 0,.int .i64 0,.int .i64 0],.struct [(0,1,false),(1,1,false),(2,1,false),(3,1,false),(4,1,false),(5,1,false)],true⟩:=rfl
@[simp] theorem ry:Ax tT 42= .struct [(0,1,false),(1,1,false),(2,1,false),(3,1,false),(4,1,false),(5,1,false)]:=rfl
@[simp] theorem rz:tT 44=some ⟨true,3,40,[.int .i64 0,.int .i64 0,.own 1 0 []],.struct [(0,1,false),(1,1,false),(2,1,false)],false⟩:=rfl
@[simp] theorem rA:Ax tT 44= .struct [(0,1,false),(1,1,false),(2,1,false)]:=rfl
@[simp] theorem rB:tT 45=some ⟨true,3,40,[.int .i64 0,.int .i64 0,.own 1 0 []],.struct [(0,1,false),(1,1,false),(2,1,false)],false⟩:=rfl
@[simp] theorem rC:Ax tT 45= .struct [(0,1,false),(1,1,false),(2,1,false)]:=rfl
@[simp] theorem rD:tT 46=some ⟨false,1,8,[.int .i64 0],.int .i64,false⟩:=rfl
@[simp] theorem rE:Ax tT 46= .int .i64:=rfl
@[simp] theorem rF:tT 58=some ⟨true,2,24,[.str ByteArray.empty,.int .i64 0],.struct [(0,1,false),(1,1,false)],false⟩:=rfl
@[simp] theorem rG:Ax tT 58= .struct [(0,1,false),(1,1,false)]:=rfl
@[simp] theorem rH:tT 59=some ⟨true,2,24,[.str ByteArray.empty,.int .i64 0],.struct [(0,1,false),(1,1,false)],true⟩:=rfl
@[simp] theorem rI:Ax tT 59= .struct [(0,1,false),(1,1,false)]:=rfl
@[simp] theorem rJ:tT 60=some ⟨true,8,64,[.int .i64 0,.int .i64 0,.int .i64 0,.str ByteArray.empty,.int .i64 0,.int .i64 0,.bool false,.bool false],.struct [(0,1,false),(1,1,false),(2,1,false),(3,2,true),(5,1,false),(6,1,false),(7,1,false)],false⟩:=rfl
@[simp] theorem rK:Ax tT 60= .struct [(0,1,false),(1,1,false),(2,1,false),(3,2,true),(5,1,false),(6,1,false),(7,1,false)]:=rfl
@[simp] theorem rL:tT 61=some ⟨true,8,64,[.int .i64 0,.int .i64 0,.int .i64 0,.str ByteArray.empty,.int .i64 0,.int .i64 0,.bool false,.bool false],.struct [(0,1,false),(1,1,false),(2,1,false),(3,2,true),(5,1,false),(6,1,false),(7,1,false)],true⟩:=rfl
@[simp] theorem rM:Ax tT 61= .struct [(0,1,false),(1,1,false),(2,1,false),(3,2,true),(5,1,false),(6,1,false),(7,1,false)]:=rfl
@[simp] theorem rN:tT 64=some ⟨false,1,24,[.own 4 0 []],.slice 25 4 64 [.int .i64 0,.int .i64 0,.own 8 0 [],.own 12 0 []],false⟩:=rfl
@[simp] theorem rO:Ax tT 64= .slice 25 4 64 [.int .i64 0,.int .i64 0,.own 8 0 [],.own 12 0 []]:=rfl
@[simp] theorem rP:tT 65=some ⟨false,1,24,[.own 1 0 []],.slice 86 1 24 [.own 4 0 []],false⟩:=rfl
@[simp] theorem rQ:Ax tT 65= .slice 86 1 24 [.own 4 0 []]:=rfl
@[simp] theorem rR:tT 66=some ⟨false,1,24,[.own 3 0 []],.slice 341 3 24 [.int .i64 0,.int .i64 0,.int .i64 0],false⟩:=rfl
@[simp] theorem rS:Ax tT 66= .slice 341 3 24 [.int .i64 0,.int .i64 0,.int .i64 0]:=rfl
@[simp] theorem rT:tT 67=some ⟨true,2,48,[.own 2 0 [],.own 3 0 []],.struct [(0,1,false),(1,1,false)],false⟩:=rfl
@[simp] theorem rU:Ax tT 67= .struct [(0,1,false),(1,1,false)]:=rfl
@[simp] theorem rV:tT 68=some ⟨true,2,48,[.own 2 0 [],.own 3 0 []],.struct [(0,1,false),(1,1,false)],false⟩:=rfl
@[simp] theorem rW:Ax tT 68= .struct [(0,1,false),(1,1,false)]:=rfl
@[simp] theorem rX:tT 69=some ⟨true,4,96,[.own 1 0 [],.own 2 0 [],.own 3 0 [],.own 1 0 []],.struct [(0,1,false),(1,2,true),(3,1,false)],false⟩:=rfl
@[simp] theorem rY:Ax tT 69= .struct [(0,1,false),(1,2,true),(3,1,false)]:=rfl
@[simp] theorem rZ:tT 70=some ⟨true,4,96,[.own 1 0 [],.own 2 0 [],.own 3 0 [],.own 1 0 []],.struct [(0,1,false),(1,2,true),(3,1,false)],false⟩:=rfl
@[simp] theorem r5:Ax tT 70= .struct [(0,1,false),(1,2,true),(3,1,false)]:=rfl
@[simp] theorem r6:tT 71=some ⟨true,5,120,[.own 4 0 [],.own 1 0 [],.own 2 0 [],.own 3 0 [],.own 1 0 []],.struct [(0,1,false),(1,4,true)],false⟩:=rfl
@[simp] theorem r7:Ax tT 71= .struct [(0,1,false),(1,4,true)]:=rfl
@[simp] theorem r8:tT 72=some ⟨true,5,120,[.own 4 0 [],.own 1 0 [],.own 2 0 [],.own 3 0 [],.own 1 0 []],.struct [(0,1,false),(1,4,true)],false⟩:=rfl
@[simp] theorem r9:Ax tT 72= .struct [(0,1,false),(1,4,true)]:=rfl
@[simp] theorem sb:tT 81=some ⟨false,1,24,[.own 3 0 []],.slice 45 3 40 [.int .i64 0,.int .i64 0,.own 1 0 []],false⟩:=rfl
@[simp] theorem sc:Ax tT 81= .slice 45 3 40 [.int .i64 0,.int .i64 0,.own 1 0 []]:=rfl
@[simp] theorem sd:tT 86=some ⟨false,1,24,[.own 4 0 []],.slice 127 4 40 [.int .i64 0,.int .i64 0,.str ByteArray.empty,.int .i64 0],false⟩:=rfl
@[simp] theorem se:Ax tT 86= .slice 127 4 40 [.int .i64 0,.int .i64 0,.str ByteArray.empty,.int .i64 0]:=rfl
@[simp] theorem sf:tT 90=some ⟨false,1,24,[.own 2 0 []],.slice 131 2 16 [.int .i64 0,.int .i64 0],false⟩:=rfl
@[simp] theorem sg:Ax tT 90= .slice 131 2 16 [.int .i64 0,.int .i64 0]:=rfl
@[simp] theorem oq:tT 103=some ⟨false,1,24,[.own 2 0 []],.slice 106 2 16 [.int .i64 0,.int .i64 0],false⟩:=rfl
@[simp] theorem ot:Ax tT 103= .slice 106 2 16 [.int .i64 0,.int .i64 0]:=rfl
@[simp] theorem ou:tT 105=some ⟨true,2,16,[.int .i64 0,.int .i64 0],.struct [(0,1,false),(1,1,false)],false⟩:=rfl
@[simp] theorem ow:Ax tT 105= .struct [(0,1,false),(1,1,false)]:=rfl
@[simp] theorem oz:tT 106=some ⟨true,2,16,[.int .i64 0,.int .i64 0],.struct [(0,1,false),(1,1,false)],true⟩:=rfl
@[simp] theorem oA:Ax tT 106= .struct [(0,1,false),(1,1,false)]:=rfl
@[simp] theorem oB:tT 120=some ⟨false,1,8,[.nilp],.ptr,false⟩:=rfl
@[simp] theorem oC:Ax tT 120= .ptr:=rfl
@[simp] theorem oD:tT 126=some ⟨true,4,40,[.int .i64 0,.int .i64 0,.str ByteArray.empty,.int .i64 0],.struct [(0,1,false),(1,1,false),(2,2,true)],false⟩:=rfl
@[simp] theorem oE:Ax tT 126= .struct [(0,1,false),(1,1,false),(2,2,true)]:=rfl
@[simp] theorem oF:tT 127=some ⟨true,4,40,[.int .i64 0,.int .i64 0,.str ByteArray.empty,.int .i64 0],.struct [(0,1,false),(1,1,false),(2,2,true)],true⟩:=rfl
@[simp] theorem oG:Ax tT 127= .struct [(0,1,false),(1,1,false),(2,2,true)]:=rfl
@[simp] theorem oH:tT 130=some ⟨true,2,16,[.int .i64 0,.int .i64 0],.struct [(0,1,false),(1,1,false)],false⟩:=rfl
@[simp] theorem oI:Ax tT 130= .struct [(0,1,false),(1,1,false)]:=rfl
@[simp] theorem oJ:tT 131=some ⟨true,2,16,[.int .i64 0,.int .i64 0],.struct [(0,1,false),(1,1,false)],true⟩:=rfl
@[simp] theorem oK:Ax tT 131= .struct [(0,1,false),(1,1,false)]:=rfl
@[simp] theorem oM:tT 135=some ⟨false,1,24,[.own 1 0 []],.slice 5 1 1 [.int .u8 0],false⟩:=rfl
@[simp] theorem oN:Ax tT 135= .slice 5 1 1 [.int .u8 0]:=rfl
@[simp] theorem oO:tT 136=some ⟨false,1,24,[.own 1 0 []],.slice 5 1 1 [.int .u8 0],false⟩:=rfl
@[simp] theorem oP:Ax tT 136= .slice 5 1 1 [.int .u8 0]:=rfl
@[simp] theorem oQ:tT 146=some ⟨false,1,8,[.nilp],.ptr,false⟩:=rfl
@[simp] theorem oR:Ax tT 146= .ptr:=rfl
@[simp] theorem oS:tT 147=some ⟨true,4,64,[.int .i64 0,.int .i64 0,.own 8 0 [],.own 12 0 []],.struct [(0,4,true)],false⟩:=rfl
@[simp] theorem oT:Ax tT 147= .struct [(0,4,true)]:=rfl
@[simp] theorem oU:tT 148=some ⟨true,4,64,[.int .i64 0,.int .i64 0,.own 8 0 [],.own 12 0 []],.struct [(0,4,true)],false⟩:=rfl
@[simp] theorem oV:Ax tT 148= .struct [(0,4,true)]:=rfl
@[simp] theorem oW:tT 155=some ⟨false,1,8,[.nilp],.ptr,false⟩:=rfl
@[simp] theorem oX:Ax tT 155= .ptr:=rfl
@[simp] theorem oY:tT 156=some ⟨true,2,16,[.int .i64 0,.int .i64 0],.struct [(0,1,false),(1,1,false)],false⟩:=rfl
@[simp] theorem oZ:Ax tT 156= .struct [(0,1,false),(1,1,false)]:=rfl
@[simp] theorem o4:tT 157=some ⟨true,2,16,[.int .i64 0,.int .i64 0],.struct [(0,1,false),(1,1,false)],true⟩:=rfl
@[simp] theorem o5:Ax tT 157= .struct [(0,1,false),(1,1,false)]:=rfl
@[simp] theorem o6:tT 174=some ⟨false,1,24,[.own 1 0 []],.slice 4 1 1 [.bool false],false⟩:=rfl
@[simp] theorem o7:Ax tT 174= .slice 4 1 1 [.bool false]:=rfl
@[simp] theorem o8:tT 223=some ⟨false,1,8,[.int .u64 0],.int .u64,false⟩:=rfl
@[simp] theorem o9:Ax tT 223= .int .u64:=rfl
@[simp] theorem pb:tT 224=some ⟨true,16,16,[.bool false,.bool false,.bool false,.bool false,.bool false,.bool false,.bool false,.bool false,.bool false,.bool false,.bool false,.bool false,.bool false,.bool false,.bool false,.bool false],.array 16 4 1,false⟩:=rfl
@[simp] theorem pc:Ax tT 224= .array 16 4 1:=rfl
@[simp] theorem pd:tT 241=some ⟨false,1,8,[.nilp],.ptr,false⟩:=rfl
@[simp] theorem pf:Ax tT 241= .ptr:=rfl
@[simp] theorem ph:tT 272=some ⟨false,1,8,[.nilp],.ptr,false⟩:=rfl
@[simp] theorem pj:Ax tT 272= .ptr:=rfl
@[simp] theorem pn:tT 277=some ⟨true,2,32,[.own 1 0 [],.int .i64 0],.struct [(0,1,false),(1,1,false)],false⟩:=rfl
@[simp] theorem po:Ax tT 277= .struct [(0,1,false),(1,1,false)]:=rfl
@[simp] theorem pp:tT 278=some ⟨true,2,32,[.own 1 0 [],.int .i64 0],.struct [(0,1,false),(1,1,false)],false⟩:=rfl
@[simp] theorem pu:Ax tT 278= .struct [(0,1,false),(1,1,false)]:=rfl
@[simp] theorem pw:tT 290=some ⟨false,1,8,[.nilp],.ptr,false⟩:=rfl
@[simp] theorem px:Ax tT 290= .ptr:=rfl
@[simp] theorem py:tT 291=some ⟨true,4,40,[.str ByteArray.empty,.int .i64 0,.int .i64 0,.bool false],.struct [(0,2,true),(2,1,false),(3,1,false)],false⟩:=rfl
@[simp] theorem pz:Ax tT 291= .struct [(0,2,true),(2,1,false),(3,1,false)]:=rfl
@[simp] theorem pA:tT 292=some ⟨true,4,40,[.str ByteArray.empty,.int .i64 0,.int .i64 0,.bool false],.struct [(0,2,true),(2,1,false),(3,1,false)],true⟩:=rfl
@[simp] theorem pB:Ax tT 292= .struct [(0,2,true),(2,1,false),(3,1,false)]:=rfl
@[simp] theorem pC:tT 302=some ⟨false,1,4,[.int .u32 0],.int .u32,false⟩:=rfl
@[simp] theorem pD:Ax tT 302= .int .u32:=rfl
@[simp] theorem pE:tT 305=some ⟨false,1,8,[.int .u64 0],.int .u64,false⟩:=rfl
@[simp] theorem pF:Ax tT 305= .int .u64:=rfl
@[simp] theorem pG:tT 310=some ⟨false,1,8,[.int .i64 0],.int .i64,false⟩:=rfl
@[simp] theorem pH:Ax tT 310= .int .i64:=rfl
@[simp] theorem pI:tT 318=some ⟨false,1,8,[.int .u64 0],.int .u64,false⟩:=rfl
@[simp] theorem pJ:Ax tT 318= .int .u64:=rfl
@[simp] theorem pK:tT 322=some ⟨false,1,8,[.nilp],.ptr,false⟩:=rfl
@[simp] theorem pL:Ax tT 322= .ptr:=rfl
@[simp] theorem pM:tT 324=some ⟨false,1,8,[.nilp],.ptr,false⟩:=rfl
@[simp] theorem pN:Ax tT 324= .ptr:=rfl
@[simp] theorem pO:tT 327=some ⟨true,4,40,[.nilp,.nilp,.nilp,.str ByteArray.empty],.struct [(0,1,false),(1,1,false),(2,1,false),(3,1,false)],false⟩:=rfl
@[simp] theorem pP:Ax tT 327= .struct [(0,1,false),(1,1,false),(2,1,false),(3,1,false)]:=rfl
@[simp] theorem pQ:tT 328=some ⟨true,4,40,[.nilp,.nilp,.nilp,.str ByteArray.empty],.struct [(0,1,false),(1,1,false),(2,1,false),(3,1,false)],false⟩:=rfl
@[simp] theorem pR:Ax tT 328= .struct [(0,1,false),(1,1,false),(2,1,false),(3,1,false)]:=rfl
@[simp] theorem pS:tT 329=some ⟨true,0,0,[],.array 0 16 1,false⟩:=rfl
@[simp] theorem pT:Ax tT 329= .array 0 16 1:=rfl
@[simp] theorem pU:tT 332=some ⟨false,1,1,[.int .u8 0],.int .u8,false⟩:=rfl
@[simp] theorem pV:Ax tT 332= .int .u8:=rfl
@[simp] theorem pW:tT 333=some ⟨false,1,1,[.int .u8 0],.int .u8,false⟩:=rfl
@[simp] theorem pX:Ax tT 333= .int .u8:=rfl
@[simp] theorem pY:tT 335=some ⟨false,1,8,[.nilp],.ptr,false⟩:=rfl
@[simp] theorem pZ:Ax tT 335= .ptr:=rfl
@[simp] theorem p7:tT 336=some ⟨false,1,4,[.int .i32 0],.int .i32,false⟩:=rfl
@[simp] theorem p8:Ax tT 336= .int .i32:=rfl
@[simp] theorem p9:tT 337=some ⟨false,1,4,[.int .i32 0],.int .i32,false⟩:=rfl
@[simp] theorem qa:Ax tT 337= .int .i32:=rfl
@[simp] theorem qb:tT 340=some ⟨true,3,24,[.int .i64 0,.int .i64 0,.int .i64 0],.struct [(0,1,false),(1,1,false),(2,1,false)],false⟩:=rfl
@[simp] theorem qc:Ax tT 340= .struct [(0,1,false),(1,1,false),(2,1,false)]:=rfl
@[simp] theorem qd:tT 341=some ⟨true,3,24,[.int .i64 0,.int .i64 0,.int .i64 0],.struct [(0,1,false),(1,1,false),(2,1,false)],true⟩:=rfl
@[simp] theorem qe:Ax tT 341= .struct [(0,1,false),(1,1,false),(2,1,false)]:=rfl
open Go.Proofs
theorem Df:pg.follows .mixedOrders=true:=AK
abbrev pt (n:Nat):AV:= .ptr n 0 0
abbrev lv (xs:List AV):Ag:= .live 0 xs
section
variable {G A B H H1 H2 H3:Prop}
theorem zs (h:A) (e:A->G:=by intro zz;(repeat refine ta ?_);refine tz 0 rfl λK hK=>?_;simp -implicitDefEqProofs (maxSteps:=999999) (disch:=omega);(repeat refine⟨by(repeat clear zz);first|assumption|omega,?_⟩);refine hK _ _ ?_;clear hK K;exact zz):G:=e h
theorem z0 (h:A) (e:A->G:=by intro zz;(repeat refine ta ?_);refine tz 0 rfl λK hK=>?_;simp -implicitDefEqProofs (maxSteps:=999999) (disch:=omega);revert hK;revert K;exact zz):G:=e h
theorem z1 (h:A) (e:A->G:=by intro zz;(repeat refine ta ?_);refine tz 1 rfl λK hK=>?_;simp -implicitDefEqProofs (maxSteps:=999999) (disch:=omega);revert hK;revert K;exact zz):G:=e h
theorem z2 (h:A) (e:A->G:=by intro zz;(repeat refine ta ?_);refine tz 2 rfl λK hK=>?_;simp -implicitDefEqProofs (maxSteps:=999999) (disch:=omega);revert hK;revert K;exact zz):G:=e h
theorem z3 (h:A) (e:A->G:=by intro zz;(repeat refine ta ?_);refine tz 3 rfl λK hK=>?_;simp -implicitDefEqProofs (maxSteps:=999999) (disch:=omega);revert hK;revert K;exact zz):G:=e h
theorem BS (f:H) (h:A) (e:H->A->G:=by intro zf zz;(repeat refine ta ?_);refine tz 0 rfl λK hK=>?_;simp -implicitDefEqProofs (maxSteps:=999999) (disch:=omega) [zf];clear zf;revert hK;revert K;exact zz):G:=e f h
theorem GQ (f:H) (h:A) (e:H->A->G:=by intro zf zz;(repeat refine ta ?_);refine tz 1 rfl λK hK=>?_;simp -implicitDefEqProofs (maxSteps:=999999) (disch:=omega) [zf];clear zf;revert hK;revert K;exact zz):G:=e f h
theorem CN (h:A) (e:A->G:=by intro zz;(repeat refine ta ?_);refine tM 0 rfl true Df (by kernel_rfl) λK hK=>?_;simp -implicitDefEqProofs (maxSteps:=999999) (disch:=omega);revert hK;revert K;exact zz):G:=e h
theorem Dy (f:H) (h:A) (e:H->A->G:=by intro zf zz;(repeat refine ta ?_);refine tM 0 rfl true Df (by kernel_rfl) λK hK=>?_;simp -implicitDefEqProofs (maxSteps:=999999) (disch:=omega) [zf];clear zf;revert hK;revert K;exact zz):G:=e f h
theorem zx (h:A) (e:A->G:=by intro zz;simp only[Et];simp -implicitDefEqProofs (maxSteps:=999999) (disch:=omega);exact zz):G:=e h
theorem AO (f:H) (h:A) (e:H->A->G:=by intro zf zz;simp only[Et];simp -implicitDefEqProofs (maxSteps:=999999) (disch:=omega) [zf];clear zf;exact zz):G:=e f h
theorem zk (h:A) (e:A->G:=by intro zz;(repeat refine⟨by(repeat clear zz);first|assumption|omega,?_⟩);refine hK _ _ ?_;exact zz):G:=e h
theorem zt (h:A) (e:A->G:=by intro zz;(repeat refine ta ?_);refine W.condK λK1 K2 h1 h2=>?_;simp -implicitDefEqProofs (maxSteps:=999999) (disch:=omega);refine h1 ?_;clear h1 h2 K1 K2;exact zz):G:=e h
theorem zn (h:A) (e:A->G:=by intro zz;(repeat refine ta ?_);refine W.condK λK1 K2 h1 h2=>?_;simp -implicitDefEqProofs (maxSteps:=999999) (disch:=omega);refine h2 ?_;clear h1 h2 K1 K2;exact zz):G:=e h
theorem zc (ha:A) (hb:B) (e:A->B->G:=by intro za zb;(repeat refine ta ?_);refine W.condK λK1 K2 h1 h2=>?_;simp -implicitDefEqProofs (maxSteps:=999999) (disch:=omega) [-and_imp];refine⟨λh=>h1 ?_,λh=>h2 ?_⟩<;>clear h1 h2 K1 K2<;>revert h;exact za;exact zb):G:=e ha hb
theorem zr (h:A) (e:A->G:=by intro zz;refine tq ?_;simp only[B6,C0,CM];refine CA (d:=0) ?_;simp -implicitDefEqProofs (maxSteps:=999999) (disch:=omega);exact zz):G:=e h
theorem zR (e:G:=by refine tq ?_;simp only[B6,C0,CM];refine CA (d:=0) ?_;simp -implicitDefEqProofs (maxSteps:=999999) (disch:=omega)):G:=e
theorem Dx (h:A) (e:A->G:=by intro zz;(repeat refine ta ?_);refine tz 0 rfl λK hK=>?_;revert hK;revert K;exact zz):G:=e h
theorem GK (h:A) (e:A->G:=by intro zz;(repeat refine ta ?_);refine tz 1 rfl λK hK=>?_;revert hK;revert K;exact zz):G:=e h
theorem ed (h:A) (e:A->G:=by intro zz;(repeat refine ta ?_);refine tz 4 rfl λK hK=>?_;revert hK;revert K;exact zz):G:=e h
theorem ej (h:A) (e:A->G:=by intro zz;(repeat refine ta ?_);refine tz 5 rfl λK hK=>?_;revert hK;revert K;exact zz):G:=e h
theorem E1 (h:A) (e:A->G:=by intro zz;(repeat refine ta ?_);refine tM 0 rfl true Df (by kernel_rfl) λK hK=>?_;revert hK;revert K;exact zz):G:=e h
theorem Hw (h:A) (e:A->G:=by intro zz;(repeat refine ta ?_);refine tM 1 rfl true Df (by kernel_rfl) λK hK=>?_;revert hK;revert K;exact zz):G:=e h
theorem zw (h:A) (e:A->G:=by intro zz;(repeat refine ta ?_);exact zz):G:=e h
theorem zb (h:A) (e:A->G:=by intro zz;(repeat refine ta ?_);refine W.block ?_;exact zz):G:=e h
theorem zj (f:H) (h:A) (e:H->A->G:=by intro zf zz;refine sW zf (by simp) (by simp) ?_;clear zf;refine zx ?_;exact zz):G:=e f h
theorem CQ (f:H) (h:A) (e:H->A->G:=by intro zf zz;refine s6 zf (by simp) (by simp) ?_;clear zf;refine zx ?_;exact zz):G:=e f h
theorem zg (f:H) (h:A) (e:H->A->G:=by intro zf zz;refine BS zf ?_;clear zf;intro K hK;refine zk ?_;clear hK K;exact zz):G:=e f h
theorem zh (f:H) (h:A) (e:H->A->G:=by intro zf zz;refine Dy zf ?_;clear zf;intro K hK;refine zk ?_;clear hK K;exact zz):G:=e f h
theorem Am (h:A) (e:A->G:=by intro zz;refine zx ?_;refine zk ?_;exact zz):G:=e h
theorem AX (h:A) (e:A->G:=by intro zz;refine z1 ?_;intro K hK;refine zk ?_;clear hK K;exact zz):G:=e h
theorem Cx (h:A) (e:A->G:=by intro zz;refine z2 ?_;intro K hK;refine zk ?_;clear hK K;exact zz):G:=e h
theorem Ig (h:A) (e:A->G:=by intro zz;refine z3 ?_;intro K hK;refine zk ?_;clear hK K;exact zz):G:=e h
theorem AL (a:H) (h:A) (e:H->A->G:=by intro za zz;refine z0 ?_;intro K hK;refine zj za ?_;clear za;refine zk ?_;clear hK K;exact zz):G:=e a h
theorem Hm (a:H) (b:H2) (h:A) (e:H->H2->A->G:=by intro za zb zz;refine z0 ?_;intro K hK;refine zj za ?_;clear za;refine zj zb ?_;clear zb;refine zk ?_;clear hK K;exact zz):G:=e a b h
theorem nA (a:H) (b:H2) (c:H3) (h:A) (e:H->H2->H3->A->G:=by intro za zb zc zz;refine z0 ?_;intro K hK;refine zj za ?_;clear za;refine zj zb ?_;clear zb;refine zj zc ?_;clear zc;refine zk ?_;clear hK K;exact zz):G:=e a b c h
theorem EU (a:H) (h:A) (e:H->A->G:=by intro za zz;refine z1 ?_;intro K hK;refine zj za ?_;clear za;refine zk ?_;clear hK K;exact zz):G:=e a h
theorem jc (a:H) (b:H2) (h:A) (e:H->H2->A->G:=by intro za zb zz;refine z1 ?_;intro K hK;refine zj za ?_;clear za;refine zj zb ?_;clear zb;refine zk ?_;clear hK K;exact zz):G:=e a b h
theorem Ud (a:H) (h:A) (e:H->A->G:=by intro za zz;refine CN ?_;intro K hK;refine CQ za ?_;clear za;refine zk ?_;clear hK K;exact zz):G:=e a h
theorem jd (a:H) (b:H2) (h:A) (e:H->H2->A->G:=by intro za zb zz;refine CN ?_;intro K hK;refine CQ za ?_;clear za;refine CQ zb ?_;clear zb;refine zk ?_;clear hK K;exact zz):G:=e a b h
theorem Wz (a:H) (b:H2) (c:H3) (h:A) (e:H->H2->H3->A->G:=by intro za zb zc zz;refine CN ?_;intro K hK;refine CQ za ?_;clear za;refine CQ zb ?_;clear zb;refine CQ zc ?_;clear zc;refine zk ?_;clear hK K;exact zz):G:=e a b c h
theorem GL (f:H) (a:H1) (h:A) (e:H->H1->A->G:=by intro zf za zz;refine BS zf ?_;clear zf;intro K hK;refine zj za ?_;clear za;refine zk ?_;clear hK K;exact zz):G:=e f a h
theorem OC (f:H) (a:H1) (h:A) (e:H->H1->A->G:=by intro zf za zz;refine Dy zf ?_;clear zf;intro K hK;refine CQ za ?_;clear za;refine zk ?_;clear hK K;exact zz):G:=e f a h
theorem je (f:H) (a:H1) (b:H2) (h:A) (e:H->H1->H2->A->G:=by intro zf za zb zz;refine Dy zf ?_;clear zf;intro K hK;refine CQ za ?_;clear za;refine CQ zb ?_;clear zb;refine zk ?_;clear hK K;exact zz):G:=e f a b h
theorem ZP (f:H) (a:H1) (b:H2) (c:H3) (h:A) (e:H->H1->H2->H3->A->G:=by intro zf za zb zc zz;refine Dy zf ?_;clear zf;intro K hK;refine CQ za ?_;clear za;refine CQ zb ?_;clear zb;refine CQ zc ?_;clear zc;refine zk ?_;clear hK K;exact zz):G:=e f a b c h
theorem y1 (h:A) (e:A->G:=by intro zz;(first|refine W.skip ?_|refine s7 ?_|refine zs ?_|refine zt ?_|refine zn ?_|refine zb ?_);exact zz):G:=e h
theorem y2 (h:A) (e:A->G:=by intro zz;(iterate 2 refine y1 ?_);exact zz):G:=e h
theorem y3 (h:A) (e:A->G:=by intro zz;(iterate 3 refine y1 ?_);exact zz):G:=e h
theorem y4 (h:A) (e:A->G:=by intro zz;(iterate 4 refine y1 ?_);exact zz):G:=e h
theorem y5 (h:A) (e:A->G:=by intro zz;(iterate 5 refine y1 ?_);exact zz):G:=e h
theorem y6 (h:A) (e:A->G:=by intro zz;(iterate 6 refine y1 ?_);exact zz):G:=e h
theorem y7 (h:A) (e:A->G:=by intro zz;(iterate 7 refine y1 ?_);exact zz):G:=e h
theorem y8 (h:A) (e:A->G:=by intro zz;(iterate 8 refine y1 ?_);exact zz):G:=e h
theorem y9 (h:A) (e:A->G:=by intro zz;(iterate 9 refine y1 ?_);exact zz):G:=e h
theorem eA (h:A) (e:A->G:=by intro zz;(iterate 10 refine y1 ?_);exact zz):G:=e h
theorem nB (h:A) (e:A->G:=by intro zz;(iterate 12 refine y1 ?_);exact zz):G:=e h
theorem DM (e:G:=by(iterate 1 refine y1 ?_);exact zR):G:=e
theorem Bd (h:A) (e:A->G:=by intro zz;(iterate 1 refine y1 ?_);refine zr ?_;exact zz):G:=e h
theorem Ny (e:G:=by(iterate 2 refine y1 ?_);exact zR):G:=e
theorem AJ (h:A) (e:A->G:=by intro zz;(iterate 2 refine y1 ?_);refine zr ?_;exact zz):G:=e h
theorem Kp (e:G:=by(iterate 3 refine y1 ?_);exact zR):G:=e
theorem Ck (h:A) (e:A->G:=by intro zz;(iterate 3 refine y1 ?_);refine zr ?_;exact zz):G:=e h
theorem RX (e:G:=by(iterate 4 refine y1 ?_);exact zR):G:=e
theorem Ue (h:A) (e:A->G:=by intro zz;(iterate 4 refine y1 ?_);refine zr ?_;exact zz):G:=e h
theorem an (a:A) (b:B):A/\B:=⟨a,b⟩
end
theorem zE {f:Nat} {fn:Func} {c:Code} {args:List AV} {M:List Ag} {Q:AV->List Ag->Prop} (rs:List ResultVar) (h:W pg tT M.length c (Ey args) M (Fo tT rs M.length Q)) (hf:pg.funcs[f]?=some fn:=by rfl) (hb:fn.body=some c:=by rfl) (hname:(fn.name== "runtime.NumGoroutine")=false:=by rfl)
 (hc:CL fn.ntmps c=true:=by kernel_rfl) (hl:args.length<=fn.ntmps:=by exact Nat.le_of_ble_eq_true rfl) (hrs:fn.results.toList=rs:=by rfl) (hr:rs.all (KQ fn.ntmps)=true:=by kernel_rfl):Ac pg f args M Q:=uk rs tk hf hb hname hc hl hrs hr h
section
variable {p s n T off:Nat} {F:Fr} {M:List Ag} {cs xs:List AV}
theorem sX (B j:Nat) (hb:Ah M B 0=some cs:=by rfl) (hj:cs[j]?=some (.own s n xs):=by rfl):Wk p F M F (M.set B (.live 0 (cs.set j (.tok M.length 0 s 0 n)))++[.live 0 xs]):=te hb hj
theorem Wk.inn (B j:Nat) (hb:Ah M B 0=some cs:=by rfl) (hj:cs[j]?=some (.tok T 0 s off n):=by rfl) (hT:Ah M T 0=some xs:=by rfl) (hne:T≠B:=by simp) (hle:off+n*s<=xs.length:=by simp) (htf:((xs.drop off).take (n*s)).all tf=true:=by simp):
 Wk p F M F ((M.set B (.live 0 (cs.set j (.own s n ((xs.drop off).take (n*s)))))).set T .dead):=sY hb hj hT hne hle htf
end
section
variable {G A B H H1 H2 H3:Prop}
theorem ws (h:A) (e:A->G:=by intro zz;(repeat refine tp ?_);refine tG 0 rfl λK hK=>?_;simp -implicitDefEqProofs (maxSteps:=999999) (disch:=omega);(repeat refine⟨by(repeat clear zz);first|assumption|omega,?_⟩);refine hK _ _ ?_;clear hK K;exact zz):G:=e h
theorem w0 (h:A) (e:A->G:=by intro zz;(repeat refine tp ?_);refine tG 0 rfl λK hK=>?_;simp -implicitDefEqProofs (maxSteps:=999999) (disch:=omega);revert hK;revert K;exact zz):G:=e h
theorem w1 (h:A) (e:A->G:=by intro zz;(repeat refine tp ?_);refine tG 1 rfl λK hK=>?_;simp -implicitDefEqProofs (maxSteps:=999999) (disch:=omega);revert hK;revert K;exact zz):G:=e h
theorem w2 (h:A) (e:A->G:=by intro zz;(repeat refine tp ?_);refine tG 2 rfl λK hK=>?_;simp -implicitDefEqProofs (maxSteps:=999999) (disch:=omega);revert hK;revert K;exact zz):G:=e h
theorem w3 (h:A) (e:A->G:=by intro zz;(repeat refine tp ?_);refine tG 3 rfl λK hK=>?_;simp -implicitDefEqProofs (maxSteps:=999999) (disch:=omega);revert hK;revert K;exact zz):G:=e h
theorem Qc (f:H) (h:A) (e:H->A->G:=by intro zf zz;(repeat refine tp ?_);refine tG 0 rfl λK hK=>?_;simp -implicitDefEqProofs (maxSteps:=999999) (disch:=omega) [zf];clear zf;revert hK;revert K;exact zz):G:=e f h
theorem nC (h:A) (e:A->G:=by intro zz;(repeat refine tp ?_);refine tS 0 rfl true Df (by kernel_rfl) λK hK=>?_;simp -implicitDefEqProofs (maxSteps:=999999) (disch:=omega);revert hK;revert K;exact zz):G:=e h
theorem kg (f:H) (h:A) (e:H->A->G:=by intro zf zz;(repeat refine tp ?_);refine tS 0 rfl true Df (by kernel_rfl) λK hK=>?_;simp -implicitDefEqProofs (maxSteps:=999999) (disch:=omega) [zf];clear zf;revert hK;revert K;exact zz):G:=e f h
theorem wt (h:A) (e:A->G:=by intro zz;(repeat refine tp ?_);refine WX.condK λK1 K2 h1 h2=>?_;simp -implicitDefEqProofs (maxSteps:=999999) (disch:=omega);refine h1 ?_;clear h1 h2 K1 K2;exact zz):G:=e h
theorem wn (h:A) (e:A->G:=by intro zz;(repeat refine tp ?_);refine WX.condK λK1 K2 h1 h2=>?_;simp -implicitDefEqProofs (maxSteps:=999999) (disch:=omega);refine h2 ?_;clear h1 h2 K1 K2;exact zz):G:=e h
theorem wb (h:A) (e:A->G:=by intro zz;(repeat refine tp ?_);refine WX.block ?_;exact zz):G:=e h
theorem ww (h:A) (e:A->G:=by intro zz;(repeat refine tp ?_);exact zz):G:=e h
section
theorem th (za:H) (h:A) (e:H->A->G:=by intro za zz;refine zg za ?_;clear za;refine y2 ?_;exact zz):G:=e za h
theorem xK (za:H) (h:A) (e:H->A->G:=by intro za zz;refine AO za ?_;clear za;refine zk ?_;exact zz):G:=e za h
theorem xL (za:H) (h:A) (e:H->A->G:=by intro za zz;refine zg za ?_;clear za;refine y3 ?_;exact zz):G:=e za h
theorem xM (h:A) (e:A->G:=by intro zz;refine zk ?_;refine zs ?_;exact zz):G:=e h
theorem xN (za:H) (h:A) (e:H->A->G:=by intro za zz;refine zj za ?_;clear za;refine zk ?_;exact zz):G:=e za h
theorem xO (za:H) (h:A) (e:H->A->G:=by intro za zz;refine zg za ?_;clear za;refine zn ?_;exact zz):G:=e za h
theorem xP (za:H) (h:A) (e:H->A->G:=by intro za zz;refine zg za ?_;clear za;refine zt ?_;exact zz):G:=e za h
theorem xQ (za:H) (h:A) (e:H->A->G:=by intro za zz;refine zg za ?_;clear za;refine zr ?_;exact zz):G:=e za h
theorem xR (h:A) (e:A->G:=by intro zz;refine zs ?_;refine zb ?_;exact zz):G:=e h
theorem xS (za:H) (h:A) (e:H->A->G:=by intro za zz;refine zg za ?_;clear za;refine AJ ?_;exact zz):G:=e za h
theorem xU (h:A) (e:A->G:=by intro zz;refine Am ?_;refine zr ?_;exact zz):G:=e h
theorem xV (h:A) (e:A->G:=by intro zz;refine y2 ?_;refine zb ?_;exact zz):G:=e h
theorem xW (za:H) (h:A) (e:H->A->G:=by intro za zz;refine CQ za ?_;clear za;refine zk ?_;exact zz):G:=e za h
theorem xX (h:A) (e:A->G:=by intro zz;refine Am ?_;refine AJ ?_;exact zz):G:=e h
theorem xY (h:A) (e:A->G:=by intro zz;refine y2 ?_;refine z0 ?_;exact zz):G:=e h
theorem xZ (h:A) (e:A->G:=by intro zz;refine y3 ?_;refine zb ?_;exact zz):G:=e h
theorem x3 (za:H) (h:A) (e:H->A->G:=by intro za zz;refine zg za ?_;clear za;refine Ck ?_;exact zz):G:=e za h
theorem x4 (h:A) (e:A->G:=by intro zz;refine Am ?_;refine y2 ?_;exact zz):G:=e h
theorem x5 (za:H) (h:A) (e:H->A->G:=by intro za zz;refine xK za ?_;clear za;refine y2 ?_;exact zz):G:=e za h
theorem x6 (h:A) (e:A->G:=by intro zz;refine AX ?_;refine zs ?_;exact zz):G:=e h
theorem x7 (za:H) (h:A) (e:H->A->G:=by intro za zz;refine xK za ?_;clear za;refine AJ ?_;exact zz):G:=e za h
theorem x8 (h:A) (e:A->G:=by intro zz;refine zs ?_;refine z0 ?_;exact zz):G:=e h
theorem x9 (h:A) (e:A->G:=by intro zz;refine zb ?_;refine GK ?_;exact zz):G:=e h
theorem yc (za:H) (h:A) (e:H->A->G:=by intro za zz;refine xN za ?_;clear za;refine Ck ?_;exact zz):G:=e za h
theorem yd (za:H) (h:A) (e:H->A->G:=by intro za zz;refine xN za ?_;clear za;refine y3 ?_;exact zz):G:=e za h
theorem ye (h:A) (e:A->G:=by intro zz;refine Am ?_;refine zs ?_;exact zz):G:=e h
theorem yf (za:H) (zb:H1) (h:A) (e:H->H1->A->G:=by intro za zb zz;refine zg za ?_;clear za;refine zg zb ?_;exact zz):G:=e za zb h
theorem yg (h:A) (e:A->G:=by intro zz;refine AX ?_;refine z0 ?_;exact zz):G:=e h
theorem yh (h:A) (e:A->G:=by intro zz;refine zk ?_;refine y2 ?_;exact zz):G:=e h
theorem yi (h:A) (e:A->G:=by intro zz;refine zk ?_;refine AJ ?_;exact zz):G:=e h
theorem yj (za:H) (h:A) (e:H->A->G:=by intro za zz;refine AL za ?_;clear za;refine zr ?_;exact zz):G:=e za h
theorem yl (za:H) (h:A) (e:H->A->G:=by intro za zz;refine xP za ?_;clear za;refine z0 ?_;exact zz):G:=e za h
theorem ym (za:H) (h:A) (e:H->A->G:=by intro za zz;refine AL za ?_;clear za;refine y2 ?_;exact zz):G:=e za h
theorem yn (za:H) (zb:H1) (h:A) (e:H->H1->A->G:=by intro za zb zz;refine xO za ?_;clear za;refine xO zb ?_;exact zz):G:=e za zb h
theorem yo (h:A) (e:A->G:=by intro zz;refine zs ?_;refine zw ?_;exact zz):G:=e h
theorem yp (za:H) (h:A) (e:H->A->G:=by intro za zz;refine zh za ?_;clear za;refine y2 ?_;exact zz):G:=e za h
theorem yq (za:H) (h:A) (e:H->A->G:=by intro za zz;refine AL za ?_;clear za;refine y3 ?_;exact zz):G:=e za h
theorem yr (za:H) (h:A) (e:H->A->G:=by intro za zz;refine zg za ?_;clear za;refine y4 ?_;exact zz):G:=e za h
theorem yt (h:A) (e:A->G:=by intro zz;refine y2 ?_;refine zw ?_;exact zz):G:=e h
theorem yu (h:A) (e:A->G:=by intro zz;refine Am ?_;refine y3 ?_;exact zz):G:=e h
theorem yw (h:A) (e:A->G:=by intro zz;refine Am ?_;refine xR ?_;exact zz):G:=e h
theorem yy (h:A) (e:A->G:=by intro zz;refine zt ?_;refine z0 ?_;exact zz):G:=e h
end
end
theorem EM (xs ys:List Int) (hx:xs.length<4611686018427387904):Ac pg 22 [.ro xs.length (Ab xs),.ro ys.length (Ab ys)] [] (λr _=>r= .bool (decide (xs=ys))):=by
 refine zE (fn:=Tryz.f22) [.tmp 4] ?_;rw[Aq];refine y2 ?_;refine zc ?_ ?_<;>intro h
 .refine Bd ?_;intro e;exact h (by rw[e])
 .refine W.skip ?_;have hl:xs.length=ys.length:=zO;refine xR ?_;refine sV (λk:Nat=> [(0,.ro xs.length (Ab xs)),(1,.ro ys.length (Ab ys)),(5,iN k)]) (λ_=> []) (λk=>xs.length-k) (λk=>k<=xs.length/\xs.take k=ys.take k) 0 (Wk.fr ?_) zS ?_
  .simp[AA]
  .rintro k ⟨hk,ht⟩;refine zs ?_;refine zc ?_ ?_<;>intro h
   .refine W.skip ?_;have hlt:k<xs.length:=zO;have hlt' :k<ys.length:=zO;refine zb ?_;refine CN ?_;intro K hK;simp[hlt,hlt'];refine zk ?_;refine zc ?_ ?_<;>intro h
    .refine Bd ?_;intro e;subst e;exact h rfl
    .refine y2 ?_;refine⟨k+1,zO,⟨zO,?_⟩,Wk.fr ?_⟩
     .rw[uV,uV,ht];simp[hlt,hlt',h]
     .simp[AA]
   .refine s7 ?_;have hk' :k=xs.length:=zO;subst hk';refine Bd ?_;rw[uW,hl,uW] at ht;simp[ht]
theorem Ee (xs:List Int) (hx:xs.length<1000000000000):Ac pg 55 [.ro xs.length (Ab xs)] [] (λr _=>r= .own 1 xs.length (Ab xs)):=by
 refine zE (fn:=Tryz.f55) [.tmp 2] ?_;rw[AC];refine xZ ?_;refine sV (λk:Nat=> [(0,.ro xs.length (Ab xs)),(3,.tok 0 k 1 0 k),(4,iN k)]) (λk=> [.live k (Ab (xs.take k))]) (λk=>xs.length-k) (λk=>k<=xs.length) 0 ((Wk.nil (t:=3) (s:=1) ?_).trans (Wk.fr ?_)) zS ?_
 .simp
 .simp[AA]
 .intro k hk;refine zs ?_;refine zc ?_ ?_<;>intro h
  .refine W.skip ?_;have hlt:k<xs.length:=zO;refine zb ?_;refine z1 ?_;intro K hK;refine⟨hlt,zO,zO,?_⟩;refine xM ?_;refine⟨k+1,zO,zO,sU (k:=1) ?_ ?_ ?_ ?_ ?_ ?_⟩<;>simp;have e:Ab (wL (k+1) xs)=Ab (wL k xs)++[AV.int IntKind.i64 xs[k]]:=by rw[uV,B5];simp[hlt,Ab]
   exact e.symm
  .refine s7 ?_;have hk' :k=xs.length:=zO;subst hk';exact DM
theorem Mb (xs ys:List (List Int)) (hx:xs.length<1000000000000) (hr:∀r∈xs,r.length<1000000000000):Ac pg 61 [.ro xs.length (Ak false xs),.ro ys.length (Ak false ys)] [] (λr _=>r= .bool (decide (xs=ys))):=by
 refine zE (fn:=Tryz.f61) [.tmp 4] ?_;rw[Aq];refine y2 ?_;refine zc ?_ ?_<;>intro h
 .refine Bd ?_;intro e;exact h (by rw[e])
 .refine W.skip ?_;have hl:xs.length=ys.length:=zO;refine xR ?_;refine sV (λk:Nat=> [(0,.ro xs.length (Ak false xs)),(1,.ro ys.length (Ak false ys)),(5,iN k)]) (λ_=> []) (λk=>xs.length-k) (λk=>k<=xs.length/\xs.take k=ys.take k) 0 (Wk.fr ?_) zS ?_
  .simp[AA]
  .rintro k ⟨hk,ht⟩;refine zs ?_;refine zc ?_ ?_<;>intro h
   .refine W.skip ?_;have hlt:k<xs.length:=zO;have hlt' :k<ys.length:=zO;refine zb ?_;refine CN ?_;intro K hK;simp[hlt,hlt'];refine xW (EM xs[k] ys[k] (by have:=hr xs[k] (by simp);omega)) ?_;refine zc ?_ ?_<;>intro h
    .refine Bd ?_;intro e;subst e;exact h rfl
    .refine y2 ?_;refine⟨k+1,zO,⟨zO,?_⟩,Wk.fr ?_⟩
     .rw[uV,uV,ht];simp[hlt,hlt',h]
     .simp[AA]
   .refine s7 ?_;have hk' :k=xs.length:=zO;subst hk';refine Bd ?_;rw[uW,hl,uW] at ht;simp[ht]
def FN (d:ByteArray) (i:Nat):Bool:=decide (DT d (i/8)/2^(7-i%8)%2=1)
def AH (b:DX):List Bool:=(vK b.n.toNat).map (FN b.data)
def DI (b:DX):Prop:=0<=b.n/\b.n<=6000/\(b.data.size:Int)=(b.n+7)/8/\∀i,i<8*b.data.size->b.n.toNat<=i->FN b.data i=false
instance (b:DX):Decidable (DI b):=inferInstanceAs (Decidable (_/\_/\_/\_))
def Cg (l:List Bool):Nat:=l.foldl (λv b=>2*v+b.toNat) 0
def ahead (l:List Bool) (p:Nat):Option Nat:=(l.drop p).findIdx? id
def Bi (l:List Bool) (p:Nat):Option (Nat×Nat):=match ahead l p with
 |none=>none
 |some q=>if q<=30/\p+2*q+1<=l.length then(if Cg ((l.drop (p+q)).take (q+1))<=1073741824 then some (Cg ((l.drop (p+q)).take (q+1)),p+2*q+1) else none) else none
def Bq (v w:Nat):List Bool:=(vK w).map λi=>decide (v/2^(w-1-i)%2=1)
def AM (n:Nat):List Bool:=Bq 0 (vR n)++Bq n (vR n+1)
def Dr (n:Int):Int:=if n%2=1 then-((n+1)/2) else n/2
def CR (n:Int):Int:=if n<0 then-2*n-1 else 2*n
def AU (l:List Int):Prop:=(∀x∈l,0<=x/\x<16)/\l.Pairwise (·<·)
instance (l:List Int):Decidable (AU l):=inferInstanceAs (Decidable (_/\_))
def CY (bs:List Bool):Nat->Bool->Nat->Int->Option (List Int×Nat)
 |0,_,p,_=>some ([],p)
 |k+1,f,p,last=>match Bi bs p with
  |none=>none
  |some x=>let y:=last+(if f=true then Dr ((x.1:Int)-1) else(x.1:Int))
   if 0<=y/\y<16 then(match CY bs k false x.2 y with|some r=>some (y::r.1,r.2) |none=>none) else none
def EE (bs:List Bool) (p:Nat) (v:Int):Option (List Int×Nat):=match Bi bs p with
 |none=>none
 |some x=>if x.1<=17 then CY bs (x.1-1) true x.2 v else none
def Ej (bs:List Bool):Nat->Bool->Nat->Int->Option (List Int×Nat)
 |0,_,p,_=>some ([],p)
 |k+1,f,p,last=>match Bi bs p with
  |none=>none
  |some x=>match Ej bs k false x.2 (last+(if f=true then Dr ((x.1:Int)-1) else(x.1:Int))) with
   |some r=>some ((last+(if f=true then Dr ((x.1:Int)-1) else(x.1:Int)))::r.1,r.2)
   |none=>none
def Fj (bs:List Bool) (p:Nat) (v:Int):Option (List Int×Nat):=match Bi bs p with
 |none=>none
 |some x=>if x.1<=17 then(match Ej bs (x.1-1) true x.2 v with|some r=>if AU r.1 then some r else none|none=>none) else none
def Bc:List Int->Nat
 | []=>0
 | [_]=>1
 |x::y::l=>if y=x+1 then Bc (y::l)+1 else 1
theorem FO (x:Int) (l:List Int):0<Bc (x::l):=by cases l<;>simp[Bc];split<;>omega
theorem Gl:∀l:List Int,Bc l<=l.length
 | []=>by simp[Bc]
 | [_]=>by simp[Bc]
 |x::y::l=>by have:=Gl (y::l);simp[Bc];split<;>simp at* <;>omega
def Ay:List Int->List (Int×Int)×List Int
 | []=>([],[])
 |x::l=>let k:=Bc (x::l)
  let q:=Ay ((x::l).drop k)
  if 3<=k then((x,(k:Int))::q.1,q.2) else(q.1,(x::l).take k++q.2)
termination_by l=>l.length
decreasing_by have:=FO x l;simp;omega
def Dl (bs:List Bool):Nat->Bool->Nat->Int->Option (List (Int×Int)×Nat)
 |0,_,p,_=>some ([],p)
 |k+1,f,p,e=>match Bi bs p with
  |none=>none
  |some x=>match Bi bs x.2 with
   |none=>none
   |some y=>let a:=e+(if f=true then Dr ((x.1:Int)-1) else(x.1:Int))
    match Dl bs k false y.2 (a+((y.1:Int)-1+3)) with
    |some r=>some ((a,(y.1:Int)-1+3)::r.1,r.2)
    |none=>none
def Ep:List (Int×Int)->Int->Option (List Int)
 | [],_=>some []
 | (a,n)::rs,e=>if n<3\/16<n\/a<=e\/¬(0<=a/\a<16)\/¬(0<=a+n-1/\a+n-1<16) then none else
   match Ep rs (a+n) with
   |some l=>some ((vK n.toNat).map (λi=>a+(i:Nat))++l)
   |none=>none
def CO (l:List Int):List Int:=l.mergeSort λx y=>decide (x<=y)
def FZ (r:List (Int×Int)) (rest:List Int):Option (List Int):=match Ep r (-1) with
 |none=>none
 |some l=>if AU rest/\AU (CO (rest++l)) then some (CO (rest++l)) else none
def Ea (bs:List Bool) (p:Nat) (v:Int):Option (List Int×Nat):=match Bi bs p with
 |none=>none
 |some x=>if x.1<=16 then(match Dl bs (x.1-1) true x.2 v with
  |none=>none
  |some r=>match EE bs r.2 v with
   |none=>none
   |some g=>match FZ r.1 g.1 with
    |none=>none
    |some l=>if Ay l=(r.1,g.1) then some (l,g.2) else none) else none
def CZ (bs:List Bool):Nat->Bool->Nat->Int->Option (List (Int×Int)×Nat)
 |0,_,p,_=>some ([],p)
 |k+1,f,p,e=>match Bi bs p with
  |none=>none
  |some x=>match Bi bs x.2 with
   |none=>none
   |some y=>if y.1<=16 then(let a:=e+(if f=true then Dr ((x.1:Int)-1) else(x.1:Int))
    match CZ bs k false y.2 (a+((y.1:Int)-1+3)) with
    |some r=>some ((a,(y.1:Int)-1+3)::r.1,r.2)
    |none=>none) else none
def Ez:List (Int×Int)->Int->Prop
 | [],_=>True
 | (a,n)::rs,e=>0<=a/\a<16/\3<=n/\n<=16-a/\e<a/\Ez rs (a+n)
instance runsOKd:∀(r:List (Int×Int)) (e:Int),Decidable (Ez r e)
 | [],_=>inferInstanceAs (Decidable True)
 | (_,_)::rs,_=>have:=runsOKd rs;inferInstanceAs (Decidable (_/\_/\_/\_/\_/\_))
def BZ (r:List (Int×Int)) (i:Int):Bool:=r.any λq=>decide (q.1<=i/\i<q.1+q.2)
def JE (p:Int->Bool):List Int:=((vK 16).map λi=>((i:Nat):Int)).filter p
def EF (r:List (Int×Int)) (rest:List Int):Option (List Int):=
 if AU rest/\Ez r (-1)/\∀x∈rest,BZ r x=false then some (JE λi=>BZ r i||rest.contains i) else none
def Dg (v:Int):List Int->Bool->Int->List Bool
 | [],_,_=> []
 |x::l,f,last=>AM (if f=true then CR (x-v)+1 else x-last).toNat++Dg v l false x
def Dz (v:Int) (l:List Int):List Bool:=AM (l.length+1)++Dg v l true 0
def C2 (v:Int):List (Int×Int)->Bool->Int->List Bool
 | [],_,_=> []
 | (a,n)::l,f,e=>AM (if f=true then CR (a-v)+1 else a-e).toNat++AM (n-3+1).toNat++C2 v l false (a+n)
def A9 (v:Int) (l:List Int):List Bool:=AM ((Ay l).1.length+1)++C2 v (Ay l).1 true 0++Dz v (Ay l).2
def Cw (bs:List Bool) (p:Nat) (v:Int):Option (List Int×Nat):=match Bi bs p with
 |none=>none
 |some x=>if x.1<=17 then(match CZ bs (x.1-1) true x.2 v with
  |none=>none
  |some r=>match Fj bs r.2 v with
   |none=>none
   |some g=>match EF r.1 g.1 with
    |none=>none
    |some l=>if (A9 v l).length=g.2-p/\(bs.drop p).take (A9 v l).length=A9 v l then some (l,g.2) else none) else none
def Bj (l:List Int):List Int->Bool->Nat->List Nat
 | [],_,_=> []
 |x::ref,i,n=>if l.contains x=i then Bj l ref i (n+1) else n::Bj l ref (!i) 1
def sS (ref l:List Int):List Int:=(Bj l ref true 0).map λn=>((n:Nat):Int)
def Bz (ref l:List Int):List Int:=l.filter λx=> !ref.contains x
def BC:List Int->List Int->Bool->Option (List Int)
 | [],left,i=>some (if i=true then left else [])
 |n::bs,left,i=>if n<0\/(left.length:Int)<n then none else
  match BC bs (left.drop n.toNat) (!i) with
  |some l=>some ((if i=true then left.take n.toNat else [])++l)
  |none=>none
def Dm (ref bl rest:List Int):Option (List Int):=match BC bl ref true with
 |none=>none
 |some l=>if AU (CO (rest++l))/\sS ref (CO (rest++l))=bl/\Bz ref (CO (rest++l))=rest then some (CO (rest++l)) else none
def Dh (bs:List Bool):Nat->Bool->Nat->Option (List Int×Nat)
 |0,_,p=>some ([],p)
 |k+1,f,p=>match Bi bs p with
  |none=>none
  |some x=>match Dh bs k false x.2 with
   |some r=>some ((if f=true then(x.1:Int)-1 else(x.1:Int))::r.1,r.2)
   |none=>none
def DF (bs:List Bool) (p:Nat) (v:Int) (ref:List Int):Option (List Int×Nat):=match Bi bs p with
 |none=>none
 |some x=>if x.1<=17 then(match Dh bs (x.1-1) true x.2 with
  |none=>none
  |some q=>match Ea bs q.2 v with
   |none=>none
   |some r=>match Dm ref q.1 r.1 with
    |some l=>some (l,r.2)
    |none=>none) else none
def Co (bs:List Bool):Nat->Bool->Nat->Option (List Int×Nat)
 |0,_,p=>some ([],p)
 |k+1,f,p=>match Bi bs p with
  |none=>none
  |some x=>if x.1<=17 then(match Co bs k false x.2 with
   |some r=>some ((if f=true then(x.1:Int)-1 else(x.1:Int))::r.1,r.2)
   |none=>none) else none
def FP (ref bl rest:List Int):Option (List Int):=
 if¬(AU ref/\AU rest/\bl.length<=16) then none else match BC bl ref true with
  |none=>none
  |some l=>let m:=JE λi=>l.contains i||rest.contains i
   if sS ref m=bl/\Bz ref m=rest then some m else none
def Fx (bs:List Bool) (p:Nat) (v:Int) (ref:List Int):Option (List Int×Nat):=match Bi bs p with
 |none=>none
 |some x=>if x.1<=17 then(match Co bs (x.1-1) true x.2 with
  |none=>none
  |some q=>match Cw bs q.2 v with
   |none=>none
   |some r=>match FP ref q.1 r.1 with
    |some l=>some (l,r.2)
    |none=>none) else none
def Br (out:List (List Int)):Nat:=(out.map List.length).sum
def AP (g:Gr):Prop:=0<=g.n/\g.n<=16/\(g.out.length:Int)=g.n/\(∀l∈g.out,AU l/\∀x∈l,x<g.n)/\Br g.out<=120
instance (g:Gr):Decidable (AP g):=inferInstanceAs (Decidable (_/\_/\_/\_/\_))
def Az:Gr:=⟨0,[]⟩
def A3:B7:=⟨0,0,0,false,[],[]⟩
def BU:B3:=⟨false,0,false,0,Az,A3⟩
abbrev Rd:=Nat->Int->Option (List Int×Nat)
def BD (rd:Rd):Nat->Int->Nat->Option (List (List Int)×Nat)
 |0,_,p=>some ([],p)
 |k+1,v,p=>match rd p v with
  |none=>none
  |some r=>match BD rd k (v+1) r.2 with
   |some q=>some (r.1::q.1,q.2)
   |none=>none
def DJ (bs:List Bool) (rd:Rd):Option Gr:=match Bi bs 0 with
 |none=>none
 |some x=>if x.1<=17 then(match BD rd (x.1-1) 0 x.2 with
  |none=>none
  |some r=>if r.2=bs.length/\AP ⟨(x.1:Int)-1,r.1⟩ then some ⟨(x.1:Int)-1,r.1⟩ else none) else none
def AF (g:Gr) (v:Int):List Int:=g.out.getD v.toNat []
def Cs (bs:List Bool):Option Gr:=DJ bs (Ea bs)
def CF (a:Gr) (bs:List Bool):Option Gr:=DJ bs λp v=>DF bs p v (AF a v)
def Gm (bs:List Bool):Option Gr:=DJ bs (Cw bs)
def JF (a:Gr) (bs:List Bool):Option Gr:=DJ bs λp v=>Fx bs p v (AF a v)
def A5 (l:List Obj) (id:Int):Option Obj:=l.find? λo=>decide (o.id=id)
def AN {α:Type} (f:α->Bool) (l:List α):Int:=match l.findIdx? f with|some i=>(i:Int) |none=>-1
def BJ (l:List Obj):Prop:=l.length<=12/\(∀o∈l,1<=o.id/\o.id<=1048576/\DI o.data/\o.base≠o.id/\(o.base=0\/∃q∈l,q.id=o.base))/\l.Pairwise λa b=>a.id<b.id
instance (l:List Obj):Decidable (BJ l):=inferInstanceAs (Decidable (_/\_/\_))
def A4 (l:List Obj):Nat->Int->List Obj
 |0,_=> []
 |k+1,id=>if id=0 then [] else match A5 l id with
  |some o=>o::A4 l k o.base
  |none=> []
def AY (l:List Obj) (id:Int):Int×Int:=match A5 l id with
 |none=>(0,3)
 |some _=>if 3<(A4 l 4 id).length then(0,2) else(((A4 l 4 id).length:Int),0)
def DN (rf:List Bool->Option Gr) (rd:Gr->List Bool->Option Gr):List Obj->Option Gr
 | []=>some Az
 |o::w=>if o.base=0 then rf (AH o.data) else match DN rf rd w with
  |none=>none
  |some a=>rd a (AH o.data)
def AT (l:List Obj) (id:Int):Gr×Int:=if (AY l id).2≠0 then(Az,(AY l id).2) else match DN Cs CF (A4 l 3 id) with
 |some g=>(g,0)
 |none=>(Az,9)
def gi (l:List Int) (i:Int):Int:=l.getD i.toNat 0
def si (l:List Int) (i x:Int):List Int:=l.set i.toNat x
def named (k:Int):Bool:=decide (k=1\/k=2\/k=4)
def DO (g:Gr) (k a:Int):Int:=if¬(1<=k/\k<=6) then 1 else if named k=true/\¬(0<=a/\a<g.n) then 3 else 0
def Mc (n:Nat):List Int:=(vK n).map λi=>((i:Nat):Int)
def B9 (g:Gr) (k a:Int):B7:=⟨k,if named k=true then a else 0,0,false,if k=4 then [a] else [],if k=4 then si (uP g.n.toNat (-1)) a 0 else if k=5 then Mc g.n.toNat else []⟩
def BX (g:Gr) (j:B7):Bool:=if j.kind=1 then decide (1<=j.at_) else if j.kind=4 then decide ((j.list.length:Int)<=j.at_) else decide (g.n<=j.at_)
def BE (v:Int) (s:List Int×List Int) (w:Int):List Int×List Int:=if gi s.1 w<0 then(si s.1 w (gi s.1 v+1),s.2++[w]) else s
def B1 (v:Int) (s:List Int×Bool) (w:Int):List Int×Bool:=
 (si (si s.1 v (min (gi s.1 v) (gi s.1 w))) w (min (gi s.1 v) (gi s.1 w)),s.2||!decide (gi s.1 v=gi s.1 w))
def Ek (l:List Int) (n:Nat):List Int:=l++uP (n+1-l.length) 0
def A8 (g:Gr) (j:B7):B7:=
 if j.kind=1 then{j with at_:=j.at_+1,out:=AF g j.a}
 else if j.kind=2 then{j with at_:=j.at_+1,out:=j.out++if (AF g j.at_).contains j.a=true then [j.at_] else []}
 else if j.kind=3 then{j with at_:=j.at_+1,out:=si (Ek j.out (AF g j.at_).length) (AF g j.at_).length (gi (Ek j.out (AF g j.at_).length) (AF g j.at_).length+1)}
 else if j.kind=4 then{j with at_:=j.at_+1,out:=((AF g (gi j.list j.at_)).foldl (BE (gi j.list j.at_)) (j.out,j.list)).1,list:=((AF g (gi j.list j.at_)).foldl (BE (gi j.list j.at_)) (j.out,j.list)).2}
 else if j.kind=5 then
  (let q:=(AF g j.at_).foldl (B1 j.at_) (j.out,j.move)
   if j.at_+1=g.n/\q.2=true then{j with at_:=0,move:=false,out:=q.1} else{j with at_:=j.at_+1,move:=q.2,out:=q.1})
 else{j with at_:=j.at_+1,out:=j.out++((AF g j.at_).map λw=> [j.at_,w]).flatten}
def HW (g:Gr) (j:B7):Nat->B7->Bool
 |0,_=>false
 |k+1,x=>if x=j then true else if BX g x=true then false else HW g j k (A8 g x)
def Gn (l:List Int):Nat:=(l.map Int.toNat).sum
def GO (g:Gr) (j:B7):Nat:=
 if j.kind=1 then(1-j.at_).toNat
 else if j.kind=5 then Gn j.out*(2*g.n.toNat+2)+(if j.move=true then g.n.toNat else 0)+(g.n-j.at_).toNat
 else(g.n-j.at_).toNat
def Ct (g:Gr) (j:B7):Bool:=decide (DO g j.kind j.a=0)&&HW g j (GO g (B9 g j.kind j.a)+1) (B9 g j.kind j.a)
def B2 (v:Bn):Obj:=⟨v.id,v.base,v.data⟩
def Ae (s:An):List Obj:=s.sQ.map B2
def C7 (b:DX):Int:=(4+(b.data.size:Int)+59)/60
def AD (s:An):List (Int×Int):=s.sQ.map λv=>(v.at_,C7 v.data)
def At (l:List Bn):Int:=match l.getLast? with|some v=>v.id|none=>0
def apart (x y:Int×Int):Prop:=¬(y.1<x.1+x.2/\x.1<y.1+y.2)
instance (x y:Int×Int):Decidable (apart x y):=inferInstanceAs (Decidable (¬_))
def Cl (l:List (Int×Int)) (n:Int):Prop:=1<=n/\n<=100/\l.length<=13/\(∀x∈l,0<=x.1/\1<=x.2/\x.1+x.2<=n)/\l.Pairwise apart
instance (l:List (Int×Int)) (n:Int):Decidable (Cl l n):=inferInstanceAs (Decidable (_/\_/\_/\_/\_))
def AQ (s:An) (l:List Obj) (x:B3):Prop:=
 if x.opn=false then x=BU else
  (x.pin=0\/∃v∈s.sQ,v.id=x.pin)/\(if x.on=true then 0<=x.frm/\x.frm<=At s.sQ/\AP x.sT else x.frm=0/\x.sT=Az)/\
    (x.job=A3\/(x.pin≠0/\Ct (AT l x.pin).1 x.job=true/\BX (AT l x.pin).1 x.job=false))
instance (s:An) (l:List Obj) (x:B3):Decidable (AQ s l x):=by unfold AQ;exact inferInstance
def GX (v:Bn):Prop:=0<=v.parent/\v.parent<v.id/\¬(v.tag=true/\v.gone=true)
instance (v:Bn):Decidable (GX v):=inferInstanceAs (Decidable (_/\_/\_))
def DP (l:List Bn):Bool:=match l.getLast? with|some v=>v.gone|none=>false
def HG (s:An):Prop:=1<=s.keep/\s.keep<=8/\1<=s.sS/\s.sS<=100/\(∀v∈s.sQ,GX v)/\DP s.sQ=false/\BJ (Ae s)
instance (s:An):Decidable (HG s):=inferInstanceAs (Decidable (_/\_/\_/\_/\_/\_/\_))
def EA (s:An):Prop:=HG s/\s.sR.length=3/\(∀o∈Ae s,(AT (Ae s) o.id).2=0)/\∀x∈s.sR,AQ s (Ae s) x
instance (s:An):Decidable (EA s):=inferInstanceAs (Decidable (_/\_/\_/\_))
def A2 (s:An):Prop:=EA s/\Cl (AD s) s.sS
instance (s:An):Decidable (A2 s):=inferInstanceAs (Decidable (_/\_))
def Md (v:Nat) (l:List Bool):Nat:=l.foldl (λv b=>2*v+b.toNat) v
theorem M0:∀(l:List Bool) (v:Nat),Md v l=v*2^l.length+Cg l
 | [],v=>by simp[Md,Cg]
 |b::l,v=>by
  have h1:=M0 l (2*v+b.toNat);have h2:=M0 l (2*0+b.toNat);have e1:Md v (b::l)=Md (2*v+b.toNat) l:=rfl;have e2:Cg (b::l)=Md (2*0+b.toNat) l:=rfl;simp only[Nat.mul_zero,Nat.zero_add] at h2 e2;rw[e1,e2,h1,h2,vA,w8,wK];have:2*v*2^l.length=v*(2^l.length*2):=by rw[Nat.mul_comm 2 v,Nat.mul_assoc,Nat.mul_comm 2]
  omega
@[simp] theorem kj:Cg []=0:=rfl
theorem Gp (b:Bool) (l:List Bool):Cg (b::l)=b.toNat*2^l.length+Cg l:=by
 have:=M0 l (2*0+b.toNat);have e:Cg (b::l)=Md (2*0+b.toNat) l:=rfl;rw[e,this];simp
theorem RY (l m:List Bool):Cg (l++m)=Cg l*2^m.length+Cg m:=by
 have:Cg (l++m)=Md (Cg l) m:=by simp[Cg,Md,List.foldl_append]
 rw[this,M0]
theorem Qd (l:List Bool) (b:Bool):Cg (l++[b])=2*Cg l+b.toNat:=by
 rw[RY];simp[Gp];omega
theorem HH:∀l:List Bool,Cg l<2^l.length
 | []=>zS
 |b::l=>by
  have:=HH l;rw[Gp,vA,w8];cases b<;>simp<;>omega
@[simp] theorem Vq (v w:Nat):(Bq v w).length=w:=by simp[Bq]
theorem F9 (v w:Nat):Bq v (w+1)=decide (v/2^w%2=1)::Bq v w:=by
 unfold Bq;rw[List.range_succ_eq_map,wj,List.map_map];congr 1;apply xf;intro i hi;simp only[Function.comp];have:w+1-1-(i+1)=w-1-i:=by simp at hi;omega
 rw[show Nat.succ i=i+1 from rfl,this]
theorem KX (v:Nat):∀w k,w<=k->Bq (v%2^k) w=Bq v w
 |0,_,_=>rfl
 |w+1,k,h=>by
  rw[F9,F9,KX v w k zO];congr 2;have:(v%2^k)/2^w%2=v/2^w%2:=by
   have e:k=w+(k-w):=zO;rw[e,Nat.pow_add,Nat.mod_mul_right_div_self];have:k-w=(k-w-1)+1:=zO;rw[this,w8,Nat.mod_mul_left_mod]
  rw[this]
theorem Nz:∀w v,v<2^w->Cg (Bq v w)=v
 |0,v,h=>by simp at h;subst h;rfl
 |w+1,v,h=>by
  rw[F9,Gp,Vq,<-KX v w w (vg _),Nz w _ (Nat.mod_lt _ (xq zO))];have h2:v/2^w<2:=by rw[xJ (xq zO)];rw[w8] at h;omega
  have h3:=Nat.div_add_mod v (2^w);rcases uY (v/2^w) 1 with h4|h4
  .have e:v/2^w=0:=Nat.lt_one_iff.1 h4;rw[e] at h3 |-;simp at h3 |-;exact h3
  .have e:v/2^w=1:=Nat.le_antisymm (Nat.le_of_lt_succ h2) h4;rw[e] at h3 |-;simp at h3 |-;omega
theorem J7:∀l:List Bool,Bq (Cg l) l.length=l
 | []=>rfl
 |b::l=>by
  have hl:=HH l;have hp:0<2^l.length:=xq zO;rw[vA,F9,<-KX _ l.length l.length (vg _),Gp];have e1:(b.toNat*2^l.length+Cg l)%2^l.length=Cg l:=by rw[Nat.mul_comm,Nat.mul_add_mod,Nat.mod_eq_of_lt hl]
  have e2:(b.toNat*2^l.length+Cg l)/2^l.length=b.toNat:=by
   rw[Nat.mul_comm,Nat.mul_add_div hp,Nat.div_eq_of_lt hl];rfl
  rw[e1,e2,J7 l];cases b<;>rfl
theorem NA (w:Nat):Bq 0 w=uP w false:=by
 apply List.ext_getElem
 .simp
 .intro i h1 h2;simp[Bq]
theorem JG {n:Nat} (h:1<=n):2^vR n<=n/\n<2^(vR n+1):=⟨Nat.log2_self_le zO,Nat.lt_log2_self⟩
theorem Mf {n q:Nat} (h1:2^q<=n) (h2:n<2^(q+1)):vR n=q:=by
 have hp:0<2^q:=xq zO;have h0:1<=n:=zO;have h:=JG h0;have a1:vR n<q+1:=by
  rcases uY (vR n) (q+1) with h' |h'
  .exact h'
  .have:=wI (n:=2) zO h';omega
 have a2:q<vR n+1:=by
  rcases uY q (vR n+1) with h' |h'
  .exact h'
  .have:=wI (n:=2) zO h';omega
 omega
theorem E9 (n:Nat):(AM n).length=2*vR n+1:=by simp[AM];omega
theorem KY {n:Nat} (h:1<=n):∃r:List Bool,r.length=vR n/\AM n=uP (vR n) false++true::r/\Cg (true::r)=n:=by
 have hs:=JG h;refine⟨Bq n (vR n),zS,?_,?_⟩
 .rw[AM,NA,F9];congr 2;have:n/2^vR n=1:=by
   have hp:0<2^vR n:=xq zO;have h1:n/2^vR n<2:=by rw[xJ hp];rw[w8] at hs;omega
   have h2:1<=n/2^vR n:=by rw[Nat.le_div_iff_mul_le hp];omega
   omega
  simp[this]
 .have:true::Bq n (vR n)=Bq n (vR n+1):=by
   rw[F9];congr 1;have:n/2^vR n=1:=by
    have hp:0<2^vR n:=xq zO;have h1:n/2^vR n<2:=by rw[xJ hp];rw[w8] at hs;omega
    have h2:1<=n/2^vR n:=by rw[Nat.le_div_iff_mul_le hp];omega
    omega
   simp[this]
  rw[this,Nz _ _ hs.2]
theorem KZ (q:Nat) (r:List Bool):(uP q false++true::r).findIdx? id=some q:=by
 induction q with
 |zero=>simp[w9]
 |succ q ih=>simp[vO,w9,ih]
theorem JH:∀{l:List Bool} {q:Nat},l.findIdx? id=some q->∃r,l=uP q false++true::r
 | [],q,h=>by simp at h
 |true::l,q,h=>by simp[w9] at h;subst h;exact⟨l,rfl⟩
 |false::l,q,h=>by
  simp[w9] at h;obtain⟨q',h1,rfl⟩:=h;obtain⟨r,rfl⟩:=JH h1;exact⟨r,by simp[vO]⟩
def IB (l:List Bool) (p x:Nat):List Bool:=(l.drop p).take (x-p)
theorem IT {l:List Bool} {p x y:Nat} (h1:p<=x) (h2:x<=y):IB l p x++IB l x y=IB l p y:=by
 unfold IB;have e1:(l.drop p).drop (x-p)=l.drop x:=by rw[wr];congr 1;omega
 rw[<-e1,<-List.take_add];congr 1;omega
theorem bf {l:List Bool} {p x:Nat} (h:x<=l.length):(IB l p x).length=x-p:=by simp[IB];omega
theorem Bl {l:List Bool} {p:Nat} {r:Nat×Nat} (h:Bi l p=some r):1<=r.1/\r.1<=1073741824/\p<r.2/\r.2<=l.length/\IB l p r.2=AM r.1:=by
 unfold Bi ahead at h;split at h
 .simp at h
 .rename_i q hq;split at h
  .rename_i hb;split at h
   .rename_i hn;simp at h;subst h;obtain⟨rest,hr⟩:=JH hq;have hlen:(l.drop p).length=q+(rest.length+1):=by rw[hr];simp
    have hl2:l.length-p=q+(rest.length+1):=by simpa using hlen
    have e1:(l.drop (p+q)).take (q+1)=true::rest.take q:=by
     rw[<-wr,hr,List.drop_append];simp
    have hrl:(rest.take q).length=q:=Ao;rw[e1] at hn |-;have hnum:Cg (true::rest.take q)=2^q+Cg (rest.take q):=by rw[Gp,hrl];simp
    have hlt:=HH (rest.take q);rw[hrl] at hlt;have hp:0<2^q:=xq zO;have hlog:vR (Cg (true::rest.take q))=q:=Mf zO (by rw[w8];omega);refine⟨by simp only;omega,hn,by simp only;omega,hb.2,?_⟩;simp only;rw[AM,hlog,NA];have e2:Bq (Cg (true::rest.take q)) (q+1)=true::rest.take q:=by
     have:=J7 (true::rest.take q)
     rwa [vA,hrl] at this
    rw[e2,IB,hr,show p+2*q+1-p=q+(q+1) by omega,List.take_append];simp
   .simp at h
  .simp at h
theorem Tx {l pre suf:List Bool} {n:Nat} (h1:1<=n) (h2:n<=1073741824) (hl:l=pre++AM n++suf):Bi l pre.length=some (n,pre.length+(AM n).length):=by
 obtain⟨r,hr,hf,hn⟩:=KY h1;have hd:l.drop pre.length=uP (vR n) false++true::(r++suf):=by
  rw[hl,hf];simp
 have hll:l.length=pre.length+(2*vR n+1)+suf.length:=by rw[hl];simp[E9];omega
 have hs:=JG h1;have hq:vR n<=30:=by
  rcases uY 30 (vR n) with h|h
  .have:2^31<=2^vR n:=wI zO h;have e:(2:Nat)^31=2147483648:=rfl;omega
  .exact h
 have e1:(l.drop (pre.length+vR n)).take (vR n+1)=true::r:=by
  rw[<-wr,hd,List.drop_append];simp[hr]
 unfold Bi ahead;rw[hd,KZ];simp only;rw[zP ⟨hq,zO⟩,e1,hn,zP h2,E9];simp;omega
theorem Ih {n m:Nat} {s t:List Bool} (hn:1<=n) (hm:1<=m) (h:AM n++s=AM m++t):n=m/\s=t:=by
 obtain⟨r,hr,hf,hnn⟩:=KY hn;obtain⟨r',hr',hf',hnm⟩:=KY hm;have e1:(AM n++s).findIdx? id=some (vR n):=by rw[hf,uZ,vF];exact KZ _ _
 have e2:(AM m++t).findIdx? id=some (vR m):=by rw[hf',uZ,vF];exact KZ _ _
 rw[h,e2] at e1;have hlog:vR m=vR n:=by simpa using e1
 have:=List.append_inj h (by rw[E9,E9,hlog]);refine⟨?_,this.2⟩;have h3:=this.1;rw[hf,hf',hlog] at h3;have h4:=List.append_cancel_left h3;rw[<-hnn,<-hnm,h4]
theorem M6 (n:Int):Dr (CR n)=n:=by unfold Dr CR;split<;>split<;>omega
theorem bg (n:Int) (h:0<=n):CR (Dr n)=n:=by unfold Dr CR;split<;>split<;>omega
theorem Eg (n:Int):0<=CR n:=by unfold CR;split<;>omega
theorem bh {a b:Int} (h:CR a=CR b):a=b:=by rw[<-M6 a,h,M6]
theorem K0 (a:Int) (h0:0<=a) (h1:a<=9223372036854775807):Dq .and (iN a) (iN 1)=some (iN (a%2)):=by
 obtain⟨n,rfl⟩:=uS h0;have hn:n<2^64:=zO;rw[PD];have e1:(BitVec.ofInt IntKind.i64.bits (n:Int)&&&BitVec.ofInt IntKind.i64.bits 1).toNat=n%2:=by
  rw[BitVec.toNat_and];have:(BitVec.ofInt IntKind.i64.bits (n:Int)).toNat=n:=by
   rw[BitVec.toNat_ofInt];simp[IntKind.bits] at*;omega
  rw[this];have:(BitVec.ofInt IntKind.i64.bits 1).toNat=1:=rfl;rw[this,Nat.and_one_is_mod]
 rw[e1];congr 2;rw[wrap_i64 zO zO];omega
theorem bj (a b:Int) (h0:0<=a) (h1:a<=4611686018427387903) (hb:b=0\/b=1):Dq .or (iN (a*2)) (iN b)=some (iN (2*a+b)):=by
 obtain⟨n,rfl⟩:=uS h0;rw[We];have e1:(BitVec.ofInt IntKind.i64.bits ((n:Int)*2) |||BitVec.ofInt IntKind.i64.bits b).toNat=(2*n+b).toNat:=by
  rw[BitVec.toNat_or];have:(BitVec.ofInt IntKind.i64.bits ((n:Int)*2)).toNat=2^1*n:=by
   rw[BitVec.toNat_ofInt];simp[IntKind.bits] at*;omega
  rw[this];rcases hb with rfl|rfl
  .have:(BitVec.ofInt IntKind.i64.bits 0).toNat=0:=rfl;rw[this,<-Nat.two_pow_add_eq_or_of_lt zO];omega
  .have:(BitVec.ofInt IntKind.i64.bits 1).toNat=1:=rfl;rw[this,<-Nat.two_pow_add_eq_or_of_lt zO];omega
 rw[e1];congr 2;have:((2*(n:Int)+b).toNat:Int)=2*n+b:=by rcases hb with rfl|rfl<;>omega
 rw[this,wrap_i64 (by rcases hb with rfl|rfl<;>omega) (by rcases hb with rfl|rfl<;>omega)]
theorem JI (s:ByteArray) (i:Nat):DT s i<256:=by
 unfold DT;split
 .exact UInt8.toNat_lt _
 .omega
@[simp] theorem kn (a:Int) (k:Nat):a.fdiv (2^k)=a/2^k:=Int.fdiv_eq_ediv_of_nonneg a (Int.le_of_lt (Int.pow_pos zO))
theorem Uf (d:ByteArray) (i:Nat):((DT d (i/8):Int)/2^(7-(i:Int)%8).toNat)%2=if FN d i=true then 1 else 0:=by
 have e:(7-(i:Int)%8).toNat=7-i%8:=zO;rw[e];have h2:((DT d (i/8):Int)/2^(7-i%8))%2=((DT d (i/8)/2^(7-i%8)%2:Nat):Int):=by
  rw[Int.natCast_emod,Int.natCast_ediv,Int.natCast_pow];rfl
 rw[h2];unfold FN;have h3:DT d (i/8)/2^(7-i%8)%2<2:=Nat.mod_lt _ zO;split
 .rename_i h;simp at h;simp[h]
 .rename_i h;simp at h;omega
theorem RZ (d:ByteArray) (i k:Nat):0<=(DT d i:Int)/2^k/\(DT d i:Int)/2^k<=255:=by
 have h:=JI d i;have e:(DT d i:Int)/2^k=((DT d i/2^k:Nat):Int):=by rw[Int.natCast_ediv,Int.natCast_pow];rfl
 rw[e];have:DT d i/2^k<=DT d i:=Nat.div_le_self _ _;generalize DT d i/2^k=z at*;omega
@[simp] theorem ko:IntKind.bits .i64=64:=rfl
@[simp] theorem mL:IntKind.bits .u8=8:=rfl
@[simp] theorem kp:IntKind.bits .u32=32:=rfl
@[simp] theorem kq:IntKind.bits .u64=64:=rfl
theorem ZQ (b:DX) (i:Nat) (hn:b.data.size<1000000000000) (hi:i/8<b.data.size):Ac pg 316 [.agg (Dd b),iN i] [] (λr _=>r=iN (if FN b.data i=true then 1 else 0)):=by
 refine zE (fn:=Tryz.f316) [.tmp 4] ?_;rw[Aq];refine yg ?_;intro K hK;refine⟨zO,?_⟩;have h3:=RZ b.data (i/8) (7-(i:Int)%8).toNat;have e1:((i:Int)/8).toNat=i/8:=zO;rw[e1,wrap_i64 zO zO,K0 _ h3.1 zO,Uf];simp;refine zk ?_;exact zR
def nb (o:Option Nat):Int:=match o with|some q=>(q:Int) |none=>-1
theorem OD {l:List Bool} {p k:Nat} (hk:p+k<l.length) (h:(l.drop p).take k=uP k false):(l[p+k]=true->ahead l p=some k)/\(l[p+k]=false->(l.drop p).take (k+1)=uP (k+1) false):=by
 have e:l.drop p=uP k false++l[p+k]::l.drop (p+k+1):=by
  rw[<-vJ k (l.drop p),h,wr,uX hk]
 refine⟨λh1=>?_,λh1=>?_⟩
 .unfold ahead;rw[e,h1];exact KZ _ _
 .rw[e,h1,List.take_append];simp[List.replicate_succ']
theorem Qe {l:List Bool} {p k:Nat} (hk:l.length<=p+k) (h:(l.drop p).take k=uP k false):ahead l p=none:=by
 have e:l.drop p=uP k false:=by rw[<-h,uM];simp;omega
 unfold ahead;rw[e,List.findIdx?_eq_none_iff];intro x hx;rw[List.eq_of_mem_replicate hx];rfl
theorem Db (b:DX):(AH b).length=b.n.toNat:=by simp[AH]
theorem Qf (b:DX) {i:Nat} (h:i<(AH b).length):(AH b)[i]=FN b.data i:=by simp[AH]
def EB (b:DX):Prop:=0<=b.n/\b.n<=8*b.data.size/\b.data.size<1000000000
theorem bk (b:DX) (p:Nat) (hb:EB b) (hp:p<100000000000):Ac pg 304 [.agg (Dd b),iN p] [] (λr _=>r=iN (nb (ahead (AH b) p))):=by
 obtain⟨h0,h1,h2⟩:=hb;have hl:=Db b;refine zE (fn:=Tryz.f304) [.tmp 4] ?_;rw[Aq];refine AX ?_;refine xR ?_;refine sV (λk:Nat=> [(1,iN p),(2,pt 0),(5,iN (p+k:Nat))]) (λ_=> [lv (Dd b)]) (λk=>b.n.toNat-p-k) (λk=>k<=b.n.toNat-p/\((AH b).drop p).take k=uP k false) 0 (Wk.fr ?_) zS ?_
 .simp[AA]
 .rintro k ⟨hk,hz⟩;refine zs ?_;refine zc ?_ ?_<;>intro h
  .refine y2 ?_;have hlt:p+k<(AH b).length:=zO;have hs:=OD hlt hz;rw[Qf b hlt] at hs;refine AL (ZQ b (p+k) (by omega) (by omega)) ?_;refine zc ?_ ?_<;>intro h
   .refine Bd ?_;rw[hs.1 h];simp[nb];omega
   .refine y2 ?_;refine⟨k+1,zO,⟨zO,hs.2 h⟩,Wk.fr ?_⟩;simp[AA];omega
  .refine AJ ?_;rw[Qe zO hz];rfl
theorem Qg {l:List Bool} {p k w:Nat} (hk:p+k<l.length):Cg ((l.drop p).take (k+1))=2*Cg ((l.drop p).take k)+(l[p+k]).toNat:=by
 rw[uV,List.getElem?_drop,uT hk];exact Qd _ _
theorem eB (b:DX) (p w:Nat) (hb:EB b) (hp:p<100000000000) (hw:w<=40):Ac pg 305 [.agg (Dd b),iN p,iN w] [] (λr _=>r=if p+w<=b.n.toNat then .tup [iN (Cg (((AH b).drop p).take w)),.bool true] else .tup [iN 0,.bool false]):=by
 obtain⟨h0,h1,h2⟩:=hb;have hl:=Db b;refine zE (fn:=Tryz.f305) [.tmp 6,.tmp 7] ?_;rw[A6];refine yg ?_;intro K hK;refine⟨λh1=>?_,λh1=>?_⟩
 .refine zk ?_;refine zc ?_ ?_<;>intro h
  .refine Bd ?_;omega
  .refine xZ ?_;refine sV (λk:Nat=> [(1,iN p),(2,iN w),(3,pt 0),(8,iN (Cg (((AH b).drop p).take k))),(22,iN w),(23,iN k)]) (λ_=> [lv (Dd b)]) (λk=>w-k) (λk=>k<=w) 0 (Wk.fr ?_) zS ?_
   .simp[AA]
   .intro k hk;refine zs ?_;refine zc ?_ ?_<;>intro h
    .refine W.skip ?_;have hlt:p+k<(AH b).length:=zO;have hs:=Qg (l:=AH b) (p:=p) (k:=k) (w:=w) hlt;rw[Qf b hlt] at hs;have hlt2:=HH (((AH b).drop p).take k);have hpw:2^(((AH b).drop p).take k).length<=2^40:=wI zO Ao;generalize 2^(((AH b).drop p).take k).length=z at*;refine xY ?_;intro K hK;refine zj (ZQ b (p+k) (by omega) (by omega)) ?_;rw[bj _ _ zO zO (by split<;>simp)];simp;refine xM ?_;refine⟨k+1,zO,zO,Wk.fr ?_⟩;simp[AA,hs];cases FN b.data (p+k)<;>rfl
    .refine y2 ?_;refine tq ?_;simp only[B6,C0,CM];refine CA (d:=0) ?_;simp -implicitDefEqProofs (disch:=omega);have:k=w:=zO;rw[this]
 .refine yi ?_;omega
@[simp] def K3 (b:DX) (p:Int) (bad:Bool):List AV:=[.str b.data,iN b.n,iN p,.bool bad]
def OE (l:List Bool) (p most:Nat):Option Nat:=match ahead l p with|some q=>if q<=most then some q else none|none=>none
theorem Sa {l:List Bool} {p q:Nat} (h:ahead l p=some q):p+q<l.length:=by
 obtain⟨r,hr⟩:=JH h;have:=congrArg List.length hr;simp at this;omega
theorem bm (b:DX) (p most v:Nat) (hb:EB b) (hp:p<100000000000) (hm:most<100000):Ac pg 295 [.ptr 0 v 0,.int .i64 most] [.live v (K3 b p false)] (λr M=>match OE (AH b) p most with|some q=>r= .int .i64 q/\M=[.live v (K3 b (p+q:Nat) false)] |none=>r= .int .i64 0/\M=[.live v (K3 b p true)]):=by
 have hl:=Db b;obtain⟨h0,h1,h2⟩:=hb;refine zE (fn:=Tryz.f295) [.tmp 4] ?_;rw[Aq];refine zs ?_;refine Ud (bk b p ⟨h0,h1,h2⟩ hp) ?_;unfold OE;cases hq:ahead (AH b) p with
 |none=>
  simp[nb];exact RX
 |some q=>
  have:=Sa hq;simp[nb];refine zs ?_;refine zc ?_ ?_<;>intro h
  .refine AJ ?_;rw[zM zO];trivial
  .exact Kp
theorem Sb (b:DX) (p w v:Nat) (bad:Bool) (hb:EB b) (hp:p<100000000000) (hw:w<=40):Ac pg 296 [.ptr 0 v 0,iN w] [.live v (K3 b p bad)] (λr M=>if bad=false/\p+w<=b.n.toNat then r=iN (Cg (((AH b).drop p).take w))/\M=[.live v (K3 b (p+w:Nat) false)] else r=iN 0/\M=[.live v (K3 b p true)]):=by
 have hl:=Db b;obtain⟨h0,h1,h2⟩:=hb;refine zE (fn:=Tryz.f296) [.tmp 4] ?_;rw[Aq];refine zs ?_;refine CN ?_;intro K hK;have sp:=eB b p w ⟨h0,h1,h2⟩ hp hw;by_cases hc:p+w<=b.n.toNat
 .simp only[hc,if_true] at sp;refine xW sp ?_;cases bad
  .refine Dx ?_;intro K hK;simp -implicitDefEqProofs (disch:=omega);(repeat refine⟨by first|assumption|omega,?_⟩);refine hK _ _ ?_;clear hK K;refine y4 ?_;refine tq ?_;simp only[B6,C0,CM];refine CA (d:=0) ?_;simp -implicitDefEqProofs (disch:=omega)
   try omega
  .exact RX
 .simp only[hc,if_false] at sp;refine xW sp ?_;cases bad
  .refine Ue ?_;omega
  .exact RX
def Hn (l:List Bool) (p:Nat):Option (Nat×Nat):=match ahead l p with
 |some q=>if q<=30/\p+2*q+1<=l.length then some (Cg ((l.drop (p+q)).take (q+1)),p+2*q+1) else none
 |none=>none
theorem Vr (l:List Bool) (p:Nat):Bi l p=match Hn l p with|some x=>if x.1<=1073741824 then some x else none|none=>none:=by
 unfold Bi Hn;cases ahead l p with
 |none=>rfl
 |some q=>
  simp only;split
  .split<;>simp_all
  .simp
theorem bn {l:List Bool} {p:Nat} {x:Nat×Nat} (h:Hn l p=some x):x.1<2147483648/\x.2<=l.length:=by
 unfold Hn at h;split at h
 .rename_i q hq;split at h
  .rename_i hb;simp at h;subst h;have h1:=HH ((l.drop (p+q)).take (q+1));have h2:2^((l.drop (p+q)).take (q+1)).length<=2^31:=wI zO Ao;simp only;generalize 2^((l.drop (p+q)).take (q+1)).length=z at*;exact⟨zO,hb.2⟩
  .simp at h
 .simp at h
theorem bo (b:DX) (p v:Nat) (hb:EB b) (hp:p<50000000000):Ac pg 278 [.ptr 0 v 0] [.live v (K3 b p false)] (λr M=>match Hn (AH b) p with|some x=>r= .int .i64 x.1/\M=[.live v (K3 b x.2 false)] |none=>∃p',r= .int .i64 0/\M=[.live v (K3 b p' true)]):=by
 have hl:=Db b;refine zE (fn:=Tryz.f278) [.tmp 2] ?_;rw[AC];refine x8 ?_;intro K hK;have sp:=bm b p 30 v hb zO zO;cases hq:ahead (AH b) p with
 |none=>
  have hg:Hn (AH b) p=none:=by unfold Hn;rw[hq]
  simp only[OE,hq] at sp;rw[hg] at hK;refine sZ [0] sp zS zS zS zS ?_;rintro r M ⟨rfl,rfl⟩ _;refine Am ?_;refine z0 ?_;intro K hK;refine sZ [0] (Sb b p 1 v true hb zO zO) zS zS zS zS ?_;refine Am ?_;exact zR
 |some q=>
  have:=Sa hq;have h2:=hb.2.1;have h3:=hb.2.2;simp only[OE,hq] at sp;by_cases h:q<=30
  .simp only[h,if_true] at sp;refine sZ [0] sp zS zS zS zS ?_;rintro r M ⟨rfl,rfl⟩ _;refine Am ?_;refine z0 ?_;intro K hK;have sp:=Sb b (p+q) (q+1) v false hb zO zO;by_cases hx:p+q+(q+1)<=b.n.toNat
   .have hg:Hn (AH b) p=some (Cg (((AH b).drop (p+q)).take (q+1)),p+2*q+1):=by unfold Hn;rw[hq];simp only;rw[zP ⟨h,zO⟩]
    simp only[hx,true_and,if_true] at sp;refine sZ [0] sp zS zS zS zS ?_;rintro r M ⟨rfl,rfl⟩ _;refine xU ?_;simp[hg];omega
   .have hg:Hn (AH b) p=none:=by unfold Hn;rw[hq];simp only;rw[zM zO]
    simp only[hx,and_false,if_false] at sp;refine sZ [0] sp zS zS zS zS ?_;rintro r M ⟨rfl,rfl⟩ _;refine xU ?_;simp[hg]
  .have hg:Hn (AH b) p=none:=by unfold Hn;rw[hq];simp only;rw[zM zO]
   simp only[h,if_false] at sp;refine sZ [0] sp zS zS zS zS ?_;rintro r M ⟨rfl,rfl⟩ _;refine Am ?_;refine z0 ?_;intro K hK;refine sZ [0] (Sb b p 1 v true hb zO zO) zS zS zS zS ?_;refine xU ?_;simp[hg]
def Hx (o:Option (Nat×Nat)):AV:=match o with|some x=> .tup [.int .i64 x.1,.int .i64 x.2,.bool true] |none=> .tup [.int .i64 0,.int .i64 0,.bool false]
theorem Ii (b:DX) (p:Nat) (hb:EB b) (hp:p<50000000000):Ac pg 244 [.agg (Dd b),iN p,iN 2] [] (λr _=>r=Hx (Bi (AH b) p)):=by
 have hl:=Db b;have h2:=hb.2.1;have h3:=hb.2.2;rw[Vr];refine zE (fn:=Tryz.f244) [.tmp 6,.tmp 7,.tmp 8] ?_;rw[A6];refine AX ?_;refine AX ?_;refine y7 ?_;refine z0 ?_;intro K hK;have sp:=bo b p 0 hb hp;cases hg:Hn (AH b) p with
 |none=>
  simp only[hg] at sp;refine sZ [1] sp zS zS zS zS ?_;rintro r M ⟨p',rfl,rfl⟩ _;refine Am ?_;refine Ck ?_;simp[hg,Hx]
 |some x=>
  have hx:=bn hg;simp only[hg] at sp;refine sZ [1] sp zS zS zS zS ?_;rintro r M ⟨rfl,rfl⟩ _;refine ye ?_;refine zc ?_ ?_<;>intro h
  .refine Bd ?_;rw[hg];simp only;rw[zM zO];rfl
  .refine W.skip ?_;refine CN ?_;intro K hK;refine zk ?_;refine zr ?_;rw[hg];simp only;rw[zP zO];rfl
end Go.Abs
