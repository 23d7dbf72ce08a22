/- Calls by contract: own memory lent to be read; results that come as trees are named. No program. -/
import Derived.Test.YtoklapibcmnaeaaGreatP2
import Derived.Orders
import Derived.Still
set_option linter.unusedVariables false
set_option linter.unusedSimpArgs false
namespace Go.Abs
mutual
def En:AV->AV
 | .own _ n xs=> .ro n (ER xs)
 | .optr xs=> .rptr (ER xs)
 | .tok .. => .any
 | .ptr .. => .any
 | .agg _=> .any
 | .tup _=> .any
 | .fn f cs=>if cs.isEmpty then .fn f [] else .any
 |x=>x
def ER:List AV->List AV
 | []=> []
 |x::xs=>En x::ER xs
end
theorem Fj:∀xs,ER xs=xs.map En
 | []=>rfl
 |x::xs=>by simp[ER,Fj xs]
def CE (M:List Ag):Nat->AV->AV
 |d+1,.tok T v s off n=>match Aj M T v with
  |some cs=>if off+n*s<=cs.length then .ro n (((cs.drop off).take (n*s)).map (CE M d)) else .any
  |none=> .any
 |d+1,.ptr T v off=>match Aj M T v with
  |some cs=> .rptr ((cs.drop off).map (CE M d))
  |none=> .any
 |_,x=>En x
def vw (M:List Ag):AV->AV
 | .agg xs=> .agg (xs.map (CE M 3))
 | .fn f cs=> .fn f (cs.map (CE M 3))
 | .tup _=> .any
 |x=>CE M 3 x
def NZ:AV->AV
 | .agg xs=> .agg (xs.map En)
 | .fn f cs=> .fn f (cs.map En)
 | .tup _=> .any
 |x=>En x
mutual
theorem Kg {w:World} {sh shB:Nat->Prop} {σ:Nat->Nat->Option St} (hs:∀g,sh g->shB g):∀(x:AV) (v:Value) (fp:Nat->Nat),VR w sh σ x v fp->(∀g,fp g≠0->shB g)->VR w shB σ0 (En x) v (fun _=>0)
 | .any,_,_,_,_=>fun _=>rfl
 | .tok ..,_,_,_,_=>fun _=>rfl
 | .ptr ..,_,_,_,_=>fun _=>rfl
 | .agg _,_,_,_,_=>fun _=>rfl
 | .tup _,_,_,_,_=>fun _=>rfl
 | .bool _,_,_,h,_=>⟨h.1,fun _=>rfl⟩
 | .int _ _,_,_,h,_=>⟨h.1,fun _=>rfl⟩
 | .str _,_,_,h,_=>⟨h.1,fun _=>rfl⟩
 | .nilp,_,_,h,_=>⟨h.1,fun _=>rfl⟩
 | .fn f cs,v,fp,h,_=>by
   simp only[En]
   split
   .rename_i he
    have:cs=[]:=by simpa using he
    subst this
    simp only[VR] at h
    obtain⟨_,vs,e,hv⟩:=h
    exact⟨fun _=>rfl,vs,e,hv.1,fun _=>rfl⟩
   .exact fun _=>rfl
 | .ro n xs,v,fp,h,_=>by
   simp only[VR] at h
   obtain⟨_,h⟩:=h
   simp only[En,VR]
   refine⟨fun _=>trivial,?_⟩
   obtain⟨a,c,e,hn,ha,h⟩:=h
   refine⟨a,c,e,hn,ha,?_⟩
   rcases h with h| ⟨ad,vs,h1,h2,h3,h4⟩
   .exact .inl h
   .exact .inr ⟨ad,vs,h1,hs _ h2,h3,Au.later ⟨fun _ _=>rfl,hs,fun _ _ _ h=>by simp[σ0] at h⟩ _ _ _ (fun _ _=>rfl) h4⟩
 | .rptr xs,v,fp,h,_=>by
   simp only[VR] at h
   obtain⟨_,ad,vs,e,h⟩:=h
   simp only[En,VR]
   refine⟨fun _=>trivial,ad,vs,e,?_⟩
   rcases h with h| ⟨h2,h3,h4⟩
   .exact .inl h
   .exact .inr ⟨hs _ h2,h3,Au.later ⟨fun _ _=>rfl,hs,fun _ _ _ h=>by simp[σ0] at h⟩ _ _ _ (fun _ _=>rfl) h4⟩
 | .own s n xs,v,fp,h,hf=>by
   simp only[VR] at h
   simp only[En,VR]
   refine⟨fun _=>trivial,?_⟩
   rcases h with⟨⟨a,e⟩,rfl,rfl,_⟩ | ⟨hh,b,c,cur,e',fp',e,hn,hc,hl,hheap,hsz,hv,hfp⟩
   .exact⟨a,0,e,Nat.le_refl _,fun _=>rfl,.inl rfl⟩
   .refine⟨_,c,e,hn,(fun h=>by simp at h),.inr ⟨⟨hh,b,none⟩,_,rfl,hf hh (by have:=hfp hh;simp at this;omega),?_,Pv hs xs _ fp' hv (fun g hg=>hf g (by have:=hfp g;omega))⟩⟩
    intro i u hu
    rw[BH,DY hheap]
    rw[List.getElem?_take] at hu
    split at hu
    .rw[List.getElem?_drop] at hu;rw[<-Array.getElem?_toList];exact hu
    .simp at hu
 | .optr xs,v,fp,h,hf=>by
   simp only[VR] at h
   simp only[En,VR]
   obtain⟨hh,b,cur,e',fp',e,hheap,hsz,hv,hfp⟩:=h
   refine⟨fun _=>trivial,⟨hh,b,none⟩,_,e,.inr ⟨hf hh (by have:=hfp hh;simp at this;omega),?_,Pv hs xs _ fp' hv (fun g hg=>hf g (by have:=hfp g;omega))⟩⟩
   intro i u hu
   rw[BH,DY hheap]
   rw[List.getElem?_take] at hu
   split at hu
   .rw[List.getElem?_drop] at hu;rw[<-Array.getElem?_toList];exact hu
   .simp at hu
theorem Pv {w:World} {sh shB:Nat->Prop} {σ:Nat->Nat->Option St} (hs:∀g,sh g->shB g):∀(xs:List AV) (vs:List Value) (fp:Nat->Nat),Au w sh σ xs vs fp->(∀g,fp g≠0->shB g)->Au w shB σ0 (ER xs) vs (fun _=>0)
 | [],_,_,h,_=>⟨h.1,fun _=>rfl⟩
 |x::xs,vs,fp,h,hf=>by
  simp only[Au] at h
  obtain⟨v,rest,f1,f2,e,h1,h2,hff⟩:=h
  exact⟨v,rest,_,_,e,Kg hs x v f1 h1 (fun g hg=>hf g (by have:=hff g;omega)),Pv hs xs rest f2 h2 (fun g hg=>hf g (by have:=hff g;omega)),fun _=>rfl⟩
end
theorem Fk {w:World} {sh shB:Nat->Prop} {σ τ:Nat->Nat->Option St} {f:AV->AV} {p:(Nat->Nat)->Prop} (hp:∀a b c:Nat->Nat,p c->(∀g,c g=a g+b g)->p a/\p b) (hf:∀x v fp,VR w sh σ x v fp->p fp->VR w shB τ (f x) v (fun _=>0)):
 ∀(xs:List AV) (vs:List Value) (fp:Nat->Nat),Au w sh σ xs vs fp->p fp->Au w shB τ (xs.map f) vs (fun _=>0)
 | [],_,_,h,_=>⟨h.1,fun _=>rfl⟩
 |x::xs,vs,fp,h,hq=>by
  simp only[Au] at h
  obtain⟨v,rest,f1,f2,e,h1,h2,hff⟩:=h
  obtain⟨p1,p2⟩:=hp f1 f2 fp hq hff
  exact⟨v,rest,_,_,e,hf x v f1 h1 p1,Fk hp hf xs rest f2 h2 p2,fun _=>rfl⟩
section
variable {w:World} {sh shB:Nat->Prop} {σ:Nat->Nat->Option St} {own:Nat->Option Nat} {M:List Ag}
theorem Mv (m:B8 w sh σ own M) (hs:∀g,sh g->shB g) (ho:∀g,own g≠none->g<w.heap.size->shB g):∀(d:Nat) (x:AV) (v:Value) (fp:Nat->Nat),VR w sh σ x v fp->(∀g,fp g≠0->shB g)->VR w shB σ0 (CE M d x) v (fun _=>0)
 |0,x,v,fp,h,hf=>by simp only[CE];exact Kg hs x v fp h hf
 |d+1,x,v,fp,h,hf=>by
  have hmap:=Fk (w:=w) (sh:=sh) (shB:=shB) (σ:=σ) (τ:=σ0) (f:=CE M d) (p:=fun fp=>∀g,fp g≠0->shB g) (fun a b c hc e=>⟨fun g hg=>hc g (by have:=e g;omega),fun g hg=>hc g (by have:=e g;omega)⟩) (fun x v fp h hf=>Mv m hs ho d x v fp h hf)
  unfold CE
  split
  .rename_i d' T u s off n he
   obtain rfl:d=d' :=by omega
   clear he
   split
   .rename_i cs hcs
    split
    .rename_i hle
     simp only[VR]
     refine⟨fun _=>trivial,?_⟩
     by_cases hn:n=0
     .subst hn
      simp only[VR] at h
      obtain⟨_,⟨a,c,e⟩,_⟩:=h
      exact⟨a,c,e,Nat.zero_le _,fun _=>rfl,.inl (by simp)⟩
     .have h0:fp=fun _=>0:=by simp only[VR] at h;exact funext h.1
      subst h0
      obtain⟨hh,b,cur,e,c,rfl,hnc,hcm,hcz,hst,how,hheap,hbl,_⟩:=HO m hcs h (by omega)
      obtain⟨hM,fpT,hB,hfT⟩:=BS m hcs
      simp only[BR] at hB
      rcases hB.2 with⟨h1,_⟩ | ⟨h',b',c',e',fp',h1,h2,h3,h4,h5⟩
      .rw[hst] at h1;simp at h1
      .have hloc:h' =hh/\b' =b:=by rw[hst] at h1;simp at h1;exact⟨h1.1.symm,h1.2.1.symm⟩
       obtain⟨rfl,rfl⟩:=hloc
       rw[hheap] at h2;simp at h2
       obtain⟨rfl,rfl⟩:=h2
       obtain⟨f1,h6,h6'⟩:=FC off h4
       obtain⟨f2,h7,h7'⟩:=Hk (n*s) h6
       have hf2:∀g,f2 g≠0->shB g:=fun g hg=>by
        have e1:=h6' g;have e2:=h7' g;have e3:=h5 g;have e4:=hfT g
        have hlt:=E2 _ _ _ h7 g hg
        refine ho g ?_ hlt
        split at e4
        .rename_i e5;rw[e5];simp
        .omega
       refine⟨_,c,rfl,hnc,(fun h=>by simp at h),.inr ⟨_,_,rfl,ho h' (by rw[how];simp) (Array.getElem?_eq_some_iff.1 hheap).1,?_,hmap _ _ _ h7 hf2⟩⟩
       intro i u' hu
       rw[BH,DY hheap]
       rw[List.getElem?_take] at hu
       split at hu
       .rw[List.getElem?_drop,List.getElem?_take] at hu
        split at hu
        .rw[List.getElem?_drop] at hu
         rw[<-Array.getElem?_toList]
         rw[show b' +off+i=b' +(off+i) by omega];exact hu
        .simp at hu
       .simp at hu
    .exact fun _=>rfl
   .exact fun _=>rfl
  .rename_i d' T u off he
   obtain rfl:d=d' :=by omega
   clear he
   split
   .rename_i cs hcs
    have h0:fp=fun _=>0:=by simp only[VR] at h;exact funext h.1
    subst h0
    obtain⟨hh,b,cur,e,rfl,hst,how,hheap,hbl,_⟩:=FK m hcs h
    obtain⟨hM,fpT,hB,hfT⟩:=BS m hcs
    simp only[BR] at hB
    rcases hB.2 with⟨h1,_⟩ | ⟨h',b',c',e',fp',h1,h2,h3,h4,h5⟩
    .rw[hst] at h1;simp at h1
    .have hloc:h' =hh/\b' =b:=by rw[hst] at h1;simp at h1;exact⟨h1.1.symm,h1.2.1.symm⟩
     obtain⟨rfl,rfl⟩:=hloc
     rw[hheap] at h2;simp at h2
     obtain⟨rfl,rfl⟩:=h2
     obtain⟨f1,h6,h6'⟩:=FC off h4
     have hf1:∀g,f1 g≠0->shB g:=fun g hg=>by
      have e1:=h6' g;have e3:=h5 g;have e4:=hfT g
      have hlt:=E2 _ _ _ h6 g hg
      refine ho g ?_ hlt
      split at e4
      .rename_i e5;rw[e5];simp
      .omega
     refine⟨fun _=>rfl,_,_,rfl,.inr ⟨ho h' (by rw[how];simp) (Array.getElem?_eq_some_iff.1 hheap).1,?_,hmap _ _ _ h6 hf1⟩⟩
     intro i u' hu
     rw[BH,DY hheap]
     rw[List.getElem?_drop,List.getElem?_take] at hu
     split at hu
     .rw[List.getElem?_drop] at hu
      rw[<-Array.getElem?_toList]
      rw[show b' +off+i=b' +(off+i) by omega];exact hu
     .simp at hu
   .exact fun _=>rfl
  .exact Kg hs _ v fp h hf
theorem RQ (m:B8 w sh σ own M) (hs:∀g,sh g->shB g) (ho:∀g,own g≠none->g<w.heap.size->shB g) {x:AV} {v:Value} (h:VR w sh σ x v (fun _=>0)):VR w shB σ0 (vw M x) v (fun _=>0):=by
 have hmap:=Fk (w:=w) (sh:=sh) (shB:=shB) (σ:=σ) (τ:=σ0) (f:=CE M 3) (p:=fun fp=>∀g,fp g≠0->shB g) (fun a b c hc e=>⟨fun g hg=>hc g (by have:=e g;omega),fun g hg=>hc g (by have:=e g;omega)⟩) (fun x v fp h hf=>Mv m hs ho 3 x v fp h hf)
 unfold vw
 split
 .simp only[VR] at h |-
  obtain⟨cs,e,hv⟩:=h
  exact⟨cs,e,hmap _ _ _ hv (fun g hg=>absurd rfl hg)⟩
 .simp only[VR] at h |-
  obtain⟨h0,cs,e,hv⟩:=h
  exact⟨fun _=>trivial,cs,e,hmap _ _ _ hv (fun g hg=>absurd rfl hg)⟩
 .exact fun _=>rfl
 .exact Mv m hs ho 3 x v _ h (fun g hg=>absurd rfl hg)
theorem Zt {x:AV} {v:Value} (h:VR w sh σ x v (fun _=>0)):VR w sh σ0 (NZ x) v (fun _=>0):=by
 have hmap:=Fk (w:=w) (sh:=sh) (shB:=sh) (σ:=σ) (τ:=σ0) (f:=En) (p:=fun fp=>∀g,fp g≠0->sh g) (fun a b c hc e=>⟨fun g hg=>hc g (by have:=e g;omega),fun g hg=>hc g (by have:=e g;omega)⟩) (fun x v fp h hf=>Kg (fun _ h=>h) x v fp h hf)
 unfold NZ
 split
 .simp only[VR] at h |-
  obtain⟨cs,e,hv⟩:=h
  exact⟨cs,e,hmap _ _ _ hv (fun g hg=>absurd rfl hg)⟩
 .simp only[VR] at h |-
  obtain⟨h0,cs,e,hv⟩:=h
  exact⟨fun _=>trivial,cs,e,hmap _ _ _ hv (fun g hg=>absurd rfl hg)⟩
 .exact fun _=>rfl
 .exact Kg (fun _ h=>h) x v _ h (fun g hg=>absurd rfl hg)
end
mutual
def F9:AV->Bool
 | .ro _ xs=>xs.isEmpty
 | .rptr xs=>xs.isEmpty
 | .own _ _ xs=>C1 xs
 | .optr xs=>C1 xs
 | .agg xs=>C1 xs
 | .tup xs=>C1 xs
 | .fn _ cs=>C1 cs
 |_=>true
def C1:List AV->Bool
 | []=>true
 |x::xs=>F9 x&&C1 xs
end
theorem LE:∀xs,C1 xs=xs.all F9
 | []=>rfl
 |x::xs=>by simp[C1,LE xs]
mutual
theorem Mw {w:World} {sh sh' :Nat->Prop} {σ:Nat->Nat->Option St}:∀(x:AV) (v:Value) (fp:Nat->Nat),F9 x=true->VR w sh σ x v fp->VR w sh' σ x v fp
 | .any,_,_,_,h=>h
 | .bool _,_,_,_,h=>h
 | .int _ _,_,_,_,h=>h
 | .str _,_,_,_,h=>h
 | .nilp,_,_,_,h=>h
 | .tok ..,_,_,_,h=>h
 | .ptr ..,_,_,_,h=>h
 | .ro n xs,v,fp,hr,h=>by
   have:xs=[]:=by simpa[F9] using hr
   subst this
   simp only[VR] at h |-
   obtain⟨h0,a,c,e,h1,h2,_⟩:=h
   exact⟨h0,a,c,e,h1,h2,by simp⟩
 | .rptr xs,v,fp,hr,h=>by
   have:xs=[]:=by simpa[F9] using hr
   subst this
   simp only[VR] at h |-
   obtain⟨h0,ad,vs,e,_⟩:=h
   exact⟨h0,ad,vs,e,by simp⟩
 | .own s n xs,v,fp,hr,h=>by
   simp only[F9] at hr
   simp only[VR] at h |-
   rcases h with h| ⟨hh,b,c,cur,e',fp',e,hn,hc,hl,hheap,hsz,hv,hfp⟩
   .exact .inl h
   .exact .inr ⟨hh,b,c,cur,e',fp',e,hn,hc,hl,hheap,hsz,Gv xs _ _ hr hv,hfp⟩
 | .optr xs,v,fp,hr,h=>by
   simp only[F9] at hr
   simp only[VR] at h |-
   obtain⟨hh,b,cur,e',fp',e,hheap,hsz,hv,hfp⟩:=h
   exact⟨hh,b,cur,e',fp',e,hheap,hsz,Gv xs _ _ hr hv,hfp⟩
 | .agg xs,v,fp,hr,h=>by
   simp only[F9] at hr
   simp only[VR] at h |-
   obtain⟨cs,e,hv⟩:=h
   exact⟨cs,e,Gv xs _ _ hr hv⟩
 | .tup xs,v,fp,hr,h=>by
   simp only[F9] at hr
   simp only[VR] at h |-
   obtain⟨cs,e,hv⟩:=h
   exact⟨cs,e,Gv xs _ _ hr hv⟩
 | .fn f xs,v,fp,hr,h=>by
   simp only[F9] at hr
   simp only[VR] at h |-
   obtain⟨h0,cs,e,hv⟩:=h
   exact⟨h0,cs,e,Gv xs _ _ hr hv⟩
theorem Gv {w:World} {sh sh' :Nat->Prop} {σ:Nat->Nat->Option St}:∀(xs:List AV) (vs:List Value) (fp:Nat->Nat),C1 xs=true->Au w sh σ xs vs fp->Au w sh' σ xs vs fp
 | [],_,_,_,h=>h
 |x::xs,vs,fp,hr,h=>by
  simp only[C1,Bool.and_eq_true] at hr
  simp only[Au] at h |-
  obtain⟨v,rest,f1,f2,e,h1,h2,hf⟩:=h
  exact⟨v,rest,f1,f2,e,Mw x v f1 hr.1 h1,Gv xs rest f2 hr.2 h2,hf⟩
end
def JF (L:Nat):AV->AV×List Ag
 | .own s n xs=>(.tok L 0 s 0 n,[.live 0 xs])
 | .optr xs=>(.ptr L 0 0,[.live 0 xs])
 | .agg _=>(.any,[])
 | .tup _=>(.any,[])
 |x=>(x,[])
def Kh (f:Nat->AV->AV×List Ag):Nat->List AV->List AV×List Ag
 |_,[]=>([],[])
 |L,x::xs=>((f L x).1::(Kh f (L+(f L x).2.length) xs).1,(f L x).2++(Kh f (L+(f L x).2.length) xs).2)
def Q3 (L:Nat):AV->AV×List Ag
 | .agg xs=>(.agg (Kh JF L xs).1,(Kh JF L xs).2)
 |x=>JF L x
def D3 (L:Nat):AV->AV×List Ag
 | .tup xs=>(.tup (Kh Q3 L xs).1,(Kh Q3 L xs).2)
 |x=>Q3 L x
def RS (f:Nat->AV->AV×List Ag):Prop:=∀(C:Bm) (F:Fr) (M:List Ag) (a:Act) (w:World) (σ:Nat->Nat->Option St) (own:Nat->Option Nat) (x:AV) (v:Value) (fp:Nat->Nat),AK C F M a w σ own->VR w C.sh σ0 x v fp->
 (∀g,fp g<=1)->(∀g,fp g≠0->own g=none/\¬C.sh g/\(C.own0 g≠none\/C.w0.heap.size<=g))->
 ∃σ' own',AK C F (M++(f M.length x).2) a w σ' own' /\VR w C.sh σ' (f M.length x).1 v (fun _=>0)/\(∀g,fp g=0->own' g=own g)/\∀T u st,σ T u=some st->σ' T u=some st
theorem TP:RS JF:=by
 intro C F M a w σ own x v fp R hx h1 hfp
 have plain:∀y:AV,JF M.length y=(y,[])->VR w C.sh σ0 y v fp->(∀g,fp g=0)->∃σ' own',AK C F (M++(JF M.length y).2) a w σ' own' /\VR w C.sh σ' (JF M.length y).1 v (fun _=>0)/\(∀g,fp g=0->own' g=own g)/\∀T u st,σ T u=some st->σ' T u=some st:=by
  intro y e hy h0
  rw[e]
  have:fp=fun _=>0:=funext h0
  subst this
  exact⟨σ,own,by simpa using R,VR.up σ hy,fun _ _=>rfl,fun _ _ _ h=>h⟩
 have keep:∀(st:St) (T u:Nat) (s:St),σ T u=some s->(fun T u=>if T=M.length/\u=0 then some st else σ T u) T u=some s:=fun st T u s h=>by
  have:¬(T=M.length/\u=0):=fun e=>by rw[R.mem.key T u (by omega)] at h;simp at h
  simp only[this,if_false];exact h
 have hkeep:∀st:St,Cc w w C.sh C.sh σ (fun T u=>if T=M.length/\u=0 then some st else σ T u):=fun st=>⟨fun _ _=>rfl,fun _ h=>h,fun T u s h=> .inl (keep st T u s h)⟩
 have hmem:∀(xs:List AV) (st:St) (own' :Nat->Option Nat),(∀g T,own g=some T->own' g=some T)->(∃fp',BR w C.sh (fun T u=>if T=M.length/\u=0 then some st else σ T u) M.length (.live 0 xs) fp' /\∀g,fp' g<=if own' g=some M.length then 1 else 0)->
  B8 w C.sh (fun T u=>if T=M.length/\u=0 then some st else σ T u) own' (M++[.live 0 xs]):=by
  intro xs st own' ho hB
  refine⟨fun T B hM=>?_,fun T u hT=>?_⟩
  .by_cases hT:T<M.length
   .rw[List.getElem?_append_left hT] at hM
    obtain⟨fpT,b1,b2⟩:=R.mem.blk T B hM
    refine⟨fpT,EB (hkeep st) (fun _ _=>rfl) (fun u=>?_) b1,fun g=>?_⟩
    .have:¬(T=M.length/\u=0):=by omega
     simp only[this,if_false]
    .have e:=b2 g
     split at e
     .rename_i eg
      rw[if_pos (ho g T eg)];exact e
     .omega
   .rw[List.getElem?_append_right (by omega)] at hM
    have:T=M.length:=by
     rcases Nat.lt_or_ge (T-M.length) 1 with h|h
     .omega
     .rw[List.getElem?_eq_none (by simpa using h)] at hM;simp at hM
    subst this
    simp at hM;subst hM;exact hB
  .simp at hT
   have:¬(T=M.length/\u=0):=by omega
   simp only[this,if_false]
   exact R.mem.key T u (by omega)
 have hver:∀(st:St) (v' :Nat),0<v' ->(fun T u=>if T=M.length/\u=0 then some st else σ T u) M.length v' =none:=fun st v' hv' =>by
  have:¬v' =0:=by omega
  simp only[this,and_false,if_false];exact R.mem.key _ _ (Nat.le_refl _)
 cases x with
 |own s n xs=>
  simp only[JF]
  simp only[VR] at hx
  rcases hx with⟨⟨ad,e⟩,rfl,rfl,h0⟩ | ⟨hh,b,c,cur,e',fp',e,hn,hc,hl,hheap,hsz,hv,hff⟩
  .refine⟨_,own,⟨R.size,R.dfr,fun t ht=>VR.later (hkeep .nil) _ _ _ (fun _ _=>rfl) (R.tmp t ht),hmem _ .nil own (fun g T h=>h) ⟨fun _=>0,⟨hver .nil,.inl ⟨by simp,rfl,fun _=>rfl⟩⟩,fun _=>Nat.zero_le _⟩,R.shr,R.ext,R.keyl (hkeep .nil)⟩,⟨fun _=>rfl,⟨ad,0,e⟩,.nil,by simp,fun _=>⟨⟨ad,e⟩,rfl,rfl⟩,fun _ _ _ e=>by cases e⟩,fun _ _=>rfl,keep .nil⟩
  .let own' :Nat->Option Nat:=fun g=>if fp g≠0 then some M.length else own g
   have ho:∀g T,own g=some T->own' g=some T:=fun g T h=>by
    have:fp g=0:=by
     rcases Nat.eq_zero_or_pos (fp g) with h0|h0
     .exact h0
     .rw[(hfp g (by omega)).1] at h;simp at h
    simp only[own',this,ne_eq,not_true_eq_false,if_false];exact h
   refine⟨_,own',⟨R.size,R.dfr,fun t ht=>VR.later (hkeep (.loc hh b cur.size)) _ _ _ (fun _ _=>rfl) (R.tmp t ht),hmem xs (.loc hh b cur.size) own' ho ⟨fp,⟨hver _,.inr ⟨hh,b,cur,e',fp',by simp,hheap,?_,?_,hff⟩⟩,fun g=>?_⟩,fun g hg=>?_,?_,R.keyl (hkeep _)⟩,⟨fun _=>rfl,⟨_,c,e⟩,.loc hh b cur.size,by simp,(fun e=>by cases e),fun h' b' sz' e2=>?_⟩,fun g hg=>by simp only[own',hg,ne_eq,not_true_eq_false,if_false],keep _⟩
   .have:n*s<=c*s:=Nat.mul_le_mul_right _ hn
    rw[hl];omega
   .rw[hl];exact Au.up _ hv
   .by_cases h0:fp g=0
    .rw[h0];exact Nat.zero_le _
    .rw[if_pos (by simp only[own',h0,ne_eq,not_false_eq_true,if_true])];exact h1 g
   .have h2:=R.shr g hg
    have:fp g=0:=by
     rcases Nat.eq_zero_or_pos (fp g) with h0|h0
     .exact h0
     .exact absurd hg (hfp g (by omega)).2.1
    simp only[own',this,ne_eq,not_true_eq_false,if_false];exact h2
   .refine⟨R.ext.os,R.ext.tape,R.ext.output,R.ext.size,R.ext.block,fun g hg=>?_⟩
    by_cases h0:fp g=0
    .simp only[own',h0,ne_eq,not_true_eq_false,if_false] at hg;exact R.ext.own g hg
    .exact(hfp g h0).2.2
   .cases e2
    exact⟨⟨hh,b,none⟩,c,e,fun _=>rfl,hn,hc,by omega⟩
 |optr xs=>
  simp only[JF]
  simp only[VR] at hx
  obtain⟨hh,b,cur,e',fp',e,hheap,hsz,hv,hff⟩:=hx
  let own' :Nat->Option Nat:=fun g=>if fp g≠0 then some M.length else own g
  have ho:∀g T,own g=some T->own' g=some T:=fun g T h=>by
   have:fp g=0:=by
    rcases Nat.eq_zero_or_pos (fp g) with h0|h0
    .exact h0
    .rw[(hfp g (by omega)).1] at h;simp at h
   simp only[own',this,ne_eq,not_true_eq_false,if_false];exact h
  refine⟨_,own',⟨R.size,R.dfr,fun t ht=>VR.later (hkeep (.loc hh b cur.size)) _ _ _ (fun _ _=>rfl) (R.tmp t ht),hmem xs (.loc hh b cur.size) own' ho ⟨fp,⟨hver _,.inr ⟨hh,b,cur,e',fp',by simp,hheap,hsz,Au.up _ hv,hff⟩⟩,fun g=>?_⟩,fun g hg=>?_,?_,R.keyl (hkeep _)⟩,⟨fun _=>rfl,⟨_,e⟩,.loc hh b cur.size,by simp,(fun e=>by cases e),fun h' b' sz' e2=>?_⟩,fun g hg=>by simp only[own',hg,ne_eq,not_true_eq_false,if_false],keep _⟩
  .by_cases h0:fp g=0
   .rw[h0];exact Nat.zero_le _
   .rw[if_pos (by simp only[own',h0,ne_eq,not_false_eq_true,if_true])];exact h1 g
  .have h2:=R.shr g hg
   have:fp g=0:=by
    rcases Nat.eq_zero_or_pos (fp g) with h0|h0
    .exact h0
    .exact absurd hg (hfp g (by omega)).2.1
   simp only[own',this,ne_eq,not_true_eq_false,if_false];exact h2
  .refine⟨R.ext.os,R.ext.tape,R.ext.output,R.ext.size,R.ext.block,fun g hg=>?_⟩
   by_cases h0:fp g=0
   .simp only[own',h0,ne_eq,not_true_eq_false,if_false] at hg;exact R.ext.own g hg
   .exact(hfp g h0).2.2
  .cases e2;exact e
 |any=>exact plain _ rfl hx hx
 |bool=>exact plain _ rfl hx hx.2
 |int=>exact plain _ rfl hx hx.2
 |str=>exact plain _ rfl hx hx.2
 |nilp=>exact plain _ rfl hx hx.2
 |ro=>exact plain _ rfl hx (by simp only[VR] at hx;exact hx.1)
 |tok=>exact plain _ rfl hx (by simp only[VR] at hx;exact hx.1)
 |ptr=>exact plain _ rfl hx (by simp only[VR] at hx;exact hx.1)
 |rptr=>exact plain _ rfl hx (by simp only[VR] at hx;exact hx.1)
 |fn=>exact plain _ rfl hx (by simp only[VR] at hx;exact hx.1)
 |agg=>exact⟨σ,own,by simpa[JF] using R,fun _=>rfl,fun _ _=>rfl,fun _ _ _ h=>h⟩
 |tup=>exact⟨σ,own,by simpa[JF] using R,fun _=>rfl,fun _ _=>rfl,fun _ _ _ h=>h⟩
theorem Pw {f:Nat->AV->AV×List Ag} (hf:RS f):∀(xs:List AV) (C:Bm) (F:Fr) (M:List Ag) (a:Act) (w:World) (σ:Nat->Nat->Option St) (own:Nat->Option Nat) (vs:List Value) (fp:Nat->Nat),AK C F M a w σ own->Au w C.sh σ0 xs vs fp->
 (∀g,fp g<=1)->(∀g,fp g≠0->own g=none/\¬C.sh g/\(C.own0 g≠none\/C.w0.heap.size<=g))->
 ∃σ' own',AK C F (M++(Kh f M.length xs).2) a w σ' own' /\Au w C.sh σ' (Kh f M.length xs).1 vs (fun _=>0)/\(∀g,fp g=0->own' g=own g)/\∀T u st,σ T u=some st->σ' T u=some st
 | [],C,F,M,a,w,σ,own,vs,fp,R,hx,_,_=>⟨σ,own,by simpa[Kh] using R,⟨hx.1,fun _=>rfl⟩,fun _ _=>rfl,fun _ _ _ h=>h⟩
 |x::xs,C,F,M,a,w,σ,own,vs,fp,R,hx,h1,hfp=>by
  simp only[Au] at hx
  obtain⟨v,rest,f1,f2,rfl,hx1,hx2,hff⟩:=hx
  obtain⟨σ1,own1,R1,r1,o1,k1⟩:=hf C F M a w σ own x v f1 R hx1 (fun g=>by have:=h1 g;have:=hff g;omega) (fun g hg=>hfp g (by have:=hff g;omega))
  have hl:(M++(f M.length x).2).length=M.length+(f M.length x).2.length:=by simp
  obtain⟨σ2,own2,R2,r2,o2,k2⟩:=Pw hf xs C F (M++(f M.length x).2) a w σ1 own1 rest f2 R1 hx2 (fun g=>by have:=h1 g;have:=hff g;omega) (fun g hg=>by
   have e1:=h1 g;have e2:=hff g
   rw[o1 g (by omega)]
   exact hfp g (by omega))
  rw[hl] at R2 r2
  refine⟨σ2,own2,by simpa[Kh,List.append_assoc] using R2,⟨v,rest,_,_,rfl,VR.later ⟨fun _ _=>rfl,fun _ h=>h,fun T u st h=> .inl (k2 T u st h)⟩ _ _ _ (fun _ _=>rfl) r1,r2,fun _=>rfl⟩,fun g hg=>?_,fun T u st h=>k2 T u st (k1 T u st h)⟩
  have e2:=hff g
  rw[o2 g (by omega),o1 g (by omega)]
theorem TQ:RS Q3:=by
 intro C F M a w σ own x v fp R hx h1 hfp
 unfold Q3
 split
 .simp only[VR] at hx
  obtain⟨cs,e,hv⟩:=hx
  obtain⟨σ',own',R',r,o,k⟩:=Pw TP _ C F M a w σ own _ fp R hv h1 hfp
  exact⟨σ',own',R',⟨cs,e,r⟩,o,k⟩
 .exact TP C F M a w σ own x v fp R hx h1 hfp
theorem TR:RS D3:=by
 intro C F M a w σ own x v fp R hx h1 hfp
 unfold D3
 split
 .simp only[VR] at hx
  obtain⟨cs,e,hv⟩:=hx
  obtain⟨σ',own',R',r,o,k⟩:=Pw TQ _ C F M a w σ own _ fp R hv h1 hfp
  exact⟨σ',own',R',⟨cs,e,r⟩,o,k⟩
 .exact TQ C F M a w σ own x v fp R hx h1 hfp
section
variable {P:Program} {f:Nat} {M:List Ag} {args cargs:List AV} {K:AV->List Ag->Prop} {Q:AV->List Ag->Prop}
theorem Gw (w:World) (sh:Nat->Prop):B8 w sh σ0 (fun _=>none) []:=⟨fun T B h=>by simp at h,fun _ _ _=>rfl⟩
theorem Ki {C:Bm} {F:Fr} {a:Act} {w:World} {σ:Nat->Nat->Option St} {own:Nat->Option Nat} (R:AK C F M a w σ own) {w' :World} {own' :Nat->Option Nat} (he:Ft w w' (fun _=>none) own') {r:AV} {v:Value} {fpr:Nat->Nat} (hr:VR w' C.sh σ0 r v fpr)
 (hf:∀g,fpr g<=if own' g=some 0 then 1 else 0):∃σ2 own2,AK C F (M++(D3 M.length r).2) a w' σ2 own2/\VR w' C.sh σ2 (D3 M.length r).1 v (fun _=>0):=by
 have hnew:∀g,fpr g≠0->w.heap.size<=g:=fun g hg=>by
  have:=hf g
  split at this
  .rename_i e
   rcases he.own g (by rw[e];simp) with h|h
   .exact absurd rfl h
   .exact h
  .omega
 let own1:Nat->Option Nat:=fun g=>if g<w.heap.size then own g else none
 have hblk:∀g,g<w.heap.size->w'.heap[g]?=w.heap[g]?:=fun g hg=>he.block g hg rfl
 have L:Cc w w' C.sh C.sh σ σ:=⟨fun g hg=>hblk g (R.shr g hg).2,fun _ h=>h,fun _ _ _ h=> .inl h⟩
 have R1:AK C F M a w' σ own1:=by
  refine⟨R.size,R.dfr,fun t ht=>VR.later L _ _ _ (fun _ h=>absurd rfl h) (R.tmp t ht),⟨fun T B hM=>?_,R.mem.key⟩,fun g hg=>?_,?_,R.key0⟩
  .obtain⟨fp,b1,b2⟩:=R.mem.blk T B hM
   have hlt:∀g,fp g≠0->g<w.heap.size:=fun g hg=>Mo b1 g hg
   refine⟨fp,EB L (fun g hg=>hblk g (hlt g hg)) (fun _=>rfl) b1,fun g=>?_⟩
   by_cases h0:fp g=0
   .rw[h0];exact Nat.zero_le _
   .have:=b2 g
    simp only[own1,hlt g h0,if_true];exact this
  .have h1:=R.shr g hg
   have:=he.size
   simp only[own1,h1.2,if_true];exact⟨h1.1,by omega⟩
  .refine R.ext.trans ⟨he.os,he.tape,he.output,he.size,fun g hg _=>hblk g hg,fun g hg=> .inl ?_⟩
   simp only[own1] at hg
   split at hg
   .exact hg
   .exact absurd rfl hg
 obtain⟨σ2,own2,R2,r2,_,_⟩:=TR C F M a w' σ own1 r v fpr R1 hr (fun g=>by have:=hf g;split at this<;>omega) (fun g hg=>by
  have h1:=hnew g hg
  refine⟨by simp only[own1];rw[if_neg (by omega)],fun hs=>?_,?_⟩
  .have:=(R.shr g hs).2;omega
  .exact .inr (by have:=R.ext.size;omega))
 exact⟨σ2,own2,R2,r2⟩
def Bo (M:List Ag):List Nat->List Ag
 | []=>M
 |T::Ts=>(Bo M Ts).set T .dead
theorem B8.hide {w:World} {sh:Nat->Prop} {σ:Nat->Nat->Option St} {own:Nat->Option Nat} {M:List Ag} (m:B8 w sh σ own M):∀D:List Nat,B8 w sh σ own (Bo M D)
 | []=>m
 |T::D=>by
  have m1:=B8.hide m D
  refine⟨fun T' B hB=>?_,fun T' v h=>m1.key T' v (by simpa[Bo] using h)⟩
  simp only[Bo] at hB
  by_cases e:T=T'
  .subst e
   rcases Nat.lt_or_ge T (Bo M D).length with hl|hl
   .rw[List.getElem?_set_self hl] at hB
    simp at hB;subst hB
    exact⟨fun _=>0,fun _=>rfl,fun _=>Nat.zero_le _⟩
   .rw[List.getElem?_eq_none (by simpa using hl)] at hB;simp at hB
  .rw[List.getElem?_set_ne e] at hB
   exact m1.blk T' B hB
theorem Ab.borH (D:List Nat) (spec:Aa P f cargs [] Q) (hargs:args.map (vw (Bo M D))=cargs) (hk:∀r,Q r []->F9 r=true/\K (D3 M.length r).1 (M++(D3 M.length r).2)):Ab P f args M K:=by
 intro C hC
 subst hC
 refine⟨spec.1,fun F a w σ own vals R hv=>?_⟩
 have hv' :Au w (fun g=>C.sh g\/(own g≠none/\g<w.heap.size)) σ0 cargs vals.toList (fun _=>0):=by
  rw[<-hargs]
  have:=Fk (w:=w) (sh:=C.sh) (shB:=fun g=>C.sh g\/(own g≠none/\g<w.heap.size)) (σ:=σ) (τ:=σ0) (f:=vw (Bo M D)) (p:=fun fp=>∀g,fp g=0) (fun a b c hc e=>⟨fun g=>by have:=e g;have:=hc g;omega,fun g=>by have:=e g;have:=hc g;omega⟩) (fun x v fp h hf=>by
   have:fp=fun _=>0:=funext hf
   subst this
   exact RQ (R.mem.hide D) (fun g hg=> .inl hg) (fun g hg hlt=> .inr ⟨hg,hlt⟩) h)
  exact this _ _ _ hv (fun _=>rfl)
 refine(spec.2 w _ σ0 (fun _=>none) vals hv' (Gw _ _) (fun g hg=>⟨rfl,?_⟩)).mono ?_
 .rcases hg with hg|hg
  .exact(R.shr g hg).2
  .exact hg.2
 .rintro e w' ⟨r,v,M',σ',own',fpr,rfl,hq,hl,hr,hf,hm,_,he,_⟩
  have:M' =[]:=List.eq_nil_of_length_eq_zero (by simpa using hl)
  subst this
  obtain⟨h1,h2⟩:=hk r hq
  have hσ:σ' =σ0:=by funext T u;exact hm.key T u (Nat.zero_le _)
  subst hσ
  obtain⟨σ2,own2,R2,r2⟩:=Ki R he (Mw r v fpr h1 hr) hf
  exact⟨_,v,_,σ2,own2,rfl,h2,R2,r2⟩
theorem Ab.bor (spec:Aa P f cargs [] Q) (hargs:args.map (vw M)=cargs) (hk:∀r,Q r []->F9 r=true/\K (D3 M.length r).1 (M++(D3 M.length r).2)):Ab P f args M K:=Ab.borH [] spec hargs hk
theorem Ab.ro (spec:Aa P f cargs [] Q) (hargs:args.map NZ=cargs) (hk:∀r,Q r []->K (D3 M.length r).1 (M++(D3 M.length r).2)):Ab P f args M K:=by
 intro C hC
 subst hC
 refine⟨spec.1,fun F a w σ own vals R hv=>?_⟩
 have hv' :Au w C.sh σ0 cargs vals.toList (fun _=>0):=by
  rw[<-hargs]
  have:=Fk (w:=w) (sh:=C.sh) (shB:=C.sh) (σ:=σ) (τ:=σ0) (f:=NZ) (p:=fun fp=>∀g,fp g=0) (fun a b c hc e=>⟨fun g=>by have:=e g;have:=hc g;omega,fun g=>by have:=e g;have:=hc g;omega⟩) (fun x v fp h hf=>by
   have:fp=fun _=>0:=funext hf
   subst this
   exact Zt h)
  exact this _ _ _ hv (fun _=>rfl)
 refine(spec.2 w _ σ0 (fun _=>none) vals hv' (Gw _ _) (fun g hg=>⟨rfl,(R.shr g hg).2⟩)).mono ?_
 rintro e w' ⟨r,v,M',σ',own',fpr,rfl,hq,hl,hr,hf,hm,_,he,_⟩
 have:M' =[]:=List.eq_nil_of_length_eq_zero (by simpa using hl)
 subst this
 have hσ:σ' =σ0:=by funext T u;exact hm.key T u (Nat.zero_le _)
 subst hσ
 obtain⟨σ2,own2,R2,r2⟩:=Ki R he hr hf
 exact⟨_,v,_,σ2,own2,rfl,hk r hq,R2,r2⟩
end
def F0:Fr:=fun _=> .any
def condK (v:AV) (K1 K2:Prop):Prop:=match v with| .bool b=>(b=true->K1)/\(b=false->K2) |_=>False
section
variable {P:Program} {T:Nat->Option TI} {p:Nat} {F:Fr} {M:List Ag} {Q:Cl}
theorem W.regK {id:Nat} {l:List Oper} (h:∀K:Fr->List Ag->Prop,(∀F M,Q .normal F M->K F M)->Ak T (Ab P) l.toArray l M.length F (M++List.replicate (Bb l) .free) K):W P T p (.region id l.toArray false) F M Q:=
 W.region (h _ fun _ _ h=>h)
theorem W.condK {t:Nat} {x y:Code} (h:∀K1 K2:Prop,(W P T p x F M Q->K1)->(W P T p y F M Q->K2)->condK (F t) K1 K2):W P T p (.cond (.tmp t) x y) F M Q:=by
 have h1:=h _ _ id id
 unfold Abs.condK at h1
 split at h1
 .rename_i b hb;exact W.cond hb h1.1 h1.2
 .exact h1.elim
end
theorem Ay (a:AV):DT [a]=Bg F0 0 a:=by funext t;cases t<;>simp[DT,Bg,F0]
theorem At (a b:AV):DT [a,b]=Bg (Bg F0 0 a) 1 b:=by
 funext t;rcases t with _|_|t<;>simp[DT,Bg,F0]
theorem Bl (a b c:AV):DT [a,b,c]=Bg (Bg (Bg F0 0 a) 1 b) 2 c:=by
 funext t;rcases t with _|_|_|t<;>simp[DT,Bg,F0]
theorem IB (a b c d:AV):DT [a,b,c,d]=Bg (Bg (Bg (Bg F0 0 a) 1 b) 2 c) 3 d:=by
 funext t;rcases t with _|_|_|_|t<;>simp[DT,Bg,F0]
section
variable {T:Nat->Option TI} {call:D1} {ops:Array Oper} {rest:List Oper} {d:Option Nat} {op:Op} {ty s:Nat} {pos:String} {af:Array Edge} {F:Fr} {M:List Ag} {K:Fr->List Ag->Prop} {o:Oper} {g:Option (Nat×Bool)}
theorem Vp:Ak T call ops [] s F M K=K F M:=rfl
end
def EJ:AV->Option (Nat×Nat)
 | .tok T v _ _ _=>some (T,v)
 | .ptr T v _=>some (T,v)
 |_=>none
def AE:Op->Nat
 | .binOp .eql _ _ (.const (.slice none 0 0)) _=>6
 | .binOp .neq _ _ (.const (.slice none 0 0)) _=>6
 | .move _| .assign _| .pick .. | .binOp .. | .unOp .. | .field .. | .index .. | .extract .. | .build .. =>0
 | .makeFunc (.func _) _ _=>0
 | .alloc _| .box .. | .makeSlice .. | .buildSlice .. =>0
 | .call {callee:= .builtin .len,.. } | .call {callee:= .builtin .min,.. } | .call {callee:= .builtin .max,.. }=>0
 | .fieldAddr .. | .indexAddr .. | .slice .. | .nilCheck _=>1
 | .load .. | .convert .. =>2
 | .call {callee:= .value _,.. }=>3
 | .store .. =>4
 | .call {callee:= .builtin .append,.. }=>5
 |_=>6
def BO (M:List Ag) (s:Nat):Option Ag->List Ag
 |some b=>M.set s b
 |none=>M
def E3 (T:Nat->Option TI) (o:Oper) (s:Nat) (F:Fr) (M:List Ag) (v:AV) (b:Option Ag):Prop:=
 match o.op with
 | .alloc t=>∃i,T t=some i/\M[s]?=some .free/\v= .ptr s 0 0/\b=some (.live 0 i.zero)
 | .box t x=>∃i cs,T t=some i/\IL i (ev F x)=some cs/\M[s]?=some .free/\v= .ptr s 0 0/\b=some (.live 0 cs)
 | .makeSlice t l c=>∃e es eb ez k n k',Ar T t= .slice e es eb ez/\ev F l= .int k n/\ev F c= .int k' n/\M[s]?=some .free/\0<=n/\n*eb<=140737488355328/\n<=maxLen/\v= .tok s 0 es 0 n.toNat/\b=some (.live 0 (CP n.toNat ez))
 | .buildSlice t len An=>∃e es eb ez cs,Ar T t= .slice e es eb ez/\HP (Wi es) (CP len ez) (An.toList.map fun p=>(p.1,ev F p.2))=some cs/\M[s]?=some .free/\len*es<=16777216/\0<es/\v= .tok s 0 es 0 len/\b=some (.live 0 cs)
 |_=>b=none/\pv T M F o=some v
section
variable {T:Nat->Option TI} {call:D1} {o:Oper} {s:Nat} {F:Fr} {M:List Ag} {K:Fr->List Ag->Prop}
theorem OG (hc:AE o.op<=2):CU T call o s F M K↔∃v b,E3 T o s F M v b/\K (Al F o.dst v) (BO M s b):=by
 unfold CU E3
 split
 .rename_i t hop
  simp only[hop,Ht]
  constructor
  .intro h
   split at h
   .rename_i i hi;exact⟨_,_,⟨i,hi,h.1,rfl,rfl⟩,h.2⟩
   .exact h.elim
  .rintro⟨v,b,⟨i,hi,hf,rfl,rfl⟩,h⟩
   rw[hi];exact⟨hf,h⟩
 .rename_i t x hop
  simp only[hop,Ht,Hl]
  constructor
  .intro h
   split at h
   .rename_i i hi
    split at h
    .rename_i cs hcs;exact⟨_,_,⟨i,cs,hi,hcs,h.1,rfl,rfl⟩,h.2⟩
    .exact h.elim
   .exact h.elim
  .rintro⟨v,b,⟨i,cs,hi,hcs,hf,rfl,rfl⟩,h⟩
   rw[hi];simp only[hcs];exact⟨hf,h⟩
 .rename_i t l c hop
  simp only[hop,Mp]
  constructor
  .intro h
   split at h
   .rename_i e es eb ez k n k' m h1 h2 h3
    obtain⟨hf,h0,rfl,hb,hm,h⟩:=h
    exact⟨_,_,⟨e,es,eb,ez,k,n,k',h1,h2,h3,hf,h0,hb,hm,rfl,rfl⟩,h⟩
   .exact h.elim
  .rintro⟨v,b,⟨e,es,eb,ez,k,n,k',h1,h2,h3,hf,h0,hb,hm,rfl,rfl⟩,h⟩
   rw[h1,h2,h3];exact⟨hf,h0,rfl,hb,hm,h⟩
 .rename_i t len An hop
  simp only[hop,Mq,Hl]
  constructor
  .intro h
   split at h
   .rename_i e es eb ez h1
    split at h
    .rename_i cs hcs
     obtain⟨hf,h24,hes,h⟩:=h
     exact⟨_,_,⟨e,es,eb,ez,cs,h1,hcs,hf,h24,hes,rfl,rfl⟩,h⟩
    .exact h.elim
   .exact h.elim
  .rintro⟨v,b,⟨e,es,eb,ez,cs,h1,hcs,hf,h24,hes,rfl,rfl⟩,h⟩
   rw[h1];simp only[hcs];exact⟨hf,h24,hes,h⟩
 .rename_i hop;simp[hop,AE] at hc
 .rename_i hop;simp[hop,AE] at hc
 .rename_i hop;simp[hop,AE] at hc
 .rename_i hop;simp[hop,AE] at hc
 .rename_i hop;simp[hop,AE] at hc
 .rename_i h1 h2 h3 h4 h5 h6 h7 h8 h9
  have hD:∀v b,E3 T o s F M v b↔(b=none/\pv T M F o=some v):=by
   intro v b
   unfold E3
   split
   .rename_i hop;exact absurd hop (h1 _)
   .rename_i hop;exact absurd hop (h2 _ _)
   .rename_i hop;exact absurd hop (h3 _ _ _)
   .rename_i hop;exact absurd hop (h4 _ _ _)
   .exact Iff.rfl
  constructor
  .intro h
   unfold Hs at h
   split at h
   .rename_i v hv;exact⟨v,none,(hD _ _).2 ⟨rfl,hv⟩,h⟩
   .exact h.elim
  .rintro⟨v,b,hd,h⟩
   obtain⟨rfl,hv⟩:=(hD _ _).1 hd
   unfold Hs;rw[hv];exact h
theorem E3.unique {v v' :AV} {b b' :Option Ag} (h:E3 T o s F M v b) (h' :E3 T o s F M v' b'):v=v' /\b=b' :=by
 unfold E3 at h h'
 split at h<;>(rename_i hop;try simp only[hop] at h')
 .obtain⟨i,hi,_,rfl,rfl⟩:=h
  obtain⟨i',hi',_,rfl,rfl⟩:=h'
  rw[hi] at hi';simp at hi';subst hi';exact⟨rfl,rfl⟩
 .obtain⟨i,cs,hi,hc,_,rfl,rfl⟩:=h
  obtain⟨i',cs',hi',hc',_,rfl,rfl⟩:=h'
  rw[hi] at hi';simp at hi';subst hi'
  rw[hc] at hc';simp at hc';subst hc';exact⟨rfl,rfl⟩
 .obtain⟨e,es,eb,ez,k,n,k',h1,h2,h3,_,_,_,_,rfl,rfl⟩:=h
  obtain⟨e,es,eb,ez,k,n,k',g1,g2,g3,_,_,_,_,rfl,rfl⟩:=h'
  rw[h1] at g1;rw[h2] at g2;simp at g1 g2
  obtain⟨_,rfl,_,rfl⟩:=g1
  obtain⟨_,rfl⟩:=g2
  exact⟨rfl,rfl⟩
 .obtain⟨e,es,eb,ez,cs,h1,h2,_,_,_,rfl,rfl⟩:=h
  obtain⟨e,es,eb,ez,cs',g1,g2,_,_,_,rfl,rfl⟩:=h'
  rw[h1] at g1;simp at g1
  obtain⟨_,rfl,_,rfl⟩:=g1
  rw[h2] at g2;simp at g2;subst g2
  exact⟨rfl,rfl⟩
 .have hd:b' =none/\pv T M F o=some v' :=by
   exact h'
  obtain⟨rfl,h1⟩:=h
  obtain⟨rfl,h2⟩:=hd
  rw[h1] at h2;simp at h2
  exact⟨h2,rfl⟩
theorem Kk {F F' :Fr} {xs:Array Operand} (h:∀x∈xs,ev F' x=ev F x):JQ F' xs=JQ F xs:=by
 unfold JQ
 exact List.map_congr_left fun x hx=>h x (by simpa using hx)
theorem Ed {F F' :Fr} (h:∀x∈o.op.operands,ev F' x=ev F x):pv T M F' o=pv T M F o:=by
 unfold pv
 split<;>(rename_i hop;try simp only[hop,Op.operands] at h)
 all_goals first
  |rfl
  | (simp_all;done)
  |skip
 .rename_i t x lo hi mx
  have e1:lo.map (ev F')=lo.map (ev F):=by cases lo<;>simp_all
  have e2:hi.map (ev F')=hi.map (ev F):=by cases hi<;>simp_all
  have e3:mx.map (ev F')=mx.map (ev F):=by cases mx<;>simp_all
  rw[e1,e2,e3,h x (by simp)]
 .rename_i f first caps
  rw[Kk (F:=F) (F' :=F') fun x hx=>h x (by simp[hx])]
 .rename_i t An
  congr 1
  refine List.map_congr_left fun p hp=>?_
  rw[h p.2 (by simp only[List.mem_toArray,List.mem_map];exact⟨p,hp,rfl⟩)]
 .rename_i args ts
  have hm:∀x∈args,ev F' x=ev F x:=fun x hx=>h x (by simp[Call.operands,hx])
  split
  .rename_i x t hx _;rw[hm x (by rw[<-Array.mem_toList_iff,hx];simp)]
  .rfl
 .rename_i args ts
  have hm:∀x∈args,ev F' x=ev F x:=fun x hx=>h x (by simp[Call.operands,hx])
  split
  .rename_i x y hx;rw[hm x (by rw[<-Array.mem_toList_iff,hx];simp),hm y (by rw[<-Array.mem_toList_iff,hx];simp)]
  .rfl
 .rename_i args ts
  have hm:∀x∈args,ev F' x=ev F x:=fun x hx=>h x (by simp[Call.operands,hx])
  split
  .rename_i x y hx;rw[hm x (by rw[<-Array.mem_toList_iff,hx];simp),hm y (by rw[<-Array.mem_toList_iff,hx];simp)]
  .rfl
theorem RT {M' :List Ag} (hc:AE o.op=0):pv T M' F o=pv T M F o:=by
 unfold pv
 split<;>(rename_i hop;try simp only[hop,AE] at hc)<;>first|rfl| (exact absurd hc (by decide)) |skip
theorem Vq {M' :List Ag} {t f:Nat} {x:AV} (h:∀B v,(Aj M' B v).isSome=(Aj M B v).isSome):JL T M' t x f=JL T M t x f:=by
 unfold JL
 split<;>try rfl
 split<;>try rfl
 split<;>simp_all
theorem Vr {M' :List Ag} {t:Nat} {x i:AV} (h:∀B v,(Aj M' B v).isSome=(Aj M B v).isSome):JM T M' t x i=JM T M t x i:=by
 unfold JM
 split<;>try rfl
 .split<;>try rfl
  simp[h]
 .split<;>try rfl
  simp[h]
theorem Vs {M' :List Ag} {t:Nat} {x:AV} {lo hi mx:Option AV} (h:∀B v,(Aj M' B v).isSome=(Aj M B v).isSome):Jy T M' t x lo hi mx=Jy T M t x lo hi mx:=by
 unfold Jy
 split<;>try rfl
 split<;>try rfl
 split<;>try rfl
 simp[h]
theorem TS {M' :List Ag} {x:AV} (h:∀B v,(Aj M' B v).isSome=(Aj M B v).isSome):If M' x=If M x:=by
 unfold If
 split<;>simp_all
theorem RU {M' :List Ag} (hc:AE o.op<=1) (h:∀B v,(Aj M' B v).isSome=(Aj M B v).isSome):pv T M' F o=pv T M F o:=by
 unfold pv
 split<;>(rename_i hop;try simp only[hop,AE] at hc)<;>first|rfl| (exact absurd hc (by decide)) |skip
 .exact Vq h
 .exact Vr h
 .exact Vs h
 .exact TS h
theorem TT {M' :List Ag} (h:∀B v cs,Aj M B v=some cs->Aj M' B v=some cs) {x:AV} {q:Nat×List AV} (hq:CZ M x=some q):CZ M' x=some q:=by
 unfold CZ at hq |-
 split at hq
 .exact hq
 .exact hq
 .split at hq
  .rename_i cs hcs
   simp only[h _ _ _ hcs];exact hq
  .simp at hq
 .simp at hq
theorem RV {M' :List Ag} (h:∀B v cs,Aj M B v=some cs->Aj M' B v=some cs) {r:AV} (hp:pv T M F o=some r):pv T M' F o=some r:=by
 have hs:∀B v,(Aj M B v).isSome=true->(Aj M' B v).isSome=true:=fun B v hb=>by
  obtain⟨cs,hcs⟩:=Option.isSome_iff_exists.1 hb
  rw[h B v cs hcs];rfl
 unfold pv at hp |-
 split at hp<;>(rename_i hop;try simp only[hop])<;>try exact hp
 .unfold KZ at hp |-
  split at hp
  .simp at hp
  .rename_i i hi
   split at hp
   .rename_i cs hcs
    split at hcs
    .rename_i B v off hx
     split at hcs
     .rename_i bs hbs
      simp only[h B v bs hbs,hcs];exact hp
     .simp at hcs
    .simp only[hcs];exact hp
    .simp at hcs
   .simp at hp
 .unfold JL at hp |-
  split at hp
  .split at hp
   .split at hp
    .split at hp
     .rename_i hb;simp only[hs _ _ hb];exact hp
     .simp at hp
    .exact hp
    .simp at hp
   .simp at hp
  .simp at hp
 .unfold JM at hp |-
  split at hp
  .split at hp
   .exact hp
   .split at hp
    .split at hp
     .rename_i hk hb;simp only[hk,hs _ _ hb];simpa using hp
     .simp at hp
    .simp at hp
   .simp at hp
  .split at hp
   .split at hp
    .split at hp
     .rename_i hk hb;simp only[hk,hs _ _ hb];simpa using hp
     .simp at hp
    .simp at hp
   .exact hp
   .simp at hp
  .simp at hp
 .unfold JP at hp |-
  split at hp
  .split at hp
   .split at hp
    .rename_i q hq
     have:CZ M' _=some q:=TT h hq
     simp only[*]
    .simp at hp
   .simp at hp
  .exact hp
 .unfold Jy at hp |-
  split at hp
  .exact hp
  .split at hp
   .split at hp
    .exact hp
    .split at hp
     .rename_i hk;rw[if_pos ⟨hk.1,hs _ _ hk.2⟩];exact hp
     .simp at hp
    .exact hp
    .simp at hp
   .exact hp
  .simp at hp
 .unfold If at hp |-
  split at hp
  .split at hp
   .rename_i hb;simp only[hs _ _ hb];exact hp
   .simp at hp
  .exact hp
  .exact hp
  .simp at hp
theorem OH {M' :List Ag} (h:∀x∈o.op.operands,∀B v,EJ (ev F x)=some (B,v)->Aj M' B v=Aj M B v):pv T M' F o=pv T M F o:=by
 unfold pv
 split<;>(rename_i hop;try simp only[hop,Op.operands] at h)<;>try rfl
 .rename_i t x
  have hx:=h x (by simp)
  unfold KZ
  split<;>try rfl
  generalize ev F x=y at*
  cases y<;>try rfl
  simp only[hx _ _ rfl]
 .rename_i t x f
  have hx:=h x (by simp)
  unfold JL
  generalize ev F x=y at*
  cases y<;>try rfl
  simp only[hx _ _ rfl]
 .rename_i t x i
  have hx:=h x (by simp)
  unfold JM
  generalize ev F x=y at*
  cases y<;>try rfl
  .simp only[hx _ _ rfl]
  .simp only[hx _ _ rfl]
 .rename_i t t' x
  have hx:=h x (by simp)
  unfold JP CZ
  generalize ev F x=y at*
  cases y
  case tok=>simp only[hx _ _ rfl]
  case own s n xs=>cases n<;>cases xs<;>rfl
  all_goals rfl
 .rename_i t x lo hi mx
  have hx:=h x (by simp)
  unfold Jy
  generalize ev F x=y at*
  cases y<;>try rfl
  simp only[hx _ _ rfl]
 .rename_i x
  have hx:=h x (by simp)
  unfold If
  generalize ev F x=y at*
  cases y<;>try rfl
  simp only[hx _ _ rfl]
end
def Ga (ops:Array Oper) (F:Fr) (o:Oper):Option Bool:=
 match o.guard with
 |none=>some true
 |some (j,want)=>match (ops[j]?).bind (·.dst) with
  |some d=>match F d with
   | .bool b=>some (b==want)
   | .tup []=>some false
   |_=>none
  |none=>none
def B5 (T:Nat->Option TI) (call:D1) (ops:Array Oper) (sl:Nat->Nat) (i:Nat) (F:Fr) (M:List Ag) (K:Fr->List Ag->Prop):Prop:=
 match ops[i]? with
 |none=>K F M
 |some o=>match Ga ops F o with
  |some true=>CU T call o (sl i) F M K
  |some false=>K (Al F o.dst (.tup [])) M
  |none=>False
def B0 (T:Nat->Option TI) (call:D1) (ops:Array Oper) (sl:Nat->Nat):List Nat->Fr->List Ag->(Fr->List Ag->Prop)->Prop
 | [],F,M,K=>K F M
 |i::rest,F,M,K=>B5 T call ops sl i F M fun F' M' =>B0 T call ops sl rest F' M' K
def Ah (P:Program) (L:Bool):D1:=fun f args M K=>∃cargs Q,Aa P f cargs [] Q/\
 ((L=true/\(∃D,args.map (vw (Bo M D))=cargs)/\∀r,Q r []->F9 r=true/\K (D3 M.length r).1 (M++(D3 M.length r).2))\/(args.map NZ=cargs/\∀r,Q r []->K (D3 M.length r).1 (M++(D3 M.length r).2)))
theorem Ah.at {P:Program} {L:Bool} {C:Bm} (hC:C.P=P) {f:Nat} {args:List AV} {M:List Ag} {K:AV->List Ag->Prop} (h:Ah P L f args M K):DG C f args M K:=by
 obtain⟨cargs,Q,spec,h⟩:=h
 rcases h with⟨_,⟨D,h1⟩,h2⟩ | ⟨h1,h2⟩
 .exact Ab.borH D spec h1 h2 C hC
 .exact Ab.ro spec h1 h2 C hC
theorem Ah.mono {P:Program} {L:Bool} {f:Nat} {args:List AV} {M:List Ag} {K K' :AV->List Ag->Prop} (hk:∀r bs,K r (M++bs)->K' r (M++bs)) (h:Ah P L f args M K):Ah P L f args M K' :=by
 obtain⟨cargs,Q,spec,h⟩:=h
 rcases h with⟨hL,h1,h2⟩ | ⟨h1,h2⟩
 .exact⟨cargs,Q,spec,.inl ⟨hL,h1,fun r hr=>⟨(h2 r hr).1,hk _ _ (h2 r hr).2⟩⟩⟩
 .exact⟨cargs,Q,spec,.inr ⟨h1,fun r hr=>hk _ _ (h2 r hr)⟩⟩
theorem Ah.mem {P:Program} {f:Nat} {args:List AV} {M M' :List Ag} {K K' :AV->List Ag->Prop} (hl:M'.length=M.length) (hk:∀r bs,K r (M++bs)->K' r (M' ++bs)) (h:Ah P false f args M K):Ah P false f args M' K' :=by
 obtain⟨cargs,Q,spec,h⟩:=h
 rcases h with⟨hL,_⟩ | ⟨h1,h2⟩
 .simp at hL
 .exact⟨cargs,Q,spec,.inr ⟨h1,fun r hr=>by rw[hl];exact hk _ _ (h2 r hr)⟩⟩
theorem N0 {M M' :List Ag} (h:∀T v,Aj M T v=Aj M' T v):∀(d:Nat) (x:AV),CE M d x=CE M' d x
 |0,x=>by simp only[CE]
 |d+1,x=>by
  have e:CE M d=CE M' d:=funext fun y=>N0 h d y
  cases x<;>simp only[CE,h,e]
theorem Vt {M M' :List Ag} (h:∀T v,Aj M T v=Aj M' T v):vw M=vw M' :=by
 have e:CE M 3=CE M' 3:=funext fun y=>N0 h 3 y
 funext x
 unfold vw
 rw[e]
theorem Nk (M:List Ag):∀D,(Bo M D).length=M.length
 | []=>rfl
 |T::D=>by simp[Bo,Nk M D]
theorem Q4 {M:List Ag} {s T:Nat} (z:Ag) (h:s≠T):∀D,(Bo (M.set s z) D)[T]?=(Bo M D)[T]?
 | []=>by simp only[Bo];rw[List.getElem?_set_ne h]
 |U::D=>by
  simp only[Bo]
  by_cases e:U=T
  .subst e
   rw[List.getElem?_set,List.getElem?_set];simp[Nk]
  .rw[List.getElem?_set_ne e,List.getElem?_set_ne e,Q4 z h D]
theorem LF {M:List Ag} {s:Nat} (h:M[s]?=some .free):∀D,(Bo M D)[s]?=some .free\/(Bo M D)[s]?=some .dead
 | []=> .inl h
 |U::D=>by
  simp only[Bo]
  by_cases e:U=s
  .subst e
   rcases LF h D with g|g
   .right
    have:=(List.getElem?_eq_some_iff.1 g).1
    rw[List.getElem?_set_self this]
   .right
    have:=(List.getElem?_eq_some_iff.1 g).1
    rw[List.getElem?_set_self this]
  .rw[List.getElem?_set_ne e];exact LF h D
theorem Zu {M:List Ag} {s:Nat} {z:Ag} (h:M[s]?=some .free) (D:List Nat):vw (Bo (M.set s z) (s::D))=vw (Bo M D):=by
 refine Vt fun T v=>?_
 have hs:=(List.getElem?_eq_some_iff.1 h).1
 by_cases e:s=T
 .subst e
  have h1:(Bo (M.set s z) (s::D))[s]?=some .dead:=by
   simp only[Bo]
   rw[List.getElem?_set_self (by rw[Nk];simpa using hs)]
  rcases LF h D with g|g<;>simp only[Aj,h1,g]
 .have h1:(Bo (M.set s z) (s::D))[T]?=(Bo M D)[T]?:=by
   simp only[Bo]
   rw[List.getElem?_set_ne e,Q4 z e D]
  simp only[Aj,h1]
theorem Ah.up {P:Program} {L:Bool} {f:Nat} {args:List AV} {M:List Ag} {s:Nat} {z:Ag} {K K' :AV->List Ag->Prop} (hf:M[s]?=some .free) (hk:∀r bs,K r (M++bs)->K' r (M.set s z++bs)) (h:Ah P L f args M K):Ah P L f args (M.set s z) K' :=by
 obtain⟨cargs,Q,spec,h⟩:=h
 have hl:(M.set s z).length=M.length:=by simp
 rcases h with⟨hL,⟨D,h1⟩,h2⟩ | ⟨h1,h2⟩
 .exact⟨cargs,Q,spec,.inl ⟨hL,⟨s::D,by rw[Zu hf];exact h1⟩,fun r hr=>⟨(h2 r hr).1,by rw[hl];exact hk _ _ (h2 r hr).2⟩⟩⟩
 .exact⟨cargs,Q,spec,.inr ⟨h1,fun r hr=>by rw[hl];exact hk _ _ (h2 r hr)⟩⟩
def CQ (P:Program) (n:Nat) (F:Fr) (M:List Ag):Prop:=∃(C:Bm) (a:Act) (w:World),C.P=P/\C.n=n/\CY C F M a w
def au (ops:Array Oper) (o:Oper):List Nat:=
 (o.op.operands.toList.filterMap fun| .tmp t=>some t|_=>none)++(match o.guard with|some (g,_)=>((ops[g]?).bind (·.dst)).toList|none=> [])
def it (ops:Array Oper) (x y:Oper):Bool:=x.apart ops y
def Fl (ops:Array Oper):Bool:=ops.toList.all fun o=>decide (AE o.op≠3)
def Ei (L:Bool) (ops:Array Oper) (x y:Oper):Bool:=x.apart ops y&&(match AE x.op,AE y.op with
 |3,c=>decide (c<=2)
 |4,c=>decide (c<=1)
 |5,c=>decide (c=0) || (Fl ops&&decide (c<=2))
 |c,3=>decide (c<=2)&&(!L||!Bf x.op)
 |c,4=>decide (c<=1)
 |c,5=>decide (c=0)
 |c,c' =>decide (c<=2)&&decide (c' <=2))
section
variable {T:Nat->Option TI} {call:D1} {ops:Array Oper} {sl:Nat->Nat} {F:Fr} {M:List Ag} {K:Fr->List Ag->Prop} {o oi oj:Oper}
def Dn (T:Nat->Option TI) (ops:Array Oper) (o:Oper) (s:Nat) (F:Fr) (M:List Ag) (v:AV) (b:Option Ag):Prop:=
 (Ga ops F o=some true/\E3 T o s F M v b)\/(Ga ops F o=some false/\v= .tup []/\b=none)
theorem Dn.unique {s:Nat} {v v' :AV} {b b' :Option Ag} (h:Dn T ops o s F M v b) (h' :Dn T ops o s F M v' b'):v=v' /\b=b' :=by
 rcases h with⟨h1,h2⟩ | ⟨h1,h2,h3⟩<;>rcases h' with⟨g1,g2⟩ | ⟨g1,g2,g3⟩
 .exact E3.unique h2 g2
 .rw[h1] at g1;simp at g1
 .rw[h1] at g1;simp at g1
 .exact⟨h2.trans g2.symm,h3.trans g3.symm⟩
theorem Di {i:Nat} (ho:ops[i]?=some o) (hc:AE o.op<=2):B5 T call ops sl i F M K↔∃v b,Dn T ops o (sl i) F M v b/\K (Al F o.dst v) (BO M (sl i) b):=by
 unfold B5
 simp only[ho]
 constructor
 .intro h
  split at h
  .rename_i ha
   obtain⟨v,b,hd,hk⟩:=(OG hc).1 h
   exact⟨v,b,.inl ⟨ha,hd⟩,hk⟩
  .rename_i ha
   exact⟨.tup [],none,.inr ⟨ha,rfl,rfl⟩,h⟩
  .exact h.elim
 .rintro⟨v,b,hd,hk⟩
  rcases hd with⟨ha,hd⟩ | ⟨ha,rfl,rfl⟩
  .simp only[ha];exact(OG hc).2 ⟨v,b,hd,hk⟩
  .simp only[ha];exact hk
theorem Xp {dst:Option Nat} {v:AV} {x:Operand} (h:∀d,dst=some d->x≠ .tmp d):ev (Al F dst v) x=ev F x:=by
 cases dst with
 |none=>rfl
 |some d=>cases x with
  |tmp t=>
   have:t≠d:=fun e=>h d rfl (by rw[e])
   simp[ev,Al,Bg,this]
  |_=>rfl
theorem D4 {d1 d2:Option Nat} {v1 v2:AV} (h:∀d,d1=some d->d2≠some d):Al (Al F d1 v1) d2 v2=Al (Al F d2 v2) d1 v1:=by
 cases d1 with
 |none=>rfl
 |some a=>cases d2 with
  |none=>rfl
  |some b=>
   have:a≠b:=fun e=>h a rfl (by rw[e])
   funext t
   simp only[Al,Bg]
   by_cases h1:t=b
   .subst h1;simp[Ne.symm this]
   .simp[h1]
structure Ap (ops:Array Oper) (x y:Oper):Prop where
 xy:∀d,x.dst=some d->d ∉ y.looksAt ops
 dd:∀d,x.dst=some d->y.dst≠some d
 yx:∀d,y.dst=some d->d ∉ x.looksAt ops
theorem Ap.of (h:oj.apart ops oi=true):Ap ops oj oi:=let h:=Oper.apart_spec h;⟨h.1,h.2.1,h.2.2⟩
theorem Ap.symm (h:Ap ops oj oi):Ap ops oi oj:=⟨h.yx,fun d hd e=>h.dd d e hd,h.xy⟩
theorem Vu {d:Nat} {x:Operand} (hx:x∈o.op.operands) (h:d ∉ o.looksAt ops):x≠ .tmp d:=by
 rintro rfl
 apply h
 unfold Oper.looksAt
 refine List.mem_append_left _ (List.mem_filterMap.2 ⟨.tmp d,by simpa using hx,rfl⟩)
theorem ED (h:Ap ops oj oi) {v:AV}:∀x∈oi.op.operands,ev (Al F oj.dst v) x=ev F x:=fun x hx=>Xp fun d hd=>Vu hx (h.xy d hd)
theorem CT (h:Ap ops oj oi) {v:AV}:Ga ops (Al F oj.dst v) oi=Ga ops F oi:=by
 unfold Ga
 split
 .rfl
 .rename_i j want hg
  split
  .rename_i d hd
   have:∀e,oj.dst=some e->d≠e:=fun e he hde=>h.xy e he (by
    unfold Oper.looksAt
    rw[hg]
    refine List.mem_append_right _ ?_
    simp only[hd]
    subst hde
    simp)
   have e1:Al F oj.dst v d=F d:=by
    cases hdst:oj.dst with
    |none=>rfl
    |some e=>simp[Al,Bg,this e hdst]
   rw[e1]
  .rfl
theorem TU {F F' :Fr} {An:Array (Nat×Operand)} (h:∀p∈An.toList,ev F' p.2=ev F p.2):(An.toList.map fun p=>(p.1,ev F' p.2))=An.toList.map fun p=>(p.1,ev F p.2):=
 List.map_congr_left fun p hp=>by rw[h p hp]
theorem E3.up {s:Nat} {F' :Fr} {M' :List Ag} {v:AV} {b:Option Ag} (he:∀x∈o.op.operands,ev F' x=ev F x) (hM:pv T M' F' o=pv T M F o\/(∀B v cs,Aj M B v=some cs->Aj M' B v=some cs)) (hf:M[s]?=some .free->M'[s]?=some .free) (h:E3 T o s F M v b):E3 T o s F' M' v b:=by
 unfold E3 at h |-
 split at h<;>(rename_i hop;try simp only[hop])
 .obtain⟨i,h1,h2,h3⟩:=h;exact⟨i,h1,hf h2,h3⟩
 .simp only[hop,Op.operands] at he
  obtain⟨i,cs,h1,h2,h3,h4⟩:=h;exact⟨i,cs,h1,by rw[he _ (by simp)];exact h2,hf h3,h4⟩
 .simp only[hop,Op.operands] at he
  obtain⟨e,es,eb,ez,k,n,k',h1,h2,h3,h4,h5⟩:=h
  exact⟨e,es,eb,ez,k,n,k',h1,by rw[he _ (by simp)];exact h2,by rw[he _ (by simp)];exact h3,hf h4,h5⟩
 .rename_i t len An
  simp only[hop,Op.operands] at he
  obtain⟨e,es,eb,ez,cs,h1,h2,h3,h4⟩:=h
  refine⟨e,es,eb,ez,cs,h1,?_,hf h3,h4⟩
  rw[TU (F:=F) fun p hp=>he p.2 (by simp only[List.mem_toArray,List.mem_map];exact⟨p,hp,rfl⟩)];exact h2
 .refine⟨h.1,?_⟩
  rcases hM with hM|hM
  .rw[hM];exact h.2
  .rw[Ed he];exact RV hM h.2
end
theorem Px {M:List Ag} {s:Nat} (hf:M[s]?=some .free) (b:Ag) {B v:Nat} {cs:List AV} (h:Aj M B v=some cs):Aj (M.set s b) B v=some cs:=by
 have hne:B≠s:=fun e=>by subst e;simp[Aj,hf] at h
 unfold Aj at h |-
 rw[List.getElem?_set_ne (Ne.symm hne)];exact h
theorem Q5 {M bs:List Ag} {B v:Nat} {cs:List AV} (h:Aj M B v=some cs):Aj (M++bs) B v=some cs:=by
 unfold Aj at h |-
 split at h
 .rename_i v' cs' hM
  have hlt:B<M.length:=by
   rcases Nat.lt_or_ge B M.length with h|h
   .exact h
   .simp[List.getElem?_eq_none h] at hM
  rw[List.getElem?_append_left hlt,hM];exact h
 .simp at h
theorem HA {M:List Ag} {B v:Nat} {cs cs' :List AV} (h:Aj M B v=some cs) (B' v' :Nat):(Aj (M.set B (.live v cs')) B' v').isSome=(Aj M B' v').isSome:=by
 have hM:=h
 unfold Aj at hM
 split at hM
 .rename_i u cs2 hB
  split at hM
  .rename_i e;subst e
   have hlt:B<M.length:=by
    rcases Nat.lt_or_ge B M.length with h|h
    .exact h
    .simp[List.getElem?_eq_none h] at hB
   by_cases e:B' =B
   .subst e
    simp only[Aj,List.getElem?_set_self hlt,hB]
    split<;>rfl
   .simp only[Aj,List.getElem?_set_ne (Ne.symm e)]
  .simp at hM
 .simp at hM
theorem EN {M:List Ag} {B v:Nat} {cs:List AV} (h:Aj M B v=some cs):M[B]?=some (.live v cs):=by
 unfold Aj at h
 split at h
 .rename_i v' cs' hM
  split at h
  .rename_i e;subst e;simp at h;subst h;exact hM
  .simp at h
 .simp at h
section
variable {P:Program} {L:Bool} {T:Nat->Option TI} {ops:Array Oper} {sl:Nat->Nat} {F:Fr} {M:List Ag} {K:Fr->List Ag->Prop} {o oi oj:Oper}
theorem E3.slot {s:Nat} {v:AV} {b:Option Ag} (h:E3 T o s F M v b):(b=none/\Bf o.op=false)\/(∃x,b=some x)/\Bf o.op=true/\M[s]?=some .free:=by
 unfold E3 at h
 split at h
 .rename_i hop;obtain⟨i,_,h2,_,h3⟩:=h;exact .inr ⟨⟨_,h3⟩,by rw[hop];rfl,h2⟩
 .rename_i hop;obtain⟨i,cs,_,_,h2,_,h3⟩:=h;exact .inr ⟨⟨_,h3⟩,by rw[hop];rfl,h2⟩
 .rename_i hop;obtain⟨e,es,eb,ez,k,n,k',_,_,_,h2,_,_,_,_,h3⟩:=h;exact .inr ⟨⟨_,h3⟩,by rw[hop];rfl,h2⟩
 .rename_i hop;obtain⟨e,es,eb,ez,cs,_,_,h2,_,_,_,h3⟩:=h;exact .inr ⟨⟨_,h3⟩,by rw[hop];rfl,h2⟩
 .rename_i h1 h2 h3 h4
  refine .inl ⟨h.1,?_⟩
  cases hop:o.op<;>simp[Bf]<;>simp_all
theorem Dn.slot {s:Nat} {v:AV} {b:Option Ag} (h:Dn T ops o s F M v b):b=none\/(∃x,b=some x)/\Bf o.op=true/\M[s]?=some .free:=by
 rcases h with⟨_,h⟩ | ⟨_,_,h⟩
 .rcases h.slot with h|h
  .exact .inl h.1
  .exact .inr h
 .exact .inl h
theorem Dn.up {s:Nat} {F' :Fr} {M' :List Ag} {v:AV} {b:Option Ag} (ha:Ga ops F' o=Ga ops F o) (he:∀x∈o.op.operands,ev F' x=ev F x) (hM:pv T M' F' o=pv T M F o\/(∀B v cs,Aj M B v=some cs->Aj M' B v=some cs)) (hf:M[s]?=some .free->M'[s]?=some .free)
 (h:Dn T ops o s F M v b):Dn T ops o s F' M' v b:=by
 rcases h with⟨h1,h2⟩ | ⟨h1,h2,h3⟩
 .exact .inl ⟨by rw[ha];exact h1,h2.up he hM hf⟩
 .exact .inr ⟨by rw[ha];exact h1,h2,h3⟩
theorem IC {s:Nat} {b:Option Ag} (hb:b=none\/M[s]?=some .free) {B v:Nat} {cs:List AV} (h:Aj M B v=some cs):Aj (BO M s b) B v=some cs:=by
 cases b with
 |none=>exact h
 |some x=>rcases hb with hb|hb
          .simp at hb
          .exact Px hb x h
theorem N1 {s s' :Nat} {b:Option Ag} (hb:b=none\/s≠s') (h:M[s']?=some .free):(BO M s b)[s']?=some .free:=by
 cases b with
 |none=>exact h
 |some x=>rcases hb with hb|hb
          .simp at hb
          .simp only[BO];rw[List.getElem?_set_ne hb];exact h
theorem TV {s s' :Nat} {b b' :Option Ag} (h:b=none\/b' =none\/s≠s'):BO (BO M s b) s' b' =BO (BO M s' b') s b:=by
 cases b with
 |none=>rfl
 |some x=>cases b' with
  |none=>rfl
  |some y=>simp at h;simp only[BO];exact List.set_comm _ _ h
theorem Ik {s:Nat} {b:Option Ag}:(BO M s b).length=M.length:=by cases b<;>simp[BO]
theorem Vv {op:Op} (h:AE op=3):∃f args ts,op= .call ⟨.value f,args,ts⟩:=by
 unfold AE at h
 split at h<;>first| (exact absurd h (by decide)) |exact⟨_,_,_,rfl⟩
theorem Py {op:Op} (h:AE op=4):∃t x y,op= .store t x y:=by
 unfold AE at h
 split at h<;>first| (exact absurd h (by decide)) |exact⟨_,_,_,rfl⟩
theorem Nl {op:Op} (h:AE op=5):∃args ts,op= .call ⟨.builtin .append,args,ts⟩:=by
 unfold AE at h
 split at h<;>first| (exact absurd h (by decide)) |exact⟨_,_,rfl⟩
theorem Zv {sj si:Nat} {v:AV} {b:Option Ag} {Kj Kj' :Fr->List Ag->Prop} (hap:Ap ops oj oi) (hc:(AE oj.op=3/\True)\/(AE oj.op=4/\AE oi.op<=1)\/(AE oj.op=5/\AE oi.op=0)) (hd:Dn T ops oi si F M v b)
 (hk:∀F1 M1,Dn T ops oi si F1 M1 v b->Kj F1 M1->Kj' (Al F1 oi.dst v) (BO M1 si b)) (h:CU T (Ah P L) oj sj F M Kj):CU T (Ah P L) oj sj (Al F oi.dst v) (BO M si b) Kj' :=by
 have hev:∀x∈oj.op.operands,ev (Al F oi.dst v) x=ev F x:=ED hap.symm
 have hevi:∀u,∀x∈oi.op.operands,ev (Al F oj.dst u) x=ev F x:=fun u=>ED hap
 have hcomm:∀u,Al (Al F oi.dst v) oj.dst u=Al (Al F oj.dst u) oi.dst v:=fun u=>(D4 hap.dd).symm
 have hslot:=hd.slot
 have hsh:(∃f args ts,oj.op= .call ⟨.value f,args,ts⟩)\/(∃t x y,oj.op= .store t x y)\/(∃args ts,oj.op= .call ⟨.builtin .append,args,ts⟩):=by
  rcases hc with⟨e,_⟩ | ⟨e,_⟩ | ⟨e,_⟩
  .exact .inl (Vv e)
  .exact .inr (.inl (Py e))
  .exact .inr (.inr (Nl e))
 unfold CU at h |-
 split at h<;>(rename_i hop)<;>(try (exfalso;rcases hc with⟨e,_⟩ | ⟨e,_⟩ | ⟨e,_⟩<;>(rw[hop] at e;simp[AE] at e);done))
 .
  rename_i t x y
  simp only[hop,Op.operands] at hev
  have hci:AE oi.op<=1:=by
   rcases hc with⟨e,_⟩ | ⟨_,h⟩ | ⟨e,_⟩
   .simp[hop,AE] at e
   .exact h
   .simp[hop,AE] at e
  simp only[hev x (by simp),hev y (by simp)]
  unfold Ht Iw Hl at h |-
  split at h
  .rename_i i hi
   split at h
   .rename_i B u off hx
    split at h
    .rename_i cs hcs
     have hcs' :=IC (s:=si) (b:=b) (hslot.imp id fun h=>h.2.2) hcs
     simp only[hi,hcs']
     split at h
     .rename_i xs hxs
      refine⟨h.1,?_⟩
      have h2:=hk _ _ ?_ h.2
      .rw[hcomm]
       have:(BO M si b).set B (.live u (CO cs off xs))=BO (M.set B (.live u (CO cs off xs))) si b:=by
        cases b with
        |none=>rfl
        |some z=>
         simp only[BO]
         refine List.set_comm _ _ fun e=>?_
         rcases hslot with h5|h5
         .simp at h5
         .have:=EN hcs;rw[<-e,h5.2.2] at this;simp at this
       rw[this];exact h2
      .refine hd.up (CT hap) (hevi _) (.inl ?_) (fun hf=>?_)
       .rw[Ed (hevi _)]
        exact RU hci (fun B' v' =>HA hcs B' v')
       .rw[List.getElem?_set_ne]
        .exact hf
        .intro e;have:=EN hcs;rw[e,hf] at this;simp at this
     .exact h.elim
    .exact h.elim
   .exact h.elim
  .exact h.elim
 .
  rename_i args ts
  have hci:AE oi.op=0:=by
   rcases hc with⟨e,_⟩ | ⟨e,_⟩ | ⟨_,h⟩
   .simp[hop,AE] at e
   .simp[hop,AE] at e
   .exact h
  split at h
  .rename_i x y t t' hx ht
   obtain⟨rfl,h⟩:=h
   have hxm:x∈args:=by rw[<-Array.mem_toList_iff,hx];simp
   have hym:y∈args:=by rw[<-Array.mem_toList_iff,hx];simp
   simp only[hop] at hev
   simp only[hev x (by simp[Op.operands,Call.operands,hxm]),hev y (by simp[Op.operands,Call.operands,hym])]
   refine⟨trivial,?_⟩
   unfold H0 Hl Hy at h |-
   split at h
   .rename_i e es eb ez B u s' off n htd hxe
    split at h
    .rename_i cs hcs
     have hcs' :=IC (s:=si) (b:=b) (hslot.imp id fun h=>h.2.2) hcs
     simp only[hcs']
     split at h
     .rename_i p hp
      have hp' :CZ (BO M si b) (ev F y)=some p:=by
       unfold CZ at hp |-
       split at hp
       .exact hp
       .exact hp
       .split at hp
        .rename_i c hc2
         simp only[IC (s:=si) (b:=b) (hslot.imp id fun h=>h.2.2) hc2];exact hp
        .simp at hp
       .simp at hp
      simp only[hp']
      obtain⟨h1,h2,h3,h4,h5,h6,h7,h8,h⟩:=h
      refine⟨h1,h2,h3,h4,h5,h6,h7,h8,?_⟩
      have h9:=hk _ _ ?_ h
      .rw[hcomm]
       have:(BO M si b).set B (.live (u+1) (cs++p.2))=BO (M.set B (.live (u+1) (cs++p.2))) si b:=by
        cases b with
        |none=>rfl
        |some z=>
         simp only[BO]
         refine List.set_comm _ _ fun e=>?_
         rcases hslot with h5|h5
         .simp at h5
         .have:=EN hcs;rw[<-e,h5.2.2] at this;simp at this
       rw[this];exact h9
      .refine hd.up (CT hap) (hevi _) (.inl ?_) (fun hf=>?_)
       .rw[Ed (hevi _)]
        exact RT hci
       .rw[List.getElem?_set_ne]
        .exact hf
        .intro e;have:=EN hcs;rw[e,hf] at this;simp at this
     .exact h.elim
    .exact h.elim
   .exact h.elim
  .exact h.elim
 .
  rename_i f args ts
  simp only[hop] at hev
  rw[hev f (by simp[Op.operands,Call.operands]),Kk (F:=F) fun x hx=>hev x (by simp[Op.operands,Call.operands,hx])]
  have key:∀(u:AV) (bs:List Ag),Kj (Al F oj.dst u) (M++bs)->Kj' (Al (Al F oi.dst v) oj.dst u) (BO M si b++bs):=by
   intro u bs h
   have h2:=hk _ _ ?_ h
   .rw[hcomm]
    have:BO M si b++bs=BO (M++bs) si b:=by
     cases b with
     |none=>rfl
     |some z=>
      rcases hslot with h5|h5
      .simp at h5
      .simp only[BO]
       rw[List.set_append_left]
       rcases Nat.lt_or_ge si M.length with h|h
       .exact h
       .have:=h5.2.2;simp[List.getElem?_eq_none h] at this
    rw[this];exact h2
   .refine hd.up (CT hap) (hevi _) (.inr fun B v cs h=>Q5 h) (fun hf=>?_)
    have hlt:si<M.length:=by
     rcases Nat.lt_or_ge si M.length with h|h
     .exact h
     .simp[List.getElem?_eq_none h] at hf
    rw[List.getElem?_append_left hlt];exact hf
  unfold Kc at h |-
  split at h
  .rcases hslot with hbn|hbs
   .subst hbn
    exact Ah.mono (fun r bs h=>key r bs h) h
   .obtain⟨⟨z,rfl⟩,_,hfree⟩:=hbs
    exact Ah.up hfree (fun r bs h=>key r bs h) h
  .exact h.elim
 .
  exfalso
  rcases hsh with⟨f,args,ts,e⟩ | ⟨t,x,y,e⟩ | ⟨args,ts,e⟩<;>simp_all
end
theorem Vw {C:Bm} {P:Program} {o:Oper} {a:Act} {w:World} (h:o.wpIn (FX C) 0 P a w (fun _ _=>False) (fun _ _ _=>False)):False:=by
 have h:=h.2
 have hroom:∀n,(FX C).room n:=fun n d hd=>by simp[FX,Fence.wide] at hd
 generalize (o.semAt (FX C).round a.eval).run P w=r at h
 cases r with
 |ok n w' =>
  cases n<;>simp only[Oper.uponIn] at h
  .obtain⟨e,w',fr,h,_⟩:=h.2.2 [] (hroom _)
   cases e
   .exact h
   .exact h
   .obtain⟨_,_,h⟩:=h;exact h
  .obtain⟨e,w',h,_⟩:=h.2.2 default [] (hroom _)
   cases e
   .exact h
   .exact h
   .obtain⟨_,_,h⟩:=h;exact h
  .rename_i row args
   obtain⟨_,_,h,_⟩:=h.2 (Frame.ofRow P row args .normal) [] (hroom _)
   exact h
 |halt x w' =>cases x<;>simp only[Oper.uponIn] at h
section
variable {P:Program} {L:Bool} {n:Nat} {T:Nat->Option TI} {ops:Array Oper} {sl:Nat->Nat} {F:Fr} {M:List Ag} {K:Fr->List Ag->Prop} {o oi oj:Oper}
theorem Pz (tk:BJ P T) (hb:By n o=true) {s:Nat} (h:CU T (Ah P L) o s F M K) (I:CQ P n F M):∃F' M',K F' M' /\CQ P n F' M' :=by
 obtain⟨C,a,w,rfl,rfl,σ,own,R⟩:=I
 apply Classical.byContradiction
 intro hno
 refine Vw (Hz tk hb (Ec (call' :=DG C) (fun f args M K K' hk hc=>?_) (fun _ _ h=>h) h) R (next:=fun _ _=>False) (Q:=fun _ _ _=>False) fun F' M' a' w' hk r=>hno ⟨F',M',hk,C,a',w',rfl,rfl,r⟩)
 exact(Ah.at rfl hc).mono hk
theorem CQ.undef (I:CQ P n F M) (d:Option Nat):CQ P n (Al F d (.tup [])) M:=by
 obtain⟨C,a,w,h1,h2,σ,own,R⟩:=I
 exact⟨C,a.put d Go.undef,w,h1,h2,σ,own,R.put d ⟨#[],rfl,rfl,fun _=>rfl⟩⟩
theorem CQ.name (I:CQ P n F M) {x:Operand} (hx:Fp n x=true) {B v:Nat} (h:EJ (ev F x)=some (B,v)):B<M.length/\M[B]?≠some .free:=by
 obtain⟨C,a,w,rfl,rfl,σ,own,R⟩:=I
 have key:∀st,σ B v=some st->B<M.length/\M[B]?≠some .free:=by
  intro st hst
  refine⟨?_,fun hf=>?_⟩
  .rcases Nat.lt_or_ge B M.length with h|h
   .exact h
   .rw[R.mem.key B v h] at hst;simp at hst
  .obtain⟨fp,hb,_⟩:=R.mem.blk _ _ hf
   rw[hb.1] at hst;simp at hst
 cases x with
 |tmp t=>
  have ht:t<C.n:=by simpa[Fp] using hx
  have hv:=R.tmp t ht
  simp only[ev] at h
  cases hF:F t<;>rw[hF] at h hv<;>simp[EJ] at h
  .obtain⟨rfl,rfl⟩:=h
   obtain⟨_,_,st,hst,_⟩:=hv
   exact key st hst
  .obtain⟨rfl,rfl⟩:=h
   obtain⟨_,_,st,hst,_⟩:=hv
   exact key st hst
 |const c=>exfalso;simp only[ev] at h;unfold Qt at h;split at h<;>simp[EJ] at h
 |global g=>simp[ev,EJ] at h
 |func f=>simp[ev,EJ] at h
theorem CQ.nameV (I:CQ P n F M) {x:Operand} (hx:Fp n x=true) {B v:Nat} (h:EJ (ev F x)=some (B,v)) {u:Nat} {cs:List AV} (hM:M[B]?=some (.live u cs)):v<=u:=by
 obtain⟨C,a,w,rfl,rfl,σ,own,R⟩:=I
 have key:∀st,σ B v=some st->v<=u:=by
  intro st hst
  obtain⟨fp,hb,_⟩:=R.mem.blk _ _ hM
  rcases Nat.lt_or_ge u v with h|h
  .rw[hb.1 v h] at hst;simp at hst
  .exact h
 cases x with
 |tmp t=>
  have ht:t<C.n:=by simpa[Fp] using hx
  have hv:=R.tmp t ht
  simp only[ev] at h
  cases hF:F t<;>rw[hF] at h hv<;>simp[EJ] at h
  .obtain⟨rfl,rfl⟩:=h
   obtain⟨_,_,st,hst,_⟩:=hv
   exact key st hst
  .obtain⟨rfl,rfl⟩:=h
   obtain⟨_,_,st,hst,_⟩:=hv
   exact key st hst
 |const c=>exfalso;simp only[ev] at h;unfold Qt at h;split at h<;>simp[EJ] at h
 |global g=>simp[ev,EJ] at h
 |func f=>simp[ev,EJ] at h
theorem H3 {op:Op} (h:Bf op=true):AE op=0:=by
 unfold Bf at h
 split at h<;>first|rfl|simp at h
def MS (o:Oper) (s:Nat) (M M' :List Ag):Prop:=
 (∃b,M' =BO M s b/\(b=none\/M[s]?=some .free/\(∃v xs,b=some (.live v xs)))/\AE o.op<=2)\/(∃bs,M' =M++bs/\AE o.op=3)\/
 (∃B u cs cs',Aj M B u=some cs/\M' =M.set B (.live u cs')/\AE o.op=4)\/(∃B u cs cs',Aj M B u=some cs/\M' =M.set B (.live (u+1) cs')/\AE o.op=5)
theorem E3.live {s:Nat} {v:AV} {b:Option Ag} (h:E3 T o s F M v b):b=none\/M[s]?=some .free/\∃v xs,b=some (.live v xs):=by
 unfold E3 at h
 split at h
 .obtain⟨i,_,h2,_,h3⟩:=h;exact .inr ⟨h2,_,_,h3⟩
 .obtain⟨i,cs,_,_,h2,_,h3⟩:=h;exact .inr ⟨h2,_,_,h3⟩
 .obtain⟨e,es,eb,ez,k,n,k',_,_,_,h2,_,_,_,_,h3⟩:=h;exact .inr ⟨h2,_,_,h3⟩
 .obtain⟨e,es,eb,ez,cs,_,_,h2,_,_,_,h3⟩:=h;exact .inr ⟨h2,_,_,h3⟩
 .exact .inl h.1
theorem Kl {s:Nat} (hc:AE o.op<=5) (h:CU T (Ah P L) o s F M K):CU T (Ah P L) o s F M fun F' M' =>K F' M' /\(∃v,F' =Al F o.dst v)/\MS o s M M' :=by
 by_cases h2:AE o.op<=2
 .obtain⟨v,b,hd,hk⟩:=(OG h2).1 h
  exact(OG h2).2 ⟨v,b,hd,hk,⟨v,rfl⟩,.inl ⟨b,rfl,hd.live,h2⟩⟩
 .have h3:AE o.op=3\/AE o.op=4\/AE o.op=5:=by omega
  rcases h3 with h3|h3|h3
  .obtain⟨f,args,ts,hop⟩:=Vv h3
   unfold CU at h |-
   simp only[hop] at h |-
   unfold Kc at h |-
   split at h
   .exact Ah.mono (fun r bs hk=>⟨hk,⟨_,rfl⟩,.inr (.inl ⟨bs,rfl,h3⟩)⟩) h
   .exact h.elim
  .obtain⟨t,x,y,hop⟩:=Py h3
   unfold CU at h |-
   simp only[hop] at h |-
   unfold Ht Iw Hl at h |-
   split at h
   .split at h
    .split at h
     .rename_i hcs
      split at h
      .rename_i hxs
       simp only[hxs]
       exact⟨h.1,h.2,⟨_,rfl⟩,.inr (.inr (.inl ⟨_,_,_,_,hcs,rfl,h3⟩))⟩
      .exact h.elim
     .exact h.elim
    .exact h.elim
   .exact h.elim
  .obtain⟨args,ts,hop⟩:=Nl h3
   unfold CU at h |-
   simp only[hop] at h |-
   split at h
   .obtain⟨rfl,h⟩:=h
    refine⟨rfl,?_⟩
    unfold H0 Hl Hy at h |-
    split at h
    .split at h
     .rename_i hcs
      split at h
      .obtain⟨g1,g2,g3,g4,g5,g6,g7,g8,g⟩:=h
       exact⟨g1,g2,g3,g4,g5,g6,g7,g8,g,⟨_,rfl⟩,.inr (.inr (.inr ⟨_,_,_,_,hcs,rfl,h3⟩))⟩
      .exact h.elim
     .exact h.elim
    .exact h.elim
   .exact h.elim
theorem Gb (tk:BJ P T) {i:Nat} (ho:ops[i]?=some oi) (hb:By n oi=true) (hc:AE oi.op<=5) (h:B5 T (Ah P L) ops sl i F M K) (I:CQ P n F M):
 ∃F' M',K F' M' /\(∃v,F' =Al F oi.dst v)/\(MS oi (sl i) M M' \/M' =M)/\CQ P n F' M' :=by
 unfold B5 at h
 simp only[ho] at h
 split at h
 .obtain⟨F',M',⟨h1,h2,h3⟩,h4⟩:=Pz tk hb (Kl hc h) I
  exact⟨F',M',h1,h2,.inl h3,h4⟩
 .exact⟨_,M,h,⟨_,rfl⟩,.inr rfl,I.undef _⟩
 .exact h.elim
theorem D5 (h:Ei L ops oi oj=true):Ap ops oi oj/\
 ((AE oi.op<=2/\AE oj.op<=2)\/(AE oi.op=3/\AE oj.op<=2/\True)\/(AE oi.op=4/\AE oj.op<=1)\/(AE oi.op=5/\(AE oj.op=0\/Fl ops=true/\AE oj.op<=2))\/
  (AE oj.op=3/\AE oi.op<=2/\(L=false\/Bf oi.op=false))\/(AE oj.op=4/\AE oi.op<=1)\/(AE oj.op=5/\AE oi.op=0)):=by
 simp only[Ei,Bool.and_eq_true] at h
 refine⟨Ap.of h.1,?_⟩
 have h2:=h.2
 generalize AE oi.op=p,AE oj.op=q at h2 |-
 split at h2
 .simp at h2;exact .inr (.inl ⟨rfl,h2,trivial⟩)
 .simp at h2;exact .inr (.inr (.inl ⟨rfl,h2⟩))
 .simp at h2;exact .inr (.inr (.inr (.inl ⟨rfl,h2⟩)))
 .simp at h2;exact .inr (.inr (.inr (.inr (.inl ⟨rfl,h2⟩))))
 .simp at h2;exact .inr (.inr (.inr (.inr (.inr (.inl ⟨rfl,h2⟩)))))
 .simp at h2;exact .inr (.inr (.inr (.inr (.inr (.inr ⟨rfl,h2⟩)))))
 .simp at h2;exact .inl h2
theorem MS.len {s:Nat} {M M' :List Ag} (h:MS o s M M' \/M' =M):M.length<=M'.length:=by
 rcases h with(⟨b,rfl,_⟩ | ⟨bs,rfl,_⟩ | ⟨B,u,cs,cs',_,rfl,_⟩ | ⟨B,u,cs,cs',_,rfl,_⟩) |rfl<;>simp[Ik]
theorem Dn.dn {si sj:Nat} {vi:AV} {M' :List Ag} {v:AV} {b:Option Ag} (hc:Ei L ops oi oj=true) (hcj:AE oj.op<=2) (hbj:By n oj=true) (hsj:Bf oj.op=true->sj<M.length) (I:CQ P n F M) (hM:MS oi si M M' \/M' =M)
 (h:Dn T ops oj sj (Al F oi.dst vi) M' v b):Dn T ops oj sj F M v b:=by
 obtain⟨hap,hcc⟩:=D5 hc
 have hev:∀x∈oj.op.operands,ev F x=ev (Al F oi.dst vi) x:=fun x hx=>(ED hap x hx).symm
 have hev' :∀x∈oj.op.operands,ev (Al F oi.dst vi) x=ev F x:=fun x hx=>(ED hap x hx)
 have hopn:∀x∈oj.op.operands,Fp n x=true:=by
  simp only[By,Bool.and_eq_true] at hbj
  intro x hx
  exact Array.all_eq_true'.1 hbj.1 x hx
 have hnm:∀x∈oj.op.operands,∀B v,EJ (ev F x)=some (B,v)->B<M.length/\M[B]?≠some .free:=fun x hx B v ht=>I.name (hopn x hx) ht
 have hslot:=h.slot
 have fin:(pv T M F oj=pv T M' F oj)->(M'[sj]?=some .free->sj<M.length->M[sj]?=some .free)->Dn T ops oj sj F M v b:=fun h1 h2=>by
  rcases hslot with rfl|hs
  .rcases h with⟨g1,g2⟩ | ⟨g1,g2,g3⟩
   .refine .inl ⟨by rw[<-g1];exact(CT hap).symm,?_⟩
    have hnb:Bf oj.op=false:=by
     rcases g2.slot with h| ⟨⟨x,h⟩,_⟩
     .exact h.2
     .simp at h
    unfold E3 at g2 |-
    split at g2<;>(rename_i hop;try (simp[hop,Bf] at hnb;done))<;>try (simp only[hop])
    exact⟨by simp,by rw[h1,Ed hev];exact g2.2⟩
   .exact .inr ⟨by rw[<-g1];exact(CT hap).symm,g2,g3⟩
  .exact h.up (CT hap).symm hev (.inl (by rw[h1,Ed hev])) (fun hf=>h2 hf (hsj hs.2.1))
 rcases hM with(⟨bi,rfl,hbi,hci⟩ | ⟨bs,rfl,hci⟩ | ⟨B,u,cs,cs',hcs,rfl,hci⟩ | ⟨B,u,cs,cs',hcs,rfl,hci⟩) |rfl
 .refine fin ?_ ?_
  .refine OH fun x hx B u ht=>?_
   obtain⟨_,hnf⟩:=hnm x hx B u ht
   cases bi with
   |none=>rfl
   |some z=>
    have:M[si]?=some .free:=by
     rcases hbi with h|h
     .simp at h
     .exact h.1
    have hne:si≠B:=fun e=>hnf (e ▸ this)
    simp only[BO,Aj,List.getElem?_set_ne hne]
  .intro hf _
   rcases hbi with rfl| ⟨hfi,u,xs,rfl⟩
   .exact hf
   .simp only[BO] at hf
    by_cases e:si=sj
    .rw[<-e];exact hfi
    .rw[List.getElem?_set_ne e] at hf;exact hf
 .refine fin ?_ ?_
  .refine OH fun x hx B u ht=>?_
   obtain⟨hlt,_⟩:=hnm x hx B u ht
   simp only[Aj,List.getElem?_append_left hlt]
  .intro hf hlt
   rw[List.getElem?_append_left hlt] at hf;exact hf
 .have hcj1:AE oj.op<=1:=by rcases hcc with h|h|h|h|h|h|h<;>omega
  refine fin ?_ ?_
  .exact RU hcj1 fun B' v' =>(HA hcs B' v').symm
  .intro hf _
   by_cases e:B=sj
   .rw[e] at hf hcs
    have:=EN hcs
    have hlt:sj<M.length:=by
     rcases Nat.lt_or_ge sj M.length with h|h
     .exact h
     .simp[List.getElem?_eq_none h] at this
    simp[List.getElem?_set_self hlt] at hf
   .rw[List.getElem?_set_ne e] at hf;exact hf
 .by_cases hcj0:AE oj.op≠0
  .rcases h with⟨g1,g2⟩ | ⟨g1,g2,g3⟩
   .refine .inl ⟨by rw[<-g1];exact(CT hap).symm,?_⟩
    have hnb:Bf oj.op=false:=by
     cases e:Bf oj.op with
     |false=>rfl
     |true=>exact absurd (H3 e) hcj0
    have hpv:∀r,pv T (M.set B (.live (u+1) cs')) (Al F oi.dst vi) oj=some r->pv T M F oj=some r:=by
     intro r hr
     rw[Ed hev'] at hr
     have hMB:=EN hcs
     have hlt:B<M.length:=by
      rcases Nat.lt_or_ge B M.length with h|h
      .exact h
      .simp[List.getElem?_eq_none h] at hMB
     have e1:pv T (M.set B .dead) F oj=pv T (M.set B (.live (u+1) cs')) F oj:=by
      refine OH fun x hx B' v' ht=>?_
      by_cases e:B=B'
      .subst e
       have:=I.nameV (hopn x hx) ht hMB
       have hne:¬v' =u+1:=by omega
       simp[Aj,List.getElem?_set_self hlt,hne]
      .simp only[Aj,List.getElem?_set_ne e]
     rw[<-e1] at hr
     refine RV (fun B' v' c hc=>?_) hr
     by_cases e:B=B'
     .subst e;simp[Aj,List.getElem?_set_self hlt] at hc
     .simpa only[Aj,List.getElem?_set_ne e] using hc
    unfold E3 at g2 |-
    split at g2<;>(rename_i hop;try (simp[hop,Bf] at hnb;done))<;>try (simp only[hop])
    exact⟨g2.1,hpv _ g2.2⟩
   .exact .inr ⟨by rw[<-g1];exact(CT hap).symm,g2,g3⟩
  have hcj0:AE oj.op=0:=by simpa using hcj0
  refine fin ?_ ?_
  .exact RT hcj0
  .intro hf _
   by_cases e:B=sj
   .rw[e] at hf hcs
    have:=EN hcs
    have hlt:sj<M.length:=by
     rcases Nat.lt_or_ge sj M.length with h|h
     .exact h
     .simp[List.getElem?_eq_none h] at this
    simp[List.getElem?_set_self hlt] at hf
   .rw[List.getElem?_set_ne e] at hf;exact hf
 .exact fin rfl fun h _=>h
theorem RW (tk:BJ P T) (hops:∀(k:Nat) (o:Oper),ops[k]?=some o->By n o=true) {j:Nat} (hj:ops[j]?=some oj) (hcj:AE oj.op<=2) {post:List Nat}:∀(pre:List Nat) (F:Fr) (M:List Ag),(∀i∈pre,∀oi,ops[i]?=some oi->Ei L ops oi oj=true)->
 (Bf oj.op=true->sl j<M.length)->CQ P n F M->B0 T (Ah P L) ops sl (pre++j::post) F M K->∃v b,Dn T ops oj (sl j) F M v b
 | [],F,M,_,_,_,h=>by
   obtain⟨v,b,hd,_⟩:=(Di hj hcj).1 h
   exact⟨v,b,hd⟩
 |i::pre,F,M,hc,hl,I,h=>by
  simp only[List.cons_append,B0] at h
  cases hi:ops[i]? with
  |none=>
   unfold B5 at h
   rw[hi] at h
   exact RW tk hops hj hcj pre F M (fun k hk=>hc k (by simp[hk])) hl I h
  |some oi=>
   have hcm:=hc i (by simp) oi hi
   have hci:AE oi.op<=5:=by rcases(D5 hcm).2 with h|h|h|h|h|h|h<;>omega
   obtain⟨F',M',h1,⟨vi,rfl⟩,hM,I'⟩:=Gb tk hi (hops i oi hi) hci h I
   obtain⟨v,b,hd⟩:=RW tk hops hj hcj pre _ M' (fun k hk=>hc k (by simp[hk])) (fun ha=>Nat.lt_of_lt_of_le (hl ha) (MS.len hM)) I' h1
   exact⟨v,b,hd.dn hcm hcj (hops j oj hj) hl I hM⟩
end
end Go.Abs
