/- Calls by contract: own memory lent to be read; results that come as trees are named. No program. -/
import Derived.Test.YtoklapibcmnaeaaGreatP2
import Derived.Orders
import Derived.Still
set_option linter.unusedVariables false
set_option linter.unusedSimpArgs false
namespace Go.Abs
mutual
def Et:AV->AV
 | .own _ n xs=> .ro n (EX xs)
 | .optr xs=> .rptr (EX xs)
 | .tok .. => .any
 | .ptr .. => .any
 | .agg _=> .any
 | .tup _=> .any
 | .fn f cs=>if cs.isEmpty then .fn f [] else .any
 |x=>x
def EX:List AV->List AV
 | []=> []
 |x::xs=>Et x::EX xs
end
theorem Fo:∀xs,EX xs=xs.map Et
 | []=>rfl
 |x::xs=>by simp[EX,Fo xs]
def CG (M:List Ag):Nat->AV->AV
 |d+1,.tok T v s off n=>match Aj M T v with
  |some cs=>if off+n*s<=cs.length then .ro n (((cs.drop off).take (n*s)).map (CG M d)) else .any
  |none=> .any
 |d+1,.ptr T v off=>match Aj M T v with
  |some cs=> .rptr ((cs.drop off).map (CG M d))
  |none=> .any
 |_,x=>Et x
def vw (M:List Ag):AV->AV
 | .agg xs=> .agg (xs.map (CG M 3))
 | .fn f cs=> .fn f (cs.map (CG M 3))
 | .tup _=> .any
 |x=>CG M 3 x
def N0:AV->AV
 | .agg xs=> .agg (xs.map Et)
 | .fn f cs=> .fn f (cs.map Et)
 | .tup _=> .any
 |x=>Et x
mutual
theorem Kc {w:World} {sh shB:Nat->Prop} {σ:Nat->Nat->Option St} (hs:∀g,sh g->shB g):∀(x:AV) (v:Value) (fp:Nat->Nat),VR w sh σ x v fp->(∀g,fp g≠0->shB g)->VR w shB σ0 (Et x) v (fun _=>0)
 | .any,_,_,_,_=>fun _=>rfl
 | .tok ..,_,_,_,_=>fun _=>rfl
 | .ptr ..,_,_,_,_=>fun _=>rfl
 | .agg _,_,_,_,_=>fun _=>rfl
 | .tup _,_,_,_,_=>fun _=>rfl
 | .bool _,_,_,h,_=>⟨h.1,fun _=>rfl⟩
 | .int _ _,_,_,h,_=>⟨h.1,fun _=>rfl⟩
 | .str _,_,_,h,_=>⟨h.1,fun _=>rfl⟩
 | .nilp,_,_,h,_=>⟨h.1,fun _=>rfl⟩
 | .fn f cs,v,fp,h,_=>by
   simp only[Et]
   split
   .rename_i he
    have:cs=[]:=by simpa using he
    subst this
    simp only[VR] at h
    obtain⟨_,vs,e,hv⟩:=h
    exact⟨fun _=>rfl,vs,e,hv.1,fun _=>rfl⟩
   .exact fun _=>rfl
 | .ro n xs,v,fp,h,_=>by
   simp only[VR] at h
   obtain⟨_,h⟩:=h
   simp only[Et,VR]
   refine⟨fun _=>trivial,?_⟩
   obtain⟨a,c,e,hn,ha,h⟩:=h
   refine⟨a,c,e,hn,ha,?_⟩
   rcases h with h| ⟨ad,vs,h1,h2,h3,h4⟩
   .exact .inl h
   .exact .inr ⟨ad,vs,h1,hs _ h2,h3,Aw.later ⟨fun _ _=>rfl,hs,fun _ _ _ h=>by simp[σ0] at h⟩ _ _ _ (fun _ _=>rfl) h4⟩
 | .rptr xs,v,fp,h,_=>by
   simp only[VR] at h
   obtain⟨_,ad,vs,e,h⟩:=h
   simp only[Et,VR]
   refine⟨fun _=>trivial,ad,vs,e,?_⟩
   rcases h with h| ⟨h2,h3,h4⟩
   .exact .inl h
   .exact .inr ⟨hs _ h2,h3,Aw.later ⟨fun _ _=>rfl,hs,fun _ _ _ h=>by simp[σ0] at h⟩ _ _ _ (fun _ _=>rfl) h4⟩
 | .own s n xs,v,fp,h,hf=>by
   simp only[VR] at h
   simp only[Et,VR]
   refine⟨fun _=>trivial,?_⟩
   rcases h with⟨⟨a,e⟩,rfl,rfl,_⟩ | ⟨hh,b,c,cur,e',fp',e,hn,hc,hl,hheap,hsz,hv,hfp⟩
   .exact⟨a,0,e,Nat.le_refl _,fun _=>rfl,.inl rfl⟩
   .refine⟨_,c,e,hn,(fun h=>by simp at h),.inr ⟨⟨hh,b,none⟩,_,rfl,hf hh (by have:=hfp hh;simp at this;omega),?_,PF hs xs _ fp' hv (fun g hg=>hf g (by have:=hfp g;omega))⟩⟩
    intro i u hu
    rw[BG,DZ hheap]
    rw[List.getElem?_take] at hu
    split at hu
    .rw[List.getElem?_drop] at hu;rw[<-Array.getElem?_toList];exact hu
    .simp at hu
 | .optr xs,v,fp,h,hf=>by
   simp only[VR] at h
   simp only[Et,VR]
   obtain⟨hh,b,cur,e',fp',e,hheap,hsz,hv,hfp⟩:=h
   refine⟨fun _=>trivial,⟨hh,b,none⟩,_,e,.inr ⟨hf hh (by have:=hfp hh;simp at this;omega),?_,PF hs xs _ fp' hv (fun g hg=>hf g (by have:=hfp g;omega))⟩⟩
   intro i u hu
   rw[BG,DZ hheap]
   rw[List.getElem?_take] at hu
   split at hu
   .rw[List.getElem?_drop] at hu;rw[<-Array.getElem?_toList];exact hu
   .simp at hu
theorem PF {w:World} {sh shB:Nat->Prop} {σ:Nat->Nat->Option St} (hs:∀g,sh g->shB g):∀(xs:List AV) (vs:List Value) (fp:Nat->Nat),Aw w sh σ xs vs fp->(∀g,fp g≠0->shB g)->Aw w shB σ0 (EX xs) vs (fun _=>0)
 | [],_,_,h,_=>⟨h.1,fun _=>rfl⟩
 |x::xs,vs,fp,h,hf=>by
  simp only[Aw] at h
  obtain⟨v,rest,f1,f2,e,h1,h2,hff⟩:=h
  exact⟨v,rest,_,_,e,Kc hs x v f1 h1 (fun g hg=>hf g (by have:=hff g;omega)),PF hs xs rest f2 h2 (fun g hg=>hf g (by have:=hff g;omega)),fun _=>rfl⟩
end
theorem Fp {w:World} {sh shB:Nat->Prop} {σ τ:Nat->Nat->Option St} {f:AV->AV} {p:(Nat->Nat)->Prop} (hp:∀a b c:Nat->Nat,p c->(∀g,c g=a g+b g)->p a/\p b) (hf:∀x v fp,VR w sh σ x v fp->p fp->VR w shB τ (f x) v (fun _=>0)):
 ∀(xs:List AV) (vs:List Value) (fp:Nat->Nat),Aw w sh σ xs vs fp->p fp->Aw w shB τ (xs.map f) vs (fun _=>0)
 | [],_,_,h,_=>⟨h.1,fun _=>rfl⟩
 |x::xs,vs,fp,h,hq=>by
  simp only[Aw] at h
  obtain⟨v,rest,f1,f2,e,h1,h2,hff⟩:=h
  obtain⟨p1,p2⟩:=hp f1 f2 fp hq hff
  exact⟨v,rest,_,_,e,hf x v f1 h1 p1,Fp hp hf xs rest f2 h2 p2,fun _=>rfl⟩
section
variable {w:World} {sh shB:Nat->Prop} {σ:Nat->Nat->Option St} {own:Nat->Option Nat} {M:List Ag}
theorem Mu (m:B7 w sh σ own M) (hs:∀g,sh g->shB g) (ho:∀g,own g≠none->g<w.heap.size->shB g):∀(d:Nat) (x:AV) (v:Value) (fp:Nat->Nat),VR w sh σ x v fp->(∀g,fp g≠0->shB g)->VR w shB σ0 (CG M d x) v (fun _=>0)
 |0,x,v,fp,h,hf=>by simp only[CG];exact Kc hs x v fp h hf
 |d+1,x,v,fp,h,hf=>by
  have hmap:=Fp (w:=w) (sh:=sh) (shB:=shB) (σ:=σ) (τ:=σ0) (f:=CG M d) (p:=fun fp=>∀g,fp g≠0->shB g) (fun a b c hc e=>⟨fun g hg=>hc g (by have:=e g;omega),fun g hg=>hc g (by have:=e g;omega)⟩) (fun x v fp h hf=>Mu m hs ho d x v fp h hf)
  unfold CG
  split
  .rename_i d' T u s off n he
   obtain rfl:d=d' :=by omega
   clear he
   split
   .rename_i cs hcs
    split
    .rename_i hle
     simp only[VR]
     refine⟨fun _=>trivial,?_⟩
     by_cases hn:n=0
     .subst hn
      simp only[VR] at h
      obtain⟨_,⟨a,c,e⟩,_⟩:=h
      exact⟨a,c,e,Nat.zero_le _,fun _=>rfl,.inl (by simp)⟩
     .have h0:fp=fun _=>0:=by simp only[VR] at h;exact funext h.1
      subst h0
      obtain⟨hh,b,cur,e,c,rfl,hnc,hcm,hcz,hst,how,hheap,hbl,_⟩:=HK m hcs h (by omega)
      obtain⟨hM,fpT,hB,hfT⟩:=BS m hcs
      simp only[BR] at hB
      rcases hB.2 with⟨h1,_⟩ | ⟨h',b',c',e',fp',h1,h2,h3,h4,h5⟩
      .rw[hst] at h1;simp at h1
      .have hloc:h' =hh/\b' =b:=by rw[hst] at h1;simp at h1;exact⟨h1.1.symm,h1.2.1.symm⟩
       obtain⟨rfl,rfl⟩:=hloc
       rw[hheap] at h2;simp at h2
       obtain⟨rfl,rfl⟩:=h2
       obtain⟨f1,h6,h6'⟩:=FF off h4
       obtain⟨f2,h7,h7'⟩:=Hk (n*s) h6
       have hf2:∀g,f2 g≠0->shB g:=fun g hg=>by
        have e1:=h6' g;have e2:=h7' g;have e3:=h5 g;have e4:=hfT g
        have hlt:=E8 _ _ _ h7 g hg
        refine ho g ?_ hlt
        split at e4
        .rename_i e5;rw[e5];simp
        .omega
       refine⟨_,c,rfl,hnc,(fun h=>by simp at h),.inr ⟨_,_,rfl,ho h' (by rw[how];simp) (Array.getElem?_eq_some_iff.1 hheap).1,?_,hmap _ _ _ h7 hf2⟩⟩
       intro i u' hu
       rw[BG,DZ hheap]
       rw[List.getElem?_take] at hu
       split at hu
       .rw[List.getElem?_drop,List.getElem?_take] at hu
        split at hu
        .rw[List.getElem?_drop] at hu
         rw[<-Array.getElem?_toList]
         rw[show b' +off+i=b' +(off+i) by omega];exact hu
        .simp at hu
       .simp at hu
    .exact fun _=>rfl
   .exact fun _=>rfl
  .rename_i d' T u off he
   obtain rfl:d=d' :=by omega
   clear he
   split
   .rename_i cs hcs
    have h0:fp=fun _=>0:=by simp only[VR] at h;exact funext h.1
    subst h0
    obtain⟨hh,b,cur,e,rfl,hst,how,hheap,hbl,_⟩:=FN m hcs h
    obtain⟨hM,fpT,hB,hfT⟩:=BS m hcs
    simp only[BR] at hB
    rcases hB.2 with⟨h1,_⟩ | ⟨h',b',c',e',fp',h1,h2,h3,h4,h5⟩
    .rw[hst] at h1;simp at h1
    .have hloc:h' =hh/\b' =b:=by rw[hst] at h1;simp at h1;exact⟨h1.1.symm,h1.2.1.symm⟩
     obtain⟨rfl,rfl⟩:=hloc
     rw[hheap] at h2;simp at h2
     obtain⟨rfl,rfl⟩:=h2
     obtain⟨f1,h6,h6'⟩:=FF off h4
     have hf1:∀g,f1 g≠0->shB g:=fun g hg=>by
      have e1:=h6' g;have e3:=h5 g;have e4:=hfT g
      have hlt:=E8 _ _ _ h6 g hg
      refine ho g ?_ hlt
      split at e4
      .rename_i e5;rw[e5];simp
      .omega
     refine⟨fun _=>rfl,_,_,rfl,.inr ⟨ho h' (by rw[how];simp) (Array.getElem?_eq_some_iff.1 hheap).1,?_,hmap _ _ _ h6 hf1⟩⟩
     intro i u' hu
     rw[BG,DZ hheap]
     rw[List.getElem?_drop,List.getElem?_take] at hu
     split at hu
     .rw[List.getElem?_drop] at hu
      rw[<-Array.getElem?_toList]
      rw[show b' +off+i=b' +(off+i) by omega];exact hu
     .simp at hu
   .exact fun _=>rfl
  .exact Kc hs _ v fp h hf
theorem Si (m:B7 w sh σ own M) (hs:∀g,sh g->shB g) (ho:∀g,own g≠none->g<w.heap.size->shB g) {x:AV} {v:Value} (h:VR w sh σ x v (fun _=>0)):VR w shB σ0 (vw M x) v (fun _=>0):=by
 have hmap:=Fp (w:=w) (sh:=sh) (shB:=shB) (σ:=σ) (τ:=σ0) (f:=CG M 3) (p:=fun fp=>∀g,fp g≠0->shB g) (fun a b c hc e=>⟨fun g hg=>hc g (by have:=e g;omega),fun g hg=>hc g (by have:=e g;omega)⟩) (fun x v fp h hf=>Mu m hs ho 3 x v fp h hf)
 unfold vw
 split
 .simp only[VR] at h |-
  obtain⟨cs,e,hv⟩:=h
  exact⟨cs,e,hmap _ _ _ hv (fun g hg=>absurd rfl hg)⟩
 .simp only[VR] at h |-
  obtain⟨h0,cs,e,hv⟩:=h
  exact⟨fun _=>trivial,cs,e,hmap _ _ _ hv (fun g hg=>absurd rfl hg)⟩
 .exact fun _=>rfl
 .exact Mu m hs ho 3 x v _ h (fun g hg=>absurd rfl hg)
theorem ZX {x:AV} {v:Value} (h:VR w sh σ x v (fun _=>0)):VR w sh σ0 (N0 x) v (fun _=>0):=by
 have hmap:=Fp (w:=w) (sh:=sh) (shB:=sh) (σ:=σ) (τ:=σ0) (f:=Et) (p:=fun fp=>∀g,fp g≠0->sh g) (fun a b c hc e=>⟨fun g hg=>hc g (by have:=e g;omega),fun g hg=>hc g (by have:=e g;omega)⟩) (fun x v fp h hf=>Kc (fun _ h=>h) x v fp h hf)
 unfold N0
 split
 .simp only[VR] at h |-
  obtain⟨cs,e,hv⟩:=h
  exact⟨cs,e,hmap _ _ _ hv (fun g hg=>absurd rfl hg)⟩
 .simp only[VR] at h |-
  obtain⟨h0,cs,e,hv⟩:=h
  exact⟨fun _=>trivial,cs,e,hmap _ _ _ hv (fun g hg=>absurd rfl hg)⟩
 .exact fun _=>rfl
 .exact Kc (fun _ h=>h) x v _ h (fun g hg=>absurd rfl hg)
end
mutual
def Gc:AV->Bool
 | .ro _ xs=>xs.isEmpty
 | .rptr xs=>xs.isEmpty
 | .own _ _ xs=>C4 xs
 | .optr xs=>C4 xs
 | .agg xs=>C4 xs
 | .tup xs=>C4 xs
 | .fn _ cs=>C4 cs
 |_=>true
def C4:List AV->Bool
 | []=>true
 |x::xs=>Gc x&&C4 xs
end
theorem LE:∀xs,C4 xs=xs.all Gc
 | []=>rfl
 |x::xs=>by simp[C4,LE xs]
mutual
theorem Mv {w:World} {sh sh' :Nat->Prop} {σ:Nat->Nat->Option St}:∀(x:AV) (v:Value) (fp:Nat->Nat),Gc x=true->VR w sh σ x v fp->VR w sh' σ x v fp
 | .any,_,_,_,h=>h
 | .bool _,_,_,_,h=>h
 | .int _ _,_,_,_,h=>h
 | .str _,_,_,_,h=>h
 | .nilp,_,_,_,h=>h
 | .tok ..,_,_,_,h=>h
 | .ptr ..,_,_,_,h=>h
 | .ro n xs,v,fp,hr,h=>by
   have:xs=[]:=by simpa[Gc] using hr
   subst this
   simp only[VR] at h |-
   obtain⟨h0,a,c,e,h1,h2,_⟩:=h
   exact⟨h0,a,c,e,h1,h2,by simp⟩
 | .rptr xs,v,fp,hr,h=>by
   have:xs=[]:=by simpa[Gc] using hr
   subst this
   simp only[VR] at h |-
   obtain⟨h0,ad,vs,e,_⟩:=h
   exact⟨h0,ad,vs,e,by simp⟩
 | .own s n xs,v,fp,hr,h=>by
   simp only[Gc] at hr
   simp only[VR] at h |-
   rcases h with h| ⟨hh,b,c,cur,e',fp',e,hn,hc,hl,hheap,hsz,hv,hfp⟩
   .exact .inl h
   .exact .inr ⟨hh,b,c,cur,e',fp',e,hn,hc,hl,hheap,hsz,Gv xs _ _ hr hv,hfp⟩
 | .optr xs,v,fp,hr,h=>by
   simp only[Gc] at hr
   simp only[VR] at h |-
   obtain⟨hh,b,cur,e',fp',e,hheap,hsz,hv,hfp⟩:=h
   exact⟨hh,b,cur,e',fp',e,hheap,hsz,Gv xs _ _ hr hv,hfp⟩
 | .agg xs,v,fp,hr,h=>by
   simp only[Gc] at hr
   simp only[VR] at h |-
   obtain⟨cs,e,hv⟩:=h
   exact⟨cs,e,Gv xs _ _ hr hv⟩
 | .tup xs,v,fp,hr,h=>by
   simp only[Gc] at hr
   simp only[VR] at h |-
   obtain⟨cs,e,hv⟩:=h
   exact⟨cs,e,Gv xs _ _ hr hv⟩
 | .fn f xs,v,fp,hr,h=>by
   simp only[Gc] at hr
   simp only[VR] at h |-
   obtain⟨h0,cs,e,hv⟩:=h
   exact⟨h0,cs,e,Gv xs _ _ hr hv⟩
theorem Gv {w:World} {sh sh' :Nat->Prop} {σ:Nat->Nat->Option St}:∀(xs:List AV) (vs:List Value) (fp:Nat->Nat),C4 xs=true->Aw w sh σ xs vs fp->Aw w sh' σ xs vs fp
 | [],_,_,_,h=>h
 |x::xs,vs,fp,hr,h=>by
  simp only[C4,Bool.and_eq_true] at hr
  simp only[Aw] at h |-
  obtain⟨v,rest,f1,f2,e,h1,h2,hf⟩:=h
  exact⟨v,rest,f1,f2,e,Mv x v f1 hr.1 h1,Gv xs rest f2 hr.2 h2,hf⟩
end
def JC (L:Nat):AV->AV×List Ag
 | .own s n xs=>(.tok L 0 s 0 n,[.live 0 xs])
 | .optr xs=>(.ptr L 0 0,[.live 0 xs])
 | .agg _=>(.any,[])
 | .tup _=>(.any,[])
 |x=>(x,[])
def Kd (f:Nat->AV->AV×List Ag):Nat->List AV->List AV×List Ag
 |_,[]=>([],[])
 |L,x::xs=>((f L x).1::(Kd f (L+(f L x).2.length) xs).1,(f L x).2++(Kd f (L+(f L x).2.length) xs).2)
def Rl (L:Nat):AV->AV×List Ag
 | .agg xs=>(.agg (Kd JC L xs).1,(Kd JC L xs).2)
 |x=>JC L x
def D5 (L:Nat):AV->AV×List Ag
 | .tup xs=>(.tup (Kd Rl L xs).1,(Kd Rl L xs).2)
 |x=>Rl L x
def Sj (f:Nat->AV->AV×List Ag):Prop:=∀(C:Bn) (F:Fr) (M:List Ag) (a:Act) (w:World) (σ:Nat->Nat->Option St) (own:Nat->Option Nat) (x:AV) (v:Value) (fp:Nat->Nat),AK C F M a w σ own->VR w C.sh σ0 x v fp->
 (∀g,fp g<=1)->(∀g,fp g≠0->own g=none/\¬C.sh g/\(C.own0 g≠none\/C.w0.heap.size<=g))->
 ∃σ' own',AK C F (M++(f M.length x).2) a w σ' own' /\VR w C.sh σ' (f M.length x).1 v (fun _=>0)/\(∀g,fp g=0->own' g=own g)/\∀T u st,σ T u=some st->σ' T u=some st
theorem Ua:Sj JC:=by
 intro C F M a w σ own x v fp R hx h1 hfp
 have plain:∀y:AV,JC M.length y=(y,[])->VR w C.sh σ0 y v fp->(∀g,fp g=0)->∃σ' own',AK C F (M++(JC M.length y).2) a w σ' own' /\VR w C.sh σ' (JC M.length y).1 v (fun _=>0)/\(∀g,fp g=0->own' g=own g)/\∀T u st,σ T u=some st->σ' T u=some st:=by
  intro y e hy h0
  rw[e]
  have:fp=fun _=>0:=funext h0
  subst this
  exact⟨σ,own,by simpa using R,VR.up σ hy,fun _ _=>rfl,fun _ _ _ h=>h⟩
 have keep:∀(st:St) (T u:Nat) (s:St),σ T u=some s->(fun T u=>if T=M.length/\u=0 then some st else σ T u) T u=some s:=fun st T u s h=>by
  have:¬(T=M.length/\u=0):=fun e=>by rw[R.mem.key T u (by omega)] at h;simp at h
  simp only[this,if_false];exact h
 have hkeep:∀st:St,Cb w w C.sh C.sh σ (fun T u=>if T=M.length/\u=0 then some st else σ T u):=fun st=>⟨fun _ _=>rfl,fun _ h=>h,fun T u s h=> .inl (keep st T u s h)⟩
 have hmem:∀(xs:List AV) (st:St) (own' :Nat->Option Nat),(∀g T,own g=some T->own' g=some T)->(∃fp',BR w C.sh (fun T u=>if T=M.length/\u=0 then some st else σ T u) M.length (.live 0 xs) fp' /\∀g,fp' g<=if own' g=some M.length then 1 else 0)->
  B7 w C.sh (fun T u=>if T=M.length/\u=0 then some st else σ T u) own' (M++[.live 0 xs]):=by
  intro xs st own' ho hB
  refine⟨fun T B hM=>?_,fun T u hT=>?_⟩
  .by_cases hT:T<M.length
   .rw[List.getElem?_append_left hT] at hM
    obtain⟨fpT,b1,b2⟩:=R.mem.blk T B hM
    refine⟨fpT,EG (hkeep st) (fun _ _=>rfl) (fun u=>?_) b1,fun g=>?_⟩
    .have:¬(T=M.length/\u=0):=by omega
     simp only[this,if_false]
    .have e:=b2 g
     split at e
     .rename_i eg
      rw[if_pos (ho g T eg)];exact e
     .omega
   .rw[List.getElem?_append_right (by omega)] at hM
    have:T=M.length:=by
     rcases Nat.lt_or_ge (T-M.length) 1 with h|h
     .omega
     .rw[List.getElem?_eq_none (by simpa using h)] at hM;simp at hM
    subst this
    simp at hM;subst hM;exact hB
  .simp at hT
   have:¬(T=M.length/\u=0):=by omega
   simp only[this,if_false]
   exact R.mem.key T u (by omega)
 have hver:∀(st:St) (v' :Nat),0<v' ->(fun T u=>if T=M.length/\u=0 then some st else σ T u) M.length v' =none:=fun st v' hv' =>by
  have:¬v' =0:=by omega
  simp only[this,and_false,if_false];exact R.mem.key _ _ (Nat.le_refl _)
 cases x with
 |own s n xs=>
  simp only[JC]
  simp only[VR] at hx
  rcases hx with⟨⟨ad,e⟩,rfl,rfl,h0⟩ | ⟨hh,b,c,cur,e',fp',e,hn,hc,hl,hheap,hsz,hv,hff⟩
  .refine⟨_,own,⟨R.size,R.dfr,fun t ht=>VR.later (hkeep .nil) _ _ _ (fun _ _=>rfl) (R.tmp t ht),hmem _ .nil own (fun g T h=>h) ⟨fun _=>0,⟨hver .nil,.inl ⟨by simp,rfl,fun _=>rfl⟩⟩,fun _=>Nat.zero_le _⟩,R.shr,R.ext,R.keyl (hkeep .nil)⟩,⟨fun _=>rfl,⟨ad,0,e⟩,.nil,by simp,fun _=>⟨⟨ad,e⟩,rfl,rfl⟩,fun _ _ _ e=>by cases e⟩,fun _ _=>rfl,keep .nil⟩
  .let own' :Nat->Option Nat:=fun g=>if fp g≠0 then some M.length else own g
   have ho:∀g T,own g=some T->own' g=some T:=fun g T h=>by
    have:fp g=0:=by
     rcases Nat.eq_zero_or_pos (fp g) with h0|h0
     .exact h0
     .rw[(hfp g (by omega)).1] at h;simp at h
    simp only[own',this,ne_eq,not_true_eq_false,if_false];exact h
   refine⟨_,own',⟨R.size,R.dfr,fun t ht=>VR.later (hkeep (.loc hh b cur.size)) _ _ _ (fun _ _=>rfl) (R.tmp t ht),hmem xs (.loc hh b cur.size) own' ho ⟨fp,⟨hver _,.inr ⟨hh,b,cur,e',fp',by simp,hheap,?_,?_,hff⟩⟩,fun g=>?_⟩,fun g hg=>?_,?_,R.keyl (hkeep _)⟩,⟨fun _=>rfl,⟨_,c,e⟩,.loc hh b cur.size,by simp,(fun e=>by cases e),fun h' b' sz' e2=>?_⟩,fun g hg=>by simp only[own',hg,ne_eq,not_true_eq_false,if_false],keep _⟩
   .have:n*s<=c*s:=Nat.mul_le_mul_right _ hn
    rw[hl];omega
   .rw[hl];exact Aw.up _ hv
   .by_cases h0:fp g=0
    .rw[h0];exact Nat.zero_le _
    .rw[if_pos (by simp only[own',h0,ne_eq,not_false_eq_true,if_true])];exact h1 g
   .have h2:=R.shr g hg
    have:fp g=0:=by
     rcases Nat.eq_zero_or_pos (fp g) with h0|h0
     .exact h0
     .exact absurd hg (hfp g (by omega)).2.1
    simp only[own',this,ne_eq,not_true_eq_false,if_false];exact h2
   .refine⟨R.ext.os,R.ext.tape,R.ext.output,R.ext.size,R.ext.block,fun g hg=>?_⟩
    by_cases h0:fp g=0
    .simp only[own',h0,ne_eq,not_true_eq_false,if_false] at hg;exact R.ext.own g hg
    .exact(hfp g h0).2.2
   .cases e2
    exact⟨⟨hh,b,none⟩,c,e,fun _=>rfl,hn,hc,by omega⟩
 |optr xs=>
  simp only[JC]
  simp only[VR] at hx
  obtain⟨hh,b,cur,e',fp',e,hheap,hsz,hv,hff⟩:=hx
  let own' :Nat->Option Nat:=fun g=>if fp g≠0 then some M.length else own g
  have ho:∀g T,own g=some T->own' g=some T:=fun g T h=>by
   have:fp g=0:=by
    rcases Nat.eq_zero_or_pos (fp g) with h0|h0
    .exact h0
    .rw[(hfp g (by omega)).1] at h;simp at h
   simp only[own',this,ne_eq,not_true_eq_false,if_false];exact h
  refine⟨_,own',⟨R.size,R.dfr,fun t ht=>VR.later (hkeep (.loc hh b cur.size)) _ _ _ (fun _ _=>rfl) (R.tmp t ht),hmem xs (.loc hh b cur.size) own' ho ⟨fp,⟨hver _,.inr ⟨hh,b,cur,e',fp',by simp,hheap,hsz,Aw.up _ hv,hff⟩⟩,fun g=>?_⟩,fun g hg=>?_,?_,R.keyl (hkeep _)⟩,⟨fun _=>rfl,⟨_,e⟩,.loc hh b cur.size,by simp,(fun e=>by cases e),fun h' b' sz' e2=>?_⟩,fun g hg=>by simp only[own',hg,ne_eq,not_true_eq_false,if_false],keep _⟩
  .by_cases h0:fp g=0
   .rw[h0];exact Nat.zero_le _
   .rw[if_pos (by simp only[own',h0,ne_eq,not_false_eq_true,if_true])];exact h1 g
  .have h2:=R.shr g hg
   have:fp g=0:=by
    rcases Nat.eq_zero_or_pos (fp g) with h0|h0
    .exact h0
    .exact absurd hg (hfp g (by omega)).2.1
   simp only[own',this,ne_eq,not_true_eq_false,if_false];exact h2
  .refine⟨R.ext.os,R.ext.tape,R.ext.output,R.ext.size,R.ext.block,fun g hg=>?_⟩
   by_cases h0:fp g=0
   .simp only[own',h0,ne_eq,not_true_eq_false,if_false] at hg;exact R.ext.own g hg
   .exact(hfp g h0).2.2
  .cases e2;exact e
 |any=>exact plain _ rfl hx hx
 |bool=>exact plain _ rfl hx hx.2
 |int=>exact plain _ rfl hx hx.2
 |str=>exact plain _ rfl hx hx.2
 |nilp=>exact plain _ rfl hx hx.2
 |ro=>exact plain _ rfl hx (by simp only[VR] at hx;exact hx.1)
 |tok=>exact plain _ rfl hx (by simp only[VR] at hx;exact hx.1)
 |ptr=>exact plain _ rfl hx (by simp only[VR] at hx;exact hx.1)
 |rptr=>exact plain _ rfl hx (by simp only[VR] at hx;exact hx.1)
 |fn=>exact plain _ rfl hx (by simp only[VR] at hx;exact hx.1)
 |agg=>exact⟨σ,own,by simpa[JC] using R,fun _=>rfl,fun _ _=>rfl,fun _ _ _ h=>h⟩
 |tup=>exact⟨σ,own,by simpa[JC] using R,fun _=>rfl,fun _ _=>rfl,fun _ _ _ h=>h⟩
theorem PG {f:Nat->AV->AV×List Ag} (hf:Sj f):∀(xs:List AV) (C:Bn) (F:Fr) (M:List Ag) (a:Act) (w:World) (σ:Nat->Nat->Option St) (own:Nat->Option Nat) (vs:List Value) (fp:Nat->Nat),AK C F M a w σ own->Aw w C.sh σ0 xs vs fp->
 (∀g,fp g<=1)->(∀g,fp g≠0->own g=none/\¬C.sh g/\(C.own0 g≠none\/C.w0.heap.size<=g))->
 ∃σ' own',AK C F (M++(Kd f M.length xs).2) a w σ' own' /\Aw w C.sh σ' (Kd f M.length xs).1 vs (fun _=>0)/\(∀g,fp g=0->own' g=own g)/\∀T u st,σ T u=some st->σ' T u=some st
 | [],C,F,M,a,w,σ,own,vs,fp,R,hx,_,_=>⟨σ,own,by simpa[Kd] using R,⟨hx.1,fun _=>rfl⟩,fun _ _=>rfl,fun _ _ _ h=>h⟩
 |x::xs,C,F,M,a,w,σ,own,vs,fp,R,hx,h1,hfp=>by
  simp only[Aw] at hx
  obtain⟨v,rest,f1,f2,rfl,hx1,hx2,hff⟩:=hx
  obtain⟨σ1,own1,R1,r1,o1,k1⟩:=hf C F M a w σ own x v f1 R hx1 (fun g=>by have:=h1 g;have:=hff g;omega) (fun g hg=>hfp g (by have:=hff g;omega))
  have hl:(M++(f M.length x).2).length=M.length+(f M.length x).2.length:=by simp
  obtain⟨σ2,own2,R2,r2,o2,k2⟩:=PG hf xs C F (M++(f M.length x).2) a w σ1 own1 rest f2 R1 hx2 (fun g=>by have:=h1 g;have:=hff g;omega) (fun g hg=>by
   have e1:=h1 g;have e2:=hff g
   rw[o1 g (by omega)]
   exact hfp g (by omega))
  rw[hl] at R2 r2
  refine⟨σ2,own2,by simpa[Kd,List.append_assoc] using R2,⟨v,rest,_,_,rfl,VR.later ⟨fun _ _=>rfl,fun _ h=>h,fun T u st h=> .inl (k2 T u st h)⟩ _ _ _ (fun _ _=>rfl) r1,r2,fun _=>rfl⟩,fun g hg=>?_,fun T u st h=>k2 T u st (k1 T u st h)⟩
  have e2:=hff g
  rw[o2 g (by omega),o1 g (by omega)]
theorem Ub:Sj Rl:=by
 intro C F M a w σ own x v fp R hx h1 hfp
 unfold Rl
 split
 .simp only[VR] at hx
  obtain⟨cs,e,hv⟩:=hx
  obtain⟨σ',own',R',r,o,k⟩:=PG Ua _ C F M a w σ own _ fp R hv h1 hfp
  exact⟨σ',own',R',⟨cs,e,r⟩,o,k⟩
 .exact Ua C F M a w σ own x v fp R hx h1 hfp
theorem Uc:Sj D5:=by
 intro C F M a w σ own x v fp R hx h1 hfp
 unfold D5
 split
 .simp only[VR] at hx
  obtain⟨cs,e,hv⟩:=hx
  obtain⟨σ',own',R',r,o,k⟩:=PG Ub _ C F M a w σ own _ fp R hv h1 hfp
  exact⟨σ',own',R',⟨cs,e,r⟩,o,k⟩
 .exact Ub C F M a w σ own x v fp R hx h1 hfp
section
variable {P:Program} {f:Nat} {M:List Ag} {args cargs:List AV} {K:AV->List Ag->Prop} {Q:AV->List Ag->Prop}
theorem Gw (w:World) (sh:Nat->Prop):B7 w sh σ0 (fun _=>none) []:=⟨fun T B h=>by simp at h,fun _ _ _=>rfl⟩
theorem Ke {C:Bn} {F:Fr} {a:Act} {w:World} {σ:Nat->Nat->Option St} {own:Nat->Option Nat} (R:AK C F M a w σ own) {w' :World} {own' :Nat->Option Nat} (he:Fx w w' (fun _=>none) own') {r:AV} {v:Value} {fpr:Nat->Nat} (hr:VR w' C.sh σ0 r v fpr)
 (hf:∀g,fpr g<=if own' g=some 0 then 1 else 0):∃σ2 own2,AK C F (M++(D5 M.length r).2) a w' σ2 own2/\VR w' C.sh σ2 (D5 M.length r).1 v (fun _=>0):=by
 have hnew:∀g,fpr g≠0->w.heap.size<=g:=fun g hg=>by
  have:=hf g
  split at this
  .rename_i e
   rcases he.own g (by rw[e];simp) with h|h
   .exact absurd rfl h
   .exact h
  .omega
 let own1:Nat->Option Nat:=fun g=>if g<w.heap.size then own g else none
 have hblk:∀g,g<w.heap.size->w'.heap[g]?=w.heap[g]?:=fun g hg=>he.block g hg rfl
 have L:Cb w w' C.sh C.sh σ σ:=⟨fun g hg=>hblk g (R.shr g hg).2,fun _ h=>h,fun _ _ _ h=> .inl h⟩
 have R1:AK C F M a w' σ own1:=by
  refine⟨R.size,R.dfr,fun t ht=>VR.later L _ _ _ (fun _ h=>absurd rfl h) (R.tmp t ht),⟨fun T B hM=>?_,R.mem.key⟩,fun g hg=>?_,?_,R.key0⟩
  .obtain⟨fp,b1,b2⟩:=R.mem.blk T B hM
   have hlt:∀g,fp g≠0->g<w.heap.size:=fun g hg=>Mn b1 g hg
   refine⟨fp,EG L (fun g hg=>hblk g (hlt g hg)) (fun _=>rfl) b1,fun g=>?_⟩
   by_cases h0:fp g=0
   .rw[h0];exact Nat.zero_le _
   .have:=b2 g
    simp only[own1,hlt g h0,if_true];exact this
  .have h1:=R.shr g hg
   have:=he.size
   simp only[own1,h1.2,if_true];exact⟨h1.1,by omega⟩
  .refine R.ext.trans ⟨he.os,he.tape,he.output,he.size,fun g hg _=>hblk g hg,fun g hg=> .inl ?_⟩
   simp only[own1] at hg
   split at hg
   .exact hg
   .exact absurd rfl hg
 obtain⟨σ2,own2,R2,r2,_,_⟩:=Uc C F M a w' σ own1 r v fpr R1 hr (fun g=>by have:=hf g;split at this<;>omega) (fun g hg=>by
  have h1:=hnew g hg
  refine⟨by simp only[own1];rw[if_neg (by omega)],fun hs=>?_,?_⟩
  .have:=(R.shr g hs).2;omega
  .exact .inr (by have:=R.ext.size;omega))
 exact⟨σ2,own2,R2,r2⟩
def Bw (M:List Ag):List Nat->List Ag
 | []=>M
 |T::Ts=>(Bw M Ts).set T .dead
theorem B7.hide {w:World} {sh:Nat->Prop} {σ:Nat->Nat->Option St} {own:Nat->Option Nat} {M:List Ag} (m:B7 w sh σ own M):∀D:List Nat,B7 w sh σ own (Bw M D)
 | []=>m
 |T::D=>by
  have m1:=B7.hide m D
  refine⟨fun T' B hB=>?_,fun T' v h=>m1.key T' v (by simpa[Bw] using h)⟩
  simp only[Bw] at hB
  by_cases e:T=T'
  .subst e
   rcases Nat.lt_or_ge T (Bw M D).length with hl|hl
   .rw[List.getElem?_set_self hl] at hB
    simp at hB;subst hB
    exact⟨fun _=>0,fun _=>rfl,fun _=>Nat.zero_le _⟩
   .rw[List.getElem?_eq_none (by simpa using hl)] at hB;simp at hB
  .rw[List.getElem?_set_ne e] at hB
   exact m1.blk T' B hB
theorem Ab.borH (D:List Nat) (spec:Aa P f cargs [] Q) (hargs:args.map (vw (Bw M D))=cargs) (hk:∀r,Q r []->Gc r=true/\K (D5 M.length r).1 (M++(D5 M.length r).2)):Ab P f args M K:=by
 intro C hC
 subst hC
 refine⟨spec.1,fun F a w σ own vals R hv=>?_⟩
 have hv' :Aw w (fun g=>C.sh g\/(own g≠none/\g<w.heap.size)) σ0 cargs vals.toList (fun _=>0):=by
  rw[<-hargs]
  have:=Fp (w:=w) (sh:=C.sh) (shB:=fun g=>C.sh g\/(own g≠none/\g<w.heap.size)) (σ:=σ) (τ:=σ0) (f:=vw (Bw M D)) (p:=fun fp=>∀g,fp g=0) (fun a b c hc e=>⟨fun g=>by have:=e g;have:=hc g;omega,fun g=>by have:=e g;have:=hc g;omega⟩) (fun x v fp h hf=>by
   have:fp=fun _=>0:=funext hf
   subst this
   exact Si (R.mem.hide D) (fun g hg=> .inl hg) (fun g hg hlt=> .inr ⟨hg,hlt⟩) h)
  exact this _ _ _ hv (fun _=>rfl)
 refine(spec.2 w _ σ0 (fun _=>none) vals hv' (Gw _ _) (fun g hg=>⟨rfl,?_⟩)).mono ?_
 .rcases hg with hg|hg
  .exact(R.shr g hg).2
  .exact hg.2
 .rintro e w' ⟨r,v,M',σ',own',fpr,rfl,hq,hl,hr,hf,hm,_,he,_⟩
  have:M' =[]:=List.eq_nil_of_length_eq_zero (by simpa using hl)
  subst this
  obtain⟨h1,h2⟩:=hk r hq
  have hσ:σ' =σ0:=by funext T u;exact hm.key T u (Nat.zero_le _)
  subst hσ
  obtain⟨σ2,own2,R2,r2⟩:=Ke R he (Mv r v fpr h1 hr) hf
  exact⟨_,v,_,σ2,own2,rfl,h2,R2,r2⟩
theorem Ab.bor (spec:Aa P f cargs [] Q) (hargs:args.map (vw M)=cargs) (hk:∀r,Q r []->Gc r=true/\K (D5 M.length r).1 (M++(D5 M.length r).2)):Ab P f args M K:=Ab.borH [] spec hargs hk
theorem Ab.ro (spec:Aa P f cargs [] Q) (hargs:args.map N0=cargs) (hk:∀r,Q r []->K (D5 M.length r).1 (M++(D5 M.length r).2)):Ab P f args M K:=by
 intro C hC
 subst hC
 refine⟨spec.1,fun F a w σ own vals R hv=>?_⟩
 have hv' :Aw w C.sh σ0 cargs vals.toList (fun _=>0):=by
  rw[<-hargs]
  have:=Fp (w:=w) (sh:=C.sh) (shB:=C.sh) (σ:=σ) (τ:=σ0) (f:=N0) (p:=fun fp=>∀g,fp g=0) (fun a b c hc e=>⟨fun g=>by have:=e g;have:=hc g;omega,fun g=>by have:=e g;have:=hc g;omega⟩) (fun x v fp h hf=>by
   have:fp=fun _=>0:=funext hf
   subst this
   exact ZX h)
  exact this _ _ _ hv (fun _=>rfl)
 refine(spec.2 w _ σ0 (fun _=>none) vals hv' (Gw _ _) (fun g hg=>⟨rfl,(R.shr g hg).2⟩)).mono ?_
 rintro e w' ⟨r,v,M',σ',own',fpr,rfl,hq,hl,hr,hf,hm,_,he,_⟩
 have:M' =[]:=List.eq_nil_of_length_eq_zero (by simpa using hl)
 subst this
 have hσ:σ' =σ0:=by funext T u;exact hm.key T u (Nat.zero_le _)
 subst hσ
 obtain⟨σ2,own2,R2,r2⟩:=Ke R he hr hf
 exact⟨_,v,_,σ2,own2,rfl,hk r hq,R2,r2⟩
end
def F0:Fr:=fun _=> .any
def condK (v:AV) (K1 K2:Prop):Prop:=match v with| .bool b=>(b=true->K1)/\(b=false->K2) |_=>False
section
variable {P:Program} {T:Nat->Option TI} {p:Nat} {F:Fr} {M:List Ag} {Q:Cn}
theorem W.regK {id:Nat} {l:List Oper} (h:∀K:Fr->List Ag->Prop,(∀F M,Q .normal F M->K F M)->Ak T (Ab P) l.toArray l M.length F (M++List.replicate (Bb l) .free) K):W P T p (.region id l.toArray false) F M Q:=
 W.region (h _ fun _ _ h=>h)
theorem W.condK {t:Nat} {x y:Code} (h:∀K1 K2:Prop,(W P T p x F M Q->K1)->(W P T p y F M Q->K2)->condK (F t) K1 K2):W P T p (.cond (.tmp t) x y) F M Q:=by
 have h1:=h _ _ id id
 unfold Abs.condK at h1
 split at h1
 .rename_i b hb;exact W.cond hb h1.1 h1.2
 .exact h1.elim
end
theorem Ay (a:AV):DT [a]=Bg F0 0 a:=by funext t;cases t<;>simp[DT,Bg,F0]
theorem At (a b:AV):DT [a,b]=Bg (Bg F0 0 a) 1 b:=by
 funext t;rcases t with _|_|t<;>simp[DT,Bg,F0]
theorem Bl (a b c:AV):DT [a,b,c]=Bg (Bg (Bg F0 0 a) 1 b) 2 c:=by
 funext t;rcases t with _|_|_|t<;>simp[DT,Bg,F0]
theorem Iz (a b c d:AV):DT [a,b,c,d]=Bg (Bg (Bg (Bg F0 0 a) 1 b) 2 c) 3 d:=by
 funext t;rcases t with _|_|_|_|t<;>simp[DT,Bg,F0]
section
variable {T:Nat->Option TI} {call:D3} {ops:Array Oper} {rest:List Oper} {d:Option Nat} {op:Op} {ty s:Nat} {pos:String} {af:Array Edge} {F:Fr} {M:List Ag} {K:Fr->List Ag->Prop} {o:Oper} {g:Option (Nat×Bool)}
theorem VM:Ak T call ops [] s F M K=K F M:=rfl
end
def EP:AV->Option (Nat×Nat)
 | .tok T v _ _ _=>some (T,v)
 | .ptr T v _=>some (T,v)
 |_=>none
def AF:Op->Nat
 | .binOp .eql _ _ (.const (.slice none 0 0)) _=>6
 | .binOp .neq _ _ (.const (.slice none 0 0)) _=>6
 | .move _| .assign _| .pick .. | .binOp .. | .unOp .. | .field .. | .index .. | .extract .. | .build .. =>0
 | .makeFunc (.func _) _ _=>0
 | .alloc _| .box .. | .makeSlice .. | .buildSlice .. =>0
 | .call {callee:= .builtin .len,.. } | .call {callee:= .builtin .min,.. } | .call {callee:= .builtin .max,.. }=>0
 | .fieldAddr .. | .indexAddr .. | .slice .. | .nilCheck _=>1
 | .load .. | .convert .. =>2
 | .call {callee:= .value _,.. }=>3
 | .store .. =>4
 | .call {callee:= .builtin .append,.. }=>5
 |_=>6
def BN (M:List Ag) (s:Nat):Option Ag->List Ag
 |some b=>M.set s b
 |none=>M
def E9 (T:Nat->Option TI) (o:Oper) (s:Nat) (F:Fr) (M:List Ag) (v:AV) (b:Option Ag):Prop:=
 match o.op with
 | .alloc t=>∃i,T t=some i/\M[s]?=some .free/\v= .ptr s 0 0/\b=some (.live 0 i.zero)
 | .box t x=>∃i cs,T t=some i/\II i (ev F x)=some cs/\M[s]?=some .free/\v= .ptr s 0 0/\b=some (.live 0 cs)
 | .makeSlice t l c=>∃e es eb ez k n k',Ar T t= .slice e es eb ez/\ev F l= .int k n/\ev F c= .int k' n/\M[s]?=some .free/\0<=n/\n*eb<=140737488355328/\n<=maxLen/\v= .tok s 0 es 0 n.toNat/\b=some (.live 0 (CF n.toNat ez))
 | .buildSlice t len Am=>∃e es eb ez cs,Ar T t= .slice e es eb ez/\HL (WJ es) (CF len ez) (Am.toList.map fun p=>(p.1,ev F p.2))=some cs/\M[s]?=some .free/\len*es<=16777216/\0<es/\v= .tok s 0 es 0 len/\b=some (.live 0 cs)
 |_=>b=none/\pv T M F o=some v
section
variable {T:Nat->Option TI} {call:D3} {o:Oper} {s:Nat} {F:Fr} {M:List Ag} {K:Fr->List Ag->Prop}
theorem OH (hc:AF o.op<=2):CX T call o s F M K↔∃v b,E9 T o s F M v b/\K (Al F o.dst v) (BN M s b):=by
 unfold CX E9
 split
 .rename_i t hop
  simp only[hop,Ht]
  constructor
  .intro h
   split at h
   .rename_i i hi;exact⟨_,_,⟨i,hi,h.1,rfl,rfl⟩,h.2⟩
   .exact h.elim
  .rintro⟨v,b,⟨i,hi,hf,rfl,rfl⟩,h⟩
   rw[hi];exact⟨hf,h⟩
 .rename_i t x hop
  simp only[hop,Ht,Hl]
  constructor
  .intro h
   split at h
   .rename_i i hi
    split at h
    .rename_i cs hcs;exact⟨_,_,⟨i,cs,hi,hcs,h.1,rfl,rfl⟩,h.2⟩
    .exact h.elim
   .exact h.elim
  .rintro⟨v,b,⟨i,cs,hi,hcs,hf,rfl,rfl⟩,h⟩
   rw[hi];simp only[hcs];exact⟨hf,h⟩
 .rename_i t l c hop
  simp only[hop,Mo]
  constructor
  .intro h
   split at h
   .rename_i e es eb ez k n k' m h1 h2 h3
    obtain⟨hf,h0,rfl,hb,hm,h⟩:=h
    exact⟨_,_,⟨e,es,eb,ez,k,n,k',h1,h2,h3,hf,h0,hb,hm,rfl,rfl⟩,h⟩
   .exact h.elim
  .rintro⟨v,b,⟨e,es,eb,ez,k,n,k',h1,h2,h3,hf,h0,hb,hm,rfl,rfl⟩,h⟩
   rw[h1,h2,h3];exact⟨hf,h0,rfl,hb,hm,h⟩
 .rename_i t len Am hop
  simp only[hop,Mp,Hl]
  constructor
  .intro h
   split at h
   .rename_i e es eb ez h1
    split at h
    .rename_i cs hcs
     obtain⟨hf,h24,hes,h⟩:=h
     exact⟨_,_,⟨e,es,eb,ez,cs,h1,hcs,hf,h24,hes,rfl,rfl⟩,h⟩
    .exact h.elim
   .exact h.elim
  .rintro⟨v,b,⟨e,es,eb,ez,cs,h1,hcs,hf,h24,hes,rfl,rfl⟩,h⟩
   rw[h1];simp only[hcs];exact⟨hf,h24,hes,h⟩
 .rename_i hop;simp[hop,AF] at hc
 .rename_i hop;simp[hop,AF] at hc
 .rename_i hop;simp[hop,AF] at hc
 .rename_i hop;simp[hop,AF] at hc
 .rename_i hop;simp[hop,AF] at hc
 .rename_i h1 h2 h3 h4 h5 h6 h7 h8 h9
  have hD:∀v b,E9 T o s F M v b↔(b=none/\pv T M F o=some v):=by
   intro v b
   unfold E9
   split
   .rename_i hop;exact absurd hop (h1 _)
   .rename_i hop;exact absurd hop (h2 _ _)
   .rename_i hop;exact absurd hop (h3 _ _ _)
   .rename_i hop;exact absurd hop (h4 _ _ _)
   .exact Iff.rfl
  constructor
  .intro h
   unfold Hs at h
   split at h
   .rename_i v hv;exact⟨v,none,(hD _ _).2 ⟨rfl,hv⟩,h⟩
   .exact h.elim
  .rintro⟨v,b,hd,h⟩
   obtain⟨rfl,hv⟩:=(hD _ _).1 hd
   unfold Hs;rw[hv];exact h
theorem E9.unique {v v' :AV} {b b' :Option Ag} (h:E9 T o s F M v b) (h' :E9 T o s F M v' b'):v=v' /\b=b' :=by
 unfold E9 at h h'
 split at h<;>(rename_i hop;try simp only[hop] at h')
 .obtain⟨i,hi,_,rfl,rfl⟩:=h
  obtain⟨i',hi',_,rfl,rfl⟩:=h'
  rw[hi] at hi';simp at hi';subst hi';exact⟨rfl,rfl⟩
 .obtain⟨i,cs,hi,hc,_,rfl,rfl⟩:=h
  obtain⟨i',cs',hi',hc',_,rfl,rfl⟩:=h'
  rw[hi] at hi';simp at hi';subst hi'
  rw[hc] at hc';simp at hc';subst hc';exact⟨rfl,rfl⟩
 .obtain⟨e,es,eb,ez,k,n,k',h1,h2,h3,_,_,_,_,rfl,rfl⟩:=h
  obtain⟨e,es,eb,ez,k,n,k',g1,g2,g3,_,_,_,_,rfl,rfl⟩:=h'
  rw[h1] at g1;rw[h2] at g2;simp at g1 g2
  obtain⟨_,rfl,_,rfl⟩:=g1
  obtain⟨_,rfl⟩:=g2
  exact⟨rfl,rfl⟩
 .obtain⟨e,es,eb,ez,cs,h1,h2,_,_,_,rfl,rfl⟩:=h
  obtain⟨e,es,eb,ez,cs',g1,g2,_,_,_,rfl,rfl⟩:=h'
  rw[h1] at g1;simp at g1
  obtain⟨_,rfl,_,rfl⟩:=g1
  rw[h2] at g2;simp at g2;subst g2
  exact⟨rfl,rfl⟩
 .have hd:b' =none/\pv T M F o=some v' :=by
   exact h'
  obtain⟨rfl,h1⟩:=h
  obtain⟨rfl,h2⟩:=hd
  rw[h1] at h2;simp at h2
  exact⟨h2,rfl⟩
theorem Kf {F F' :Fr} {xs:Array Operand} (h:∀x∈xs,ev F' x=ev F x):JN F' xs=JN F xs:=by
 unfold JN
 exact List.map_congr_left fun x hx=>h x (by simpa using hx)
theorem Eg {F F' :Fr} (h:∀x∈o.op.operands,ev F' x=ev F x):pv T M F' o=pv T M F o:=by
 unfold pv
 split<;>(rename_i hop;try simp only[hop,Op.operands] at h)
 all_goals first
  |rfl
  | (simp_all;done)
  |skip
 .rename_i t x lo hi mx
  have e1:lo.map (ev F')=lo.map (ev F):=by cases lo<;>simp_all
  have e2:hi.map (ev F')=hi.map (ev F):=by cases hi<;>simp_all
  have e3:mx.map (ev F')=mx.map (ev F):=by cases mx<;>simp_all
  rw[e1,e2,e3,h x (by simp)]
 .rename_i f first caps
  rw[Kf (F:=F) (F' :=F') fun x hx=>h x (by simp[hx])]
 .rename_i t Am
  congr 1
  refine List.map_congr_left fun p hp=>?_
  rw[h p.2 (by simp only[List.mem_toArray,List.mem_map];exact⟨p,hp,rfl⟩)]
 .rename_i args ts
  have hm:∀x∈args,ev F' x=ev F x:=fun x hx=>h x (by simp[Call.operands,hx])
  split
  .rename_i x t hx _;rw[hm x (by rw[<-Array.mem_toList_iff,hx];simp)]
  .rfl
 .rename_i args ts
  have hm:∀x∈args,ev F' x=ev F x:=fun x hx=>h x (by simp[Call.operands,hx])
  split
  .rename_i x y hx;rw[hm x (by rw[<-Array.mem_toList_iff,hx];simp),hm y (by rw[<-Array.mem_toList_iff,hx];simp)]
  .rfl
 .rename_i args ts
  have hm:∀x∈args,ev F' x=ev F x:=fun x hx=>h x (by simp[Call.operands,hx])
  split
  .rename_i x y hx;rw[hm x (by rw[<-Array.mem_toList_iff,hx];simp),hm y (by rw[<-Array.mem_toList_iff,hx];simp)]
  .rfl
theorem Sk {M' :List Ag} (hc:AF o.op=0):pv T M' F o=pv T M F o:=by
 unfold pv
 split<;>(rename_i hop;try simp only[hop,AF] at hc)<;>first|rfl| (exact absurd hc (by decide)) |skip
theorem VN {M' :List Ag} {t f:Nat} {x:AV} (h:∀B v,(Aj M' B v).isSome=(Aj M B v).isSome):JI T M' t x f=JI T M t x f:=by
 unfold JI
 split<;>try rfl
 split<;>try rfl
 split<;>simp_all
theorem VO {M' :List Ag} {t:Nat} {x i:AV} (h:∀B v,(Aj M' B v).isSome=(Aj M B v).isSome):JJ T M' t x i=JJ T M t x i:=by
 unfold JJ
 split<;>try rfl
 .split<;>try rfl
  simp[h]
 .split<;>try rfl
  simp[h]
theorem VP {M' :List Ag} {t:Nat} {x:AV} {lo hi mx:Option AV} (h:∀B v,(Aj M' B v).isSome=(Aj M B v).isSome):Ju T M' t x lo hi mx=Ju T M t x lo hi mx:=by
 unfold Ju
 split<;>try rfl
 split<;>try rfl
 split<;>try rfl
 simp[h]
theorem Ud {M' :List Ag} {x:AV} (h:∀B v,(Aj M' B v).isSome=(Aj M B v).isSome):Ia M' x=Ia M x:=by
 unfold Ia
 split<;>simp_all
theorem Sl {M' :List Ag} (hc:AF o.op<=1) (h:∀B v,(Aj M' B v).isSome=(Aj M B v).isSome):pv T M' F o=pv T M F o:=by
 unfold pv
 split<;>(rename_i hop;try simp only[hop,AF] at hc)<;>first|rfl| (exact absurd hc (by decide)) |skip
 .exact VN h
 .exact VO h
 .exact VP h
 .exact Ud h
theorem Ue {M' :List Ag} (h:∀B v cs,Aj M B v=some cs->Aj M' B v=some cs) {x:AV} {q:Nat×List AV} (hq:C2 M x=some q):C2 M' x=some q:=by
 unfold C2 at hq |-
 split at hq
 .exact hq
 .exact hq
 .split at hq
  .rename_i cs hcs
   simp only[h _ _ _ hcs];exact hq
  .simp at hq
 .simp at hq
theorem Sm {M' :List Ag} (h:∀B v cs,Aj M B v=some cs->Aj M' B v=some cs) {r:AV} (hp:pv T M F o=some r):pv T M' F o=some r:=by
 have hs:∀B v,(Aj M B v).isSome=true->(Aj M' B v).isSome=true:=fun B v hb=>by
  obtain⟨cs,hcs⟩:=Option.isSome_iff_exists.1 hb
  rw[h B v cs hcs];rfl
 unfold pv at hp |-
 split at hp<;>(rename_i hop;try simp only[hop])<;>try exact hp
 .unfold KZ at hp |-
  split at hp
  .simp at hp
  .rename_i i hi
   split at hp
   .rename_i cs hcs
    split at hcs
    .rename_i B v off hx
     split at hcs
     .rename_i bs hbs
      simp only[h B v bs hbs,hcs];exact hp
     .simp at hcs
    .simp only[hcs];exact hp
    .simp at hcs
   .simp at hp
 .unfold JI at hp |-
  split at hp
  .split at hp
   .split at hp
    .split at hp
     .rename_i hb;simp only[hs _ _ hb];exact hp
     .simp at hp
    .exact hp
    .simp at hp
   .simp at hp
  .simp at hp
 .unfold JJ at hp |-
  split at hp
  .split at hp
   .exact hp
   .split at hp
    .split at hp
     .rename_i hk hb;simp only[hk,hs _ _ hb];simpa using hp
     .simp at hp
    .simp at hp
   .simp at hp
  .split at hp
   .split at hp
    .split at hp
     .rename_i hk hb;simp only[hk,hs _ _ hb];simpa using hp
     .simp at hp
    .simp at hp
   .exact hp
   .simp at hp
  .simp at hp
 .unfold JM at hp |-
  split at hp
  .split at hp
   .split at hp
    .rename_i q hq
     have:C2 M' _=some q:=Ue h hq
     simp only[*]
    .simp at hp
   .simp at hp
  .exact hp
 .unfold Ju at hp |-
  split at hp
  .exact hp
  .split at hp
   .split at hp
    .exact hp
    .split at hp
     .rename_i hk;rw[if_pos ⟨hk.1,hs _ _ hk.2⟩];exact hp
     .simp at hp
    .exact hp
    .simp at hp
   .exact hp
  .simp at hp
 .unfold Ia at hp |-
  split at hp
  .split at hp
   .rename_i hb;simp only[hs _ _ hb];exact hp
   .simp at hp
  .exact hp
  .exact hp
  .simp at hp
theorem OI {M' :List Ag} (h:∀x∈o.op.operands,∀B v,EP (ev F x)=some (B,v)->Aj M' B v=Aj M B v):pv T M' F o=pv T M F o:=by
 unfold pv
 split<;>(rename_i hop;try simp only[hop,Op.operands] at h)<;>try rfl
 .rename_i t x
  have hx:=h x (by simp)
  unfold KZ
  split<;>try rfl
  generalize ev F x=y at*
  cases y<;>try rfl
  simp only[hx _ _ rfl]
 .rename_i t x f
  have hx:=h x (by simp)
  unfold JI
  generalize ev F x=y at*
  cases y<;>try rfl
  simp only[hx _ _ rfl]
 .rename_i t x i
  have hx:=h x (by simp)
  unfold JJ
  generalize ev F x=y at*
  cases y<;>try rfl
  .simp only[hx _ _ rfl]
  .simp only[hx _ _ rfl]
 .rename_i t t' x
  have hx:=h x (by simp)
  unfold JM C2
  generalize ev F x=y at*
  cases y
  case tok=>simp only[hx _ _ rfl]
  case own s n xs=>cases n<;>cases xs<;>rfl
  all_goals rfl
 .rename_i t x lo hi mx
  have hx:=h x (by simp)
  unfold Ju
  generalize ev F x=y at*
  cases y<;>try rfl
  simp only[hx _ _ rfl]
 .rename_i x
  have hx:=h x (by simp)
  unfold Ia
  generalize ev F x=y at*
  cases y<;>try rfl
  simp only[hx _ _ rfl]
end
def Gd (ops:Array Oper) (F:Fr) (o:Oper):Option Bool:=
 match o.guard with
 |none=>some true
 |some (j,want)=>match (ops[j]?).bind (·.dst) with
  |some d=>match F d with
   | .bool b=>some (b==want)
   | .tup []=>some false
   |_=>none
  |none=>none
def B5 (T:Nat->Option TI) (call:D3) (ops:Array Oper) (sl:Nat->Nat) (i:Nat) (F:Fr) (M:List Ag) (K:Fr->List Ag->Prop):Prop:=
 match ops[i]? with
 |none=>K F M
 |some o=>match Gd ops F o with
  |some true=>CX T call o (sl i) F M K
  |some false=>K (Al F o.dst (.tup [])) M
  |none=>False
def B1 (T:Nat->Option TI) (call:D3) (ops:Array Oper) (sl:Nat->Nat):List Nat->Fr->List Ag->(Fr->List Ag->Prop)->Prop
 | [],F,M,K=>K F M
 |i::rest,F,M,K=>B5 T call ops sl i F M fun F' M' =>B1 T call ops sl rest F' M' K
def Ah (P:Program) (L:Bool):D3:=fun f args M K=>∃cargs Q,Aa P f cargs [] Q/\
 ((L=true/\(∃D,args.map (vw (Bw M D))=cargs)/\∀r,Q r []->Gc r=true/\K (D5 M.length r).1 (M++(D5 M.length r).2))\/(args.map N0=cargs/\∀r,Q r []->K (D5 M.length r).1 (M++(D5 M.length r).2)))
theorem Ah.at {P:Program} {L:Bool} {C:Bn} (hC:C.P=P) {f:Nat} {args:List AV} {M:List Ag} {K:AV->List Ag->Prop} (h:Ah P L f args M K):DG C f args M K:=by
 obtain⟨cargs,Q,spec,h⟩:=h
 rcases h with⟨_,⟨D,h1⟩,h2⟩ | ⟨h1,h2⟩
 .exact Ab.borH D spec h1 h2 C hC
 .exact Ab.ro spec h1 h2 C hC
theorem Ah.mono {P:Program} {L:Bool} {f:Nat} {args:List AV} {M:List Ag} {K K' :AV->List Ag->Prop} (hk:∀r bs,K r (M++bs)->K' r (M++bs)) (h:Ah P L f args M K):Ah P L f args M K' :=by
 obtain⟨cargs,Q,spec,h⟩:=h
 rcases h with⟨hL,h1,h2⟩ | ⟨h1,h2⟩
 .exact⟨cargs,Q,spec,.inl ⟨hL,h1,fun r hr=>⟨(h2 r hr).1,hk _ _ (h2 r hr).2⟩⟩⟩
 .exact⟨cargs,Q,spec,.inr ⟨h1,fun r hr=>hk _ _ (h2 r hr)⟩⟩
theorem Ah.mem {P:Program} {f:Nat} {args:List AV} {M M' :List Ag} {K K' :AV->List Ag->Prop} (hl:M'.length=M.length) (hk:∀r bs,K r (M++bs)->K' r (M' ++bs)) (h:Ah P false f args M K):Ah P false f args M' K' :=by
 obtain⟨cargs,Q,spec,h⟩:=h
 rcases h with⟨hL,_⟩ | ⟨h1,h2⟩
 .simp at hL
 .exact⟨cargs,Q,spec,.inr ⟨h1,fun r hr=>by rw[hl];exact hk _ _ (h2 r hr)⟩⟩
theorem N1 {M M' :List Ag} (h:∀T v,Aj M T v=Aj M' T v):∀(d:Nat) (x:AV),CG M d x=CG M' d x
 |0,x=>by simp only[CG]
 |d+1,x=>by
  have e:CG M d=CG M' d:=funext fun y=>N1 h d y
  cases x<;>simp only[CG,h,e]
theorem VQ {M M' :List Ag} (h:∀T v,Aj M T v=Aj M' T v):vw M=vw M' :=by
 have e:CG M 3=CG M' 3:=funext fun y=>N1 h 3 y
 funext x
 unfold vw
 rw[e]
theorem Nk (M:List Ag):∀D,(Bw M D).length=M.length
 | []=>rfl
 |T::D=>by simp[Bw,Nk M D]
theorem Rm {M:List Ag} {s T:Nat} (z:Ag) (h:s≠T):∀D,(Bw (M.set s z) D)[T]?=(Bw M D)[T]?
 | []=>by simp only[Bw];rw[List.getElem?_set_ne h]
 |U::D=>by
  simp only[Bw]
  by_cases e:U=T
  .subst e
   rw[List.getElem?_set,List.getElem?_set];simp[Nk]
  .rw[List.getElem?_set_ne e,List.getElem?_set_ne e,Rm z h D]
theorem LF {M:List Ag} {s:Nat} (h:M[s]?=some .free):∀D,(Bw M D)[s]?=some .free\/(Bw M D)[s]?=some .dead
 | []=> .inl h
 |U::D=>by
  simp only[Bw]
  by_cases e:U=s
  .subst e
   rcases LF h D with g|g
   .right
    have:=(List.getElem?_eq_some_iff.1 g).1
    rw[List.getElem?_set_self this]
   .right
    have:=(List.getElem?_eq_some_iff.1 g).1
    rw[List.getElem?_set_self this]
  .rw[List.getElem?_set_ne e];exact LF h D
theorem ZY {M:List Ag} {s:Nat} {z:Ag} (h:M[s]?=some .free) (D:List Nat):vw (Bw (M.set s z) (s::D))=vw (Bw M D):=by
 refine VQ fun T v=>?_
 have hs:=(List.getElem?_eq_some_iff.1 h).1
 by_cases e:s=T
 .subst e
  have h1:(Bw (M.set s z) (s::D))[s]?=some .dead:=by
   simp only[Bw]
   rw[List.getElem?_set_self (by rw[Nk];simpa using hs)]
  rcases LF h D with g|g<;>simp only[Aj,h1,g]
 .have h1:(Bw (M.set s z) (s::D))[T]?=(Bw M D)[T]?:=by
   simp only[Bw]
   rw[List.getElem?_set_ne e,Rm z e D]
  simp only[Aj,h1]
theorem Ah.up {P:Program} {L:Bool} {f:Nat} {args:List AV} {M:List Ag} {s:Nat} {z:Ag} {K K' :AV->List Ag->Prop} (hf:M[s]?=some .free) (hk:∀r bs,K r (M++bs)->K' r (M.set s z++bs)) (h:Ah P L f args M K):Ah P L f args (M.set s z) K' :=by
 obtain⟨cargs,Q,spec,h⟩:=h
 have hl:(M.set s z).length=M.length:=by simp
 rcases h with⟨hL,⟨D,h1⟩,h2⟩ | ⟨h1,h2⟩
 .exact⟨cargs,Q,spec,.inl ⟨hL,⟨s::D,by rw[ZY hf];exact h1⟩,fun r hr=>⟨(h2 r hr).1,by rw[hl];exact hk _ _ (h2 r hr).2⟩⟩⟩
 .exact⟨cargs,Q,spec,.inr ⟨h1,fun r hr=>by rw[hl];exact hk _ _ (h2 r hr)⟩⟩
def CQ (P:Program) (n:Nat) (F:Fr) (M:List Ag):Prop:=∃(C:Bn) (a:Act) (w:World),C.P=P/\C.n=n/\C1 C F M a w
def a8 (ops:Array Oper) (o:Oper):List Nat:=
 (o.op.operands.toList.filterMap fun| .tmp t=>some t|_=>none)++(match o.guard with|some (g,_)=>((ops[g]?).bind (·.dst)).toList|none=> [])
def iW (ops:Array Oper) (x y:Oper):Bool:=x.apart ops y
def Fq (ops:Array Oper):Bool:=ops.toList.all fun o=>decide (AF o.op≠3)
def Em (L:Bool) (ops:Array Oper) (x y:Oper):Bool:=x.apart ops y&&(match AF x.op,AF y.op with
 |3,c=>decide (c<=2)
 |4,c=>decide (c<=1)
 |5,c=>decide (c=0) || (Fq ops&&decide (c<=2))
 |c,3=>decide (c<=2)&&(!L||!Bf x.op)
 |c,4=>decide (c<=1)
 |c,5=>decide (c=0)
 |c,c' =>decide (c<=2)&&decide (c' <=2))
section
variable {T:Nat->Option TI} {call:D3} {ops:Array Oper} {sl:Nat->Nat} {F:Fr} {M:List Ag} {K:Fr->List Ag->Prop} {o oi oj:Oper}
def Dn (T:Nat->Option TI) (ops:Array Oper) (o:Oper) (s:Nat) (F:Fr) (M:List Ag) (v:AV) (b:Option Ag):Prop:=
 (Gd ops F o=some true/\E9 T o s F M v b)\/(Gd ops F o=some false/\v= .tup []/\b=none)
theorem Dn.unique {s:Nat} {v v' :AV} {b b' :Option Ag} (h:Dn T ops o s F M v b) (h' :Dn T ops o s F M v' b'):v=v' /\b=b' :=by
 rcases h with⟨h1,h2⟩ | ⟨h1,h2,h3⟩<;>rcases h' with⟨g1,g2⟩ | ⟨g1,g2,g3⟩
 .exact E9.unique h2 g2
 .rw[h1] at g1;simp at g1
 .rw[h1] at g1;simp at g1
 .exact⟨h2.trans g2.symm,h3.trans g3.symm⟩
theorem Dj {i:Nat} (ho:ops[i]?=some o) (hc:AF o.op<=2):B5 T call ops sl i F M K↔∃v b,Dn T ops o (sl i) F M v b/\K (Al F o.dst v) (BN M (sl i) b):=by
 unfold B5
 simp only[ho]
 constructor
 .intro h
  split at h
  .rename_i ha
   obtain⟨v,b,hd,hk⟩:=(OH hc).1 h
   exact⟨v,b,.inl ⟨ha,hd⟩,hk⟩
  .rename_i ha
   exact⟨.tup [],none,.inr ⟨ha,rfl,rfl⟩,h⟩
  .exact h.elim
 .rintro⟨v,b,hd,hk⟩
  rcases hd with⟨ha,hd⟩ | ⟨ha,rfl,rfl⟩
  .simp only[ha];exact(OH hc).2 ⟨v,b,hd,hk⟩
  .simp only[ha];exact hk
theorem XS {dst:Option Nat} {v:AV} {x:Operand} (h:∀d,dst=some d->x≠ .tmp d):ev (Al F dst v) x=ev F x:=by
 cases dst with
 |none=>rfl
 |some d=>cases x with
  |tmp t=>
   have:t≠d:=fun e=>h d rfl (by rw[e])
   simp[ev,Al,Bg,this]
  |_=>rfl
theorem D6 {d1 d2:Option Nat} {v1 v2:AV} (h:∀d,d1=some d->d2≠some d):Al (Al F d1 v1) d2 v2=Al (Al F d2 v2) d1 v1:=by
 cases d1 with
 |none=>rfl
 |some a=>cases d2 with
  |none=>rfl
  |some b=>
   have:a≠b:=fun e=>h a rfl (by rw[e])
   funext t
   simp only[Al,Bg]
   by_cases h1:t=b
   .subst h1;simp[Ne.symm this]
   .simp[h1]
structure Ap (ops:Array Oper) (x y:Oper):Prop where
 xy:∀d,x.dst=some d->d ∉ y.looksAt ops
 dd:∀d,x.dst=some d->y.dst≠some d
 yx:∀d,y.dst=some d->d ∉ x.looksAt ops
theorem Ap.of (h:oj.apart ops oi=true):Ap ops oj oi:=let h:=Oper.apart_spec h;⟨h.1,h.2.1,h.2.2⟩
theorem Ap.symm (h:Ap ops oj oi):Ap ops oi oj:=⟨h.yx,fun d hd e=>h.dd d e hd,h.xy⟩
theorem VS {d:Nat} {x:Operand} (hx:x∈o.op.operands) (h:d ∉ o.looksAt ops):x≠ .tmp d:=by
 rintro rfl
 apply h
 unfold Oper.looksAt
 refine List.mem_append_left _ (List.mem_filterMap.2 ⟨.tmp d,by simpa using hx,rfl⟩)
theorem EI (h:Ap ops oj oi) {v:AV}:∀x∈oi.op.operands,ev (Al F oj.dst v) x=ev F x:=fun x hx=>XS fun d hd=>VS hx (h.xy d hd)
theorem CW (h:Ap ops oj oi) {v:AV}:Gd ops (Al F oj.dst v) oi=Gd ops F oi:=by
 unfold Gd
 split
 .rfl
 .rename_i j want hg
  split
  .rename_i d hd
   have:∀e,oj.dst=some e->d≠e:=fun e he hde=>h.xy e he (by
    unfold Oper.looksAt
    rw[hg]
    refine List.mem_append_right _ ?_
    simp only[hd]
    subst hde
    simp)
   have e1:Al F oj.dst v d=F d:=by
    cases hdst:oj.dst with
    |none=>rfl
    |some e=>simp[Al,Bg,this e hdst]
   rw[e1]
  .rfl
theorem Uf {F F' :Fr} {Am:Array (Nat×Operand)} (h:∀p∈Am.toList,ev F' p.2=ev F p.2):(Am.toList.map fun p=>(p.1,ev F' p.2))=Am.toList.map fun p=>(p.1,ev F p.2):=
 List.map_congr_left fun p hp=>by rw[h p hp]
theorem E9.up {s:Nat} {F' :Fr} {M' :List Ag} {v:AV} {b:Option Ag} (he:∀x∈o.op.operands,ev F' x=ev F x) (hM:pv T M' F' o=pv T M F o\/(∀B v cs,Aj M B v=some cs->Aj M' B v=some cs)) (hf:M[s]?=some .free->M'[s]?=some .free) (h:E9 T o s F M v b):E9 T o s F' M' v b:=by
 unfold E9 at h |-
 split at h<;>(rename_i hop;try simp only[hop])
 .obtain⟨i,h1,h2,h3⟩:=h;exact⟨i,h1,hf h2,h3⟩
 .simp only[hop,Op.operands] at he
  obtain⟨i,cs,h1,h2,h3,h4⟩:=h;exact⟨i,cs,h1,by rw[he _ (by simp)];exact h2,hf h3,h4⟩
 .simp only[hop,Op.operands] at he
  obtain⟨e,es,eb,ez,k,n,k',h1,h2,h3,h4,h5⟩:=h
  exact⟨e,es,eb,ez,k,n,k',h1,by rw[he _ (by simp)];exact h2,by rw[he _ (by simp)];exact h3,hf h4,h5⟩
 .rename_i t len Am
  simp only[hop,Op.operands] at he
  obtain⟨e,es,eb,ez,cs,h1,h2,h3,h4⟩:=h
  refine⟨e,es,eb,ez,cs,h1,?_,hf h3,h4⟩
  rw[Uf (F:=F) fun p hp=>he p.2 (by simp only[List.mem_toArray,List.mem_map];exact⟨p,hp,rfl⟩)];exact h2
 .refine⟨h.1,?_⟩
  rcases hM with hM|hM
  .rw[hM];exact h.2
  .rw[Eg he];exact Sm hM h.2
end
theorem PH {M:List Ag} {s:Nat} (hf:M[s]?=some .free) (b:Ag) {B v:Nat} {cs:List AV} (h:Aj M B v=some cs):Aj (M.set s b) B v=some cs:=by
 have hne:B≠s:=fun e=>by subst e;simp[Aj,hf] at h
 unfold Aj at h |-
 rw[List.getElem?_set_ne (Ne.symm hne)];exact h
theorem Ro {M bs:List Ag} {B v:Nat} {cs:List AV} (h:Aj M B v=some cs):Aj (M++bs) B v=some cs:=by
 unfold Aj at h |-
 split at h
 .rename_i v' cs' hM
  have hlt:B<M.length:=by
   rcases Nat.lt_or_ge B M.length with h|h
   .exact h
   .simp[List.getElem?_eq_none h] at hM
  rw[List.getElem?_append_left hlt,hM];exact h
 .simp at h
theorem Hx {M:List Ag} {B v:Nat} {cs cs' :List AV} (h:Aj M B v=some cs) (B' v' :Nat):(Aj (M.set B (.live v cs')) B' v').isSome=(Aj M B' v').isSome:=by
 have hM:=h
 unfold Aj at hM
 split at hM
 .rename_i u cs2 hB
  split at hM
  .rename_i e;subst e
   have hlt:B<M.length:=by
    rcases Nat.lt_or_ge B M.length with h|h
    .exact h
    .simp[List.getElem?_eq_none h] at hB
   by_cases e:B' =B
   .subst e
    simp only[Aj,List.getElem?_set_self hlt,hB]
    split<;>rfl
   .simp only[Aj,List.getElem?_set_ne (Ne.symm e)]
  .simp at hM
 .simp at hM
theorem ET {M:List Ag} {B v:Nat} {cs:List AV} (h:Aj M B v=some cs):M[B]?=some (.live v cs):=by
 unfold Aj at h
 split at h
 .rename_i v' cs' hM
  split at h
  .rename_i e;subst e;simp at h;subst h;exact hM
  .simp at h
 .simp at h
section
variable {P:Program} {L:Bool} {T:Nat->Option TI} {ops:Array Oper} {sl:Nat->Nat} {F:Fr} {M:List Ag} {K:Fr->List Ag->Prop} {o oi oj:Oper}
theorem E9.slot {s:Nat} {v:AV} {b:Option Ag} (h:E9 T o s F M v b):(b=none/\Bf o.op=false)\/(∃x,b=some x)/\Bf o.op=true/\M[s]?=some .free:=by
 unfold E9 at h
 split at h
 .rename_i hop;obtain⟨i,_,h2,_,h3⟩:=h;exact .inr ⟨⟨_,h3⟩,by rw[hop];rfl,h2⟩
 .rename_i hop;obtain⟨i,cs,_,_,h2,_,h3⟩:=h;exact .inr ⟨⟨_,h3⟩,by rw[hop];rfl,h2⟩
 .rename_i hop;obtain⟨e,es,eb,ez,k,n,k',_,_,_,h2,_,_,_,_,h3⟩:=h;exact .inr ⟨⟨_,h3⟩,by rw[hop];rfl,h2⟩
 .rename_i hop;obtain⟨e,es,eb,ez,cs,_,_,h2,_,_,_,h3⟩:=h;exact .inr ⟨⟨_,h3⟩,by rw[hop];rfl,h2⟩
 .rename_i h1 h2 h3 h4
  refine .inl ⟨h.1,?_⟩
  cases hop:o.op<;>simp[Bf]<;>simp_all
theorem Dn.slot {s:Nat} {v:AV} {b:Option Ag} (h:Dn T ops o s F M v b):b=none\/(∃x,b=some x)/\Bf o.op=true/\M[s]?=some .free:=by
 rcases h with⟨_,h⟩ | ⟨_,_,h⟩
 .rcases h.slot with h|h
  .exact .inl h.1
  .exact .inr h
 .exact .inl h
theorem Dn.up {s:Nat} {F' :Fr} {M' :List Ag} {v:AV} {b:Option Ag} (ha:Gd ops F' o=Gd ops F o) (he:∀x∈o.op.operands,ev F' x=ev F x) (hM:pv T M' F' o=pv T M F o\/(∀B v cs,Aj M B v=some cs->Aj M' B v=some cs)) (hf:M[s]?=some .free->M'[s]?=some .free)
 (h:Dn T ops o s F M v b):Dn T ops o s F' M' v b:=by
 rcases h with⟨h1,h2⟩ | ⟨h1,h2,h3⟩
 .exact .inl ⟨by rw[ha];exact h1,h2.up he hM hf⟩
 .exact .inr ⟨by rw[ha];exact h1,h2,h3⟩
theorem IA {s:Nat} {b:Option Ag} (hb:b=none\/M[s]?=some .free) {B v:Nat} {cs:List AV} (h:Aj M B v=some cs):Aj (BN M s b) B v=some cs:=by
 cases b with
 |none=>exact h
 |some x=>rcases hb with hb|hb
          .simp at hb
          .exact PH hb x h
theorem N3 {s s' :Nat} {b:Option Ag} (hb:b=none\/s≠s') (h:M[s']?=some .free):(BN M s b)[s']?=some .free:=by
 cases b with
 |none=>exact h
 |some x=>rcases hb with hb|hb
          .simp at hb
          .simp only[BN];rw[List.getElem?_set_ne hb];exact h
theorem Ug {s s' :Nat} {b b' :Option Ag} (h:b=none\/b' =none\/s≠s'):BN (BN M s b) s' b' =BN (BN M s' b') s b:=by
 cases b with
 |none=>rfl
 |some x=>cases b' with
  |none=>rfl
  |some y=>simp at h;simp only[BN];exact List.set_comm _ _ h
theorem Ig {s:Nat} {b:Option Ag}:(BN M s b).length=M.length:=by cases b<;>simp[BN]
theorem VT {op:Op} (h:AF op=3):∃f args ts,op= .call ⟨.value f,args,ts⟩:=by
 unfold AF at h
 split at h<;>first| (exact absurd h (by decide)) |exact⟨_,_,_,rfl⟩
theorem PI {op:Op} (h:AF op=4):∃t x y,op= .store t x y:=by
 unfold AF at h
 split at h<;>first| (exact absurd h (by decide)) |exact⟨_,_,_,rfl⟩
theorem Nl {op:Op} (h:AF op=5):∃args ts,op= .call ⟨.builtin .append,args,ts⟩:=by
 unfold AF at h
 split at h<;>first| (exact absurd h (by decide)) |exact⟨_,_,rfl⟩
theorem ZZ {sj si:Nat} {v:AV} {b:Option Ag} {Kj Kj' :Fr->List Ag->Prop} (hap:Ap ops oj oi) (hc:(AF oj.op=3/\True)\/(AF oj.op=4/\AF oi.op<=1)\/(AF oj.op=5/\AF oi.op=0)) (hd:Dn T ops oi si F M v b)
 (hk:∀F1 M1,Dn T ops oi si F1 M1 v b->Kj F1 M1->Kj' (Al F1 oi.dst v) (BN M1 si b)) (h:CX T (Ah P L) oj sj F M Kj):CX T (Ah P L) oj sj (Al F oi.dst v) (BN M si b) Kj' :=by
 have hev:∀x∈oj.op.operands,ev (Al F oi.dst v) x=ev F x:=EI hap.symm
 have hevi:∀u,∀x∈oi.op.operands,ev (Al F oj.dst u) x=ev F x:=fun u=>EI hap
 have hcomm:∀u,Al (Al F oi.dst v) oj.dst u=Al (Al F oj.dst u) oi.dst v:=fun u=>(D6 hap.dd).symm
 have hslot:=hd.slot
 have hsh:(∃f args ts,oj.op= .call ⟨.value f,args,ts⟩)\/(∃t x y,oj.op= .store t x y)\/(∃args ts,oj.op= .call ⟨.builtin .append,args,ts⟩):=by
  rcases hc with⟨e,_⟩ | ⟨e,_⟩ | ⟨e,_⟩
  .exact .inl (VT e)
  .exact .inr (.inl (PI e))
  .exact .inr (.inr (Nl e))
 unfold CX at h |-
 split at h<;>(rename_i hop)<;>(try (exfalso;rcases hc with⟨e,_⟩ | ⟨e,_⟩ | ⟨e,_⟩<;>(rw[hop] at e;simp[AF] at e);done))
 .
  rename_i t x y
  simp only[hop,Op.operands] at hev
  have hci:AF oi.op<=1:=by
   rcases hc with⟨e,_⟩ | ⟨_,h⟩ | ⟨e,_⟩
   .simp[hop,AF] at e
   .exact h
   .simp[hop,AF] at e
  simp only[hev x (by simp),hev y (by simp)]
  unfold Ht Iu Hl at h |-
  split at h
  .rename_i i hi
   split at h
   .rename_i B u off hx
    split at h
    .rename_i cs hcs
     have hcs' :=IA (s:=si) (b:=b) (hslot.imp id fun h=>h.2.2) hcs
     simp only[hi,hcs']
     split at h
     .rename_i xs hxs
      refine⟨h.1,?_⟩
      have h2:=hk _ _ ?_ h.2
      .rw[hcomm]
       have:(BN M si b).set B (.live u (CP cs off xs))=BN (M.set B (.live u (CP cs off xs))) si b:=by
        cases b with
        |none=>rfl
        |some z=>
         simp only[BN]
         refine List.set_comm _ _ fun e=>?_
         rcases hslot with h5|h5
         .simp at h5
         .have:=ET hcs;rw[<-e,h5.2.2] at this;simp at this
       rw[this];exact h2
      .refine hd.up (CW hap) (hevi _) (.inl ?_) (fun hf=>?_)
       .rw[Eg (hevi _)]
        exact Sl hci (fun B' v' =>Hx hcs B' v')
       .rw[List.getElem?_set_ne]
        .exact hf
        .intro e;have:=ET hcs;rw[e,hf] at this;simp at this
     .exact h.elim
    .exact h.elim
   .exact h.elim
  .exact h.elim
 .
  rename_i args ts
  have hci:AF oi.op=0:=by
   rcases hc with⟨e,_⟩ | ⟨e,_⟩ | ⟨_,h⟩
   .simp[hop,AF] at e
   .simp[hop,AF] at e
   .exact h
  split at h
  .rename_i x y t t' hx ht
   obtain⟨rfl,h⟩:=h
   have hxm:x∈args:=by rw[<-Array.mem_toList_iff,hx];simp
   have hym:y∈args:=by rw[<-Array.mem_toList_iff,hx];simp
   simp only[hop] at hev
   simp only[hev x (by simp[Op.operands,Call.operands,hxm]),hev y (by simp[Op.operands,Call.operands,hym])]
   refine⟨trivial,?_⟩
   unfold HW Hl Hy at h |-
   split at h
   .rename_i e es eb ez B u s' off n htd hxe
    split at h
    .rename_i cs hcs
     have hcs' :=IA (s:=si) (b:=b) (hslot.imp id fun h=>h.2.2) hcs
     simp only[hcs']
     split at h
     .rename_i p hp
      have hp' :C2 (BN M si b) (ev F y)=some p:=by
       unfold C2 at hp |-
       split at hp
       .exact hp
       .exact hp
       .split at hp
        .rename_i c hc2
         simp only[IA (s:=si) (b:=b) (hslot.imp id fun h=>h.2.2) hc2];exact hp
        .simp at hp
       .simp at hp
      simp only[hp']
      obtain⟨h1,h2,h3,h4,h5,h6,h7,h8,h⟩:=h
      refine⟨h1,h2,h3,h4,h5,h6,h7,h8,?_⟩
      have h9:=hk _ _ ?_ h
      .rw[hcomm]
       have:(BN M si b).set B (.live (u+1) (cs++p.2))=BN (M.set B (.live (u+1) (cs++p.2))) si b:=by
        cases b with
        |none=>rfl
        |some z=>
         simp only[BN]
         refine List.set_comm _ _ fun e=>?_
         rcases hslot with h5|h5
         .simp at h5
         .have:=ET hcs;rw[<-e,h5.2.2] at this;simp at this
       rw[this];exact h9
      .refine hd.up (CW hap) (hevi _) (.inl ?_) (fun hf=>?_)
       .rw[Eg (hevi _)]
        exact Sk hci
       .rw[List.getElem?_set_ne]
        .exact hf
        .intro e;have:=ET hcs;rw[e,hf] at this;simp at this
     .exact h.elim
    .exact h.elim
   .exact h.elim
  .exact h.elim
 .
  rename_i f args ts
  simp only[hop] at hev
  rw[hev f (by simp[Op.operands,Call.operands]),Kf (F:=F) fun x hx=>hev x (by simp[Op.operands,Call.operands,hx])]
  have key:∀(u:AV) (bs:List Ag),Kj (Al F oj.dst u) (M++bs)->Kj' (Al (Al F oi.dst v) oj.dst u) (BN M si b++bs):=by
   intro u bs h
   have h2:=hk _ _ ?_ h
   .rw[hcomm]
    have:BN M si b++bs=BN (M++bs) si b:=by
     cases b with
     |none=>rfl
     |some z=>
      rcases hslot with h5|h5
      .simp at h5
      .simp only[BN]
       rw[List.set_append_left]
       rcases Nat.lt_or_ge si M.length with h|h
       .exact h
       .have:=h5.2.2;simp[List.getElem?_eq_none h] at this
    rw[this];exact h2
   .refine hd.up (CW hap) (hevi _) (.inr fun B v cs h=>Ro h) (fun hf=>?_)
    have hlt:si<M.length:=by
     rcases Nat.lt_or_ge si M.length with h|h
     .exact h
     .simp[List.getElem?_eq_none h] at hf
    rw[List.getElem?_append_left hlt];exact hf
  unfold J9 at h |-
  split at h
  .rcases hslot with hbn|hbs
   .subst hbn
    exact Ah.mono (fun r bs h=>key r bs h) h
   .obtain⟨⟨z,rfl⟩,_,hfree⟩:=hbs
    exact Ah.up hfree (fun r bs h=>key r bs h) h
  .exact h.elim
 .
  exfalso
  rcases hsh with⟨f,args,ts,e⟩ | ⟨t,x,y,e⟩ | ⟨args,ts,e⟩<;>simp_all
end
theorem VU {C:Bn} {P:Program} {o:Oper} {a:Act} {w:World} (h:o.wpIn (FX C) 0 P a w (fun _ _=>False) (fun _ _ _=>False)):False:=by
 have h:=h.2
 have hroom:∀n,(FX C).room n:=fun n d hd=>by simp[FX,Fence.wide] at hd
 generalize (o.semAt (FX C).round a.eval).run P w=r at h
 cases r with
 |ok n w' =>
  cases n<;>simp only[Oper.uponIn] at h
  .obtain⟨e,w',fr,h,_⟩:=h.2.2 [] (hroom _)
   cases e
   .exact h
   .exact h
   .obtain⟨_,_,h⟩:=h;exact h
  .obtain⟨e,w',h,_⟩:=h.2.2 default [] (hroom _)
   cases e
   .exact h
   .exact h
   .obtain⟨_,_,h⟩:=h;exact h
  .rename_i row args
   obtain⟨_,_,h,_⟩:=h.2 (Frame.ofRow P row args .normal) [] (hroom _)
   exact h
 |halt x w' =>cases x<;>simp only[Oper.uponIn] at h
section
variable {P:Program} {L:Bool} {n:Nat} {T:Nat->Option TI} {ops:Array Oper} {sl:Nat->Nat} {F:Fr} {M:List Ag} {K:Fr->List Ag->Prop} {o oi oj:Oper}
theorem PJ (tk:BI P T) (hb:By n o=true) {s:Nat} (h:CX T (Ah P L) o s F M K) (I:CQ P n F M):∃F' M',K F' M' /\CQ P n F' M' :=by
 obtain⟨C,a,w,rfl,rfl,σ,own,R⟩:=I
 apply Classical.byContradiction
 intro hno
 refine VU (Hw tk hb (Ef (call' :=DG C) (fun f args M K K' hk hc=>?_) (fun _ _ h=>h) h) R (next:=fun _ _=>False) (Q:=fun _ _ _=>False) fun F' M' a' w' hk r=>hno ⟨F',M',hk,C,a',w',rfl,rfl,r⟩)
 exact(Ah.at rfl hc).mono hk
theorem CQ.undef (I:CQ P n F M) (d:Option Nat):CQ P n (Al F d (.tup [])) M:=by
 obtain⟨C,a,w,h1,h2,σ,own,R⟩:=I
 exact⟨C,a.put d Go.undef,w,h1,h2,σ,own,R.put d ⟨#[],rfl,rfl,fun _=>rfl⟩⟩
theorem CQ.name (I:CQ P n F M) {x:Operand} (hx:Fu n x=true) {B v:Nat} (h:EP (ev F x)=some (B,v)):B<M.length/\M[B]?≠some .free:=by
 obtain⟨C,a,w,rfl,rfl,σ,own,R⟩:=I
 have key:∀st,σ B v=some st->B<M.length/\M[B]?≠some .free:=by
  intro st hst
  refine⟨?_,fun hf=>?_⟩
  .rcases Nat.lt_or_ge B M.length with h|h
   .exact h
   .rw[R.mem.key B v h] at hst;simp at hst
  .obtain⟨fp,hb,_⟩:=R.mem.blk _ _ hf
   rw[hb.1] at hst;simp at hst
 cases x with
 |tmp t=>
  have ht:t<C.n:=by simpa[Fu] using hx
  have hv:=R.tmp t ht
  simp only[ev] at h
  cases hF:F t<;>rw[hF] at h hv<;>simp[EP] at h
  .obtain⟨rfl,rfl⟩:=h
   obtain⟨_,_,st,hst,_⟩:=hv
   exact key st hst
  .obtain⟨rfl,rfl⟩:=h
   obtain⟨_,_,st,hst,_⟩:=hv
   exact key st hst
 |const c=>exfalso;simp only[ev] at h;unfold QJ at h;split at h<;>simp[EP] at h
 |global g=>simp[ev,EP] at h
 |func f=>simp[ev,EP] at h
theorem CQ.nameV (I:CQ P n F M) {x:Operand} (hx:Fu n x=true) {B v:Nat} (h:EP (ev F x)=some (B,v)) {u:Nat} {cs:List AV} (hM:M[B]?=some (.live u cs)):v<=u:=by
 obtain⟨C,a,w,rfl,rfl,σ,own,R⟩:=I
 have key:∀st,σ B v=some st->v<=u:=by
  intro st hst
  obtain⟨fp,hb,_⟩:=R.mem.blk _ _ hM
  rcases Nat.lt_or_ge u v with h|h
  .rw[hb.1 v h] at hst;simp at hst
  .exact h
 cases x with
 |tmp t=>
  have ht:t<C.n:=by simpa[Fu] using hx
  have hv:=R.tmp t ht
  simp only[ev] at h
  cases hF:F t<;>rw[hF] at h hv<;>simp[EP] at h
  .obtain⟨rfl,rfl⟩:=h
   obtain⟨_,_,st,hst,_⟩:=hv
   exact key st hst
  .obtain⟨rfl,rfl⟩:=h
   obtain⟨_,_,st,hst,_⟩:=hv
   exact key st hst
 |const c=>exfalso;simp only[ev] at h;unfold QJ at h;split at h<;>simp[EP] at h
 |global g=>simp[ev,EP] at h
 |func f=>simp[ev,EP] at h
theorem HZ {op:Op} (h:Bf op=true):AF op=0:=by
 unfold Bf at h
 split at h<;>first|rfl|simp at h
def MS (o:Oper) (s:Nat) (M M' :List Ag):Prop:=
 (∃b,M' =BN M s b/\(b=none\/M[s]?=some .free/\(∃v xs,b=some (.live v xs)))/\AF o.op<=2)\/(∃bs,M' =M++bs/\AF o.op=3)\/
 (∃B u cs cs',Aj M B u=some cs/\M' =M.set B (.live u cs')/\AF o.op=4)\/(∃B u cs cs',Aj M B u=some cs/\M' =M.set B (.live (u+1) cs')/\AF o.op=5)
theorem E9.live {s:Nat} {v:AV} {b:Option Ag} (h:E9 T o s F M v b):b=none\/M[s]?=some .free/\∃v xs,b=some (.live v xs):=by
 unfold E9 at h
 split at h
 .obtain⟨i,_,h2,_,h3⟩:=h;exact .inr ⟨h2,_,_,h3⟩
 .obtain⟨i,cs,_,_,h2,_,h3⟩:=h;exact .inr ⟨h2,_,_,h3⟩
 .obtain⟨e,es,eb,ez,k,n,k',_,_,_,h2,_,_,_,_,h3⟩:=h;exact .inr ⟨h2,_,_,h3⟩
 .obtain⟨e,es,eb,ez,cs,_,_,h2,_,_,_,h3⟩:=h;exact .inr ⟨h2,_,_,h3⟩
 .exact .inl h.1
theorem Kg {s:Nat} (hc:AF o.op<=5) (h:CX T (Ah P L) o s F M K):CX T (Ah P L) o s F M fun F' M' =>K F' M' /\(∃v,F' =Al F o.dst v)/\MS o s M M' :=by
 by_cases h2:AF o.op<=2
 .obtain⟨v,b,hd,hk⟩:=(OH h2).1 h
  exact(OH h2).2 ⟨v,b,hd,hk,⟨v,rfl⟩,.inl ⟨b,rfl,hd.live,h2⟩⟩
 .have h3:AF o.op=3\/AF o.op=4\/AF o.op=5:=by omega
  rcases h3 with h3|h3|h3
  .obtain⟨f,args,ts,hop⟩:=VT h3
   unfold CX at h |-
   simp only[hop] at h |-
   unfold J9 at h |-
   split at h
   .exact Ah.mono (fun r bs hk=>⟨hk,⟨_,rfl⟩,.inr (.inl ⟨bs,rfl,h3⟩)⟩) h
   .exact h.elim
  .obtain⟨t,x,y,hop⟩:=PI h3
   unfold CX at h |-
   simp only[hop] at h |-
   unfold Ht Iu Hl at h |-
   split at h
   .split at h
    .split at h
     .rename_i hcs
      split at h
      .rename_i hxs
       simp only[hxs]
       exact⟨h.1,h.2,⟨_,rfl⟩,.inr (.inr (.inl ⟨_,_,_,_,hcs,rfl,h3⟩))⟩
      .exact h.elim
     .exact h.elim
    .exact h.elim
   .exact h.elim
  .obtain⟨args,ts,hop⟩:=Nl h3
   unfold CX at h |-
   simp only[hop] at h |-
   split at h
   .obtain⟨rfl,h⟩:=h
    refine⟨rfl,?_⟩
    unfold HW Hl Hy at h |-
    split at h
    .split at h
     .rename_i hcs
      split at h
      .obtain⟨g1,g2,g3,g4,g5,g6,g7,g8,g⟩:=h
       exact⟨g1,g2,g3,g4,g5,g6,g7,g8,g,⟨_,rfl⟩,.inr (.inr (.inr ⟨_,_,_,_,hcs,rfl,h3⟩))⟩
      .exact h.elim
     .exact h.elim
    .exact h.elim
   .exact h.elim
theorem Ge (tk:BI P T) {i:Nat} (ho:ops[i]?=some oi) (hb:By n oi=true) (hc:AF oi.op<=5) (h:B5 T (Ah P L) ops sl i F M K) (I:CQ P n F M):
 ∃F' M',K F' M' /\(∃v,F' =Al F oi.dst v)/\(MS oi (sl i) M M' \/M' =M)/\CQ P n F' M' :=by
 unfold B5 at h
 simp only[ho] at h
 split at h
 .obtain⟨F',M',⟨h1,h2,h3⟩,h4⟩:=PJ tk hb (Kg hc h) I
  exact⟨F',M',h1,h2,.inl h3,h4⟩
 .exact⟨_,M,h,⟨_,rfl⟩,.inr rfl,I.undef _⟩
 .exact h.elim
theorem D7 (h:Em L ops oi oj=true):Ap ops oi oj/\
 ((AF oi.op<=2/\AF oj.op<=2)\/(AF oi.op=3/\AF oj.op<=2/\True)\/(AF oi.op=4/\AF oj.op<=1)\/(AF oi.op=5/\(AF oj.op=0\/Fq ops=true/\AF oj.op<=2))\/
  (AF oj.op=3/\AF oi.op<=2/\(L=false\/Bf oi.op=false))\/(AF oj.op=4/\AF oi.op<=1)\/(AF oj.op=5/\AF oi.op=0)):=by
 simp only[Em,Bool.and_eq_true] at h
 refine⟨Ap.of h.1,?_⟩
 have h2:=h.2
 generalize AF oi.op=p,AF oj.op=q at h2 |-
 split at h2
 .simp at h2;exact .inr (.inl ⟨rfl,h2,trivial⟩)
 .simp at h2;exact .inr (.inr (.inl ⟨rfl,h2⟩))
 .simp at h2;exact .inr (.inr (.inr (.inl ⟨rfl,h2⟩)))
 .simp at h2;exact .inr (.inr (.inr (.inr (.inl ⟨rfl,h2⟩))))
 .simp at h2;exact .inr (.inr (.inr (.inr (.inr (.inl ⟨rfl,h2⟩)))))
 .simp at h2;exact .inr (.inr (.inr (.inr (.inr (.inr ⟨rfl,h2⟩)))))
 .simp at h2;exact .inl h2
theorem MS.len {s:Nat} {M M' :List Ag} (h:MS o s M M' \/M' =M):M.length<=M'.length:=by
 rcases h with(⟨b,rfl,_⟩ | ⟨bs,rfl,_⟩ | ⟨B,u,cs,cs',_,rfl,_⟩ | ⟨B,u,cs,cs',_,rfl,_⟩) |rfl<;>simp[Ig]
theorem Dn.dn {si sj:Nat} {vi:AV} {M' :List Ag} {v:AV} {b:Option Ag} (hc:Em L ops oi oj=true) (hcj:AF oj.op<=2) (hbj:By n oj=true) (hsj:Bf oj.op=true->sj<M.length) (I:CQ P n F M) (hM:MS oi si M M' \/M' =M)
 (h:Dn T ops oj sj (Al F oi.dst vi) M' v b):Dn T ops oj sj F M v b:=by
 obtain⟨hap,hcc⟩:=D7 hc
 have hev:∀x∈oj.op.operands,ev F x=ev (Al F oi.dst vi) x:=fun x hx=>(EI hap x hx).symm
 have hev' :∀x∈oj.op.operands,ev (Al F oi.dst vi) x=ev F x:=fun x hx=>(EI hap x hx)
 have hopn:∀x∈oj.op.operands,Fu n x=true:=by
  simp only[By,Bool.and_eq_true] at hbj
  intro x hx
  exact Array.all_eq_true'.1 hbj.1 x hx
 have hnm:∀x∈oj.op.operands,∀B v,EP (ev F x)=some (B,v)->B<M.length/\M[B]?≠some .free:=fun x hx B v ht=>I.name (hopn x hx) ht
 have hslot:=h.slot
 have fin:(pv T M F oj=pv T M' F oj)->(M'[sj]?=some .free->sj<M.length->M[sj]?=some .free)->Dn T ops oj sj F M v b:=fun h1 h2=>by
  rcases hslot with rfl|hs
  .rcases h with⟨g1,g2⟩ | ⟨g1,g2,g3⟩
   .refine .inl ⟨by rw[<-g1];exact(CW hap).symm,?_⟩
    have hnb:Bf oj.op=false:=by
     rcases g2.slot with h| ⟨⟨x,h⟩,_⟩
     .exact h.2
     .simp at h
    unfold E9 at g2 |-
    split at g2<;>(rename_i hop;try (simp[hop,Bf] at hnb;done))<;>try (simp only[hop])
    exact⟨by simp,by rw[h1,Eg hev];exact g2.2⟩
   .exact .inr ⟨by rw[<-g1];exact(CW hap).symm,g2,g3⟩
  .exact h.up (CW hap).symm hev (.inl (by rw[h1,Eg hev])) (fun hf=>h2 hf (hsj hs.2.1))
 rcases hM with(⟨bi,rfl,hbi,hci⟩ | ⟨bs,rfl,hci⟩ | ⟨B,u,cs,cs',hcs,rfl,hci⟩ | ⟨B,u,cs,cs',hcs,rfl,hci⟩) |rfl
 .refine fin ?_ ?_
  .refine OI fun x hx B u ht=>?_
   obtain⟨_,hnf⟩:=hnm x hx B u ht
   cases bi with
   |none=>rfl
   |some z=>
    have:M[si]?=some .free:=by
     rcases hbi with h|h
     .simp at h
     .exact h.1
    have hne:si≠B:=fun e=>hnf (e ▸ this)
    simp only[BN,Aj,List.getElem?_set_ne hne]
  .intro hf _
   rcases hbi with rfl| ⟨hfi,u,xs,rfl⟩
   .exact hf
   .simp only[BN] at hf
    by_cases e:si=sj
    .rw[<-e];exact hfi
    .rw[List.getElem?_set_ne e] at hf;exact hf
 .refine fin ?_ ?_
  .refine OI fun x hx B u ht=>?_
   obtain⟨hlt,_⟩:=hnm x hx B u ht
   simp only[Aj,List.getElem?_append_left hlt]
  .intro hf hlt
   rw[List.getElem?_append_left hlt] at hf;exact hf
 .have hcj1:AF oj.op<=1:=by rcases hcc with h|h|h|h|h|h|h<;>omega
  refine fin ?_ ?_
  .exact Sl hcj1 fun B' v' =>(Hx hcs B' v').symm
  .intro hf _
   by_cases e:B=sj
   .rw[e] at hf hcs
    have:=ET hcs
    have hlt:sj<M.length:=by
     rcases Nat.lt_or_ge sj M.length with h|h
     .exact h
     .simp[List.getElem?_eq_none h] at this
    simp[List.getElem?_set_self hlt] at hf
   .rw[List.getElem?_set_ne e] at hf;exact hf
 .by_cases hcj0:AF oj.op≠0
  .rcases h with⟨g1,g2⟩ | ⟨g1,g2,g3⟩
   .refine .inl ⟨by rw[<-g1];exact(CW hap).symm,?_⟩
    have hnb:Bf oj.op=false:=by
     cases e:Bf oj.op with
     |false=>rfl
     |true=>exact absurd (HZ e) hcj0
    have hpv:∀r,pv T (M.set B (.live (u+1) cs')) (Al F oi.dst vi) oj=some r->pv T M F oj=some r:=by
     intro r hr
     rw[Eg hev'] at hr
     have hMB:=ET hcs
     have hlt:B<M.length:=by
      rcases Nat.lt_or_ge B M.length with h|h
      .exact h
      .simp[List.getElem?_eq_none h] at hMB
     have e1:pv T (M.set B .dead) F oj=pv T (M.set B (.live (u+1) cs')) F oj:=by
      refine OI fun x hx B' v' ht=>?_
      by_cases e:B=B'
      .subst e
       have:=I.nameV (hopn x hx) ht hMB
       have hne:¬v' =u+1:=by omega
       simp[Aj,List.getElem?_set_self hlt,hne]
      .simp only[Aj,List.getElem?_set_ne e]
     rw[<-e1] at hr
     refine Sm (fun B' v' c hc=>?_) hr
     by_cases e:B=B'
     .subst e;simp[Aj,List.getElem?_set_self hlt] at hc
     .simpa only[Aj,List.getElem?_set_ne e] using hc
    unfold E9 at g2 |-
    split at g2<;>(rename_i hop;try (simp[hop,Bf] at hnb;done))<;>try (simp only[hop])
    exact⟨g2.1,hpv _ g2.2⟩
   .exact .inr ⟨by rw[<-g1];exact(CW hap).symm,g2,g3⟩
  have hcj0:AF oj.op=0:=by simpa using hcj0
  refine fin ?_ ?_
  .exact Sk hcj0
  .intro hf _
   by_cases e:B=sj
   .rw[e] at hf hcs
    have:=ET hcs
    have hlt:sj<M.length:=by
     rcases Nat.lt_or_ge sj M.length with h|h
     .exact h
     .simp[List.getElem?_eq_none h] at this
    simp[List.getElem?_set_self hlt] at hf
   .rw[List.getElem?_set_ne e] at hf;exact hf
 .exact fin rfl fun h _=>h
theorem Sn (tk:BI P T) (hops:∀(k:Nat) (o:Oper),ops[k]?=some o->By n o=true) {j:Nat} (hj:ops[j]?=some oj) (hcj:AF oj.op<=2) {post:List Nat}:∀(pre:List Nat) (F:Fr) (M:List Ag),(∀i∈pre,∀oi,ops[i]?=some oi->Em L ops oi oj=true)->
 (Bf oj.op=true->sl j<M.length)->CQ P n F M->B1 T (Ah P L) ops sl (pre++j::post) F M K->∃v b,Dn T ops oj (sl j) F M v b
 | [],F,M,_,_,_,h=>by
   obtain⟨v,b,hd,_⟩:=(Dj hj hcj).1 h
   exact⟨v,b,hd⟩
 |i::pre,F,M,hc,hl,I,h=>by
  simp only[List.cons_append,B1] at h
  cases hi:ops[i]? with
  |none=>
   unfold B5 at h
   rw[hi] at h
   exact Sn tk hops hj hcj pre F M (fun k hk=>hc k (by simp[hk])) hl I h
  |some oi=>
   have hcm:=hc i (by simp) oi hi
   have hci:AF oi.op<=5:=by rcases(D7 hcm).2 with h|h|h|h|h|h|h<;>omega
   obtain⟨F',M',h1,⟨vi,rfl⟩,hM,I'⟩:=Ge tk hi (hops i oi hi) hci h I
   obtain⟨v,b,hd⟩:=Sn tk hops hj hcj pre _ M' (fun k hk=>hc k (by simp[hk])) (fun ha=>Nat.lt_of_lt_of_le (hl ha) (MS.len hM)) I' h1
   exact⟨v,b,hd.dn hcm hcj (hops j oj hj) hl I hM⟩
end
end Go.Abs
