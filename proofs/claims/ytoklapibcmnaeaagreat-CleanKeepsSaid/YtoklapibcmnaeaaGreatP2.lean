/- The operations that only compute or read give in the machine what the abstract ones tell. No program. -/
import Derived.Test.YtoklapibcmnaeaaGreatP1
import Derived.Laws.CopyOwn
import Derived.Tactics
import Derived.Laws.Cover3
set_option linter.unusedVariables false
set_option linter.unusedSimpArgs false
namespace Go.Abs
theorem JB {α β:Type} {P:Program} {w:World} (f:α->Sem β) (g:α->β):∀(l:List α),(∀x∈l,(f x).run P w= .ok (g x) w)->(l.mapM f).run P w= .ok (l.map g) w
 | [],_=>by simp
 |x::l,h=>by
  simp only[List.mapM_cons,Sem.run_bind,h x (by simp),Result.andThen_ok,JB f g l (fun y hy=>h y (by simp[hy])),Sem.run_pure,List.map_cons]
theorem Nh {α β:Type} {P:Program} {w:World} (f:α->Sem β) (g:α->β) (l:Array α) (h:∀x∈l,(f x).run P w= .ok (g x) w):(l.mapM f).run P w= .ok (l.map g) w:=by
 cases l with
 |mk l=>
  rw[List.mapM_toArray]
  simp only[Sem.run_map]
  rw[JB f g l (fun x hx=>h x (by simpa using hx))]
  simp
section
variable {C:Bn} {w:World} {σ:Nat->Nat->Option St} {T:Nat->Option TI} {own:Nat->Option Nat} {M:List Ag} {F:Fr} {a:Act}
theorem T7 {t:Nat} {x:AV} {v:Value} (h:VR w C.sh σ x v (fun _=>0)):VR w C.sh σ (Fz T t x) v (fun _=>0):=by
 unfold Fz
 split
 .split
  .split
   .unfold RH
    split
    .split
     .simp only[VR] at h |-
      rcases h with h| ⟨g,_,_,_,_,_,_,_,_,_,_,_,_,hf⟩
      .exact .inl h
      .have:=hf g;simp at this;omega
     .exact h
    .exact h
   .exact h
  .exact h
 .exact h
theorem ZW (tk:BI C.P T) {t:Nat} {Am:List (Nat×AV)} {ps:Array (Nat×Value)} (hl:ps.size=Am.length)
 (hr:∀(j:Nat) (p:Nat×AV),Am[j]?=some p->∃v,ps.toList[j]?=some (p.1,v)/\VR w C.sh σ p.2 v (fun _=>0)) {r:AV} (h:QR T t Am=some r):
 ∃u,(Instr.build t ps).run C.P w= .ok u w/\VR w C.sh σ r u (fun _=>0):=by
 unfold QR at h
 split at h
 .rename_i i ht
  obtain⟨I,D,z,hI,hD0,h1,h2,h3,h4,h5,h6,h7,_⟩:=(tk.at ht).ok
  split at h
  .rename_i fs hfs
   obtain⟨fields,hD,hf⟩:=JH tk (t:=t) (fs:=fs) (by simp[Ar,ht,hfs])
   split at h
   .rename_i cs hcs
    simp at h;subst h
    rw[hD] at hD0;simp at hD0;subst hD0
    have hlen:fs.length=fields.size:=by
     rw[hfs] at h4
     simp only[KY,Bool.and_eq_true,beq_iff_eq] at h4
     exact h4.1
    have hsz:∀f∈fields,∃E,C.P.info? f.type=some E:=by
     intro f hfm
     obtain⟨j,hj,he⟩:=Array.mem_iff_getElem.1 hfm
     have hjl:j<fs.length:=by omega
     obtain⟨f',E,D,e1,_,e3,_⟩:=hf j fs[j] (by simp[hjl])
     simp[hj,he] at e1;subst e1
     exact⟨E,e3⟩
    let g:Field->Nat×Nat:=fun f=>(f.offset,match C.P.info? f.type with|some E=>E.size|none=>0)
    have hm:(fields.mapM fun f=>(do pure (f.offset,<-sizeOf f.type):Sem (Nat×Nat))).run C.P w= .ok (fields.map g) w:=by
     refine Nh _ g fields (fun f hf=>?_)
     obtain⟨E,hE⟩:=hsz f hf
     simp[BZ hE,g,hE]
    have hp:∀(j:Nat) (q:Nat×Nat),WI fs j=some q->(fields.map g)[j]?=some q:=by
     intro j q' hq'
     unfold WI at hq'
     split at hq' <;>simp at hq'
     subst hq'
     rename_i q1 q2 q3 hq
     obtain⟨f',E,D,e1,e2,e3,e4,_⟩:=hf j _ hq
     simp[e1,g,e2,e3,e4]
    obtain⟨arr',ha,hv⟩:=M0 (sh:=C.sh) (place:=fun j=>(fields.map g)[j]?) hp Am ps.toList (arr:=z.cells) (Ik h7 w C.sh σ) (by simpa using hl) hr hcs
    refine⟨.agg arr',?_,arr',rfl,hv⟩
    simp only[Instr.build,Sem.run_bind,zeroValue,typeInfo,run_program,Result.andThen_ok,hI,Sem.run_pure,h5,run_underlying hD,hm]
    have:Instr.fill (fun x=>(fields.map g)[x]?) z.cells ps.toList=some arr' :=ha
    simp only[this,Sem.run_pure]
   .simp at h
  .simp at h
 .simp at h
theorem T8 (R:AK C F M a w σ own) {xs:Array Operand} (h:xs.all (Fu C.n)=true):Aw w C.sh σ (JN F xs) (xs.map a.eval).toList (fun _=>0):=by
 unfold JN
 simp only[Array.toList_map]
 have h' :∀x∈xs.toList,Fu C.n x=true:=fun x hx=>Array.all_eq_true'.1 h x (by simpa using hx)
 generalize xs.toList=l at*
 induction l with
 |nil=>exact⟨rfl,fun _=>rfl⟩
 |cons x l ih=>exact⟨_,_,_,_,rfl,R.ev (h' x (by simp)),ih (fun y hy=>h' y (by simp[hy])),fun _=>rfl⟩
theorem Sg (tk:BI C.P T) (R:AK C F M a w σ own) {o:Oper} (hb:By C.n o=true) {r:AV} (h:pv T M F o=some r):
 ∃u,(execOp a.eval o).run C.P w= .ok (.value u) w/\VR w C.sh σ r u (fun _=>0):=by
 have hops:∀x∈o.op.operands,Fu C.n x=true:=by
  simp only[By,Bool.and_eq_true] at hb
  intro x hx
  exact Array.all_eq_true'.1 hb.1 x hx
 unfold pv at h
 split at h<;>rename_i hop<;>simp only[hop,Op.operands] at hops
 .rename_i x
  simp at h;subst h
  exact⟨a.eval x,by simp[execOp,hop],T7 (R.ev (hops x (by simp)))⟩
 .rename_i x
  simp at h;subst h
  exact⟨a.eval x,by simp[execOp,hop],T7 (R.ev (hops x (by simp)))⟩
 .rename_i c x y
  have hc:=R.ev (hops c (by simp))
  unfold LR at h
  split at h
  .rename_i b hcb
   rw[hcb] at hc
   have e:=hc.1
   simp at h;subst h
   refine⟨if b then a.eval x else a.eval y,by simp[execOp,hop,e,asBool],?_⟩
   cases b
   .exact R.ev (hops y (by simp))
   .exact R.ev (hops x (by simp))
  .simp at h
 .rename_i t x
  obtain⟨u,hu,hr⟩:=OL tk R (R.ev (hops x (by simp))) h
  exact⟨u,by simp[execOp,hop,hu],hr⟩
 .rename_i t x f
  obtain⟨u,hu,hr⟩:=Zh R.mem tk (R.ev (hops x (by simp))) h
  exact⟨u,by simp[execOp,hop,hu],hr⟩
 .rename_i t x i
  obtain⟨u,hu,hr⟩:=Zi R.mem tk (R.ev (hops x (by simp))) (R.ev (hops i (by simp))) h
  exact⟨u,by simp[execOp,hop,hu],hr⟩
 .rename_i op t x y t'
  obtain⟨u,hu,hr⟩:=W8 tk (t:=t) (ox:=x) (oy:=y) (R.ev (hops x (by simp))) (R.ev (hops y (by simp))) h
  exact⟨u,by simp only[execOp,hop,Sem.run_bind] at hu |-;rw[hu];rfl,hr⟩
 .rename_i op t x
  obtain⟨u,hu,hr⟩:=aO (R.ev (hops x (by simp))) h
  exact⟨u,by simp[execOp,hop,hu],hr⟩
 .rename_i s d x
  obtain⟨u,hu,hr⟩:=W9 tk R.mem (R.ev (hops x (by simp))) h
  exact⟨u,by simp[execOp,hop,hu],hr⟩
 .rename_i t x f
  obtain⟨u,hu,hr⟩:=Zm tk (R.ev (hops x (by simp))) h
  exact⟨u,by simp[execOp,hop,hu],hr⟩
 .rename_i t x i
  obtain⟨u,hu,hr⟩:=Zl tk (R.ev (hops x (by simp))) (R.ev (hops i (by simp))) h
  exact⟨u,by simp[execOp,hop,hu],hr⟩
 .rename_i x i
  obtain⟨u,hu,hr⟩:=Zn (R.ev (hops x (by simp))) h
  exact⟨u,by simp[execOp,hop,hu],hr⟩
 .rename_i t x lo hi mx
  have mp:∀(y:Option Operand),(∀z,y=some z->Fu C.n z=true)->(∀b,y.map (ev F)=some b->∃u,y.map a.eval=some u/\VR w C.sh σ b u (fun _=>0))/\(y.map (ev F)=none->y.map a.eval=none):=by
   intro y hy
   cases y with
   |none=>simp
   |some z=>exact⟨fun b hb=>⟨_,rfl,by simp at hb;subst hb;exact R.ev (hy z rfl)⟩,by simp⟩
  have m1:=mp lo (fun z hz=>hops z (by simp[hz]))
  have m2:=mp hi (fun z hz=>hops z (by simp[hz]))
  have m3:=mp mx (fun z hz=>hops z (by simp[hz]))
  obtain⟨u,hu,hr⟩:=S0 R.mem tk (R.ev (hops x (by simp))) m1.1 m1.2 m2.1 m2.2 m3.1 m3.2 h
  exact⟨u,by simp[execOp,hop,hu],hr⟩
 .rename_i x
  have hx:=R.ev (hops x (by simp))
  unfold Ia at h
  split at h
  .rename_i B v off he
   split at h
   .rename_i hl
    simp at h;subst h
    rw[he] at hx
    have hx' :=hx
    simp only[VR] at hx'
    obtain⟨_,⟨ad,e⟩,_⟩:=hx'
    exact⟨_,by simp[execOp,hop,e],e ▸ hx⟩
   .simp at h
  .rename_i xs he
   simp at h;subst h
   rw[he] at hx
   have hx' :=hx
   simp only[VR] at hx'
   obtain⟨_,ad,vs,e,_⟩:=hx'
   exact⟨_,by simp[execOp,hop,e],e ▸ hx⟩
  .rename_i f cs he
   simp at h;subst h
   rw[he] at hx
   have hx' :=hx
   simp only[VR] at hx'
   obtain⟨_,vs,e,_⟩:=hx'
   exact⟨_,by simp[execOp,hop,e],e ▸ hx⟩
  .simp at h
 .rename_i f first caps
  split at h
  .rename_i hf
   simp at h;subst h
   have:first= #[]:=Array.eq_empty_of_size_eq_zero hf
   subst this
   refine⟨.func (.func f) #[] (caps.map a.eval),by simp[execOp,hop,Instr.makeFunc],fun _=>rfl,_,rfl,?_⟩
   exact T8 R (by rw[Array.all_eq_true'];intro x hx;exact hops x (by simp[hx]))
  .simp at h
 .rename_i t Am
  obtain⟨u,hu,hr⟩:=ZW (w:=w) (σ:=σ) (C:=C) tk (ps:=Am.map fun(i,x)=>(i,a.eval x)) (by simp) (fun j p hj=>by
   simp only[List.getElem?_map,Option.map_eq_some_iff] at hj
   obtain⟨q,hq,rfl⟩:=hj
   refine⟨a.eval q.2,by simp at hq |-;exact⟨q.1,q.2,by simp[hq],rfl,rfl⟩,R.ev (hops q.2 ?_)⟩
   simp only[List.mem_toArray,List.mem_map]
   exact⟨q,List.mem_of_getElem? hq,rfl⟩) h
  exact⟨u,by simp[execOp,hop,hu],hr⟩
 .rename_i args argTypes
  split at h
  .rename_i x t hx ht
   have ex:args= #[x]:=by cases args;simp at hx;simp[hx]
   have et:argTypes= #[t]:=by cases argTypes;simp at ht;simp[ht]
   subst ex et
   obtain⟨u,hu,hr⟩:=W6 (ty:=o.type) tk (R.ev (hops x (by simp[Call.operands]))) h
   exact⟨u,by simp[execOp,hop,resolve,invoke,builtin,hu],hr⟩
  .simp at h
 .rename_i args _
  split at h
  .rename_i x y hx
   have ex:args= #[x,y]:=by cases args;simp at hx;simp[hx]
   subst ex
   have h1:=R.ev (hops x (by simp[Call.operands]))
   have h2:=R.ev (hops y (by simp[Call.operands]))
   unfold LP at h
   split at h
   .rename_i k p k' q e1 e2
    rw[e1] at h1;rw[e2] at h2
    have e3:=h1.1;have e4:=h2.1
    simp at h;subst h
    exact⟨_,by simp[execOp,hop,resolve,invoke,builtin,Builtin.min_,e3,e4,Builtin.min2],rfl,fun _=>rfl⟩
   .simp at h
  .simp at h
 .rename_i args _
  split at h
  .rename_i x y hx
   have ex:args= #[x,y]:=by cases args;simp at hx;simp[hx]
   subst ex
   have h1:=R.ev (hops x (by simp[Call.operands]))
   have h2:=R.ev (hops y (by simp[Call.operands]))
   unfold LQ at h
   split at h
   .rename_i k p k' q e1 e2
    rw[e1] at h1;rw[e2] at h2
    have e3:=h1.1;have e4:=h2.1
    simp at h;subst h
    exact⟨_,by simp[execOp,hop,resolve,invoke,builtin,Builtin.max_,e3,e4,Builtin.max2],rfl,fun _=>rfl⟩
   .simp at h
  .simp at h
 .simp at h
end
mutual
theorem aZ {w:World} {sh:Nat->Prop} {σ:Nat->Nat->Option St}:∀(a:AV) (x:Value) (fp:Nat->Nat),VR w sh σ a x fp->∀g,fp g≠0->g<w.heap.size
 | .any,_,_,h,g,hg=>absurd (h g) hg
 | .bool _,_,_,h,g,hg=>absurd (h.2 g) hg
 | .int _ _,_,_,h,g,hg=>absurd (h.2 g) hg
 | .str _,_,_,h,g,hg=>absurd (h.2 g) hg
 | .nilp,_,_,h,g,hg=>absurd (h.2 g) hg
 | .ro _ _,_,_,h,g,hg=>by simp only[VR] at h;exact absurd (h.1 g) hg
 | .tok ..,_,_,h,g,hg=>by simp only[VR] at h;exact absurd (h.1 g) hg
 | .ptr ..,_,_,h,g,hg=>by simp only[VR] at h;exact absurd (h.1 g) hg
 | .rptr _,_,_,h,g,hg=>by simp only[VR] at h;exact absurd (h.1 g) hg
 | .fn ..,_,_,h,g,hg=>by simp only[VR] at h;exact absurd (h.1 g) hg
 | .own s n xs,x,fp,h,g,hg=>by
   simp only[VR] at h
   rcases h with⟨_,_,_,h⟩ | ⟨h',b,c,cur,e,fp',hx,hn,hc,hl,hh,hsz,hv,hf⟩
   .exact absurd (h g) hg
   .by_cases e:g=h'
    .subst e;exact(Array.getElem?_eq_some_iff.1 hh).1
    .have:=hf g;simp only[e,if_false] at this
     exact E8 xs _ fp' hv g (by omega)
 | .optr xs,x,fp,h,g,hg=>by
   simp only[VR] at h
   obtain⟨h',b,cur,e,fp',hx,hh,hsz,hv,hf⟩:=h
   by_cases e:g=h'
   .subst e;exact(Array.getElem?_eq_some_iff.1 hh).1
   .have:=hf g;simp only[e,if_false] at this
    exact E8 xs _ fp' hv g (by omega)
 | .agg xs,x,fp,h,g,hg=>by
   simp only[VR] at h
   obtain⟨cs,_,hv⟩:=h
   exact E8 xs _ fp hv g hg
 | .tup xs,x,fp,h,g,hg=>by
   simp only[VR] at h
   obtain⟨cs,_,hv⟩:=h
   exact E8 xs _ fp hv g hg
theorem E8 {w:World} {sh:Nat->Prop} {σ:Nat->Nat->Option St}:∀(xs:List AV) (vs:List Value) (fp:Nat->Nat),Aw w sh σ xs vs fp->∀g,fp g≠0->g<w.heap.size
 | [],_,_,h,g,hg=>by simp only[Aw] at h;exact absurd (h.2 g) hg
 |x::xs,vs,fp,h,g,hg=>by
  simp only[Aw] at h
  obtain⟨v,rest,f1,f2,he,h1,h2,hf⟩:=h
  have:=hf g
  by_cases e:f1 g=0
  .exact E8 xs rest f2 h2 g (by omega)
  .exact aZ x v f1 h1 g e
end
theorem Mn {w:World} {sh:Nat->Prop} {σ:Nat->Nat->Option St} {T:Nat} {B:Ag} {fp:Nat->Nat} (h:BR w sh σ T B fp) (g:Nat) (hg:fp g≠0):g<w.heap.size:=by
 cases B with
 |free=>exact absurd (h.2 g) hg
 |dead=>exact absurd (h g) hg
 |live v xs=>
  rcases h.2 with⟨_,_,h⟩ | ⟨h',b,cur,e,fp',_,hh,_,hv,hf⟩
  .exact absurd (h g) hg
  .by_cases e:g=h'
   .subst e;exact(Array.getElem?_eq_some_iff.1 hh).1
   .have:=hf g;simp only[e,if_false] at this
    exact E8 xs _ fp' hv g (by omega)
theorem EG {w w' :World} {sh sh' :Nat->Prop} {σ σ' :Nat->Nat->Option St} (L:Cb w w' sh sh' σ σ') {T:Nat} {B:Ag} {fp:Nat->Nat} (hfp:∀g,fp g≠0->w'.heap[g]?=w.heap[g]?) (hk:∀v,σ' T v=σ T v)
 (h:BR w sh σ T B fp):BR w' sh' σ' T B fp:=by
 cases B with
 |free=>exact⟨fun v=>by rw[hk];exact h.1 v,h.2⟩
 |dead=>exact h
 |live v xs=>
  obtain⟨h0,h⟩:=h
  refine⟨fun v' hv=>by rw[hk];exact h0 v' hv,?_⟩
  rcases h with⟨h1,h2,h3⟩ | ⟨h',b,cur,e,fp',h1,hh,hle,hv,hf⟩
  .exact .inl ⟨by rw[hk];exact h1,h2,h3⟩
  .refine .inr ⟨h',b,cur,e,fp',by rw[hk];exact h1,?_,hle,Aw.later L xs _ fp' (fun g hg=>hfp g (by have:=hf g;omega)) hv,hf⟩
   rw[hfp h' (by have:=hf h';simp at this;omega)];exact hh
theorem B7.step {w w' :World} {sh:Nat->Prop} {σ σ' :Nat->Nat->Option St} {own own' :Nat->Option Nat} {M:List Ag} (m:B7 w sh σ own M) (L:Cb w w' sh sh σ σ') {T:Nat} (hT:T<M.length) {B:Ag}
 (hk:∀T' v,T' ≠T->σ' T' v=σ T' v) (ho:∀g T',T' ≠T->own g=some T' ->g<w.heap.size->own' g=some T' /\w'.heap[g]?=w.heap[g]?)
 (hB:∃fp,BR w' sh σ' T B fp/\∀g,fp g<=if own' g=some T then 1 else 0):B7 w' sh σ' own' (M.set T B):=by
 refine⟨fun T' B' hM=>?_,fun T' v hlen=>?_⟩
 .by_cases e:T' =T
  .subst e
   rw[List.getElem?_set_self hT] at hM
   simp at hM;subst hM;exact hB
  .rw[List.getElem?_set_ne (Ne.symm e)] at hM
   obtain⟨fp,h1,h2⟩:=m.blk T' B' hM
   have hg:∀g,fp g≠0->own' g=some T' /\w'.heap[g]?=w.heap[g]?:=by
    intro g hg
    have h3:=h2 g
    split at h3
    .exact ho g T' e (by assumption) (Mn h1 g hg)
    .omega
   refine⟨fp,EG L (fun g h=>(hg g h).2) (fun v=>hk T' v e) h1,fun g=>?_⟩
   by_cases h0:fp g=0
   .rw[h0];exact Nat.zero_le _
   .have h3:=h2 g
    rw[if_pos (hg g h0).1]
    split at h3<;>omega
 .rw[List.length_set] at hlen
  rw[hk T' v (by omega)]
  exact m.key T' v hlen
theorem Dm {w:World} {o:Obj} {g:Nat} (h:g<w.heap.size):(w.alloc o).heap[g]?=w.heap[g]?:=heap_alloc_old w o h
section
variable {C:Bn} {w:World} {σ:Nat->Nat->Option St} {own:Nat->Option Nat} {M:List Ag} {F:Fr} {a:Act}
theorem AK.alloc (R:AK C F M a w σ own) {T:Nat} (hT:M[T]?=some .free) (arr:Array Value) (e:TypeId) {zs:List AV} (hz:Aw w C.sh σ zs (arr.toList.take zs.length) (fun _=>0)) (hle:zs.length<=arr.size):
 ∃σ' own',AK C F (M.set T (.live 0 zs)) a (w.alloc (.cells arr e)) σ' own' /\σ' T 0=some (.loc w.heap.size 0 arr.size):=by
 have hTl:T<M.length:=by
  rcases Nat.lt_or_ge T M.length with h|h
  .exact h
  .simp[List.getElem?_eq_none h] at hT
 obtain⟨fp0,hfree,_⟩:=R.mem.blk T _ hT
 have hfr:∀v,σ T v=none:=hfree.1
 let σ' :Nat->Nat->Option St:=fun T' v=>if T' =T/\v=0 then some (.loc w.heap.size 0 arr.size) else σ T' v
 let own' :Nat->Option Nat:=fun g=>if g=w.heap.size then some T else own g
 have L:Cb w (w.alloc (.cells arr e)) C.sh C.sh σ σ' :=by
  refine⟨fun g hg=>Dm (R.shr g hg).2,fun _ h=>h,fun T' v st h=> .inl ?_⟩
  have:¬(T' =T/\v=0):=fun hh=>by rw[hh.1,hfr] at h;simp at h
  simp only[σ',this,if_false];exact h
 refine⟨σ',own',⟨R.size,R.dfr,fun t ht=>VR.later L _ _ _ (fun g hg=>absurd rfl hg) (R.tmp t ht),?_,?_,?_,R.keyl L⟩,by simp[σ']⟩
 .refine R.mem.step L hTl (fun T' v hne=>by simp[σ',hne]) (fun g T' hne ho hlt=>⟨?_,Dm hlt⟩) ?_
  .have:g≠w.heap.size:=by omega
   simp only[own',this,if_false];exact ho
  .refine⟨fun g=>if g=w.heap.size then 1 else 0,⟨fun v' hv=>?_,.inr ⟨w.heap.size,0,arr,e,fun _=>0,by simp[σ'],?_,by simpa using hle,?_,fun g=>by simp⟩⟩,fun g=>?_⟩
   .have:¬v' =0:=by omega
    simp only[σ',this,and_false,if_false];exact hfr v'
   .exact heap_alloc_new w _
   .simp only[List.drop_zero]
    exact Aw.later L _ _ _ (fun g hg=>absurd rfl hg) hz
   .by_cases hg:g=w.heap.size<;>simp[own',hg]
 .intro g hg
  have h1:=R.shr g hg
  have:g≠w.heap.size:=by omega
  simp only[own',this,if_false,World.size_alloc]
  exact⟨h1.1,by omega⟩
 .refine R.ext.trans ⟨rfl,rfl,rfl,by simp,fun g hg _=>Dm hg,fun g hg=>?_⟩
  by_cases e:g=w.heap.size
  .right;omega
  .left;simp only[own',e,if_false] at hg;exact hg
theorem AK.drew (R:AK C F M a w σ own):AK C F M a w.drew σ own:=by
 have L:Cb w w.drew C.sh C.sh σ σ:=⟨fun _ _=>rfl,fun _ h=>h,fun _ _ _ h=> .inl h⟩
 refine⟨R.size,R.dfr,fun t ht=>VR.later L _ _ _ (fun _ _=>rfl) (R.tmp t ht),⟨fun T B hM=>?_,R.mem.key⟩,R.shr,R.ext.trans ⟨rfl,rfl,rfl,Nat.le_refl _,fun _ _ _=>rfl,fun _ h=> .inl h⟩,R.key0⟩
 obtain⟨fp,h1,h2⟩:=R.mem.blk T B hM
 exact⟨fp,EG L (fun _ _=>rfl) (fun _=>rfl) h1,h2⟩
theorem Pw {sh:Nat->Prop}:∀{cs:List AV} {vs:List Value} {fp:Nat->Nat},Aw w sh σ cs vs fp->∀(i:Nat) {x:AV} {v:Value},VR w sh σ x v (fun _=>0)->∃fp',Aw w sh σ (cs.set i x) (vs.set i v) fp' /\∀g,fp' g<=fp g
 | [],vs,fp,h,i,x,v,_=>by
   have:vs=[]:=by simp only[Aw] at h;exact h.1
   subst this;exact⟨fp,by simpa using h,fun _=>Nat.le_refl _⟩
 |c::cs,vs,fp,h,i,x,v,hx=>by
  simp only[Aw] at h
  obtain⟨v0,rest,f1,f2,rfl,h1,h2,hf⟩:=h
  cases i with
  |zero=>exact⟨f2,⟨v,rest,_,f2,rfl,hx,h2,fun g=>by simp⟩,fun g=>by have:=hf g;omega⟩
  |succ i=>
   obtain⟨f',h3,h4⟩:=Pw h2 i hx
   exact⟨fun g=>f1 g+f' g,⟨v0,rest.set i v,_,_,rfl,h1,h3,fun _=>rfl⟩,fun g=>by have:=hf g;have:=h4 g;simp only;omega⟩
def Px:List Value->Nat->List Value->List Value
 |vs,_,[]=>vs
 |vs,o,u::us=>Px (vs.set o u) (o+1) us
theorem KQ:∀(us vs:List Value) (o:Nat),o+us.length<=vs.length->Px vs o us=vs.take o++us++vs.drop (o+us.length)
 | [],vs,o,_=>by simp[Px]
 |u::us,vs,o,h=>by
  simp only[List.length_cons] at h
  simp only[Px]
  rw[KQ us (vs.set o u) (o+1) (by simp;omega)]
  have h1:(vs.set o u).take (o+1)=vs.take o++[u]:=by
   apply List.ext_getElem?
   intro i
   rw[List.getElem?_take,List.getElem?_set,List.getElem?_append]
   have hl:(vs.take o).length=o:=by simp;omega
   rw[hl,List.getElem?_take]
   by_cases h2:i<o
   .rw[if_pos (by omega),if_neg (by omega),if_pos h2,if_pos h2]
   .by_cases h3:i=o
    .subst h3;simp;omega
    .rw[if_neg (by omega),if_neg h2]
     simp;omega
  have h2:(vs.set o u).drop (o+1+us.length)=vs.drop (o+(us.length+1)):=by
   rw[List.drop_set_of_lt (by omega)];congr 1;omega
  rw[h1,h2];simp
theorem HV {sh:Nat->Prop}:∀(xs:List AV) {cs:List AV} {vs us:List Value} {fp:Nat->Nat} (o:Nat),Aw w sh σ cs vs fp->Aw w sh σ xs us (fun _=>0)->∃fp',Aw w sh σ (CP cs o xs) (Px vs o us) fp' /\∀g,fp' g<=fp g
 | [],cs,vs,us,fp,o,h,hx=>by
   simp only[Aw] at hx
   obtain⟨rfl,_⟩:=hx
   exact⟨fp,h,fun _=>Nat.le_refl _⟩
 |x::xs,cs,vs,us,fp,o,h,hx=>by
  simp only[Aw] at hx
  obtain⟨v,rest,f1,f2,rfl,h1,h2,hf⟩:=hx
  have e1:f1=fun _=>0:=Fv fun g=>by have:=hf g;omega
  have e2:f2=fun _=>0:=Fv fun g=>by have:=hf g;omega
  subst e1 e2
  obtain⟨f',h3,h4⟩:=Pw h o h1
  obtain⟨f'',h5,h6⟩:=HV xs (o+1) h3 h2
  exact⟨f'',h5,fun g=>Nat.le_trans (h6 g) (h4 g)⟩
theorem Ed:∀(xs cs:List AV) (o:Nat),(CP cs o xs).length=cs.length
 | [],_,_=>rfl
 |x::xs,cs,o=>by simp[CP,Ed xs]
end
theorem GK {α:Type} (l us:List α) (b off n:Nat) (h:b+n<=l.length) (h2:off+us.length<=n):
 ((l.take (b+off)++us++l.drop (b+off+us.length)).drop b).take n=((l.drop b).take n).take off++us++((l.drop b).take n).drop (off+us.length):=by
 have e1:l.take (b+off)=l.take b++(l.drop b).take off:=by rw[List.take_add]
 have e2:l.drop (b+off+us.length)=(l.drop b).drop (off+us.length):=by rw[List.drop_drop];congr 1;omega
 have hb:(l.take b).length=b:=by simp;omega
 have hl:n<=(l.drop b).length:=by simp;omega
 rw[e1,e2,List.append_assoc,List.append_assoc,List.drop_left' hb]
 generalize l.drop b=l' at*
 have hm:off+us.length<=l'.length:=by omega
 have hA:(l'.take off++us).length=off+us.length:=by simp;omega
 rw[<-List.append_assoc,List.take_append,hA,List.take_of_length_le (by omega)]
 rw[List.take_take,Nat.min_eq_left (by omega),List.drop_take,List.append_assoc]
theorem Sh {w:World} {sh:Nat->Prop} {σ:Nat->Nat->Option St} {x:AV} {u:Value} {fp:Nat->Nat} (h:VR w sh σ x u fp) (hx:BO x=true):u.oneCell' =true:=by
 cases x<;>simp only[BO,Bool.false_eq_true] at hx<;>simp only[VR] at h
 case bool=>rw[h.1];rfl
 case int=>rw[h.1];rfl
 case str=>rw[h.1];rfl
 case nilp=>rw[h.1];rfl
 case ro=>obtain⟨_,a,c,e,_⟩:=h;rw[e];rfl
 case own=>rcases h with⟨⟨a,e⟩,_⟩ | ⟨_,_,_,_,_,_,e,_⟩<;>(rw[e];rfl)
 case tok=>obtain⟨_,⟨a,c,e⟩,_⟩:=h;rw[e];rfl
 case ptr=>obtain⟨_,⟨a,e⟩,_⟩:=h;rw[e];rfl
 case rptr=>obtain⟨_,ad,vs,e,_⟩:=h;rw[e];rfl
 case optr=>obtain⟨_,_,_,_,_,e,_⟩:=h;rw[e];rfl
 case fn=>obtain⟨_,cs,e,_⟩:=h;rw[e];rfl
theorem ES {w:World} {sh:Nat->Prop} {σ:Nat->Nat->Option St}:∀{xs:List AV} {us:List Value} {fp:Nat->Nat},Aw w sh σ xs us fp->xs.all BO=true->∀u∈us,u.oneCell' =true
 | [],us,_,h,_,u,hu=>by
   simp only[Aw] at h;rw[h.1] at hu;simp at hu
 |x::xs,us,_,h,hx,u,hu=>by
  simp only[Aw] at h
  obtain⟨v,rest,f1,f2,rfl,h1,h2,_⟩:=h
  simp only[List.all_cons,Bool.and_eq_true] at hx
  rcases List.mem_cons.1 hu with e|hu
  .rw[e];exact Sh h1 hx.1
  .exact ES h2 hx.2 u hu
section
variable {C:Bn} {w:World} {σ:Nat->Nat->Option St} {own:Nat->Option Nat} {M:List Ag} {F:Fr} {a:Act} {T:Nat->Option TI}
theorem Rj {i:TI} {x:AV} {v:Value} {xs:List AV} (h:VR w C.sh σ x v (fun _=>0)) (hf:II i x=some xs):Aw w C.sh σ xs v.cells.toList (fun _=>0)/\v.cells.size=i.size/\xs.length=i.size/\xs.all BO=true:=by
 unfold II at hf
 split at hf
 .split at hf
  .rename_i cs
   split at hf
   .rename_i hc
    simp at hf;subst hf
    have:=LS h rfl
    exact⟨this.1,by rw[this.2];exact hc.1,hc.1,hc.2⟩
   .simp at hf
  .simp at hf
 .split at hf
  .rename_i hc
   simp at hf;subst hf
   have hok:OP x=true:=by have:=hc.2;cases x<;>simp_all[BO,OP]
   have h1:=QT (z:=i.zero[0]?) h hok
   have h2:(cellsOf x).length=1:=by have:=hc.2;cases x<;>simp_all[BO,cellsOf]
   refine⟨h1.1,by rw[h1.2.1,h1.2.2,h2];exact hc.1.symm,by rw[h1.2.2,h2];exact hc.1.symm,?_⟩
   have:=hc.2
   unfold IH
   split
   .split<;>rfl
   .cases x<;>simp_all[BO,cellsOf]
  .simp at hf
theorem I6 (R:AK C F M a w σ own) {B v:Nat} {cs:List AV} (hb:Aj M B v=some cs) {h b:Nat} {cur cur' :Array Value} {e:TypeId} (hs:σ B v=some (.loc h b cur.size)) (ho:own h=some B) (hh:w.heap[h]?=some (.cells cur e (0,0)))
 (hsz:cur'.size=cur.size) {cs' :List AV} (hle:b+cs'.length<=cur.size) (hv:∀fp,Aw w C.sh σ cs ((cur.toList.drop b).take cs.length) fp->∃fp',Aw w C.sh σ cs' ((cur'.toList.drop b).take cs'.length) fp' /\∀g,fp' g<=fp g):
 AK C F (M.set B (.live v cs')) a (w.setRow h cur') σ own:=by
 obtain⟨hM,fp,hB,hf⟩:=BS R.mem hb
 have hBl:B<M.length:=by
  rcases Nat.lt_or_ge B M.length with h|h
  .exact h
  .simp[List.getElem?_eq_none h] at hM
 have hsh:¬C.sh h:=fun hsh=>by have:=(R.shr h hsh).1;rw[ho] at this;simp at this
 have L:Cb w (w.setRow h cur') C.sh C.sh σ σ:=⟨fun g hg=>setRow_other w h g cur' (fun e=>hsh (e ▸ hg)),fun _ h=>h,fun _ _ _ h=> .inl h⟩
 refine⟨R.size,R.dfr,fun t ht=>VR.later L _ _ _ (fun g hg=>absurd rfl hg) (R.tmp t ht),?_,fun g hg=>by have:=R.shr g hg;simpa using this,?_,R.keyl L⟩
 .refine R.mem.step L hBl (fun _ _ _=>rfl) (fun g T' hne hg hlt=>⟨hg,setRow_other w h g cur' (fun e=>?_)⟩) ?_
  .rw[e,ho] at hg;simp at hg;exact hne hg.symm
  .simp only[BR] at hB
   obtain⟨h0,hB⟩:=hB
   rcases hB with⟨h1,_⟩ | ⟨h',b',c',e',fp',h1,h2,h3,h4,h5⟩
   .rw[hs] at h1;simp at h1
   .have hloc:h' =h/\b' =b:=by rw[hs] at h1;simp at h1;exact⟨h1.1.symm,h1.2.1.symm⟩
    obtain⟨rfl,rfl⟩:=hloc
    rw[hh] at h2;simp at h2
    obtain⟨rfl,rfl⟩:=h2
    obtain⟨fq,hq,hqle⟩:=hv fp' h4
    have hnew:∀g,fq g≠0->(w.setRow h' cur').heap[g]?=w.heap[g]?:=fun g hg=>setRow_other w h' g cur' (fun e=>by
     subst e
     have:=hqle g;have h6:=h5 g;have h7:=hf g;simp at h6
     split at h7<;>omega)
    refine⟨fun g=>(if g=h' then 1 else 0)+fq g,⟨h0,.inr ⟨h',b',cur',e,fq,by rw[hsz];exact h1,setRow_heap w h' cur cur' e _ hh,by rw[hsz];exact hle,Aw.later L _ _ _ hnew hq,fun _=>rfl⟩⟩,fun g=>?_⟩
    have h6:=h5 g;have h7:=hf g;have h8:=hqle g
    simp only
    split at h7<;>(rename_i hh;simp only[hh,if_true,if_false];omega)
 .refine R.ext.trans ⟨rfl,rfl,rfl,by simp,fun g hg hn=>setRow_other w h g cur' (fun e=>?_),fun g hg=> .inl hg⟩
  rw[e,ho] at hn;simp at hn
theorem AK.store (tk:BI C.P T) (R:AK C F M a w σ own) {t B v off:Nat} {i:TI} (ht:T t=some i) {cs xs:List AV} (hb:Aj M B v=some cs) {ad x:Value} (hx:VR w C.sh σ (.ptr B v off) ad (fun _=>0)) {y:AV} (hy:VR w C.sh σ y x (fun _=>0))
 (hf:II i y=some xs) (hle:off+i.size<=cs.length):
 ∃w',(Instr.storeAt t ad x).run C.P w= .ok () w' /\AK C F (M.set B (.live v (CP cs off xs))) a w' σ own:=by
 obtain⟨h,b,cur,e,rfl,hs,ho,hh,hbl,_⟩:=FN R.mem hb hx
 obtain⟨h1,h2,h3,h4⟩:=Rj hy hf
 obtain⟨I,D,z,hI,hD,hI1,_⟩:=(tk.at ht).ok
 have hlx:x.cells.toList.length=i.size:=by simpa using h2
 have hrun:=run_storeCells_at C.P h (b+off) e x.cells.toList 0 cur w hh (by omega) (ES h1 h4)
 simp only[Nat.add_zero] at hrun
 refine⟨_,?_,I6 R hb hs ho hh ?_ (cs' :=CP cs off xs) (by rw[Ed];exact hbl) ?_ (cur' :=(cur.toList.take (b+off)++x.cells.toList++cur.toList.drop (b+off+x.cells.toList.length)).toArray)⟩
 .simp only[Instr.storeAt,Instr.sureAddr,Sem.run_bind,Sem.run_pure,Result.andThen_ok,storeVar,BZ hI,hI1,h2]
  simp only[bne_self_eq_false,ne_eq,not_true_eq_false,if_false,Sem.run_ite,Sem.run_pure,Result.andThen_ok]
  exact hrun
 .simp;omega
 .intro fp hv
  obtain⟨fp',h5,h6⟩:=HV xs off hv h1
  refine⟨fp',?_,h6⟩
  have hlen:((cur.toList.drop b).take cs.length).length=cs.length:=by simp;omega
  rw[KQ _ _ _ (by rw[hlen,hlx];omega)] at h5
  rw[Ed]
  have:((cur.toList.take (b+off)++x.cells.toList++cur.toList.drop (b+off+x.cells.toList.length)).drop b).take cs.length=((cur.toList.drop b).take cs.length).take off++x.cells.toList++((cur.toList.drop b).take cs.length).drop (off+x.cells.toList.length):=by
   exact GK _ _ _ _ _ (by simpa using hbl) (by rw[hlx];exact hle)
  rw[show(cur.toList.take (b+off)++x.cells.toList++cur.toList.drop (b+off+x.cells.toList.length)).toArray.toList=cur.toList.take (b+off)++x.cells.toList++cur.toList.drop (b+off+x.cells.toList.length) from rfl,this]
  exact h5
end
section
variable {P:Program} (w:World)
theorem GW {es m:Nat} {x:Value} {ad:Option Addr} {c:Nat} (hx:x= .slice ad m c) (vs:List Value) (hl:vs.length=m*es) (h:vs=[]\/∃a,ad=some a/\EE w a vs):(Builtin.firstCells es m x).run P w= .ok vs.toArray w:=by
 subst hx
 cases ad with
 |none=>
  rcases h with rfl| ⟨a,e,_⟩
  .rfl
  .simp at e
 |some a=>
  rcases h with rfl| ⟨a',e,h⟩
  .have:m*es=0:=by simpa using hl.symm
   simp[Builtin.firstCells,this,loadCells,loadCellsFrom]
  .simp at e;subst e
   simp only[Builtin.firstCells]
   exact G4 _ vs hl h
theorem J8 (t ty e:Nat) (I:TypeInfo) (ht:P.underlying t=some (.slice e)) (hi:P.info? e=some I) (g o n c:Nat) (cur:Array Value) (e' :Nat) (hg:w.heap[g]?=some (.cells cur e' (0,0)))
 (ad:Option Addr) (m c2:Nat) (news:List Value) (hl:news.length=m*I.size) (hn:news=[]\/∃a,ad=some a/\EE w a news) (h1:∀u∈news,u.oneCell' =true) (hroom:n+m<=c) (hfit:o+n*I.size+news.length<=cur.size):
 (Builtin.append_ #[t,t] ty #[.slice (some ⟨g,o,none⟩) n c,.slice ad m c2]).run P w=
   .ok (.slice (some ⟨g,o,none⟩) (n+m) c) (w.setRow g (cur.toList.take (o+n*I.size)++news++cur.toList.drop (o+n*I.size+news.length)).toArray):=by
 have hf:=GW (P:=P) w (es:=I.size) (x:= .slice ad m c2) rfl news hl hn
 have hst:=run_storeCells_at P g (o+n*I.size) e' news 0 cur w hg (by simpa using hfit) h1
 simp only[Nat.add_zero] at hst
 simp[Builtin.append_,run_underlying ht,sizeOf,typeInfo,hi,Builtin.lenOf,hroom,hf,BG,hst]
theorem Py (t ty e:Nat) (I:TypeInfo) (z:Value) (ht:P.underlying t=some (.slice e)) (hi:P.info? e=some I) (hz:I.zero=some z) (ao:Option Addr) (n c:Nat) (olds:List Value) (hlo:olds.length=n*I.size)
 (ho:olds=[]\/∃a,ao=some a/\EE w a olds) (ad:Option Addr) (m c2:Nat) (news:List Value) (hl:news.length=m*I.size) (hn:news=[]\/∃a,ad=some a/\EE w a news)
 (hg:c<n+m) (h63:n+m<=maxLen) (hb:(n+m)*I.bytes<=140737488355328):
 (Builtin.append_ #[t,t] ty #[.slice ao n c,.slice ad m c2]).run P w=
   .ok (.slice (some ⟨w.heap.size,0,none⟩) (n+m) (grownCap w (n+m) c e)) (w.drew.alloc (.cells (olds.toArray++news.toArray++Builtin.zeroCells z.cells (grownCap w (n+m) c e-(n+m))) e)):=by
 have hf:=GW (P:=P) w.drew (es:=I.size) (x:= .slice ad m c2) rfl news hl hn
 have hf2:=GW (P:=P) w.drew (es:=I.size) (x:= .slice ao n c) rfl olds hlo ho
 have hfit:=growslice_fits hg hb
 have hnot:¬(n+m<=c):=by omega
 have h63' :¬(9223372036854775807<((n:Int)+(m:Int))):=by simp only[maxLen] at h63;omega
 have h48:¬(281474976710656<Builtin.nextslicecap (n+m) c*I.bytes):=by omega
 simp[Builtin.append_,run_underlying ht,sizeOf,typeInfo,zeroValue,hi,hz,Builtin.lenOf,hnot,h63',h48,Question.forced,hf,hf2,newRow,grownCap]
 congr 2
 apply Array.ext'
 simp[List.append_assoc]
end
section
variable {C:Bn} {w:World} {σ:Nat->Nat->Option St} {own:Nat->Option Nat} {M:List Ag} {F:Fr} {a:Act} {T:Nat->Option TI}
theorem AK.grow (R:AK C F M a w σ own) (k:Nat):AK C F (M++List.replicate k .free) a w σ own:=by
 refine⟨R.size,R.dfr,R.tmp,⟨fun T B hM=>?_,fun T v h=>R.mem.key T v (by simp at h;omega)⟩,R.shr,R.ext,R.key0⟩
 rw[List.getElem?_append] at hM
 split at hM
 .exact R.mem.blk T B hM
 .rename_i hge
  rw[List.getElem?_replicate] at hM
  split at hM
  .simp at hM;subst hM
   exact⟨fun _=>0,⟨fun v=>R.mem.key T v (by omega),fun _=>rfl⟩,fun g=>Nat.zero_le _⟩
  .simp at hM
def Ee (σ:Nat->Nat->Option St) (B v:Nat) (st:St):Nat->Nat->Option St:=fun T u=>if T=B/\u=v+1 then some st else if T=B/\u=v then some .dead else σ T u
def Gb (w:World) (own:Nat->Option Nat) (B:Nat):Nat->Option Nat:=fun g=>if w.heap.size<=g then some B else own g
theorem I7 (R:AK C F M a w σ own) {B v:Nat} {cs:List AV} (hb:Aj M B v=some cs) {w' :World} (hw:∀g,g<w.heap.size->own g≠some B->w'.heap[g]?=w.heap[g]?) (st:St):Cb w w' C.sh C.sh σ (Ee σ B v st):=by
 obtain⟨hM,fp,hB,_⟩:=BS R.mem hb
 refine⟨fun g hg=>hw g (R.shr g hg).2 (by rw[(R.shr g hg).1];simp),fun _ h=>h,fun T u s h=>?_⟩
 unfold Ee
 by_cases h1:T=B/\u=v+1
 .obtain⟨rfl,rfl⟩:=h1
  have:=hB.1 (v+1) (by omega)
  rw[this] at h;simp at h
 .rw[if_neg h1]
  by_cases h2:T=B/\u=v
  .rw[if_pos h2];exact .inr rfl
  .rw[if_neg h2];exact .inl h
theorem AK.rever (R:AK C F M a w σ own) {B v:Nat} {cs:List AV} (hb:Aj M B v=some cs) {w' :World} (hw:∀g,g<w.heap.size->own g≠some B->w'.heap[g]?=w.heap[g]?) (hs:w.heap.size<=w'.heap.size) (ho:w'.os=w.os) (ht:w'.tape=w.tape) (hou:w'.output=w.output)
 (st:St) {zs:List AV} (hB:∃fp,BR w' C.sh (Ee σ B v st) B (.live (v+1) zs) fp/\∀g,fp g<=if Gb w own B g=some B then 1 else 0):AK C F (M.set B (.live (v+1) zs)) a w' (Ee σ B v st) (Gb w own B):=by
 have L:=I7 R hb hw st
 obtain⟨hM,_⟩:=BS R.mem hb
 have hBl:B<M.length:=by
  rcases Nat.lt_or_ge B M.length with h|h
  .exact h
  .simp[List.getElem?_eq_none h] at hM
 refine⟨R.size,R.dfr,fun t h=>VR.later L _ _ _ (fun g hg=>absurd rfl hg) (R.tmp t h),?_,fun g hg=>?_,?_,R.keyl L⟩
 .refine R.mem.step L hBl (fun T' u hne=>by simp[Ee,hne]) (fun g T' hne hg hlt=>⟨?_,hw g hlt (by rw[hg];simpa using hne)⟩) hB
  unfold Gb;rw[if_neg (by omega)];exact hg
 .have h1:=R.shr g hg
  unfold Gb;rw[if_neg (by omega)]
  exact⟨h1.1,by omega⟩
 .refine R.ext.trans ⟨ho,ht,hou,hs,fun g hg hn=>hw g hg (by rw[hn];simp),fun g hg=>?_⟩
  unfold Gb at hg
  split at hg
  .right;assumption
  .left;exact hg
theorem EH {sh:Nat->Prop}:∀{xs ys:List AV} {vs us:List Value} {f1 f2:Nat->Nat},Aw w sh σ xs vs f1->Aw w sh σ ys us f2->Aw w sh σ (xs++ys) (vs++us) (fun g=>f1 g+f2 g)
 | [],ys,vs,us,f1,f2,h1,h2=>by
   simp only[Aw] at h1
   obtain⟨rfl,h0⟩:=h1
   have:(fun g=>f1 g+f2 g)=f2:=funext fun g=>by rw[h0 g];omega
   rw[this];exact h2
 |x::xs,ys,vs,us,f1,f2,h1,h2=>by
  simp only[Aw] at h1
  obtain⟨v,rest,g1,g2,rfl,h3,h4,hf⟩:=h1
  exact⟨v,rest++us,g1,_,rfl,h3,EH h4 h2,fun g=>by have:=hf g;simp only;omega⟩
theorem AK.append (tk:BI C.P T) (R:AK C F M a w σ own) {t ty e es eb:Nat} {ez:List AV} (htd:Ar T t= .slice e es eb ez) (hes:0<es) {B v n:Nat} {cs:List AV} (hb:Aj M B v=some cs) (hlen:cs.length=n*es) {x y:Value} (hx:VR w C.sh σ (.tok B v es 0 n) x (fun _=>0))
 {ya:AV} (hy:VR w C.sh σ ya y (fun _=>0)) {m:Nat} {ys:List AV} (hyc:C2 M ya=some (m,ys)) (hyl:ys.length=m*es) (hyo:(ys.all Da)=true) (h63:n+m<=maxLen) (hbytes:(n+m)*eb<=140737488355328):
 ∃r w' σ' own',(Builtin.append_ #[t,t] ty #[x,y]).run C.P w= .ok r w' /\AK C F (M.set B (.live (v+1) (cs++ys))) a w' σ' own' /\VR w' C.sh σ' (.tok B (v+1) es 0 (n+m)) r (fun _=>0):=by
 obtain⟨hD,E,z,hE,hs,hbt,hz,hzs,hzz⟩:=Cf tk htd
 obtain⟨ad,c2,news,fpy,rfl,hn,hv⟩:=HM R.mem hy hyc hyl
 have hv0:=IJ hv hyo
 have hnl:news.length=m*E.size:=by rw[hs,BF hv,hyl]
 have hcell:ys.all BO=true:=by
  rw[List.all_eq_true] at hyo |-
  intro c hc
  have:=hyo c hc
  simp[Da] at this;exact this.2
 obtain⟨hM,fp,hB,hf⟩:=BS R.mem hb
 have grown:∀(ao:Option Addr) (c:Nat) (olds:List Value) (fpo:Nat->Nat),olds.length=n*E.size->(olds=[]\/∃a,ao=some a/\EE w a olds)->Aw w C.sh σ cs olds fpo->(∀g,fpo g<=if own g=some B then 1 else 0)->c<n+m->
  ∃r w' σ' own',(Builtin.append_ #[t,t] ty #[.slice ao n c,.slice ad m c2]).run C.P w= .ok r w' /\AK C F (M.set B (.live (v+1) (cs++ys))) a w' σ' own' /\VR w' C.sh σ' (.tok B (v+1) es 0 (n+m)) r (fun _=>0):=by
  intro ao c olds fpo hol hor hov hfo hlt
  have hrun:=Py (P:=C.P) w t ty e E z hD hE hz ao n c olds hol hor ad m c2 news hnl hn hlt h63 (by rw[hbt];exact hbytes)
  have hcap:=grownCap_ge w (n+m) c e
  have hcm:=grownCap_le_maxLen w (n+m) c e h63
  generalize hq:grownCap w (n+m) c e=cap at*
  generalize harr:olds.toArray++news.toArray++Builtin.zeroCells z.cells (cap-(n+m))=arr at*
  have hasz:arr.size=cap*es:=by
   rw[<-harr]
   simp only[Array.size_append,List.size_toArray,size_zeroCells,hol,hnl,hs,hzs]
   rw[<-Nat.add_mul,<-Nat.add_mul];congr 1;omega
  have htake:arr.toList.take (cs++ys).length=olds++news:=by
   rw[<-harr]
   have:(cs++ys).length=(olds++news).length:=by simp[BF hov,BF hv]
   rw[this]
   simp only[Array.toList_append,List.append_assoc]
   rw[<-List.append_assoc];exact List.take_left
  have hheap:∀g,g<w.heap.size->(w.drew.alloc (.cells arr e)).heap[g]?=w.heap[g]?:=fun g hg=>Dm (w:=w.drew) hg
  refine⟨_,_,Ee σ B v (.loc w.heap.size 0 arr.size),Gb w own B,hrun,R.rever hb (fun g hg _=>hheap g hg) (by simp) rfl rfl rfl _ ?_,?_⟩
  .have L:=I7 R hb (w' :=w.drew.alloc (.cells arr e)) (fun g hg _=>hheap g hg) (.loc w.heap.size 0 arr.size)
   refine⟨fun g=>(if g=w.heap.size then 1 else 0)+fpo g,⟨fun v' hv' =>?_,.inr ⟨w.heap.size,0,arr,e,fpo,by simp[Ee],heap_alloc_new w.drew _,?_,?_,fun _=>rfl⟩⟩,fun g=>?_⟩
   .unfold Ee
    rw[if_neg (by omega),if_neg (by omega)]
    exact hB.1 v' (by omega)
   .rw[hasz,List.length_append,hlen,hyl,<-Nat.add_mul,Nat.zero_add];exact Nat.mul_le_mul_right _ hcap
   .rw[List.drop_zero,htake]
    have:=EH hov hv0
    simp only[Nat.add_zero] at this
    exact Aw.later L _ _ _ (fun g hg=>hheap g (E8 _ _ _ this g hg)) this
   .have h1:=hfo g
    unfold Gb
    by_cases hg:g=w.heap.size
    .subst hg
     have:fpo w.heap.size=0:=by
      rcases Nat.eq_zero_or_pos (fpo w.heap.size) with h|h
      .exact h
      .have:=E8 _ _ _ hov w.heap.size (by omega);omega
     simp[this]
    .by_cases hlt2:g<w.heap.size
     .rw[if_neg (by omega:¬w.heap.size<=g)];simp only[hg,if_false];omega
     .have:fpo g=0:=by
       rcases Nat.eq_zero_or_pos (fpo g) with h|h
       .exact h
       .have:=E8 _ _ _ hov g (by omega);omega
      simp[hg,this]
  .refine⟨fun _=>rfl,⟨_,_,rfl⟩,.loc w.heap.size 0 arr.size,by simp[Ee],(fun e=>by cases e),fun h' b' sz' e=>?_⟩
   cases e
   exact⟨⟨w.heap.size,0,none⟩,cap,rfl,fun _=>rfl,hcap,hcm,by rw[hasz];omega⟩
 simp only[BR] at hB
 obtain⟨h0,hB'⟩:=hB
 have hxx:=hx
 simp only[VR] at hxx
 obtain⟨_,_,st,hst,hnil,hloc⟩:=hxx
 rcases hB' with⟨h1,h2,h3⟩ | ⟨h,b,cur,e',fp',h1,h2,h3,h4,h5⟩
 .rw[h1] at hst;simp at hst;subst hst
  obtain⟨⟨ao,rfl⟩,_,rfl⟩:=hnil rfl
  subst h2
  by_cases hm:m=0
  .subst hm
   have hne:news=[]:=List.eq_nil_of_length_eq_zero (by simpa using hnl)
   have hye:ys=[]:=List.eq_nil_of_length_eq_zero (by simpa using hyl)
   subst hne hye
   refine⟨.slice ao 0 0,w,Ee σ B v .nil,Gb w own B,?_,R.rever hb (fun _ _ _=>rfl) (Nat.le_refl _) rfl rfl rfl .nil ⟨fun _=>0,⟨fun v' hv' =>?_,.inl ⟨by simp[Ee],rfl,fun _=>rfl⟩⟩,fun g=>Nat.zero_le _⟩,fun _=>rfl,⟨ao,0,rfl⟩,.nil,by simp[Ee],fun _=>⟨⟨ao,rfl⟩,rfl,rfl⟩,fun _ _ _ e=>by cases e⟩
   .have hf0:=GW (P:=C.P) w (es:=E.size) (x:= .slice ad 0 c2) rfl [] (by simp) (.inl rfl)
    cases ao<;>simp[Builtin.append_,run_underlying hD,sizeOf,typeInfo,hE,Builtin.lenOf,hf0,storeCells]
   .unfold Ee
    rw[if_neg (by omega),if_neg (by omega)]
    exact h0 v' (by omega)
  .exact grown ao 0 [] (fun _=>0) (by simp) (.inl rfl) ⟨rfl,fun _=>rfl⟩ (fun _=>Nat.zero_le _) (by omega)
 .rw[h1] at hst;simp at hst;subst hst
  obtain⟨ad0,c,rfl,had,hnc,hcm,hcz⟩:=hloc h b _ rfl
  simp only[Nat.add_zero] at had hcz
  have hfo:∀g,fp' g<=if own g=some B then 1 else 0:=fun g=>by have:=hf g;have:=h5 g;omega
  have hown:own h=some B:=by
   have:=hf h;have h6:=h5 h;simp at h6
   split at this
   .assumption
   .omega
  have holds:(cur.toList.drop b).take cs.length=[]\/∃a,some ad0=some a/\EE w a ((cur.toList.drop b).take cs.length):=by
   by_cases hc:c=0
   .left;have:n=0:=by omega
    rw[hlen,this];simp
   .right
    refine⟨ad0,rfl,?_⟩
    rw[had hc]
    intro i u hu
    rw[BG,DZ h2]
    rw[List.getElem?_take] at hu
    split at hu
    .rw[List.getElem?_drop] at hu;rw[<-Array.getElem?_toList];exact hu
    .simp at hu
  have hol:((cur.toList.drop b).take cs.length).length=n*E.size:=by rw[BF h4,hlen,hs]
  by_cases hroom:n+m<=c
  .by_cases hc0:c=0
   .have hn0:n=0:=by omega
    have hm0:m=0:=by omega
    subst hn0 hm0 hc0
    have hne:news=[]:=List.eq_nil_of_length_eq_zero (by simpa using hnl)
    have hye:ys=[]:=List.eq_nil_of_length_eq_zero (by simpa using hyl)
    have hce:cs=[]:=List.eq_nil_of_length_eq_zero (by simpa using hlen)
    subst hne hye hce
    refine⟨.slice (some ad0) 0 0,w,Ee σ B v .nil,Gb w own B,?_,R.rever hb (fun _ _ _=>rfl) (Nat.le_refl _) rfl rfl rfl .nil ⟨fun _=>0,⟨fun v' hv' =>?_,.inl ⟨by simp[Ee],rfl,fun _=>rfl⟩⟩,fun g=>Nat.zero_le _⟩,fun _=>rfl,⟨_,0,rfl⟩,.nil,by simp[Ee],fun _=>⟨⟨_,rfl⟩,rfl,rfl⟩,fun _ _ _ e=>by cases e⟩
    .have hf0:=GW (P:=C.P) w (es:=E.size) (x:= .slice ad 0 c2) rfl [] (by simp) (.inl rfl)
     simp[Builtin.append_,run_underlying hD,sizeOf,typeInfo,hE,Builtin.lenOf,hf0,storeCells]
    .unfold Ee
     rw[if_neg (by omega),if_neg (by omega)]
     exact h0 v' (by omega)
   .have hade:=had hc0
    subst hade
    have hfit:b+n*E.size+news.length<=cur.size:=by
     have h6:(n+m)*es<=c*es:=Nat.mul_le_mul_right _ hroom
     rw[Nat.add_mul] at h6
     rw[hnl,hs];omega
    have hrun:=J8 (P:=C.P) w t ty e E hD hE h b n c cur e' h2 ad m c2 news hnl hn (ES hv0 hcell) hroom hfit
    generalize hcur' :(cur.toList.take (b+n*E.size)++news++cur.toList.drop (b+n*E.size+news.length)).toArray=cur' at*
    have hsz' :cur'.size=cur.size:=by rw[<-hcur'];simp;omega
    have hheap:∀g,g<w.heap.size->own g≠some B->(w.setRow h cur').heap[g]?=w.heap[g]?:=fun g _ hg=>setRow_other w h g cur' (fun e=>hg (e ▸ hown))
    refine⟨_,_,Ee σ B v (.loc h b cur.size),Gb w own B,hrun,R.rever hb hheap (by simp) rfl rfl rfl _ ?_,fun _=>rfl,⟨_,_,rfl⟩,.loc h b cur.size,by simp[Ee],(fun e=>by cases e),fun h' b' sz' e=>?_⟩
    .have L:=I7 R hb (w' :=w.setRow h cur') hheap (.loc h b cur.size)
     refine⟨fun g=>(if g=h then 1 else 0)+fp' g,⟨fun v' hv' =>?_,.inr ⟨h,b,cur',e',fp',by simp[Ee,hsz'],setRow_heap w h cur cur' e' _ h2,?_,?_,fun _=>rfl⟩⟩,fun g=>?_⟩
     .unfold Ee
      rw[if_neg (by omega),if_neg (by omega)]
      exact h0 v' (by omega)
     .rw[hsz',List.length_append,hlen,hyl]
      rw[hnl,hs] at hfit;omega
     .have htake:(cur'.toList.drop b).take (cs++ys).length=(cur.toList.drop b).take cs.length++news:=by
       rw[<-hcur']
       have h7:=GK cur.toList news b (n*E.size) (n*E.size+news.length) (by simpa[Nat.add_assoc] using hfit) (Nat.le_refl _)
       have hl2:(cs++ys).length=n*E.size+news.length:=by rw[List.length_append,hlen,BF hv,hs]
       rw[hl2]
       show((cur.toList.take (b+n*E.size)++news++cur.toList.drop (b+n*E.size+news.length)).drop b).take _=_
       rw[h7,List.take_take,Nat.min_eq_left (by omega),hlen,hs]
       have h10:((cur.toList.drop b).take (n*es+news.length)).drop (n*es+news.length)=[]:=List.drop_eq_nil_of_le (List.length_take_le _ _)
       rw[h10,List.append_nil]
      rw[htake]
      have h8:=EH h4 hv0
      simp only[Nat.add_zero] at h8
      refine Aw.later L _ _ _ (fun g hg=>setRow_other w h g cur' (fun e=>?_)) h8
      subst e
      have:=h5 g;have h9:=hf g;simp at this
      split at h9<;>omega
     .have h6:=h5 g;have h7:=hf g
      have hlt:((if g=h then 1 else 0)+fp' g)≠0->g<w.heap.size:=fun h8=>Mn (B:= .live v cs) (T:=B) (σ:=σ) (sh:=C.sh) ⟨h0,.inr ⟨h,b,cur,e',fp',h1,h2,h3,h4,h5⟩⟩ g (by rw[h6];exact h8)
      show(if g=h then 1 else 0)+fp' g<=_
      unfold Gb
      by_cases hg0:((if g=h then 1 else 0)+fp' g)=0
      .rw[hg0];exact Nat.zero_le _
      .rw[if_neg (by have:=hlt hg0;omega:¬w.heap.size<=g)];omega
    .cases e
     exact⟨_,c,rfl,fun _=>rfl,hroom,hcm,by omega⟩
  .exact grown (some ad0) c _ fp' hol holds h4 hfo (by omega)
end
def Hs (x:Option AV) (K:AV->Prop):Prop:=match x with|some v=>K v|none=>False
def CF (n:Nat) (z:List AV):List AV:=(List.replicate n z).flatten
abbrev D3:=Nat->List AV->List Ag->(AV->List Ag->Prop)->Prop
def Bf:Op->Bool
 | .alloc _| .box _ _| .buildSlice _ _ _| .makeSlice _ _ _=>true
 |_=>false
def Cc (o:Oper):Nat:=if Bf o.op then 1 else 0
def Hl (x:Option (List AV)) (K:List AV->Prop):Prop:=match x with|some v=>K v|none=>False
def Ht (x:Option TI) (K:TI->Prop):Prop:=match x with|some v=>K v|none=>False
def Mo (td:TD) (l c:AV) (s:Nat) (M:List Ag) (K:AV->List Ag->Prop):Prop:=match td,l,c with
 | .slice _ es eb ez,.int _ n,.int _ m=>M[s]?=some .free/\0<=n/\n=m/\n*eb<=140737488355328/\n<=maxLen/\K (.tok s 0 es 0 n.toNat) (M.set s (.live 0 (CF n.toNat ez)))
 |_,_,_=>False
def Mp (td:TD) (len:Nat) (Am:List (Nat×AV)) (s:Nat) (M:List Ag) (K:AV->List Ag->Prop):Prop:=match td with
 | .slice _ es _ ez=>Hl (HL (WJ es) (CF len ez) Am) fun cs=>M[s]?=some .free/\len*es<=16777216/\0<es/\K (.tok s 0 es 0 len) (M.set s (.live 0 cs))
 |_=>False
def Iu (i:TI) (x y:AV) (M:List Ag) (K:List Ag->Prop):Prop:=match x with
 | .ptr B v off=>Hl (Aj M B v) fun cs=>Hl (II i y) fun xs=>off+i.size<=cs.length/\K (M.set B (.live v (CP cs off xs)))
 |_=>False
def Hy (x:Option (Nat×List AV)) (K:Nat->List AV->Prop):Prop:=match x with|some v=>K v.1 v.2|none=>False
def HW (td:TD) (x y:AV) (M:List Ag) (K:AV->List Ag->Prop):Prop:=match td,x with
 | .slice _ es eb _,.tok B v s off n=>Hl (Aj M B v) fun cs=>Hy (C2 M y) fun m ys=>0<es/\s=es/\off=0/\cs.length=n*es/\ys.length=m*es/\(ys.all Da)=true/\n+m<=maxLen/\(n+m)*eb<=140737488355328/\
  K (.tok B (v+1) es 0 (n+m)) (M.set B (.live (v+1) (cs++ys)))
 |_,_=>False
def J9 (call:D3) (f:AV) (args:List AV) (M:List Ag) (K:AV->List Ag->Prop):Prop:=match f with
 | .fn id caps=>call id (args++caps) M K
 |_=>False
def Iv (x:AV) (neg:Bool) (K:AV->Prop):Prop:=match x with
 | .ro n _=>(n≠0->K (.bool neg))/\(n=0->∀b,K (.bool b))
 | .tok _ _ _ _ _=>∀b,K (.bool b)
 | .own _ _ _=>∀b,K (.bool b)
 |_=>False
def gK (v:AV) (want:Bool) (K1:AV->Prop) (K2:AV->Prop):Prop:=match v with| .bool b=>(b=want->K1 (.bool want))/\(b= !want->K2 (.bool !want)) | .tup []=>K2 (.tup []) |_=>False
def Gu (td:TD) (K:Prop):Prop:=match td with| .slice _ _ _ _=>K|_=>False
def CX (T:Nat->Option TI) (call:D3) (o:Oper) (s:Nat) (F:Fr) (M:List Ag) (K:Fr->List Ag->Prop):Prop:=
 match o.op with
 | .alloc t=>Ht (T t) fun i=>M[s]?=some .free/\K (Al F o.dst (.ptr s 0 0)) (M.set s (.live 0 i.zero))
 | .box t x=>Ht (T t) fun i=>Hl (II i (ev F x)) fun cs=>M[s]?=some .free/\K (Al F o.dst (.ptr s 0 0)) (M.set s (.live 0 cs))
 | .makeSlice t l c=>Mo (Ar T t) (ev F l) (ev F c) s M fun v M' =>K (Al F o.dst v) M'
 | .buildSlice t len Am=>Mp (Ar T t) len (Am.toList.map fun p=>(p.1,ev F p.2)) s M fun v M' =>K (Al F o.dst v) M'
 | .store t x y=>Ht (T t) fun i=>Iu i (ev F x) (ev F y) M fun M' =>K (Al F o.dst .any) M'
 | .call {callee:= .builtin .append,args,argTypes}=>match args.toList,argTypes.toList with
   | [x,y],[t,t']=>t=t' /\HW (Ar T t) (ev F x) (ev F y) M fun v M' =>K (Al F o.dst v) M'
   |_,_=>False
 | .binOp .eql t x (.const (.slice none 0 0)) _=>Gu (Ar T t) (Iv (ev F x) false fun v=>K (Al F o.dst v) M)
 | .binOp .neq t x (.const (.slice none 0 0)) _=>Gu (Ar T t) (Iv (ev F x) true fun v=>K (Al F o.dst v) M)
 | .call {callee:= .value f,args,.. }=>J9 call (ev F f) (JN F args) M fun r M' =>K (Al F o.dst r) M'
 |_=>Hs (pv T M F o) fun v=>K (Al F o.dst v) M
def Ak (T:Nat->Option TI) (call:D3) (ops:Array Oper):List Oper->Nat->Fr->List Ag->(Fr->List Ag->Prop)->Prop
 | [],_,F,M,K=>K F M
 |o::rest,s,F,M,K=>match o.guard with
  |none=>CX T call o s F M fun F' M' =>Ak T call ops rest (s+Cc o) F' M' K
  |some (j,want)=>match (ops[j]?).bind (·.dst) with
   |some d=>gK (F d) want (fun b=>CX T call o s (Bg F d b) M fun F' M' =>Ak T call ops rest (s+Cc o) F' M' K) fun b=>Ak T call ops rest (s+Cc o) (Al (Bg F d b) o.dst (.tup [])) M K
   |none=>False
def DG (C:Bn) (f:Nat) (args:List AV) (M:List Ag) (K:AV->List Ag->Prop):Prop:=
 (∃fn,C.P.funcs[f]?=some fn/\(fn.name== "runtime.NumGoroutine")=false/\fn.body.isNone=false)/\
 ∀(F:Fr) (a:Act) (w:World) (σ:Nat->Nat->Option St) (own:Nat->Option Nat) (vals:Array Value),AK C F M a w σ own->Aw w C.sh σ args vals.toList (fun _=>0)->
  Calls C.P f vals w fun e w' =>∃r v M' σ' own',e= .returned v/\K r M' /\AK C F M' a w' σ' own' /\VR w' C.sh σ' r v (fun _=>0)
def Bb (ops:List Oper):Nat:=(ops.map Cc).foldr (·+·) 0
section
variable {C:Bn} {w:World} {σ:Nat->Nat->Option St} {own:Nat->Option Nat} {M:List Ag} {F:Fr} {a:Act} {T:Nat->Option TI}
theorem KR {sh:Nat->Prop} {ez:List AV} {z:Array Value} (h:Aw w sh σ ez z.toList (fun _=>0)):∀n,∃vs:List Value,vs=(List.replicate n z.toList).flatten/\Aw w sh σ (CF n ez) vs (fun _=>0)
 |0=>⟨[],rfl,rfl,fun _=>rfl⟩
 |n+1=>by
  obtain⟨vs,rfl,h1⟩:=KR h n
  refine⟨_,rfl,?_⟩
  simp only[CF,List.replicate_succ,List.flatten_cons] at h1 |-
  have:=EH h h1
  simpa using this
theorem Lg {α:Type} (l:List α):∀(n i:Nat),i<n*l.length->(List.replicate n l).flatten[i]?=l[i%l.length]?
 |0,i,h=>by simp at h
 |n+1,i,h=>by
  simp only[List.replicate_succ,List.flatten_cons]
  rw[List.getElem?_append]
  split
  .rename_i hlt;rw[Nat.mod_eq_of_lt hlt]
  .rename_i hge
   have hge' :l.length<=i:=by omega
   rw[Lg l n (i-l.length) (by rw[Nat.add_mul] at h;omega)]
   congr 1
   exact(Nat.mod_eq_sub_mod hge').symm
theorem Rk (z:Array Value) (n:Nat):(madeCells z (n*z.size)).toList=(List.replicate n z.toList).flatten:=by
 apply List.ext_getElem?
 intro i
 by_cases h:i<n*z.size
 .rw[Lg z.toList n i (by simpa using h)]
  have hz:0<z.size:=by
   rcases Nat.eq_zero_or_pos z.size with e|e
   .rw[e] at h;simp at h
   .exact e
  have hm:=Nat.mod_lt i hz
  simp[madeCells,h,hm]
 .have h1:(madeCells z (n*z.size)).toList.length=n*z.size:=by simp[madeCells]
  have h2:(List.replicate n z.toList).flatten.length=n*z.size:=by simp
  rw[List.getElem?_eq_none (by omega),List.getElem?_eq_none (by omega)]
theorem Oper.wp_value {o:Oper} (hnd:∀c,o.op≠ .defer c) {Q:Exit->Act->World->Prop} {next:Act->World->Prop} {v:Value} {w' :World} (h:(execOp a.eval o).run C.P w= .ok (.value v) w') (k:next (a.put o.dst v) w'):o.wpIn (FX C) 0 C.P a w next Q:=by
 refine⟨fun _ _=>trivial,?_⟩
 rw[Oper.semAt_eq _ _ _ hnd,h];exact k
theorem Oper.wp_skip {o:Oper} (hnd:∀c,o.op≠ .defer c) {Q:Exit->Act->World->Prop} {next:Act->World->Prop} {w' :World} (h:(execOp a.eval o).run C.P w= .ok .skip w') (k:next (a.put o.dst undef) w'):o.wpIn (FX C) 0 C.P a w next Q:=by
 refine⟨fun _ _=>trivial,?_⟩
 rw[Oper.semAt_eq _ _ _ hnd,h];exact k
theorem Ni {P:Program} {t e:Nat} {I:TypeInfo} {z:Value} (hD:P.underlying t=some (.slice e)) (hE:P.info? e=some I) (hz:I.zero=some z) (hzs:z.cells.size=I.size) (len:Nat) (hes:0<I.size) (h24:len*I.size<=16777216) (ps:Array (Nat×Value)) {arr:Array Value}
 (hf:Instr.fill (fun i=>some (i*I.size,I.size)) (madeCells z.cells (len*I.size)) ps.toList=some arr):(Instr.buildSlice t len ps).run P w= .ok (.slice (some ⟨w.heap.size,0,none⟩) len len) (w.alloc (.cells arr e)):=by
 have h1:¬(len*I.size>2^24):=by simp;omega
 by_cases h0:len*I.size=0
 .have hl:len=0:=by rcases Nat.mul_eq_zero.1 h0 with h|h<;>omega
  subst hl
  have hm:madeCells z.cells (0*I.size)= #[]:=by simp[madeCells]
  rw[hm] at hf
  have hr:Array.range 0= #[]:=rfl
  simp[Instr.buildSlice,run_underlying hD,BZ hE,hr,hf,newRow]
 .have h2:(Array.range (len*I.size)).map (fun x=>z.cells[x%z.cells.size]!)=madeCells z.cells (len*I.size):=rfl
  simp[Instr.buildSlice,run_underlying hD,BZ hE,zeroValue,typeInfo,hE,hz,newRow,h0]
  simp at h1
  rw[if_neg (by omega)]
  simp[h2,hf]
theorem NZ {place:Nat->Option (Nat×Nat)}:∀(ps:List (Nat×Value)) {arr arr' :Array Value},Instr.fill place arr ps=some arr' ->arr'.size=arr.size
 | [],arr,arr',h=>by simp[Instr.fill] at h;rw[h]
 | (i,v)::ps,arr,arr',h=>by
   simp only[Instr.fill] at h
   split at h
   .simp at h
   .split at h
    .simp at h
    .rw[NZ ps h]
     rename_i off _ _ hbad
     rw[<-Array.foldl_toList]
     generalize v.cells.zipIdx.toList=l
     clear h hbad
     induction l generalizing arr with
     |nil=>rfl
     |cons x l ih=>rw[List.foldl_cons,ih];simp
theorem T9 {sh:Nat->Prop} {x:AV} {v:Value} {neg:Bool} {K:AV->Prop} (hx:VR w sh σ x v (fun _=>0)) (h:Iv x neg K):∃ad n c,v= .slice ad n c/\K (.bool (ad.isNone !=neg)):=by
 unfold Iv at h
 split at h
 .rename_i n xs
  simp only[VR] at hx
  obtain⟨_,ad,c,rfl,hn,ha,_⟩:=hx
  refine⟨ad,n,c,rfl,?_⟩
  by_cases h0:n=0
  .exact h.2 h0 _
  .have:ad.isNone=false:=by cases ad with
    |none=>exact absurd (ha rfl) h0
    |some a=>rfl
   rw[this]
   have:=h.1 h0
   cases neg<;>exact this
 .simp only[VR] at hx
  obtain⟨_,⟨ad,c,rfl⟩,_⟩:=hx
  exact⟨ad,_,c,rfl,h _⟩
 .simp only[VR] at hx
  rcases hx with⟨⟨ad,rfl⟩,_⟩ | ⟨_,_,c,_,_,_,rfl,_⟩
  .exact⟨ad,0,0,rfl,h _⟩
  .exact⟨_,_,c,rfl,h _⟩
 .exact h.elim
theorem Hw (tk:BI C.P T) {o:Oper} (hb:By C.n o=true) {s:Nat} {K:Fr->List Ag->Prop} (h:CX T (DG C) o s F M K) (R:AK C F M a w σ own) {next:Act->World->Prop} {Q:Exit->Act->World->Prop}
 (hK:∀F' M' a' w',K F' M' ->C1 C F' M' a' w' ->next a' w'):o.wpIn (FX C) 0 C.P a w next Q:=by
 have hnd:∀c,o.op≠ .defer c:=by
  intro c hc
  unfold CX at h
  simp[hc,pv,Hs] at h
 have hops:∀x∈o.op.operands,Fu C.n x=true:=by
  simp only[By,Bool.and_eq_true] at hb
  intro x hx
  exact Array.all_eq_true'.1 hb.1 x hx
 unfold CX at h
 split at h<;>(try (rename_i hop;simp only[hop,Op.operands] at hops))
 .
  rename_i t
  unfold Ht at h
  split at h
  .rename_i i ht
   obtain⟨hfree,h⟩:=h
   obtain⟨I,D,z,hI,hD,h1,h2,h3,h4,h5,h6,h7,_⟩:=(tk.at ht).ok
   have hz:=Ik h7 w C.sh σ
   have hlen:=BF hz
   obtain⟨σ',own',R',hk⟩:=R.alloc hfree z.cells t (zs:=i.zero) (by rw[<-hlen,List.take_length];exact hz) (by rw[<-hlen];simp)
   refine Oper.wp_value hnd (v:= .pointer (some ⟨w.heap.size,0,none⟩)) (w' :=w.alloc (.cells z.cells t)) (by simp[execOp,hop,Instr.alloc,zeroValue,typeInfo,hI,h5,newVar,newRow]) (hK _ _ _ _ h ⟨σ',own',R'.put _ ?_⟩)
   exact⟨fun _=>rfl,⟨_,rfl⟩,_,hk,by simp,fun _ _ _ e=>by cases e;rfl⟩
  .exact h.elim
 .
  rename_i t x
  unfold Ht at h
  split at h
  .rename_i i ht
   unfold Hl at h
   split at h
   .rename_i cs hcs
    obtain⟨hfree,h⟩:=h
    obtain⟨h1,h2,h3,h4⟩:=Rj (R.ev (hops x (by simp))) hcs
    obtain⟨σ',own',R',hk⟩:=R.alloc hfree (a.eval x).cells t (zs:=cs) (by rw[h3,<-h2];rw[List.take_of_length_le (by simp)];exact h1) (by omega)
    refine Oper.wp_value hnd (v:= .pointer (some ⟨w.heap.size,0,none⟩)) (w' :=w.alloc (.cells (a.eval x).cells t)) (by simp[execOp,hop,Instr.box,newVar,newRow]) (hK _ _ _ _ h ⟨σ',own',R'.put _ ?_⟩)
    exact⟨fun _=>rfl,⟨_,rfl⟩,_,hk,by simp,fun _ _ _ e=>by cases e;rfl⟩
   .exact h.elim
  .exact h.elim
 .
  rename_i t l c
  unfold Mo at h
  split at h
  .rename_i e es eb ez kl n km m htd hel hem
   obtain⟨hfree,h0,rfl,hbt,hmx,h⟩:=h
   obtain⟨hD,E,z,hE,hs,hbb,hz,hzs,hzz⟩:=Cf tk htd
   have e1:=R.ev (hops l (by simp));rw[hel] at e1;have e1:=e1.1
   have e2:=R.ev (hops c (by simp));rw[hem] at e2;have e2:=e2.1
   have hrun:=run_make (P:=C.P) w t e E z hD hE hz kl km n n h0 (Int.le_refl _) (by rw[hbb,Int.mul_comm];omega) (by simp only[maxLen] at hmx;omega)
   have hzr:=Ik hzz w C.sh σ
   obtain⟨vs,hvs,hv⟩:=KR hzr n.toNat
   have hmade:(madeCells z.cells (n.toNat*E.size)).toList=vs:=by rw[hvs,hs,<-hzs];exact Rk _ _
   have hlv:=BF hv
   have hsz:(madeCells z.cells (n.toNat*E.size)).size=n.toNat*es:=by rw[size_madeCells,hs]
   have hlen:(CF n.toNat ez).length=n.toNat*es:=by
    rw[<-hlv,<-hmade];simpa using hsz
   obtain⟨σ',own',R',hk⟩:=R.alloc hfree (madeCells z.cells (n.toNat*E.size)) e (zs:=CF n.toNat ez) (by rw[hmade,<-hlv,List.take_length];exact hv) (by omega)
   refine Oper.wp_value hnd (v:= .slice (some ⟨w.heap.size,0,none⟩) n.toNat n.toNat) (w' :=w.alloc (.cells (madeCells z.cells (n.toNat*E.size)) e)) (by simp[execOp,hop,e1,e2,hrun]) (hK _ _ _ _ h ⟨σ',own',R'.put _ ?_⟩)
   refine⟨fun _=>rfl,⟨_,_,rfl⟩,_,hk,(fun e=>by cases e),fun _ _ _ e=>?_⟩
   cases e
   exact⟨_,n.toNat,rfl,fun _=>rfl,Nat.le_refl _,by omega,by rw[hsz];omega⟩
  .exact h.elim
 .
  rename_i t len Am
  unfold Mp at h
  split at h
  .rename_i e es eb ez htd
   unfold Hl at h
   split at h
   .rename_i cs hcs
    obtain⟨hfree,h24,hes,h⟩:=h
    obtain⟨hD,E,z,hE,hs,hbb,hz,hzs,hzz⟩:=Cf tk htd
    have hzr:=Ik hzz w C.sh σ
    obtain⟨vs,hvs,hv⟩:=KR hzr len
    have hmade:(madeCells z.cells (len*E.size)).toList=vs:=by rw[hvs,hs,<-hzs];exact Rk _ _
    obtain⟨arr,ha,hva⟩:=M0 (sh:=C.sh) (σ:=σ) (w:=w) (pa:=WJ es) (place:=fun i=>some (i*E.size,E.size)) (fun j q hq=>by rw[hs];exact hq) _ (Am.map fun(i,x)=>(i,a.eval x)).toList (arr:=madeCells z.cells (len*E.size)) (by rw[hmade];exact hv) (by simp)
     (fun j p hj=>by
       simp only[List.getElem?_map,Option.map_eq_some_iff] at hj
       obtain⟨q,hq,rfl⟩:=hj
       refine⟨a.eval q.2,by simp at hq |-;exact⟨q.1,q.2,by simp[hq],rfl,rfl⟩,R.ev (hops q.2 ?_)⟩
       simp only[List.mem_toArray,List.mem_map]
       exact⟨q,List.mem_of_getElem? hq,rfl⟩) hcs
    have hlv:=BF hva
    have hsize:arr.size=len*es:=by rw[NZ _ ha,size_madeCells,hs]
    obtain⟨σ',own',R',hk⟩:=R.alloc hfree arr e (zs:=cs) (by rw[<-hlv,List.take_length];exact hva) (by rw[<-hlv];simp)
    have hrun:=Ni (w:=w) hD hE hz (by rw[hzs,hs]) len (by omega) (by rw[hs];exact h24) (Am.map fun(i,x)=>(i,a.eval x)) ha
    refine Oper.wp_value hnd (v:= .slice (some ⟨w.heap.size,0,none⟩) len len) (w' :=w.alloc (.cells arr e)) (by simp[execOp,hop,hrun]) (hK _ _ _ _ h ⟨σ',own',R'.put _ ?_⟩)
    refine⟨fun _=>rfl,⟨_,_,rfl⟩,_,hk,(fun e=>by cases e),fun _ _ _ e=>?_⟩
    cases e
    refine⟨_,len,rfl,fun _=>rfl,Nat.le_refl _,?_,by rw[hsize];omega⟩
    simp only[maxLen]
    have:=Nat.le_mul_of_pos_right len hes
    omega
   .exact h.elim
  .exact h.elim
 .
  rename_i t x y
  unfold Ht at h
  split at h
  .rename_i i ht
   unfold Iu at h
   split at h
   .rename_i B v off hx
    unfold Hl at h
    split at h
    .rename_i cs hcs
     split at h
     .rename_i xs hxs
      obtain⟨hle,h⟩:=h
      have e1:=R.ev (hops x (by simp));rw[hx] at e1
      obtain⟨w',hrun,R'⟩:=R.store tk ht hcs e1 (R.ev (hops y (by simp))) hxs hle
      exact Oper.wp_skip hnd (w' :=w') (by simp[execOp,hop,hrun]) (hK _ _ _ _ h ⟨σ,own,R'.put _ (fun _=>rfl)⟩)
     .exact h.elim
    .exact h.elim
   .exact h.elim
  .exact h.elim
 .
  rename_i args argTypes
  split at h
  .rename_i x y t t' hx ht
   obtain⟨rfl,h⟩:=h
   have ex:args= #[x,y]:=by cases args;simp at hx;simp[hx]
   have et:argTypes= #[t,t]:=by cases argTypes;simp at ht;simp[ht]
   subst ex et
   unfold HW at h
   split at h
   .rename_i e es eb ez B v s' off n htd hxe
    unfold Hl at h
    split at h
    .rename_i cs hcs
     unfold Hy at h
     split at h
     .rename_i p hys
      obtain⟨m,ys⟩:=p
      obtain⟨hes,rfl,rfl,hl,hyl,hyo,h63,hbytes,h⟩:=h
      have e1:=R.ev (hops x (by simp[Call.operands]));rw[hxe] at e1
      obtain⟨r,w',σ',own',hrun,R',hr⟩:=R.append (ty:=o.type) tk htd hes hcs hl e1 (R.ev (hops y (by simp[Call.operands]))) hys hyl hyo h63 hbytes
      exact Oper.wp_value hnd (v:=r) (w' :=w') (by simp[execOp,hop,resolve,invoke,builtin,hrun]) (hK _ _ _ _ h ⟨σ',own',R'.put _ hr⟩)
     .exact h.elim
    .exact h.elim
   .exact h.elim
  .exact h.elim
 .
  rename_i t x ty
  unfold Gu at h
  split at h
  .rename_i e es eb ez htd
   obtain⟨hD,_⟩:=Cf tk htd
   obtain⟨ad,n,c,hv,hk⟩:=T9 (R.ev (hops x (by simp))) h
   refine Oper.wp_value hnd (v:= .bool (ad.isNone !=false)) (w' :=w) ?_ (hK _ _ _ _ hk ⟨σ,own,R.put _ ⟨rfl,fun _=>rfl⟩⟩)
   have e2:a.eval (.const (.slice none 0 0))= .slice none 0 0:=rfl
   simp only[execOp,hop,hv,e2,Sem.run_bind,Fy (C:=C) (w:=w) (op:= .eql) (t:=t) (x:=x) (y:= .const (.slice none 0 0)) (a:=Value.slice ad n c) (b:=Value.slice none 0 0) (by simp) (by simp),Result.andThen_ok]
   simp[binOp,run_equal_slice_nil w t e ad n c hD]
  .exact h.elim
 .
  rename_i t x ty
  unfold Gu at h
  split at h
  .rename_i e es eb ez htd
   obtain⟨hD,_⟩:=Cf tk htd
   obtain⟨ad,n,c,hv,hk⟩:=T9 (R.ev (hops x (by simp))) h
   refine Oper.wp_value hnd (v:= .bool (ad.isNone !=true)) (w' :=w) ?_ (hK _ _ _ _ hk ⟨σ,own,R.put _ ⟨rfl,fun _=>rfl⟩⟩)
   have e2:a.eval (.const (.slice none 0 0))= .slice none 0 0:=rfl
   simp only[execOp,hop,hv,e2,Sem.run_bind,Fy (C:=C) (w:=w) (op:= .neq) (t:=t) (x:=x) (y:= .const (.slice none 0 0)) (a:=Value.slice ad n c) (b:=Value.slice none 0 0) (by simp) (by simp),Result.andThen_ok]
   simp[binOp,run_equal_slice_nil w t e ad n c hD]
  .exact h.elim
 .
  rename_i f args _
  unfold J9 at h
  split at h
  .rename_i id caps hf
   obtain⟨⟨fn,hfn,hname,hbody⟩,h⟩:=h
   have e1:=R.ev (hops f (by simp[Call.operands]));rw[hf] at e1
   simp only[VR] at e1
   obtain⟨_,cs,e1,hcs⟩:=e1
   have hargs:=T8 R (xs:=args) (by rw[Array.all_eq_true'];intro x hx;exact hops x (by simp[Call.operands,hx]))
   have hall:Aw w C.sh σ (JN F args++caps) (args.map a.eval++cs).toList (fun _=>0):=by
    have:=EH hargs hcs
    simpa using this
   have hc:=h F a w σ own _ R hall
   have hrun:(execOp a.eval o).run C.P w= .ok (.enter id (args.map a.eval++cs)) w:=by
    have hn:¬fn.name= "runtime.NumGoroutine" :=by simpa using hname
    have hb2:¬fn.body=none:=by intro e;rw[e] at hbody;simp at hbody
    simp[execOp,hop,resolve,e1,Deferred.ofValue,invoke,callFunc,hfn,hn,hb2]
   refine⟨fun _ _=>trivial,?_⟩
   rw[Oper.semAt_eq _ _ _ hnd,hrun]
   refine⟨fun h=>absurd h (by simp[FX,Fence.wide]),(callsIn_wide (n:=0-1)).2 (hc.mono ?_)⟩
   rintro e w' ⟨r,v,M',σ',own',rfl,hk,R',hr⟩
   exact hK _ _ _ _ hk ⟨σ',own',R'.put _ hr⟩
  .exact h.elim
 .
  unfold Hs at h
  split at h
  .rename_i v hv
   obtain⟨u,hu,hr⟩:=Sg tk R hb hv
   exact Oper.wp_value hnd hu (hK _ _ _ _ h ⟨σ,own,R.put _ hr⟩)
  .exact h.elim
end
def CY (n:Nat):Code->Bool
 | .region _ ops _=>ops.toList.all (By n)
 | .seq x y=>CY n x&&CY n y
 | .cond c x y=>Fu n c&&CY n x&&CY n y
 | .block _ x=>CY n x
 | .loop x=>CY n x
 | .scope x=>CY n x
 | .rangeFunc _ _ x y=>CY n x&&CY n y
 |_=>true
def Ab (P:Program) (f:Nat) (args:List AV) (M:List Ag) (K:AV->List Ag->Prop):Prop:=∀C:Bn,C.P=P->DG C f args M K
def W (P:Program) (T:Nat->Option TI) (p:Nat) (c:Code) (F:Fr) (M:List Ag) (Q:Cn):Prop:=BI P T->∀C:Bn,C.P=P->C.p<=p->CY C.n c=true->AW C c F M Q
def Wk (p:Nat) (F:Fr) (M:List Ag) (F' :Fr) (M' :List Ag):Prop:=∀C:Bn,C.p<=p->CD C F M F' M'
section
variable {P:Program} {T:Nat->Option TI} {p:Nat} {F:Fr} {M:List Ag} {Q:Cn}
theorem W.mono {c:Code} {Q' :Cn} (h:W P T p c F M Q) (hq:∀e F M,Q e F M->Q' e F M):W P T p c F M Q' :=fun tk C hC hp hb=>(h tk C hC hp hb).mono hq
theorem W.skip (h:Q .normal F M):W P T p .skip F M Q:=fun _ _ _ _ _=>AW.skip h
theorem W.label {l:Nat} (h:Q .normal F M):W P T p (.label l) F M Q:=fun _ _ _ _ _=>AW.label h
theorem W.exit {id:Nat} (h:Q (.exit id) F M):W P T p (.exit id) F M Q:=fun _ _ _ _ _=>AW.exit h
theorem W.ret (h:Q .ret F M):W P T p .ret F M Q:=fun _ _ _ _ _=>AW.ret h
theorem W.seq {x y:Code} (h:W P T p x F M (DN (fun F M=>W P T p y F M Q) Q)):W P T p (.seq x y) F M Q:=fun tk C hC hp hb=>by
 simp only[CY,Bool.and_eq_true] at hb
 refine AW.seq ((h tk C hC hp hb.1).mono fun e F M q=>?_)
 cases e<;>first|exact q tk C hC hp hb.2|exact q
theorem W.block {id:Nat} {x:Code} (h:W P T p x F M (KD id Q)):W P T p (.block id x) F M Q:=fun tk C hC hp hb=>AW.block (h tk C hC hp (by simpa[CY] using hb))
theorem W.cond {t:Nat} {x y:Code} {b:Bool} (hc:F t= .bool b) (ht:b=true->W P T p x F M Q) (hf:b=false->W P T p y F M Q):W P T p (.cond (.tmp t) x y) F M Q:=fun tk C hC hp hb=>by
 simp only[CY,Bool.and_eq_true,Fu] at hb
 exact AW.cond b (fun t' e=>by cases e;simpa using hb.1.1) hc (fun h=>ht h tk C hC hp hb.1.2) (fun h=>hf h tk C hC hp hb.2)
theorem W.weak {c:Code} {F' :Fr} {M' :List Ag} (h:Wk p F M F' M') (k:W P T p c F' M' Q):W P T p c F M Q:=fun tk C hC hp hb=>AW.weak (h C hp) (k tk C hC hp hb)
theorem W.loop {c:Code} (I:Nat->Fr->List Ag->Prop) (k:Nat) (F₀:Fr) (M₀:List Ag) (h0:Wk p F M F₀ M₀) (hI:I k F₀ M₀)
 (round:∀k F M,I k F M->W P T p c F M (DN (fun F' M' =>∃k' F₁ M₁,k' <k/\Wk p F' M' F₁ M₁/\I k' F₁ M₁) Q)):W P T p (.loop c) F M Q:=fun tk C hC hp hb=>
 AW.loop I k F₀ M₀ (h0 C hp) hI fun k F M h=>(round k F M h tk C hC hp (by simpa[CY] using hb)).mono fun e F M q=>by
  cases e<;>first| (obtain⟨k',F₁,M₁,h1,h2,h3⟩:=q;exact⟨k',F₁,M₁,h1,h2 C hp,h3⟩) |exact q
theorem W.cut {x y:Code} (R:Fr->List Ag->Prop) (h:W P T p x F M (DN (fun F M=>∃F' M',Wk p F M F' M' /\R F' M') Q)) (k:∀F M,R F M->W P T p y F M Q):W P T p (.seq x y) F M Q:=
 W.seq (h.mono fun e F M q=>by
  cases e<;>first|exact q|skip
  obtain⟨F',M',hw,r⟩:=q
  exact W.weak hw (k _ _ r))
theorem Ef {call call' :D3} (hc:∀f args M K K',(∀r M,K r M->K' r M)->call f args M K->call' f args M K') {o:Oper} {s:Nat} {K K' :Fr->List Ag->Prop} (hk:∀F M,K F M->K' F M) (h:CX T call o s F M K):CX T call' o s F M K' :=by
 unfold CX at h |-
 split at h<;>(try rename_i hop)<;>(try simp only[hop])
 .unfold Ht at h |-
  split at h<;>simp_all
 .unfold Ht Hl at h |-
  split at h
  .split at h<;>simp_all
  .exact h.elim
 .unfold Mo at h |-
  split at h
  .obtain⟨h1,h2,rfl,h3,h4,h⟩:=h
   exact⟨h1,h2,rfl,h3,h4,hk _ _ h⟩
  .exact h.elim
 .unfold Mp Hl at h |-
  split at h
  .split at h<;>simp_all
  .exact h.elim
 .unfold Ht Iu Hl at h |-
  split at h
  .split at h
   .split at h
    .split at h<;>simp_all
    .exact h.elim
   .exact h.elim
  .exact h.elim
 .split at h
  .obtain⟨rfl,h⟩:=h
   refine⟨rfl,?_⟩
   unfold HW Hl Hy at h |-
   split at h
   .split at h
    .split at h
     .obtain⟨h1,h2,h3,h4,h5,h6,h7,h8,h⟩:=h
      exact⟨h1,h2,h3,h4,h5,h6,h7,h8,hk _ _ h⟩
     .exact h.elim
    .exact h.elim
   .exact h.elim
  .exact h.elim
 .unfold Gu Iv at h |-
  split at h
  .split at h<;>first|exact h.elim|exact fun b=>hk _ _ (h b) |exact⟨fun h0=>hk _ _ (h.1 h0),fun h0 b=>hk _ _ (h.2 h0 b)⟩
  .exact h.elim
 .unfold Gu Iv at h |-
  split at h
  .split at h<;>first|exact h.elim|exact fun b=>hk _ _ (h b) |exact⟨fun h0=>hk _ _ (h.1 h0),fun h0 b=>hk _ _ (h.2 h0 b)⟩
  .exact h.elim
 .unfold J9 at h |-
  split at h
  .exact hc _ _ _ _ _ (fun r M' h=>hk _ _ h) h
  .exact h.elim
 .unfold Hs at h |-
  split at h
  .exact hk _ _ h
  .exact h.elim
theorem D4 {call call' :D3} (hc:∀f args M K K',(∀r M,K r M->K' r M)->call f args M K->call' f args M K') {ops:Array Oper} {K K' :Fr->List Ag->Prop} (hk:∀F M,K F M->K' F M):
 ∀(l:List Oper) (s:Nat) (F:Fr) (M:List Ag),Ak T call ops l s F M K->Ak T call' ops l s F M K'
 | [],s,F,M,h=>hk _ _ h
 |o::rest,s,F,M,h=>by
  simp only[Ak] at h |-
  split at h
  .exact Ef hc (fun F M h=>D4 hc hk rest _ F M h) h
  .split at h
   .unfold gK at h |-
    split at h
    .exact⟨fun hb=>Ef hc (fun F M h=>D4 hc hk rest _ F M h) (h.1 hb),fun hb=>D4 hc hk rest _ _ _ (h.2 hb)⟩
    .exact D4 hc hk rest _ _ _ h
    .exact h.elim
   .exact h.elim
theorem DG.mono {C:Bn} {f:Nat} {args:List AV} {M:List Ag} {K K' :AV->List Ag->Prop} (hk:∀r M,K r M->K' r M) (h:DG C f args M K):DG C f args M K' :=
 ⟨h.1,fun F a w σ own vals R hv=>(h.2 F a w σ own vals R hv).mono fun e w' ⟨r,v,M',σ',own',he,q,rest⟩=>⟨r,v,M',σ',own',he,hk _ _ q,rest⟩⟩
theorem Iw {C:Bn} (tk:BI C.P T) {ops:Array Oper} {Q' :Exit->Act->World->Prop} {K:Fr->List Ag->Prop} (hQ:∀F M a w,K F M->C1 C F M a w->Q' .normal a w):
 ∀(l:List Oper) (s:Nat) (F:Fr) (M:List Ag) (a:Act) (w:World),l.all (By C.n)=true->ops.toList.all (By C.n)=true->Ak T (DG C) ops l s F M K->C1 C F M a w->wpListIn (FX C) 0 C.P ops Q' l a w
 | [],s,F,M,a,w,_,_,h,r=>hQ F M a w h r
 |o::rest,s,F,M,a,w,hb,hbo,h,r=>by
  simp only[List.all_cons,Bool.and_eq_true] at hb
  simp only[wpListIn]
  simp only[Ak] at h
  split at h
  .rename_i hg
   rw[if_pos (by simp[Region.wanted,hg])]
   obtain⟨σ,own,R⟩:=r
   exact Hw tk hb.1 h R fun F' M' a' w' hk r' =>Iw tk hQ rest _ F' M' a' w' hb.2 hbo hk r'
  .rename_i j want hg
   split at h
   .rename_i d hd
    unfold gK at h
    split at h
    .rename_i b hFd
     obtain⟨σ,own,R⟩:=r
     obtain⟨oj,hj,hdj⟩:=Option.bind_eq_some_iff.1 hd
     have hdn:d<C.n:=by
      have h1:=List.all_eq_true.1 hbo oj (by rw[<-Array.getElem?_toList] at hj;exact List.mem_of_getElem? hj)
      simp only[By,Bool.and_eq_true,hdj] at h1
      simpa using h1.2
     have hv:=R.tmp d hdn
     rw[hFd] at hv
     have he:=hv.1
     have hget:a.tmps[d]?=some (.bool b):=by
      have hs:=R.size
      have hlt:d<a.tmps.size:=by rw[hs];exact hdn
      simp[Array.getD,hlt] at he
      simp[hlt,he]
     have hy:yielded ops a.tmps j=some b:=by simp[yielded,hd,hget]
     have refr:∀c:Bool,b=c->C1 C (Bg F d (.bool c)) M a w:=by
      rintro c rfl
      refine⟨σ,own,R.size,R.dfr,fun t ht=>?_,R.mem,R.shr,R.ext,R.key0⟩
      simp only[Bg]
      split
      .rename_i e;subst e;exact hv
      .exact R.tmp t ht
     by_cases hbw:b=want
     .rw[if_pos (by simp[Region.wanted,hg,hy,hbw])]
      obtain⟨σ',own',R'⟩:=refr want hbw
      exact Hw tk hb.1 (h.1 hbw) R' fun F' M' a' w' hk r' =>Iw tk hQ rest _ F' M' a' w' hb.2 hbo hk r'
     .have hbn:b= !want:=by cases b<;>cases want<;>simp_all
      rw[if_neg (by simp[Region.wanted,hg,hy,hbw])]
      obtain⟨σ',own',R'⟩:=refr (!want) hbn
      refine⟨fun _ _=>trivial,?_⟩
      exact Iw tk hQ rest _ _ M _ w hb.2 hbo (h.2 hbn) ⟨σ',own',R'.put o.dst (v:=undef) ⟨#[],rfl,rfl,fun _=>rfl⟩⟩
    .rename_i hFd
     obtain⟨σ,own,R⟩:=r
     obtain⟨oj,hj,hdj⟩:=Option.bind_eq_some_iff.1 hd
     have hdn:d<C.n:=by
      have h1:=List.all_eq_true.1 hbo oj (by rw[<-Array.getElem?_toList] at hj;exact List.mem_of_getElem? hj)
      simp only[By,Bool.and_eq_true,hdj] at h1
      simpa using h1.2
     have hv:=R.tmp d hdn
     rw[hFd] at hv
     obtain⟨cs,he,_⟩:=hv
     have hget:a.tmps[d]?=some (.tuple cs):=by
      have hs:=R.size
      have hlt:d<a.tmps.size:=by rw[hs];exact hdn
      simp[Array.getD,hlt] at he
      simp[hlt,he]
     have hy:yielded ops a.tmps j=none:=by simp[yielded,hd,hget]
     rw[if_neg (by simp[Region.wanted,hg,hy])]
     refine⟨fun _ _=>trivial,?_⟩
     refine Iw tk hQ rest _ _ M _ w hb.2 hbo h ⟨σ,own,AK.put ?_ o.dst (v:=undef) ⟨#[],rfl,rfl,fun _=>rfl⟩⟩
     refine⟨R.size,R.dfr,fun t ht=>?_,R.mem,R.shr,R.ext,R.key0⟩
     simp only[Bg]
     split
     .rename_i e;subst e
      have:=R.tmp t hdn
      rw[hFd] at this;exact this
     .exact R.tmp t ht
    .exact h.elim
   .exact h.elim
theorem W.region {id:Nat} {l:List Oper} (h:Ak T (Ab P) l.toArray l M.length F (M++List.replicate (Bb l) .free) (Q .normal)):W P T p (.region id l.toArray false) F M Q:=by
 intro tk C hC hp hb a w r
 simp only[CY] at hb
 refine wpIn_region_lit ?_
 obtain⟨σ,own,R⟩:=r
 have h' :=D4 (call' :=DG C) (fun f args M K K' hk hc=>(hc C hC).mono hk) (fun _ _ h=>h) l _ F _ h
 exact Iw (hC ▸ tk) (fun F M a w h r=> .inl ⟨F,M,h,r⟩) l _ F _ a w hb hb h' ⟨σ,own,R.grow _⟩
end
def tf:AV->Bool
 | .tok .. | .ptr .. | .agg _| .tup _=>false
 | .fn _ cs=>cs.isEmpty
 |_=>true
theorem WQ {w:World} {sh:Nat->Prop} {σ:Nat->Nat->Option St} (τ:Nat->Nat->Option St) {x:AV} {v:Value} {fp:Nat->Nat} (hx:tf x=true) (h:VR w sh σ x v fp):VR w sh τ x v fp:=by
 cases x<;>simp[tf] at hx<;>simp only[VR] at h |-<;>try exact h
 rename_i f cs
 subst hx
 obtain⟨h0,vs,e,hv⟩:=h
 exact⟨h0,vs,e,hv.1,fun _=>rfl⟩
theorem Ix {w:World} {sh:Nat->Prop} {σ:Nat->Nat->Option St} (τ:Nat->Nat->Option St):∀{xs:List AV} {vs:List Value} {fp:Nat->Nat},xs.all tf=true->Aw w sh σ xs vs fp->Aw w sh τ xs vs fp
 | [],_,_,_,h=>h
 |x::xs,vs,fp,hx,h=>by
  simp only[Aw] at h |-
  simp only[List.all_cons,Bool.and_eq_true] at hx
  obtain⟨v,rest,f1,f2,e,h1,h2,hf⟩:=h
  exact⟨v,rest,f1,f2,e,WQ τ hx.1 h1,Ix τ hx.2 h2,hf⟩
def Hc (f:List Ag->AV->Option (AV×List Ag)):List Ag->List AV->Option (List AV×List Ag)
 |M,[]=>some ([],M)
 |M,x::xs=>match f M x with
  |some (y,M1)=>match Hc f M1 xs with
   |some (ys,M2)=>some (y::ys,M2)
   |none=>none
  |none=>none
def HX (f:List Ag->List AV->Option (List AV×List Ag)) (M:List Ag):AV->Option (AV×List Ag)
 | .tok T v s off n=>match Aj M T v with
   |some cs=>if off+n*s<=cs.length then match f (M.set T .dead) ((cs.drop off).take (n*s)) with
    |some (zs,M')=>some (.own s n zs,M')
    |none=>none
    else none
   |none=>none
 | .ptr T v off=>match Aj M T v with
   |some cs=>if off<=cs.length then match f (M.set T .dead) (cs.drop off) with
    |some (zs,M')=>some (.optr zs,M')
    |none=>none
    else none
   |none=>none
 |x=>if tf x then some (x,M) else none
def HY:Nat->List Ag->AV->Option (AV×List Ag)
 |0=>HX fun M ys=>if ys.all tf then some (ys,M) else none
 |d+1=>HX fun M ys=>if ys.all tf then some (ys,M) else Hc (HY d) M ys
def Mq (d:Nat) (M:List Ag):AV->Option (AV×List Ag)
 | .agg xs=>match Hc (HY d) M xs with
   |some (ys,M')=>some (.agg ys,M')
   |none=>none
 |x=>HY d M x
def Mr (d:Nat) (M:List Ag):AV->Option (AV×List Ag)
 | .tup xs=>match Hc (Mq d) M xs with
   |some (ys,M')=>some (.tup ys,M')
   |none=>none
 |x=>Mq d M x
def Ka (q:Nat) (M:List Ag) (x:AV) (x' :AV) (M' :List Ag):Prop:=
 ∀(w:World) (sh:Nat->Prop) (σ:Nat->Nat->Option St) (own:Nat->Option Nat) (v:Value) (fp:Nat->Nat),VR w sh σ x v fp->B7 w sh σ own M->(∀g,fp g<=if own g=some q then 1 else 0)->M.length<=q->
  ∃own' fp',VR w sh σ0 x' v fp' /\B7 w sh σ own' M' /\M'.length=M.length/\(∀g,fp' g<=if own' g=some q then 1 else 0)/\(∀g,own' g≠none->own g≠none)/\(∀g,own g=some q->own' g=some q/\fp' g=fp g)
def Nj (q:Nat) (M:List Ag) (xs:List AV) (xs' :List AV) (M' :List Ag):Prop:=
 ∀(w:World) (sh:Nat->Prop) (σ:Nat->Nat->Option St) (own:Nat->Option Nat) (vs:List Value) (fp:Nat->Nat),Aw w sh σ xs vs fp->B7 w sh σ own M->(∀g,fp g<=if own g=some q then 1 else 0)->M.length<=q->
  ∃own' fp',Aw w sh σ0 xs' vs fp' /\B7 w sh σ own' M' /\M'.length=M.length/\(∀g,fp' g<=if own' g=some q then 1 else 0)/\(∀g,own' g≠none->own g≠none)/\(∀g,own g=some q->own' g=some q/\fp' g=fp g)
theorem I8 {q:Nat} {f:List Ag->AV->Option (AV×List Ag)} (hf:∀M x x' M',f M x=some (x',M')->Ka q M x x' M'):∀(xs:List AV) (M:List Ag) (xs' :List AV) (M' :List Ag),Hc f M xs=some (xs',M')->Nj q M xs xs' M'
 | [],M,xs',M',h=>by
   simp[Hc] at h
   obtain⟨rfl,rfl⟩:=h
   intro w sh σ own vs fp hv m hb _
   simp only[Aw] at hv
   exact⟨own,fp,hv,m,rfl,hb,fun _ h=>h,fun _ h=>⟨h,rfl⟩⟩
 |x::xs,M,xs',M',h=>by
  simp only[Hc] at h
  split at h
  .rename_i y M1 hy
   split at h
   .rename_i ys M2 hys
    simp at h
    obtain⟨rfl,rfl⟩:=h
    intro w sh σ own vs fp hv m hb hq
    simp only[Aw] at hv
    obtain⟨v,rest,f1,f2,rfl,h1,h2,hff⟩:=hv
    obtain⟨own1,f1',a1,a2,a3,a4,a5,a6⟩:=hf _ _ _ _ hy w sh σ own v f1 h1 m (fun g=>by have:=hff g;have:=hb g;omega) hq
    have hb2:∀g,f2 g<=if own1 g=some q then 1 else 0:=fun g=>by
     have e1:=hff g;have e2:=hb g
     by_cases hg:own g=some q
     .rw[if_pos (a6 g hg).1];rw[if_pos hg] at e2;omega
     .rw[if_neg hg] at e2;omega
    obtain⟨own2,f2',b1,b2,b3,b4,b5,b6⟩:=I8 hf xs M1 ys M2 hys w sh σ own1 rest f2 h2 a2 hb2 (by omega)
    refine⟨own2,fun g=>f1' g+f2' g,⟨v,rest,f1',f2',rfl,a1,b1,fun _=>rfl⟩,b2,by omega,fun g=>?_,fun g hg=>a5 g (b5 g hg),fun g hg=>?_⟩
    .have e1:=a4 g;have e2:=b4 g
     simp only
     by_cases hg:own1 g=some q
     .have e3:=b6 g hg
      rw[if_pos e3.1];rw[if_pos hg] at e1
      by_cases hg0:own g=some q
      .have e4:=a6 g hg0;have e5:=hff g;have e6:=hb g
       rw[if_pos hg0] at e6;omega
      .have e5:=hff g;have e6:=hb g
       rw[if_neg hg0] at e6;omega
     .rw[if_neg hg] at e1
      omega
    .have e1:=a6 g hg
     have e2:=b6 g e1.1
     exact⟨e2.1,by simp only;rw[e1.2,e2.2,hff g]⟩
   .simp at h
  .simp at h
theorem VI {w:World} {sh:Nat->Prop} {σ:Nat->Nat->Option St} {own:Nat->Option Nat} {M:List Ag} (m:B7 w sh σ own M) {T v s off n q:Nat} {cs:List AV} (hb:Aj M T v=some cs) (hle:off+n*s<=cs.length) (hq:M.length<=q) {x:Value} (hx:VR w sh σ (.tok T v s off n) x (fun _=>0)):
 ∃own1,B7 w sh σ own1 (M.set T .dead)/\(∀g,own1 g≠none->own g≠none)/\(∀g,own g=some q->own1 g=some q)/\
  ((n=0/\(∃a,x= .slice a 0 0))\/∃h b c cur e fpy,x= .slice (some ⟨h,b,none⟩) n c/\n<=c/\c<=maxLen/\w.heap[h]?=some (.cells cur e (0,0))/\b+c*s<=cur.size/\Aw w sh σ ((cs.drop off).take (n*s)) ((cur.toList.drop b).take (n*s)) fpy/\
    (∀g,(if g=h then 1 else 0)+fpy g<=if own1 g=some q then 1 else 0)/\∀g,own g=some q->(if g=h then 1 else 0)+fpy g=0):=by
 obtain⟨hM,fp,hB,hf⟩:=BS m hb
 have hTl:T<M.length:=by
  rcases Nat.lt_or_ge T M.length with h|h
  .exact h
  .simp[List.getElem?_eq_none h] at hM
 let own1:Nat->Option Nat:=fun g=>if own g=some T then some q else own g
 have hm1:B7 w sh σ own1 (M.set T .dead):=by
  refine m.step ⟨fun _ _=>rfl,fun _ h=>h,fun _ _ _ h=> .inl h⟩ hTl (fun _ _ _=>rfl) (fun g T' hne hg _=>⟨?_,rfl⟩) ⟨fun _=>0,fun _=>rfl,fun _=>Nat.zero_le _⟩
  have:own g≠some T:=by rw[hg];simpa using hne
  simp only[own1,this,if_false];exact hg
 refine⟨own1,hm1,fun g hg=>?_,fun g hg=>?_,?_⟩
 .simp only[own1] at hg
  split at hg
  .rename_i e;rw[e];simp
  .exact hg
 .have:own g≠some T:=by rw[hg];simp;omega
  simp only[own1,this,if_false];exact hg
 .simp only[VR] at hx
  obtain⟨_,_,st,hst,hnil,hloc⟩:=hx
  simp only[BR] at hB
  rcases hB.2 with⟨h1,h2,h3⟩ | ⟨h,b,cur,e,fp',h1,h2,h3,h4,h5⟩
  .rw[h1] at hst;simp at hst;subst hst
   obtain⟨ha,_,rfl⟩:=hnil rfl
   exact .inl ⟨rfl,ha⟩
  .rw[h1] at hst;simp at hst;subst hst
   obtain⟨ad,c,rfl,had,hnc,hcm,hcz⟩:=hloc h b _ rfl
   by_cases hc:c=0
   .left
    subst hc
    have:n=0:=by omega
    subst this
    exact⟨rfl,_,rfl⟩
   .right
    have:=had hc;subst this
    obtain⟨f1,h6,h7⟩:=FF off h4
    obtain⟨f2,h8,h9⟩:=Hk (n*s) h6
    refine⟨h,b+off,c,cur,e,f2,rfl,hnc,hcm,h2,hcz,?_,fun g=>?_,fun g hg=>?_⟩
    .have e1:(((cur.toList.drop b).take cs.length).drop off).take (n*s)=(cur.toList.drop (b+off)).take (n*s):=by
      rw[List.drop_take,List.take_take,Nat.min_eq_left (by omega),List.drop_drop]
     rw[<-e1];exact h8
    .have e1:=hf g;have e2:=h5 g;have e3:=h7 g;have e4:=h9 g
     by_cases e5:own g=some T
     .have e6:own1 g=some q:=by simp only[own1];rw[if_pos e5]
      rw[if_pos e6];rw[if_pos e5] at e1;omega
     .rw[if_neg e5] at e1;omega
    .have e1:=hf g;have e2:=h5 g;have e3:=h7 g;have e4:=h9 g
     have:own g≠some T:=by rw[hg];simp;omega
     rw[if_neg this] at e1;omega
theorem VJ {w:World} {sh:Nat->Prop} {σ:Nat->Nat->Option St} {own:Nat->Option Nat} {M:List Ag} (m:B7 w sh σ own M) {T v off q:Nat} {cs:List AV} (hb:Aj M T v=some cs) (hle:off<=cs.length) (hq:M.length<=q) {x:Value} (hx:VR w sh σ (.ptr T v off) x (fun _=>0)):
 ∃own1,B7 w sh σ own1 (M.set T .dead)/\(∀g,own1 g≠none->own g≠none)/\(∀g,own g=some q->own1 g=some q)/\
  ∃h b cur e fpy,x= .pointer (some ⟨h,b,none⟩)/\w.heap[h]?=some (.cells cur e (0,0))/\b+(cs.drop off).length<=cur.size/\Aw w sh σ (cs.drop off) ((cur.toList.drop b).take (cs.drop off).length) fpy/\
   (∀g,(if g=h then 1 else 0)+fpy g<=if own1 g=some q then 1 else 0)/\∀g,own g=some q->(if g=h then 1 else 0)+fpy g=0:=by
 obtain⟨hM,fp,hB,hf⟩:=BS m hb
 have hTl:T<M.length:=by
  rcases Nat.lt_or_ge T M.length with h|h
  .exact h
  .simp[List.getElem?_eq_none h] at hM
 let own1:Nat->Option Nat:=fun g=>if own g=some T then some q else own g
 have hm1:B7 w sh σ own1 (M.set T .dead):=by
  refine m.step ⟨fun _ _=>rfl,fun _ h=>h,fun _ _ _ h=> .inl h⟩ hTl (fun _ _ _=>rfl) (fun g T' hne hg _=>⟨?_,rfl⟩) ⟨fun _=>0,fun _=>rfl,fun _=>Nat.zero_le _⟩
  have:own g≠some T:=by rw[hg];simpa using hne
  simp only[own1,this,if_false];exact hg
 refine⟨own1,hm1,fun g hg=>?_,fun g hg=>?_,?_⟩
 .simp only[own1] at hg
  split at hg
  .rename_i e;rw[e];simp
  .exact hg
 .have:own g≠some T:=by rw[hg];simp;omega
  simp only[own1,this,if_false];exact hg
 .simp only[VR] at hx
  obtain⟨_,_,st,hst,hnil,hloc⟩:=hx
  simp only[BR] at hB
  rcases hB.2 with⟨h1,h2,h3⟩ | ⟨h,b,cur,e,fp',h1,h2,h3,h4,h5⟩
  .rw[h1] at hst;simp at hst;exact absurd hst.symm hnil
  .rw[h1] at hst;simp at hst;subst hst
   obtain⟨f1,h6,h7⟩:=FF off h4
   refine⟨h,b+off,cur,e,f1,hloc h b _ rfl,h2,by simp;omega,?_,fun g=>?_,fun g hg=>?_⟩
   .have e1:((cur.toList.drop b).take cs.length).drop off=(cur.toList.drop (b+off)).take (cs.drop off).length:=by
     rw[List.drop_take,List.drop_drop,List.length_drop]
    rw[<-e1];exact h6
   .have e1:=hf g;have e2:=h5 g;have e3:=h7 g
    by_cases e5:own g=some T
    .have e6:own1 g=some q:=by simp only[own1];rw[if_pos e5]
     rw[if_pos e6];rw[if_pos e5] at e1;omega
    .rw[if_neg e5] at e1;omega
   .have e1:=hf g;have e2:=h5 g;have e3:=h7 g
    have:own g≠some T:=by rw[hg];simp;omega
    rw[if_neg this] at e1;omega
theorem Pz {q:Nat} {M:List Ag} {ys:List AV} (htf:ys.all tf=true):Nj q M ys ys M:=fun w sh σ own vs fp hv m hb _=>⟨own,fp,Ix σ0 htf hv,m,rfl,hb,fun _ h=>h,fun _ h=>⟨h,rfl⟩⟩
theorem PA {q:Nat} {f:List Ag->List AV->Option (List AV×List Ag)} (hf:∀M ys zs M',f M ys=some (zs,M')->Nj q M ys zs M') {M:List Ag} {x x' :AV} {M' :List Ag} (h:HX f M x=some (x',M')):Ka q M x x' M' :=by
 unfold HX at h
 split at h
 .rename_i T v s off n
  split at h
  .rename_i cs hcs
   split at h
   .rename_i hle
    split at h
    .rename_i zs M2 hz
     simp at h
     obtain⟨rfl,rfl⟩:=h
     intro w sh σ own x fp hx m hb hq
     have h0:fp=fun _=>0:=by simp only[VR] at hx;exact funext hx.1
     subst h0
     have hlen:((cs.drop off).take (n*s)).length=n*s:=by simp;omega
     obtain⟨own1,m1,h1,h2,h3⟩:=VI m hcs hle hq hx
     rcases h3 with⟨rfl,a,rfl⟩ | ⟨hh,b,c,cur,e,fpy,rfl,e1,e2,e3,e4,e5,e6,e7⟩
     .obtain⟨own2,fpz,b1,b2,b3,b4,b5,b6⟩:=hf _ _ _ _ hz w sh σ own1 [] (fun _=>0) (by simp;exact⟨rfl,fun _=>rfl⟩) m1 (fun _=>Nat.zero_le _) (by simpa using hq)
      have hzl:zs=[]:=List.eq_nil_of_length_eq_zero (by have:=BF b1;simpa using this.symm)
      subst hzl
      exact⟨own2,fun _=>0,.inl ⟨⟨a,rfl⟩,rfl,rfl,fun _=>rfl⟩,b2,by simpa using b3,fun _=>Nat.zero_le _,fun g hg=>h1 g (b5 g hg),fun g hg=>⟨(b6 g (h2 g hg)).1,rfl⟩⟩
     .obtain⟨own2,fpz,b1,b2,b3,b4,b5,b6⟩:=hf _ _ _ _ hz w sh σ own1 _ fpy e5 m1 (fun g=>by have:=e6 g;omega) (by simpa using hq)
      have hzl:zs.length=n*s:=by
       have h4:=BF b1;have h5:=BF e5;omega
      refine⟨own2,fun g=>(if g=hh then 1 else 0)+fpz g,.inr ⟨hh,b,c,cur,e,fpz,rfl,e1,e2,hzl,e3,e4,b1,fun _=>rfl⟩,b2,by simpa using b3,fun g=>?_,fun g hg=>h1 g (b5 g hg),fun g hg=>?_⟩
      .have f1:=e6 g;have f2:=b4 g
       show(if g=hh then 1 else 0)+fpz g<=_
       by_cases hg:own1 g=some q
       .have f3:=b6 g hg
        rw[if_pos f3.1];rw[if_pos hg] at f1;omega
       .rw[if_neg hg] at f1
        omega
      .have f1:=h2 g hg
       have f2:=b6 g f1
       have f3:=e7 g hg
       exact⟨f2.1,by show(if g=hh then 1 else 0)+fpz g=0;omega⟩
    .simp at h
   .simp at h
  .simp at h
 .rename_i T v off
  split at h
  .rename_i cs hcs
   split at h
   .rename_i hle
    split at h
    .rename_i zs M2 hz
     simp at h
     obtain⟨rfl,rfl⟩:=h
     intro w sh σ own x fp hx m hb hq
     have h0:fp=fun _=>0:=by simp only[VR] at hx;exact funext hx.1
     subst h0
     obtain⟨own1,m1,h1,h2,hh,b,cur,e,fpy,rfl,e3,e4,e5,e6,e7⟩:=VJ m hcs hle hq hx
     obtain⟨own2,fpz,b1,b2,b3,b4,b5,b6⟩:=hf _ _ _ _ hz w sh σ own1 _ fpy e5 m1 (fun g=>by have:=e6 g;omega) (by simpa using hq)
     have hzl:zs.length=(cs.drop off).length:=by
      have h4:=BF b1;have h5:=BF e5;omega
     refine⟨own2,fun g=>(if g=hh then 1 else 0)+fpz g,⟨hh,b,cur,e,fpz,rfl,e3,by rw[hzl];exact e4,by rw[hzl];exact b1,fun _=>rfl⟩,b2,by simpa using b3,fun g=>?_,fun g hg=>h1 g (b5 g hg),fun g hg=>?_⟩
     .have f1:=e6 g;have f2:=b4 g
      show(if g=hh then 1 else 0)+fpz g<=_
      by_cases hg:own1 g=some q
      .have f3:=b6 g hg
       rw[if_pos f3.1];rw[if_pos hg] at f1;omega
      .rw[if_neg hg] at f1
       omega
     .have f1:=h2 g hg
      have f2:=b6 g f1
      have f3:=e7 g hg
      exact⟨f2.1,by show(if g=hh then 1 else 0)+fpz g=0;omega⟩
    .simp at h
   .simp at h
  .simp at h
 .split at h
  .rename_i htf
   simp at h
   obtain⟨rfl,rfl⟩:=h
   intro w sh σ own v fp hx m hb hq
   exact⟨own,fp,WQ σ0 htf hx,m,rfl,hb,fun _ h=>h,fun _ h=>⟨h,rfl⟩⟩
  .simp at h
theorem LD {q:Nat}:∀(d:Nat) (M:List Ag) (x x' :AV) (M' :List Ag),HY d M x=some (x',M')->Ka q M x x' M'
 |0,M,x,x',M',h=>PA (fun M ys zs M' h=>by
  split at h
  .rename_i htf;simp at h;obtain⟨rfl,rfl⟩:=h;exact Pz htf
  .simp at h) h
 |d+1,M,x,x',M',h=>PA (fun M ys zs M' h=>by
   split at h
   .rename_i htf;simp at h;obtain⟨rfl,rfl⟩:=h;exact Pz htf
   .exact I8 (LD d) _ _ _ _ h) h
theorem PB {q d:Nat} {M:List Ag} {x x' :AV} {M' :List Ag} (h:Mq d M x=some (x',M')):Ka q M x x' M' :=by
 unfold Mq at h
 split at h
 .split at h
  .rename_i ys M2 hy
   simp at h
   obtain⟨rfl,rfl⟩:=h
   intro w sh σ own v fp hx m hb hq
   simp only[VR] at hx
   obtain⟨cs,rfl,hv⟩:=hx
   obtain⟨own',fp',h1,h2⟩:=I8 (LD d) _ _ _ _ hy w sh σ own _ fp hv m hb hq
   exact⟨own',fp',⟨cs,rfl,h1⟩,h2⟩
  .simp at h
 .exact LD d _ _ _ _ h
theorem VK {q d:Nat} {M:List Ag} {x x' :AV} {M' :List Ag} (h:Mr d M x=some (x',M')):Ka q M x x' M' :=by
 unfold Mr at h
 split at h
 .split at h
  .rename_i ys M2 hy
   simp at h
   obtain⟨rfl,rfl⟩:=h
   intro w sh σ own v fp hx m hb hq
   simp only[VR] at hx
   obtain⟨cs,rfl,hv⟩:=hx
   obtain⟨own',fp',h1,h2⟩:=I8 (fun M x x' M' h=>PB h) _ _ _ _ hy w sh σ own _ fp hv m hb hq
   exact⟨own',fp',⟨cs,rfl,h1⟩,h2⟩
  .simp at h
 .exact PB h
def I9 (P:Program) (f:Nat):Prop:=∃fn,P.funcs[f]?=some fn/\(fn.name== "runtime.NumGoroutine")=false/\fn.body.isNone=false
def Aa (P:Program) (f:Nat) (args:List AV) (M:List Ag) (Q:AV->List Ag->Prop):Prop:=
 I9 P f/\∀(w:World) (sh:Nat->Prop) (σ:Nat->Nat->Option St) (own:Nat->Option Nat) (vals:Array Value),Aw w sh σ args vals.toList (fun _=>0)->B7 w sh σ own M->(∀g,sh g->own g=none/\g<w.heap.size)->
  Calls P f vals w fun e w' =>∃r v M' σ' own' fpr,e= .returned v/\Q r M' /\M'.length=M.length/\VR w' sh σ0 r v fpr/\(∀g,fpr g<=if own' g=some M.length then 1 else 0)/\B7 w' sh σ' own' M' /\(∀g,sh g->own' g=none)/\Fx w w' own own' /\Cb w w' sh sh σ σ'
theorem Aa.mono {P:Program} {f:Nat} {args:List AV} {M:List Ag} {Q Q' :AV->List Ag->Prop} (h:Aa P f args M Q) (hq:∀r M,Q r M->Q' r M):Aa P f args M Q' :=
 ⟨h.1,fun w sh σ own vals hv m hs=>(h.2 w sh σ own vals hv m hs).mono fun e w' ⟨r,v,M',σ',own',fpr,he,q,rest⟩=>⟨r,v,M',σ',own',fpr,he,hq _ _ q,rest⟩⟩
def Ms (T:Nat->Option TI) (M:List Ag) (F:Fr):ResultVar->Option AV
 | .tmp t=>some (F t)
 | .cell a t=>match F a with
   | .ptr B v off=>KZ T M t (.ptr B v off)
   | .rptr xs=>KZ T M t (.rptr xs)
   |_=>none
def Ja (T:Nat->Option TI) (M:List Ag) (F:Fr):List ResultVar->Option (List AV)
 | []=>some []
 |x::xs=>match Ms T M F x,Ja T M F xs with
  |some y,some ys=>some (y::ys)
  |_,_=>none
def PC (T:Nat->Option TI) (M:List Ag) (F:Fr) (rs:List ResultVar):Option AV:=
 match Ja T M F rs with
 |some [x]=>some x
 |some xs=>some (.tup xs)
 |none=>none
def Kb (n:Nat):ResultVar->Bool
 | .tmp t=>decide (t<n)
 | .cell a _=>decide (a<n)
def OG:Ag->Bool
 | .live _ cs=>cs.all tf
 |_=>true
def PD (T:Nat->Option TI) (rs:List ResultVar) (p:Nat) (Q:AV->List Ag->Prop) (F:Fr) (M:List Ag):Prop:=
 ∃r0 d r M',PC T M F rs=some r0/\Mr d M r0=some (r,M')/\p<=M.length/\(M'.take p).all OG=true/\Q r (M'.take p)
def Hd (T:Nat->Option TI) (rs:List ResultVar) (p:Nat) (Q:AV->List Ag->Prop):Cn:=fun e F M=>match e with
 | .normal=>PD T rs p Q F M
 | .ret=>PD T rs p Q F M
 |_=>False
def Iy (tmps:Array Value):ResultVar->Sem Value
 | .tmp t=>pure (tmps.getD t undef)
 | .cell q t=>do loadVar t (<-asAddr (tmps.getD q undef))
theorem Mt (fn:Func) (tmps:Array Value):results fn tmps=(do let vs<-fn.results.mapM (Iy tmps);pure (if h:vs.size=1 then vs[0] else .tuple vs)):=by
 unfold results
 congr 2
section
variable {C:Bn} {w:World} {σ:Nat->Nat->Option St} {own:Nat->Option Nat} {M:List Ag} {F:Fr} {a:Act} {T:Nat->Option TI}
theorem VL (tk:BI C.P T) (R:AK C F M a w σ own) {x:ResultVar} (hb:Kb C.n x=true) {r:AV} (h:Ms T M F x=some r):
 ∃u,(Iy a.tmps x).run C.P w= .ok u w/\VR w C.sh σ r u (fun _=>0):=by
 cases x with
 |tmp t=>
  simp[Ms] at h;subst h
  exact⟨_,rfl,R.tmp t (by simpa[Kb] using hb)⟩
 |cell q t=>
  have hq:=R.tmp q (by simpa[Kb] using hb)
  simp only[Ms] at h
  split at h
  .rename_i B v off e
   rw[e] at hq
   obtain⟨u,hu,hr⟩:=OL tk R hq h
   simp only[VR] at hq
   obtain⟨_,⟨ad,e2⟩,_⟩:=hq
   refine⟨u,?_,hr⟩
   rw[e2] at hu
   simp only[Instr.loadAt,Instr.sureAddr,Sem.run_bind,Sem.run_pure,Result.andThen_ok] at hu
   simp only[Iy,e2,asAddr,Sem.run_bind,Sem.run_pure,Result.andThen_ok]
   exact hu
  .rename_i xs e
   rw[e] at hq
   obtain⟨u,hu,hr⟩:=OL tk R hq h
   simp only[VR] at hq
   obtain⟨_,ad,vs,e2,_⟩:=hq
   refine⟨u,?_,hr⟩
   rw[e2] at hu
   simp only[Instr.loadAt,Instr.sureAddr,Sem.run_bind,Sem.run_pure,Result.andThen_ok] at hu
   simp only[Iy,e2,asAddr,Sem.run_bind,Sem.run_pure,Result.andThen_ok]
   exact hu
  .simp at h
theorem PE (tk:BI C.P T) (R:AK C F M a w σ own):∀(rs:List ResultVar) (xs:List AV),rs.all (Kb C.n)=true->Ja T M F rs=some xs->
 ∃us:List Value,(rs.mapM (Iy a.tmps)).run C.P w= .ok us w/\Aw w C.sh σ xs us (fun _=>0)
 | [],xs,_,h=>by simp[Ja] at h;subst h;exact⟨[],by simp,rfl,fun _=>rfl⟩
 |x::rs,xs,hb,h=>by
  simp only[List.all_cons,Bool.and_eq_true] at hb
  simp only[Ja] at h
  split at h
  .rename_i y ys hy hys
   simp at h;subst h
   obtain⟨u,hu,hr⟩:=VL tk R hb.1 hy
   obtain⟨us,hus,hrs⟩:=PE tk R rs ys hb.2 hys
   refine⟨u::us,?_,u,us,_,_,rfl,hr,hrs,fun _=>rfl⟩
   simp only[List.mapM_cons,Sem.run_bind]
   rw[hu]
   simp only[Result.andThen_ok]
   rw[hus]
   simp
  .simp at h
theorem XR (tk:BI C.P T) (R:AK C F M a w σ own) {fn:Func} (hb:fn.results.toList.all (Kb C.n)=true) {r:AV} (h:PC T M F fn.results.toList=some r):∃u,(results fn a.tmps).run C.P w= .ok u w/\VR w C.sh σ r u (fun _=>0):=by
 have key:∀xs,Ja T M F fn.results.toList=some xs->∃us:List Value,(fn.results.mapM (Iy a.tmps)).run C.P w= .ok us.toArray w/\Aw w C.sh σ xs us (fun _=>0):=by
  intro xs hx
  obtain⟨us,hu,hr⟩:=PE tk R _ xs hb hx
  refine⟨us,?_,hr⟩
  generalize fn.results=rs at*
  cases rs with
  |mk l=>
   rw[List.mapM_toArray]
   simp only[Sem.run_map]
   rw[hu];rfl
 unfold PC at h
 split at h
 .rename_i x hx
  simp at h;subst h
  obtain⟨us,hu,hr⟩:=key _ hx
  simp only[Aw] at hr
  obtain⟨v,rest,f1,f2,rfl,h1,h2,hf⟩:=hr
  obtain⟨rfl,_⟩:=h2
  have e1:f1=fun _=>0:=Fv fun g=>by have:=hf g;simp only at this |-;omega
  subst e1
  refine⟨v,?_,h1⟩
  rw[Mt,Sem.run_bind,hu]
  simp
 .rename_i xs hne hx
  simp at h;subst h
  obtain⟨us,hu,hr⟩:=key _ hx
  refine⟨.tuple us.toArray,?_,us.toArray,rfl,hr⟩
  have hl:=BF hr
  rw[Mt,Sem.run_bind,hu]
  simp only[Result.andThen_ok,Sem.run_pure]
  have:¬us.toArray.size=1:=by
   intro e
   simp at e
   rw[hl] at e
   cases xs with
   |nil=>simp at e
   |cons x xs=>cases xs with
    |nil=>exact hne x rfl
    |cons y ys=>simp at e
  rw[dif_neg this]
 .simp at h
end
def DT (args:List AV):Fr:=fun t=>args.getD t .any
theorem Aa.enterA {P:Program} {T:Nat->Option TI} {f:Nat} {fn:Func} {c:Code} {args:List AV} {M:List Ag} {Q:AV->List Ag->Prop} (tk:BI P T) (hf:P.funcs[f]?=some fn) (hb:fn.body=some c) (hname:(fn.name== "runtime.NumGoroutine")=false)
 (hl:args.length<=fn.ntmps) (hr:fn.results.toList.all (Kb fn.ntmps)=true) (h:∀C:Bn,C.P=P->C.p=M.length->C.n=fn.ntmps->C.rd=none->C.df=[]->AW C c (DT args) M (Hd T fn.results.toList M.length Q)):Aa P f args M Q:=by
 refine⟨⟨fn,hf,hname,by rw[hb];rfl⟩,fun w sh σ own vals hv m hs=>?_⟩
 let C:Bn:=⟨P,fn.ntmps,sh,w,own,σ,M.length,none,[]⟩
 refine(callsIn_wide (n:=0)).1 (callsIn_of_wp_marks hf hb trivial ?_)
 have hlen:=BF hv
 have hsz:vals.size=args.length:=by simpa using hlen
 have R:AK C (DT args) M {tmps:=vals++Array.replicate (fn.ntmps-vals.size) undef,defers:=[]} w σ own:=by
  refine⟨by simp[C];omega,rfl,fun t ht=>?_,m,hs,Fx.refl w own,fun T' v st h=>⟨?_,.inl h⟩⟩
  rotate_left
  .rcases Nat.lt_or_ge T' M.length with h2|h2
   .exact h2
   .have h:σ T' v=some st:=h
    rw[m.key T' v h2] at h;simp at h
  simp only[DT]
  by_cases h1:t<args.length
  .obtain⟨v,f,hv1,hv2,hle⟩:=FM hv (i:=t) (x:=args[t]) (by simp[h1])
   rw[Fv hle] at hv2
   have e1:args.getD t .any=args[t]:=by simp[List.getD,h1]
   have e2:(vals++Array.replicate (fn.ntmps-vals.size) undef).getD t undef=v:=by
    have hts:t<vals.size:=by omega
    rw[Array.getElem?_toList,Array.getElem?_eq_getElem hts] at hv1
    have hts2:t<(vals++Array.replicate (fn.ntmps-vals.size) undef).size:=by simp;omega
    have h3:(vals++Array.replicate (fn.ntmps-vals.size) undef)[t]'hts2=vals[t]'hts:=Array.getElem_append_left hts
    simp only[Array.getD,hts2,dif_pos]
    exact h3.trans (by simpa using hv1)
   rw[e1,e2];exact hv2
  .have e1:args.getD t .any= .any:=by simp[List.getD,List.getElem?_eq_none (by omega:args.length<=t)]
   rw[e1];intro g;rfl
 refine wpIn_mono (h C rfl rfl rfl rfl rfl _ w ⟨σ,own,R⟩) ?_
 intro e a' w' hq
 have fin:∀(F:Fr) (M1:List Ag) (a' :Act) (w' :World),C1 C F M1 a' w' ->PD T fn.results.toList M.length Q F M1->a'.defers=[]/\∃v,(results fn a'.tmps).run P w' = .ok v w' /\∃r v' M' σ' own' fpr,Ending.returned v= .returned v' /\Q r M' /\M'.length=M.length/\VR w' sh σ0 r v' fpr/\(∀g,fpr g<=if own' g=some M.length then 1 else 0)/\B7 w' sh σ' own' M' /\(∀g,sh g->own' g=none)/\Fx w w' own own' /\Cb w w' sh sh σ σ' :=by
  rintro F M1 a' w' ⟨σ1,own1,R1⟩
  rintro⟨r0,d,r,M',h1,h2,h3,h4,h5⟩
  obtain⟨v,hv1,hv2⟩:=XR (C:=C) tk R1 hr h1
  obtain⟨own2,fpr,p1,p2,p3,p4,p5,p6⟩:=VK (q:=M1.length) h2 w' sh σ1 own1 v _ hv2 R1.mem (fun _=>Nat.zero_le _) (Nat.le_refl _)
  let σ' :Nat->Nat->Option St:=fun T' u=>if T' <M.length then σ1 T' u else none
  let own' :Nat->Option Nat:=fun g=>match own2 g with|some T' =>if T' <M.length then some T' else if T' =M1.length then some M.length else none|none=>none
  refine⟨R1.dfr,v,hv1,r,v,M'.take M.length,σ',own',fpr,rfl,h5,by simp;omega,p1,fun g=>?_,?_,?_,?_,?_⟩
  .have:=p4 g
   split at this
   .rename_i e2
    have:own' g=some M.length:=by simp only[own',e2];rw[if_neg (by omega)];simp
    rw[if_pos this];assumption
   .omega
  .refine⟨fun T' B hB=>?_,fun T' u hT=>?_⟩
   .have hlt:T' <M.length:=by
     rcases Nat.lt_or_ge T' M.length with h|h
     .exact h
     .rw[List.getElem?_eq_none (by simp;omega)] at hB;simp at hB
    have htf:=List.all_eq_true.1 h4 B (List.mem_of_getElem? hB)
    rw[List.getElem?_take,if_pos hlt] at hB
    obtain⟨fp,b1,b2⟩:=p2.blk T' B hB
    have hk:∀u,σ' T' u=σ1 T' u:=fun u=>by simp only[σ',hlt,if_true]
    refine⟨fp,?_,fun g=>?_⟩
    .cases B with
     |free=>exact⟨fun u=>by rw[hk];exact b1.1 u,b1.2⟩
     |dead=>exact b1
     |live u cs=>
      obtain⟨c0,b1⟩:=b1
      refine⟨fun u' hu=>by rw[hk];exact c0 u' hu,?_⟩
      rcases b1 with⟨c1,c2,c3⟩ | ⟨hh,b,cur,e',fp',c1,c2,c3,c4,c5⟩
      .exact .inl ⟨by rw[hk];exact c1,c2,c3⟩
      .exact .inr ⟨hh,b,cur,e',fp',by rw[hk];exact c1,c2,c3,Ix σ' htf c4,c5⟩
    .have:=b2 g
     split at this
     .rename_i e2
      have:own' g=some T' :=by simp only[own',e2];rw[if_pos hlt]
      rw[if_pos this];assumption
     .omega
   .have:¬T' <M.length:=by simp at hT;omega
    simp only[σ',this,if_false]
  .intro g hg
   have h6:=(R1.shr g hg).1
   have:own2 g=none:=by
    cases e2:own2 g with
    |none=>rfl
    |some T' =>exact absurd h6 (p5 g (by rw[e2];simp))
   simp only[own',this]
  .refine⟨R1.ext.os,R1.ext.tape,R1.ext.output,R1.ext.size,R1.ext.block,fun g hg=>?_⟩
   refine R1.ext.own g (p5 g ?_)
   intro e2
   simp only[own',e2] at hg
   exact hg rfl
  .refine⟨fun g hg=>R1.ext.block g (hs g hg).2 (hs g hg).1,fun _ h=>h,fun T' u st hk=>?_⟩
   have hlt:T' <M.length:=by
    rcases Nat.lt_or_ge T' M.length with h|h
    .exact h
    .rw[m.key T' u h] at hk;simp at hk
   simp only[σ',hlt,if_true]
   exact(R1.key0 T' u st hk).2
 rcases hq with⟨F,M1,q,r⟩ | ⟨rfl,D,F,M1,w1,q,r,hd,ht,_⟩
 .cases e
  .obtain⟨h1,h2⟩:=fin F M1 a' w' r q
   simp only[bodyPostM,h1,LeavesInM,LeavesIn];exact h2
  .exact q.elim
  .exact q.elim
  .obtain⟨h1,h2⟩:=fin F M1 a' w' r q
   simp only[bodyPostM,h1,LeavesInM,LeavesIn];exact h2
  .exact q.elim
  .exact q.elim
 .obtain⟨h1,h2⟩:=fin F M1 _ w1 r q
  simp only[bodyPostM,hd,JG,LeavesInM]
  refine⟨by simp,.inl ⟨D,w1,rfl,ht,?_⟩⟩
  simp only[LeavesIn];exact h2
theorem Aa.enter {P:Program} {T:Nat->Option TI} {f:Nat} {fn:Func} {c:Code} {args:List AV} {M:List Ag} {Q:AV->List Ag->Prop} (tk:BI P T) (hf:P.funcs[f]?=some fn) (hb:fn.body=some c) (hname:(fn.name== "runtime.NumGoroutine")=false)
 (hc:CY fn.ntmps c=true) (hl:args.length<=fn.ntmps) (hr:fn.results.toList.all (Kb fn.ntmps)=true) (h:W P T M.length c (DT args) M (Hd T fn.results.toList M.length Q)):Aa P f args M Q:=
 Aa.enterA tk hf hb hname hl hr fun C hC hp hn _ _=>h tk C hC (Nat.le_of_eq hp) (by rw[hn];exact hc)
end Go.Abs
