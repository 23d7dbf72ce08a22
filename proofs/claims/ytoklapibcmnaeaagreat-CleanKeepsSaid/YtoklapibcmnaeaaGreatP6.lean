/- Regions whose order is open up to a place, and which go on in the text's order: the rule; what is called there may be handed own memory. No program. -/
import Derived.Test.YtoklapibcmnaeaaGreatP5
import Derived.WalkKit
import Derived.ProofKit
import Derived.OpenShut
import Derived.SizedLaws
import Derived.ReadAgain
import Derived.Test.YtoklapibcmnaeaaGreatProg
import Derived.KernelRfl
set_option linter.unusedVariables false
set_option linter.unusedSimpArgs false
namespace Go.Abs
section
variable {P:Program} {L:Bool} {T:Nat->Option TI} {ops:Array Oper} {sl:Nat->Nat} {K:Fr->List Ag->Prop}
theorem Wn {C:Bn} {call:D3} (hcall:∀f args M (K K' :AV->List Ag->Prop),(∀r M,K r M->K' r M)->call f args M K->DG C f args M K') (tk:BI C.P T) {i:Nat} {o:Oper} (ho:ops[i]?=some o) (hops:∀(k:Nat) (o:Oper),ops[k]?=some o->By C.n o=true) {Q' :Exit->Act->World->Prop} {next:Act->World->Prop} {F:Fr} {M:List Ag} {a:Act} {w:World}
 (hN:∀F M a w,K F M->C1 C F M a w->next a w) (h:B5 T call ops sl i F M K) (r:C1 C F M a w):wpOpIn (FX C) 0 C.P ops Q' i next a w:=by
 unfold B5 at h
 unfold wpOpIn
 simp only[ho] at h |-
 have go:∀F,CX T call o (sl i) F M K->C1 C F M a w->o.wpIn (FX C) 0 C.P a w next Q' :=fun F h r=>by
  obtain⟨σ,own,R⟩:=r
  exact Hw tk (hops i o ho) (Ef (call:=call) (call' :=DG C) (fun f args M K K' hk hc=>hcall f args M K K' (fun r M h=>hk _ _ h) hc) (fun _ _ h=>h) h) R hN
 unfold Gd at h
 cases hg:o.guard with
 |none=>
  simp only[hg] at h
  rw[if_pos (by simp[Region.wanted,hg])]
  exact go F h r
 |some g=>
  obtain⟨j,want⟩:=g
  simp only[hg] at h
  cases hd:(ops[j]?).bind (·.dst) with
  |none=>simp only[hd] at h
  |some d=>
   simp only[hd] at h
   have hor:(∃b,F d= .bool b)\/F d= .tup []:=by
    cases hFd:F d<;>simp only[hFd] at h
    .exact .inl ⟨_,rfl⟩
    .rename_i xs
     cases xs with
     |nil=>exact .inr rfl
     |cons x xs=>simp at h
   have r' :=r
   obtain⟨σ,own,R⟩:=r'
   obtain⟨oj,hj,hdj⟩:=Option.bind_eq_some_iff.1 hd
   have hdn:d<C.n:=by
    have h1:=hops j oj hj
    simp only[By,Bool.and_eq_true,hdj] at h1
    simpa using h1.2
   have hv:=R.tmp d hdn
   rcases hor with⟨b,hFd⟩ |hFd
   rotate_left
   .rw[hFd] at hv
    obtain⟨cs,he,_⟩:=hv
    have hget:a.tmps[d]?=some (.tuple cs):=by
     have hs:=R.size
     have hlt:d<a.tmps.size:=by rw[hs];exact hdn
     simp[Array.getD,hlt] at he
     simp[hlt,he]
    have hy:yielded ops a.tmps j=none:=by simp[yielded,hd,hget]
    rw[if_neg (by simp[Region.wanted,hg,hy])]
    simp only[hFd] at h
    exact⟨fun _ _=>trivial,hN _ _ _ _ h ⟨σ,own,R.put o.dst (v:=undef) ⟨#[],rfl,rfl,fun _=>rfl⟩⟩⟩
   rw[hFd] at hv
   simp only[hFd] at h
   have he:=hv.1
   have hget:a.tmps[d]?=some (.bool b):=by
    have hs:=R.size
    have hlt:d<a.tmps.size:=by rw[hs];exact hdn
    simp[Array.getD,hlt] at he
    simp[hlt,he]
   have hy:yielded ops a.tmps j=some b:=by simp[yielded,hd,hget]
   by_cases hbw:b=want
   .rw[if_pos (by simp[Region.wanted,hg,hy,hbw])]
    simp only[hbw,beq_self_eq_true] at h
    exact go F h r
   .rw[if_neg (by simp[Region.wanted,hg,hy,hbw])]
    have:(b==want)=false:=by simpa using hbw
    simp only[this] at h
    exact⟨fun _ _=>trivial,hN _ _ _ _ h ⟨σ,own,R.put o.dst (v:=undef) ⟨#[],rfl,rfl,fun _=>rfl⟩⟩⟩
end
section
variable {P:Program} {L:Bool} {T:Nat->Option TI} {K:Fr->List Ag->Prop}
theorem Kp {call:D3} (hm:∀f args M (K K' :AV->List Ag->Prop),(∀r M,K r M->K' r M)->call f args M K->call f args M K') {K' :Fr->List Ag->Prop} (hK:∀F M,K F M->K' F M) {l tl:List Oper} {base:Nat}:∀(rest pre:List Oper) (F:Fr) (M:List Ag),l=pre++rest++tl->Ak T call l.toArray rest (base+Bb pre) F M K->
 B1 T call l.toArray (fun i=>base+Bb (l.take i)) (List.range' pre.length rest.length) F M K'
 | [],pre,F,M,hl,h=>hK _ _ h
 |o::rest,pre,F,M,hl,h=>by
  have hi:l.toArray[pre.length]?=some o:=by rw[hl];simp
  have ht:l.take pre.length=pre:=by rw[hl];simp
  have ih:∀F M,Ak T call l.toArray rest (base+Bb pre+Cc o) F M K->B1 T call l.toArray (fun i=>base+Bb (l.take i)) (List.range' (pre.length+1) rest.length) F M K' :=fun F M h=>by
   have:=Kp hm hK (l:=l) (tl:=tl) (base:=base) rest (pre++[o]) F M (by rw[hl];simp) (by rw[He,Jc,<-Nat.add_assoc];exact h)
   simpa using this
  simp only[List.length_cons,List.range'_succ,B1]
  unfold B5
  simp only[hi,ht]
  simp only[Ak] at h
  have mono:∀F,CX T call o (base+Bb pre) F M (fun F' M' =>Ak T call l.toArray rest (base+Bb pre+Cc o) F' M' K)->CX T call o (base+Bb pre) F M (fun F' M' =>B1 T call l.toArray (fun i=>base+Bb (l.take i)) (List.range' (pre.length+1) rest.length) F' M' K'):=fun F h=>
   Ef (call:=call) (call' :=call) (fun f args M K K' hk h=>hm f args M K K' (fun r M h=>hk _ _ h) h) (fun F M h=>ih F M h) h
  unfold Gd
  split at h
  .rename_i hg
   simp only[hg]
   exact mono _ h
  .rename_i j want hg
   simp only[hg]
   split at h
   .rename_i d hd
    simp only[hd]
    unfold gK at h
    split at h
    .rename_i b hF
     simp only[hF]
     by_cases hb:b=want
     .simp only[hb,beq_self_eq_true]
      have:=h.1 hb
      simp only at this
      rw[Gx F d _ (by rw[hF,hb])] at this
      exact mono _ this
     .have e:(b==want)=false:=by simpa using hb
      simp only[e]
      have hbn:b= !want:=by cases b<;>cases want<;>simp_all
      have:=h.2 hbn
      simp only at this
      rw[Gx F d _ (by rw[hF,hbn])] at this
      exact ih _ _ this
    .rename_i hF
     simp only[hF]
     rw[Gx F d _ hF] at h
     exact ih _ _ h
    .exact h.elim
   .exact h.elim
end
section
variable {P:Program} {L:Bool} {T:Nat->Option TI} {sl:Nat->Nat} {K:Fr->List Ag->Prop}
theorem YP {C:Bn} {m:Nat} (hC:C.P=P) (tk:BI P T) {l:List Oper} (hops:∀(k:Nat) (o:Oper),l.toArray[k]?=some o->By C.n o=true) (hml:m<=l.length) (hd:∀(i k:Nat) (oi ok:Oper),l.toArray[i]?=some oi->l.toArray[k]?=some ok->(∀p∈BV oi,p<i)/\(k<i->(i<m/\Em L l.toArray ok oi=true)\/∀S,Ih l.toArray S->(∀p∈BV oi,S p)->S k)) (hc5:∀(k:Nat) (o:Oper),l.toArray[k]?=some o->AF o.op<=5)
 (hsl:∀(i k:Nat) (oi ok:Oper),l.toArray[i]?=some oi->l.toArray[k]?=some ok->Bf oi.op=true->Bf ok.op=true->i≠k->sl i≠sl k) {Q' :Exit->Act->World->Prop} (hQ:∀F M a w,K F M->C1 C F M a w->Q' .normal a w):
 ∀(fuel:Nat) (listed:Array Bool) (rem:List Nat) (F:Fr) (M:List Ag) (a:Act) (w:World),rem=(List.range m).filter (fun i=> !listed.getD i true)->rem.length+(l.length-m)<=fuel->(∀i,m<=i->listed.getD i false=false)->listed.size=l.length->Ih l.toArray (fun i=>listed.getD i false=true)->
 (∀j oj,l.toArray[j]?=some oj->Bf oj.op=true->sl j<M.length)->B1 T (Ah P L) l.toArray sl rem F M (fun F M=>∃F' M',CD C F M F' M' /\B1 T (Ab P) l.toArray sl (List.range' m (l.length-m)) F' M' K)->C1 C F M a w->wpAnyIn (FX C) 0 C.P .any l.toArray Q' fuel listed a w:=by
 intro fuel
 have hready:∀(listed:Array Bool) i,i∈Region.ready .any l.toArray listed->i<l.length/\listed.getD i true=false/\∀o,l.toArray[i]?=some o->∀p∈BV o,listed.getD p false=true:=by
  intro listed i hi
  simp only[Region.ready,List.mem_filter,List.mem_range,Bool.and_eq_true] at hi
  obtain⟨h1,h2,h3⟩:=hi
  refine⟨by simpa using h1,by simpa using h2,fun o ho p hp=>?_⟩
  rw[ho] at h3
  simp only[Option.map_some,Option.getD_some] at h3
  simp only[BV,List.mem_map,List.mem_filter] at hp
  obtain⟨e,⟨he,hb⟩,rfl⟩:=hp
  have h4:=Array.all_eq_true'.1 h3 e (by simpa using he)
  simp only[hb,Bool.not_true,Bool.false_or] at h4
  exact h4
 have hleast:∀(listed:Array Bool) (i:Nat),listed.size=l.length->i<l.length->listed.getD i true=false->(∀p,p<i->listed.getD p false=true)->i∈Region.ready .any l.toArray listed:=by
  intro listed i hsz hlt hi hmin
  have hi2:l.toArray[i]?=some l[i]:=by simp[hlt]
  simp only[Region.ready,List.mem_filter,List.mem_range,Bool.and_eq_true]
  refine⟨by simpa using hlt,by simp[hi],?_⟩
  rw[hi2]
  simp only[Option.map_some,Option.getD_some]
  rw[Array.all_eq_true']
  intro e he
  cases hb:Region.binds .any e with
  |false=>rfl
  |true=>
   simp only[Bool.not_true,Bool.false_or]
   refine hmin _ ((hd i i _ _ hi2 hi2).1 _ ?_)
   simp only[BV,List.mem_map,List.mem_filter]
   exact⟨e,⟨by simpa using he,hb⟩,rfl⟩
 have hstep:∀(listed:Array Bool) (i:Nat),listed.size=l.length->i<l.length->∀t,(listed.setIfInBounds i true).getD t false=true↔t=i\/listed.getD t false=true:=by
  intro listed i hsz hil t
  have hil:i<listed.size:=by rw[hsz];exact hil
  by_cases e:t=i
  .subst e;simp[Array.getD,hil]
  .have:¬i=t:=fun h=>e h.symm
   by_cases htl:t<listed.size
   .simp[Array.getD,htl,e,this,Array.getElem_setIfInBounds]
   .simp[Array.getD,htl,e]
 have hTF:∀(listed:Array Bool) t,listed.size=l.length->t<l.length->(listed.getD t true=false↔¬listed.getD t false=true):=by
  intro listed t hsz ht
  have:t<listed.size:=by omega
  simp[Array.getD,this]
 have chain:∀(fuel:Nat) (listed:Array Bool) (j:Nat) (F:Fr) (M:List Ag) (a:Act) (w:World),m<=j->j<=l.length->l.length-j<=fuel->listed.size=l.length->(∀t,listed.getD t false=true↔t<j)->
  B1 T (Ab P) l.toArray sl (List.range' j (l.length-j)) F M K->C1 C F M a w->wpAnyIn (FX C) 0 C.P .any l.toArray Q' fuel listed a w:=by
  intro fuel
  induction fuel with
  |zero=>
   intro listed j F M a w hmj hjl hf hsz hls h r
   have hj:j=l.length:=by omega
   subst hj
   rw[Nat.sub_self] at h
   refine⟨?_,hQ _ _ _ _ h r⟩
   apply Classical.byContradiction
   intro hne
   obtain⟨i,hi⟩:=List.exists_mem_of_ne_nil _ hne
   have h1:=hready listed i hi
   exact((hTF listed i hsz h1.1).1 h1.2.1) ((hls i).2 h1.1)
  |succ fuel ih=>
   intro listed j F M a w hmj hjl hf hsz hls h r
   refine⟨fun hr=>?_,fun i hi=>?_⟩
   .have hj:j=l.length:=by
     apply Classical.byContradiction
     intro hne
     have:=hleast listed j hsz (by omega) ((hTF listed j hsz (by omega)).2 fun e=>by have:=(hls j).1 e;omega) (fun p hp=>(hls p).2 hp)
     rw[hr] at this;simp at this
    subst hj
    rw[Nat.sub_self] at h
    exact hQ _ _ _ _ h r
   .have h1:=hready listed i hi
    have hij:i=j:=by
     have hge:¬i<j:=fun hlt=>((hTF listed i hsz h1.1).1 h1.2.1) ((hls i).2 hlt)
     apply Classical.byContradiction
     intro hne
     have hlt:j<i:=by omega
     have hjm:j<l.length:=by omega
     rcases(hd i j _ _ (show l.toArray[i]?=some (l[i]'h1.1) by simp[h1.1]) (show l.toArray[j]?=some (l[j]'hjm) by simp[hjm])).2 hlt with⟨h,_⟩ |h
     .omega
     .have:=h (fun t=>listed.getD t false=true) (fun t o ho ht p hp=>by
       have ht' :=(hls t).1 ht
       show listed.getD p false=true
       rw[hls]
       have:=(hd t t o o ho ho).1 p hp
       omega) (h1.2.2 _ (by simp[h1.1]))
      have:=(hls j).1 this
      omega
    subst hij
    have hi2:l.toArray[i]?=some (l[i]'h1.1):=by simp[h1.1]
    rw[show l.length-i=(l.length-(i+1))+1 by omega,List.range'_succ] at h
    refine Wn (call:=Ab P) (fun f args M K K' hk hc=>(hc C hC).mono hk) (hC ▸ tk) hi2 hops (fun F' M' a' w' hk r' =>?_) h r
    exact ih _ (i+1) F' M' a' w' (by omega) (by omega) (by omega) (by simpa using hsz) (fun t=>by rw[hstep listed i hsz h1.1 t,hls];omega) hk r'
 induction fuel with
 |zero=>
  intro listed rem F M a w hrem hlen hlt hsz hcl hsm h r
  have hr0:rem=[]:=by
   have:rem.length=0:=by omega
   simpa using this
  subst hr0
  obtain⟨F',M',hw,h⟩:=h
  refine chain 0 listed m F' M' a w (Nat.le_refl _) hml (by simp at hlen;omega) hsz (fun t=>⟨fun ht=>?_,fun ht=>?_⟩) h (hw a w r)
  .apply Classical.byContradiction
   intro hn
   rw[hlt t (by omega)] at ht;simp at ht
  .apply Classical.byContradiction
   intro hn
   have:t∈(List.range m).filter (fun i=> !listed.getD i true):=List.mem_filter.2 ⟨by simpa using ht,by simp[(hTF listed t hsz (by omega)).2 hn]⟩
   rw[<-hrem] at this;simp at this
 |succ fuel ih=>
  intro listed rem F M a w hrem hlen hlt hsz hcl hsm h r
  by_cases hr0:rem=[]
  .subst hr0
   obtain⟨F',M',hw,h⟩:=h
   refine chain (fuel+1) listed m F' M' a w (Nat.le_refl _) hml (by simp at hlen;omega) hsz (fun t=>⟨fun ht=>?_,fun ht=>?_⟩) h (hw a w r)
   .apply Classical.byContradiction
    intro hn
    rw[hlt t (by omega)] at ht;simp at ht
   .apply Classical.byContradiction
    intro hn
    have:t∈(List.range m).filter (fun i=> !listed.getD i true):=List.mem_filter.2 ⟨by simpa using ht,by simp[(hTF listed t hsz (by omega)).2 hn]⟩
    rw[<-hrem] at this;simp at this
  refine⟨fun hr=>?_,fun i hi=>?_⟩
  .exfalso
   obtain⟨i,rest,hir⟩:=List.exists_cons_of_ne_nil hr0
   have hmem:i∈rem:=by rw[hir];simp
   have hpw:rem.Pairwise (·<·):=by rw[hrem];exact(Eu _).filter _
   have hmem' :=List.mem_filter.1 (hrem ▸ hmem)
   have him:i<m:=by simpa using hmem'.1
   have hmin:∀p,p<i->listed.getD p false=true:=by
    intro p hp
    apply Classical.byContradiction
    intro hno
    have:p∈rem:=by
     rw[hrem]
     exact List.mem_filter.2 ⟨by simp;omega,by simp[(hTF listed p hsz (by omega)).2 hno]⟩
    rw[hir] at this hpw
    rcases List.mem_cons.1 this with h|h
    .omega
    .have:=(List.pairwise_cons.1 hpw).1 p h;omega
   have:=hleast listed i hsz (by omega) (by simpa using hmem'.2) hmin
   rw[hr] at this;simp at this
  .have h1:=hready listed i hi
   have hi2:l.toArray[i]?=some (l[i]'h1.1):=by simp[h1.1]
   have him:i<m:=by
    apply Classical.byContradiction
    intro hge
    obtain⟨k,rest,hkr⟩:=List.exists_cons_of_ne_nil hr0
    have hkm:k∈rem:=by rw[hkr];simp
    have hk' :=List.mem_filter.1 (hrem ▸ hkm)
    have hkm:k<m:=by simpa using hk'.1
    rcases(hd i k _ _ hi2 (show l.toArray[k]?=some (l[k]'(by omega)) by simp)).2 (by omega) with⟨h,_⟩ |h
    .omega
    .have h3:=h _ hcl (h1.2.2 _ hi2)
     exact((hTF listed k hsz (by omega)).1 (by simpa using hk'.2)) h3
   have hmem:i∈rem:=by rw[hrem];exact List.mem_filter.2 ⟨by simpa using him,by simp[h1.2.1]⟩
   obtain⟨pre,post,hpp⟩:=List.append_of_mem hmem
   have hsorted:rem.Pairwise (·<·):=by rw[hrem];exact(Eu _).filter _
   rw[hpp] at hsorted
   have hs1:=List.pairwise_append.1 hsorted
   have hprelt:∀k∈pre,k<i:=fun k hk=>hs1.2.2 k hk i (by simp)
   have hpostgt:∀k∈post,i<k:=(List.pairwise_cons.1 hs1.2.1).1
   have hpull:=VW (n:=C.n) (sl:=sl) (L:=L) (F:=F) (M:=M) tk hops hsl hi2 pre post (fun k hk=>Nat.ne_of_lt (hprelt k hk)) (fun k hk ok hok=>?_) (fun ha=>hsm i _ hi2 ha) ⟨C,a,w,hC,rfl,r⟩ (by rw[<-hpp];exact h)
   .refine LG hC (hC ▸ tk) hi2 hops (fun F' M' a' w' hk r' =>?_) (Jb hops hc5 hpull) r
    refine ih _ (pre++post) F' M' a' w' ?_ ?_ ?_ (by simpa using hsz) ?_ (fun j oj hj ha=>Nat.lt_of_lt_of_le (hsm j oj hj ha) hk.2) hk.1 r'
    .have:(List.range m).filter (fun t=> !(listed.setIfInBounds i true).getD t true)=((List.range m).filter (fun t=> !listed.getD t true)).filter (fun t=>t !=i):=by
      rw[List.filter_filter]
      refine List.filter_congr fun t ht=>?_
      have htl:t<listed.size:=by rw[hsz];have:t<m:=by simpa using ht
                                 omega
      by_cases e:t=i
      .subst e;simp[Array.getD,htl]
      .have:¬i=t:=fun h=>e h.symm
       simp[Array.getD,htl,e,this,Array.getElem_setIfInBounds]
     rw[this,<-hrem,hpp,List.filter_append,List.filter_cons]
     simp only[bne_self_eq_false,Bool.false_eq_true,if_false]
     rw[List.filter_eq_self.2 (fun k hk=>by simp;exact Nat.ne_of_lt (hprelt k hk)),List.filter_eq_self.2 (fun k hk=>by simp;exact(Nat.ne_of_gt (hpostgt k hk)))]
    .rw[hpp] at hlen
     simp at hlen |-
     omega
    .intro t ht
     apply Classical.byContradiction
     intro hn
     have hn' :(listed.setIfInBounds i true).getD t false=true:=by simpa using hn
     rw[hstep listed i hsz h1.1 t] at hn'
     rcases hn' with h|h
     .omega
     .rw[hlt t ht] at h;simp at h
    .intro k o hk hlist p hp
     rw[hstep listed i hsz h1.1] at hlist |-
     rcases hlist with rfl|hlist
     .exact .inr (h1.2.2 o hk p hp)
     .exact .inr (hcl k o hk hlist p hp)
   .have hkrem:k∈rem:=by rw[hpp];simp[hk]
    have hkm:=List.mem_filter.1 (hrem ▸ hkrem)
    rcases(hd i k _ ok hi2 hok).2 (hprelt k hk) with h|h
    .exact h.2
    .exfalso
     have h3:=h _ hcl (h1.2.2 _ hi2)
     have hkl:k<l.length:=by have:=hprelt k hk;omega
     exact((hTF listed k hsz hkl).1 (by simpa using hkm.2)) h3
end
def SM (L:Bool) (m:Nat) (l:List Oper):Bool:=ID (fun _ ok i oi=>decide (i<m)&&Em L l.toArray ok oi) l.toArray l [] [] 0&&(decide (m<=l.length)&&l.all fun o=>decide (AF o.op<=5))
theorem W.regdT {P:Program} {T:Nat->Option TI} {p:Nat} {F:Fr} {M:List Ag} {Q:Cn} {id:Nat} {l:List Oper} (n m:Nat) (hn:Bb l=n) (L:Bool) (hp:P.follows .mixedOrders=true) (hd:SM L m l=true)
 (h:∀K:Fr->List Ag->Prop,(∀F M,Q .normal F M->K F M)->Ak T (Ah P L) l.toArray (l.take m) M.length F (M++List.replicate n .free) fun F' M' =>∃F₁ M₁,Wk p F' M' F₁ M₁/\Ak T (Ab P) l.toArray (l.drop m) (M.length+Bb (l.take m)) F₁ M₁ K):W P T p (.region id l.toArray true) F M Q:=by
 intro tk C hC hp' hb a w r
 simp only[SM,Bool.and_eq_true] at hd
 simp only[CY] at hb
 subst hn
 have hops:∀(k:Nat) (o:Oper),l.toArray[k]?=some o->By C.n o=true:=fun k o ho=>by
  refine List.all_eq_true.1 hb o ?_
  rw[<-Array.getElem?_toList] at ho
  exact List.mem_of_getElem? ho
 have hc5:∀(k:Nat) (o:Oper),l.toArray[k]?=some o->AF o.op<=5:=fun k o ho=>by
  have:=List.all_eq_true.1 hd.2.2 o (List.mem_of_getElem? (by simpa using ho))
  simpa using this
 have hml:m<=l.length:=by simpa using hd.2.1
 refine wpIn_region_any (hC ▸ hp) ?_
 obtain⟨σ,own,R⟩:=r
 have hm1:∀f args M (K K' :AV->List Ag->Prop),(∀r M,K r M->K' r M)->Ah P L f args M K->Ah P L f args M K' :=fun f args M K K' hk h=>Ah.mono (fun r bs h=>hk _ _ h) h
 have hm2:∀f args M (K K' :AV->List Ag->Prop),(∀r M,K r M->K' r M)->Ab P f args M K->Ab P f args M K' :=fun f args M K K' hk h C hC=>(h C hC).mono hk
 have hlt:(l.take m).length=m:=by simp;omega
 have h' :=Kp (call:=Ah P L) hm1 (K' :=fun F' M' =>∃F₁ M₁,CD C F' M' F₁ M₁/\B1 T (Ab P) l.toArray (fun i=>M.length+Bb (l.take i)) (List.range' m (l.length-m)) F₁ M₁ (Q .normal)) (fun F' M' hk=>by
  obtain⟨F₁,M₁,hw,hk⟩:=hk
  have:=Kp (call:=Ab P) hm2 (K' :=Q .normal) (fun _ _ h=>h) (l:=l) (tl:=[]) (base:=M.length) (l.drop m) (l.take m) F₁ M₁ (by simp) hk
  rw[hlt,List.length_drop] at this
  exact⟨F₁,M₁,hw C hp',this⟩) (l:=l) (tl:=l.drop m) (base:=M.length) (l.take m) [] F _ (by simp) (h _ fun _ _ h=>h)
 rw[hlt] at h'
 refine YP (m:=m) (l:=l) (L:=L) hC tk hops hml (fun i k oi ok hi hk=>?_) hc5 (sl:=fun i=>M.length+Bb (l.take i)) (fun i k oi ok hi hk ha ha' hne=>?_) (K:=Q .normal) (Q' :=aq C Q) (fun F M a w h r=> .inl ⟨F,M,h,r⟩) l.toArray.size (Array.replicate l.toArray.size false) (List.range' 0 m) F _ a w.drew ?_ ?_ ?_ ?_ ?_ ?_ h' ⟨σ,own,(R.grow _).drew⟩
 .have:=HB (ops:=l.toArray) l [] [] [] (by simp) rfl (fun t m h=>by simp at h) (fun k o _ h=>by simp at h) hd.1 i k oi ok hi hk (Nat.zero_le _)
  refine⟨this.1,fun hlt=>?_⟩
  rcases this.2 hlt with h|h
  .simp only[Bool.and_eq_true,decide_eq_true_eq] at h
   exact .inl h
  .exact .inr h
 .have s1:Cc oi=1:=by simp[Cc,ha]
  have s2:Cc ok=1:=by simp[Cc,ha']
  rcases Nat.lt_or_gt_of_ne hne with h|h
  .have:=Dt (l:=l) (by simpa using hi) h
   omega
  .have:=Dt (l:=l) (by simpa using hk) h
   omega
 .rw[<-List.range_eq_range']
  symm
  rw[List.filter_eq_self]
  intro t ht
  have:t<l.length:=by have:t<m:=by simpa using ht
                      omega
  simp[Array.getD,this]
 .simp;omega
 .intro i _
  simp[Array.getD]
 .simp
 .intro i o ho hl
  simp[Array.getD] at hl
 .intro j oj hj ha
  have s1:Cc oj=1:=by simp[Cc,ha]
  have hjl:j<l.length:=by
   rcases Nat.lt_or_ge j l.length with h|h
   .exact h
   .rw[show l.toArray[j]?=l[j]? by simp,List.getElem?_eq_none h] at hj;simp at hj
  have:=Dt (l:=l) (by simpa using hj) hjl
  rw[List.take_length] at this
  simp only[List.length_append,List.length_replicate]
  omega
theorem W.regdS {P:Program} {T:Nat->Option TI} {p:Nat} {F:Fr} {M:List Ag} {Q:Cn} {id:Nat} {l:List Oper} (n m:Nat) (hn:Bb l=n) (L:Bool) (hp:P.follows .mixedOrders=true) (hd:SM L m l=true)
 (h:∀K:Fr->List Ag->Prop,(∀F M,Q .normal F M->K F M)->Ak T (Ah P L) l.toArray (l.take m) M.length F (M++List.replicate n .free) fun F' M' =>Ak T (Ab P) l.toArray (l.drop m) (M.length+Bb (l.take m)) F' M' K):W P T p (.region id l.toArray true) F M Q:=
 W.regdT n m hn L hp hd fun K hK=>D4 (call:=Ah P L) (call' :=Ah P L) (fun f args M K K' hk h=>Ah.mono (fun r bs h=>hk _ _ h) h) (fun F' M' (h:Ak T (Ab P) l.toArray (l.drop m) (M.length+Bb (l.take m)) F' M' K)=>⟨F',M',Wk.refl,h⟩) _ _ _ _ (h K hK)
def Rt (M:List Ag):AV->AV
 | .own _ 0 []=> .own 1 0 []
 |x=>vw M x
section
variable {P:Program} {f:Nat} {M:List Ag} {args cargs:List AV} {K:AV->List Ag->Prop} {Q:AV->List Ag->Prop}
theorem am {w:World} {sh shB:Nat->Prop} {σ:Nat->Nat->Option St} {own:Nat->Option Nat} (m:B7 w sh σ own M) (hs:∀g,sh g->shB g) (ho:∀g,own g≠none->g<w.heap.size->shB g) {x:AV} {v:Value} (h:VR w sh σ x v (fun _=>0)):VR w shB σ0 (Rt M x) v (fun _=>0):=by
 unfold Rt
 split
 .simp only[VR] at h |-
  rcases h with⟨ha,_⟩ | ⟨hh,b,c,cur,e',fp',_,_,_,_,_,_,_,hff⟩
  .exact .inl ⟨ha,trivial,trivial,fun _=>trivial⟩
  .have:=hff hh
   simp at this
   omega
 .exact Si m hs ho h
theorem Ab.borN (spec:Aa P f cargs [] Q) (hargs:args.map (Rt M)=cargs) (hk:∀r,Q r []->Gc r=true/\K (D5 M.length r).1 (M++(D5 M.length r).2)):Ab P f args M K:=by
 intro C hC
 subst hC
 refine⟨spec.1,fun F a w σ own vals R hv=>?_⟩
 have hv' :Aw w (fun g=>C.sh g\/(own g≠none/\g<w.heap.size)) σ0 cargs vals.toList (fun _=>0):=by
  rw[<-hargs]
  have:=Fp (w:=w) (sh:=C.sh) (shB:=fun g=>C.sh g\/(own g≠none/\g<w.heap.size)) (σ:=σ) (τ:=σ0) (f:=Rt M) (p:=fun fp=>∀g,fp g=0) (fun a b c hc e=>⟨fun g=>by have:=e g;have:=hc g;omega,fun g=>by have:=e g;have:=hc g;omega⟩) (fun x v fp h hf=>by
   have:fp=fun _=>0:=funext hf
   subst this
   exact am R.mem (fun g hg=> .inl hg) (fun g hg hlt=> .inr ⟨hg,hlt⟩) h)
  exact this _ _ _ hv (fun _=>rfl)
 refine(spec.2 w _ σ0 (fun _=>none) vals hv' (Gw _ _) (fun g hg=>⟨rfl,?_⟩)).mono ?_
 .rcases hg with hg|hg
  .exact(R.shr g hg).2
  .exact hg.2
 .rintro e w' ⟨r,v,M',σ',own',fpr,rfl,hq,hl,hr,hf,hm,_,he,_⟩
  have:M' =[]:=List.eq_nil_of_length_eq_zero (by simpa using hl)
  subst this
  obtain⟨h1,h2⟩:=hk r hq
  have hσ:σ' =σ0:=by funext T u;exact hm.key T u (Nat.zero_le _)
  subst hσ
  obtain⟨σ2,own2,R2,r2⟩:=Ke R he (Mv r v fpr h1 hr) hf
  exact⟨_,v,_,σ2,own2,rfl,h2,R2,r2⟩
theorem Ab.eqN {v:AV} (spec:Aa P f cargs [] fun r _=>r=v) (hargs:args.map (Rt M)=cargs) (hr:Gc v=true) (hk:K (D5 M.length v).1 (M++(D5 M.length v).2)):Ab P f args M K:=
 Ab.borN spec hargs fun r e=>by subst e;exact⟨hr,hk⟩
end
theorem CD.move {C:Bn} {F F' :Fr} {M:List Ag} {j u t s off n:Nat} {xs:List AV} (hp:C.p<=j) (hj:M[j]?=some (.live u xs)) (ht:F t= .tok j u s off n)
 (hF:∀t',F' t' =F t' \/F' t' = .any\/(t' =t/\F' t' = .tok M.length 0 s off n)):CD C F M F' (M.set j .dead++[.live 0 xs]):=by
 rintro a w ⟨σ,own,R⟩
 have hjl:j<M.length:=(List.getElem?_eq_some_iff.1 hj).1
 obtain⟨fpB,hB,hfB⟩:=R.mem.blk j _ hj
 let σ' :Nat->Nat->Option St:=fun T x=>if T=M.length then(if x=0 then σ j u else none) else σ T x
 let own' :Nat->Option Nat:=fun g=>if own g=some j then some M.length else own g
 have keep:∀T x st,σ T x=some st->σ' T x=some st:=fun T x st h=>by
  have:T≠M.length:=fun e=>by rw[R.mem.key T x (by omega)] at h;simp at h
  simp only[σ',this,if_false];exact h
 have L:Cb w w C.sh C.sh σ σ' :=⟨fun _ _=>rfl,fun _ h=>h,fun T x st h=> .inl (keep T x st h)⟩
 have hne:∀T x,T≠M.length->σ' T x=σ T x:=fun T x h=>by simp only[σ',h,if_false]
 refine⟨σ',own',R.size,R.dfr,fun t' ht' =>?_,⟨fun T B hT=>?_,fun T x hT=>?_⟩,fun g hg=>?_,?_,R.keyl L⟩
 .rcases hF t' with h|h| ⟨rfl,h⟩
  .rw[h];exact VR.later L _ _ _ (fun _ _=>rfl) (R.tmp t' ht')
  .rw[h];intro g;rfl
  .have h1:=R.tmp t' ht'
   rw[ht] at h1
   rw[h]
   simp only[VR] at h1 |-
   obtain⟨h2,h3,st,h4,h5,h6⟩:=h1
   exact⟨h2,h3,st,by simp only[σ',if_true];exact h4,h5,h6⟩
 .by_cases hTl:T<M.length
  .rw[List.getElem?_append_left (by simpa using hTl)] at hT
   by_cases e:j=T
   .subst e
    rw[List.getElem?_set_self hjl] at hT
    simp at hT;subst hT
    exact⟨fun _=>0,fun _=>rfl,fun _=>Nat.zero_le _⟩
   .rw[List.getElem?_set_ne e] at hT
    obtain⟨fp,b1,b2⟩:=R.mem.blk T B hT
    refine⟨fp,EG L (fun _ _=>rfl) (fun v=>hne T v (by omega)) b1,fun g=>?_⟩
    have:=b2 g
    split at this
    .rename_i eg
     have:own' g=some T:=by
      have:¬own g=some j:=by rw[eg];simp;omega
      simp only[own',this,if_false];exact eg
     rw[if_pos this];assumption
    .omega
  .rw[List.getElem?_append_right (by simpa using Nat.le_of_not_lt hTl)] at hT
   simp only[List.length_set] at hT
   have hTe:T=M.length:=by
    rcases Nat.lt_or_ge (T-M.length) 1 with h|h
    .omega
    .rw[List.getElem?_eq_none (by simpa using h)] at hT;simp at hT
   subst hTe
   simp at hT;subst hT
   refine⟨fpB,?_,fun g=>?_⟩
   .simp only[BR] at hB |-
    refine⟨fun v' hv' =>by have:¬v' =0:=by omega
                           simp only[σ',if_true,this,if_false],?_⟩
    rcases hB.2 with⟨h1,h2,h3⟩ | ⟨h,b,cur,e,fp',h1,h2,h3,h4,h5⟩
    .exact .inl ⟨by simp only[σ',if_true];exact h1,h2,h3⟩
    .exact .inr ⟨h,b,cur,e,fp',by simp only[σ',if_true];exact h1,h2,h3,Aw.later L _ _ _ (fun _ _=>rfl) h4,h5⟩
   .have:=hfB g
    split at this
    .rename_i eg
     have:own' g=some M.length:=by simp only[own',eg,if_true]
     rw[if_pos this];assumption
    .omega
 .simp at hT
  have:T≠M.length:=by omega
  rw[hne T x this];exact R.mem.key T x (by omega)
 .have h2:=R.shr g hg
  have:¬own g=some j:=by rw[h2.1];simp
  simp only[own',this,if_false];exact h2
 .refine⟨R.ext.os,R.ext.tape,R.ext.output,R.ext.size,R.ext.block,fun g hg=>R.ext.own g ?_⟩
  simp only[own'] at hg
  split at hg
  .rename_i e;rw[e];simp
  .exact hg
theorem Wk.move {p:Nat} {F:Fr} {M:List Ag} {j u t s off n:Nat} {xs:List AV} {S:List (Nat×AV)} (hj:M[j]?=some (.live u xs)) (ht:F t= .tok j u s off n) (hp:p<=j) (h:Ad F S):
 Wk p F M (Abs.fr ((t,.tok M.length 0 s off n)::S)) (M.set j .dead++[.live 0 xs]):=fun C hC=>CD.move (by omega) hj ht fun t' =>by
 by_cases e:t' =t
 .subst e;exact .inr (.inr ⟨rfl,by simp[Abs.fr,Bg]⟩)
 .have e2:Abs.fr ((t,.tok M.length 0 s off n)::S) t' =Abs.fr S t' :=by simp[Abs.fr,Bg,e]
  rw[e2]
  rcases Kk F S h t' with h|h
  .exact .inl h
  .exact .inr (.inl h)
section
variable {C:Bn} {w:World} {σ:Nat->Nat->Option St} {own:Nat->Option Nat} {M:List Ag} {F:Fr} {a:Act} {T:Nat->Option TI}
theorem Ru (R:AK C F M a w σ own) {B u h b sz:Nat} {cs:List AV} (hb:Aj M B u=some cs) (hs:σ B u=some (.loc h b sz)):∃cur e,sz=cur.size/\own h=some B/\w.heap[h]?=some (.cells cur e (0,0))/\b+cs.length<=cur.size:=by
 obtain⟨hM,fp,hB,hf⟩:=BS R.mem hb
 simp only[BR] at hB
 rcases hB.2 with⟨h1,_,_⟩ | ⟨h',b',cur,e,fp',h1,h2,h3,h4,h5⟩
 .rw[h1] at hs;simp at hs
 .rw[h1] at hs;simp at hs
  obtain⟨rfl,rfl,rfl⟩:=hs
  refine⟨cur,e,rfl,?_,h2,h3⟩
  have:=hf h';have h6:=h5 h';simp at h6
  split at this
  .assumption
  .omega
theorem AK.rows (R:AK C F M a w σ own) {B u h b:Nat} {cs ys:List AV} {news:List Value} {cur:Array Value} {e:TypeId} (hb:Aj M B u=some cs) (hs:σ B u=some (.loc h b cur.size)) (ho:own h=some B) (hh:w.heap[h]?=some (.cells cur e (0,0))) (hbl:b+cs.length<=cur.size) (off:Nat)
 (hv:Aw w C.sh σ ys news (fun _=>0)) (hle:off+ys.length<=cs.length):AK C F (M.set B (.live u (CP cs off ys))) a (w.setRow h (cur.toList.take (b+off)++news++cur.toList.drop (b+off+news.length)).toArray) σ own:=by
 have hnl:=BF hv
 refine I6 R hb hs ho hh ?_ (cs' :=CP cs off ys) (by rw[Ed];exact hbl) ?_
 .simp;omega
 .intro fp hv2
  obtain⟨fp',h5,h6⟩:=HV ys off hv2 hv
  refine⟨fp',?_,h6⟩
  have hlen:((cur.toList.drop b).take cs.length).length=cs.length:=by simp;omega
  rw[KQ _ _ _ (by rw[hlen,hnl];omega)] at h5
  rw[Ed]
  have:=GK cur.toList news b off cs.length (by simpa using hbl) (by rw[hnl];exact hle)
  rw[show(cur.toList.take (b+off)++news++cur.toList.drop (b+off+news.length)).toArray.toList=cur.toList.take (b+off)++news++cur.toList.drop (b+off+news.length) from rfl,this]
  exact h5
theorem PV {ys:List AV} (h:ys.all Da=true):ys.all BO=true:=by
 rw[List.all_eq_true] at h |-
 intro c hc
 have:=h c hc
 simp[Da] at this;exact this.2
theorem AK.appRoom (tk:BI C.P T) (R:AK C F M a w σ own) {t ty e s eb:Nat} {ez:List AV} (htd:Ar T t= .slice e s eb ez) {B u h b sz n c:Nat} {cs ys:List AV} (hb:Aj M B u=some cs) (hs:σ B u=some (.loc h b sz)) {y:Value} {ya:AV} (hy:VR w C.sh σ ya y (fun _=>0))
 {m:Nat} (hyc:C2 M ya=some (m,ys)) (hyl:ys.length=m*s) (hyo:ys.all Da=true) (hroom:n+m<=c) (hle:(n+m)*s<=cs.length):
 ∃w',(Builtin.append_ #[t,t] ty #[.slice (some ⟨h,b,none⟩) n c,y]).run C.P w= .ok (.slice (some ⟨h,b,none⟩) (n+m) c) w' /\AK C F (M.set B (.live u (CP cs (n*s) ys))) a w' σ own:=by
 obtain⟨hD,E,z,hE,hs1,_⟩:=Cf tk htd
 obtain⟨cur,e',rfl,ho,hh,hbl⟩:=Ru R hb hs
 obtain⟨ad,c2,news,fpy,rfl,hnw,hv⟩:=HM R.mem hy hyc hyl
 have hv0:=IJ hv hyo
 have hnl:news.length=m*s:=by rw[BF hv,hyl]
 have hm:n*s+m*s<=cs.length:=by rw[<-Nat.add_mul];exact hle
 have hrun:=J8 (P:=C.P) (w:=w) t ty e E hD hE h b n c cur e' hh ad m c2 news (by rw[hs1];exact hnl) hnw (ES hv0 (PV hyo)) hroom (by rw[hs1];omega)
 rw[hs1] at hrun
 exact⟨_,hrun,R.rows hb hs ho hh hbl (n*s) hv0 (by omega)⟩
theorem SN (z:Array Value) (n:Nat):(Builtin.zeroCells z n).toList=(List.replicate n z.toList).flatten:=by
 unfold Builtin.zeroCells
 refine List.ext_getElem (by simp) fun i h1 h2=>?_
 have hz:0<z.size:=by
  rcases Nat.eq_zero_or_pos z.size with h|h
  .simp[h] at h1
  .exact h
 have hi:i<n*z.size:=by simpa using h1
 simp only[Array.toList_map,Array.toList_range,List.getElem_map,List.getElem_range]
 induction n generalizing i with
 |zero=>simp at hi
 |succ n ih=>
  simp only[List.replicate_succ,List.flatten_cons]
  by_cases hlt:i<z.size
  .rw[List.getElem_append_left (by simpa using hlt),Nat.mod_eq_of_lt hlt]
   simp[hlt]
  .rw[List.getElem_append_right (by simpa using Nat.le_of_not_lt hlt)]
   have h3:i-z.size<n*z.size:=by rw[Nat.add_mul,Nat.one_mul] at hi;omega
   have:=ih (i-z.size) (by simpa using h3) (by simpa using h3) h3
   have e:(i-z.size)%z.size=i%z.size:=(Nat.mod_eq_sub_mod (Nat.le_of_not_lt hlt)).symm
   rw[e] at this
   simpa using this
theorem AK.clr (tk:BI C.P T) (R:AK C F M a w σ own) {t ty e s eb:Nat} {ez:List AV} (htd:Ar T t= .slice e s eb ez) {B u h b sz n c off:Nat} {cs:List AV} (hb:Aj M B u=some cs) (hs:σ B u=some (.loc h b sz)) (hp:ez.all Da=true) (hn:0<n) (hle:off+n*s<=cs.length):
 ∃w',(Builtin.clear_ #[t] ty #[.slice (some ⟨h,b+off,none⟩) n c]).run C.P w= .ok (.tuple #[]) w' /\AK C F (M.set B (.live u (CP cs off (CF n ez)))) a w' σ own:=by
 obtain⟨hD,E,z,hE,hs1,_,hz,hzs,hzb⟩:=Cf tk htd
 obtain⟨cur,e',rfl,ho,hh,hbl⟩:=Ru R hb hs
 have hz0:=Ik hzb w C.sh σ
 obtain⟨vs,hvs,hv⟩:=KR hz0 n
 have hvl:vs.length=n*s:=by rw[hvs];simp[hzs]
 have hrl:(CF n ez).length=n*s:=by rw[<-BF hv];exact hvl
 have hpr:(CF n ez).all BO=true:=by
  unfold CF
  rw[List.all_eq_true]
  intro x hx
  obtain⟨l,hl,hx⟩:=List.mem_flatten.1 hx
  rw[List.eq_of_mem_replicate hl] at hx
  exact List.all_eq_true.1 (PV hp) x hx
 have hst:=run_storeCells_at C.P h (b+off) e' vs 0 cur w hh (by omega) (ES hv hpr)
 simp only[Nat.add_zero] at hst
 obtain⟨m,rfl⟩:∃m,n=m+1:=⟨n-1,by omega⟩
 refine⟨_,?_,R.rows hb hs ho hh hbl off hv (by omega)⟩
 rw[hvs] at hst |-
 simp[Builtin.clear_,run_underlying hD,zeroValue,typeInfo,hE,hz,SN,hst]
end
section
variable {C:Bn} {w:World} {σ:Nat->Nat->Option St} {own:Nat->Option Nat} {M:List Ag} {F:Fr} {a:Act} {T:Nat->Option TI}
theorem UA (R:AK C F M a w σ own) {t B u s off n:Nat} {cs:List AV} (hn:t<C.n) (hF:F t= .tok B u s off n) (hb:Aj M B u=some cs) (h0:0<n):
 ∃h b sz c,σ B u=some (.loc h b sz)/\a.tmps.getD t undef= .slice (some ⟨h,b+off,none⟩) n c/\n<=c/\c<=maxLen/\b+off+c*s<=sz:=by
 have hx:=R.tmp t hn
 rw[hF] at hx
 obtain⟨_,fp,hB,_⟩:=BS R.mem hb
 simp only[VR] at hx
 obtain⟨_,⟨ad,c,hval⟩,st,hst,hnil,hloc⟩:=hx
 simp only[BR] at hB
 rcases hB.2 with⟨h1,_,_⟩ | ⟨g,b,cur,e',fp',h1,_⟩
 .rw[h1] at hst;simp at hst;subst hst
  have:=(hnil rfl).2.2;omega
 .rw[h1] at hst;simp at hst;subst hst
  obtain⟨a2,c2,e2,e3,e4,e5,e6⟩:=hloc _ _ _ rfl
  have:=e3 (by omega)
  subst this
  exact⟨g,b,cur.size,c2,h1,e2,e4,e5,e6⟩
theorem MB {sh:Nat->Prop} {B u s h b sz off n c:Nat} (hs:σ B u=some (.loc h b sz)) (hn:n<=c) (hc:c<=maxLen) (hz:b+off+c*s<=sz) {ad:Addr} (had:c≠0->ad=⟨h,b+off,none⟩):VR w sh σ (.tok B u s off n) (.slice (some ad) n c) (fun _=>0):=by
 simp only[VR]
 refine⟨by simp,⟨_,_,rfl⟩,_,hs,nofun,fun h' b' sz' e=>?_⟩
 cases e
 exact⟨_,_,rfl,had,hn,hc,hz⟩
theorem WT (tk:BI C.P T) {t e es eb:Nat} {ez:List AV} (htd:Ar T t= .slice e es eb ez) {ad:Option Addr} {n c l h:Nat} {lo hi:Option Nat} (h1:hi.getD n=h) (h2:lo.getD 0=l) (hlh:l<=h) (hhc:h<=c) (w:World):
 (Instr.sliceAt t (.slice ad n c) (lo.map fun x:Nat=>Value.int .i64 (x:Int)) (hi.map fun x:Nat=>Value.int .i64 (x:Int)) none).run C.P w= .ok (.slice (if c=l then ad else ad.map (·.add (l*es))) (h-l) (c-l)) w:=by
 obtain⟨hD,E,z,hE,hs,_⟩:=Cf tk htd
 have hb:(Instr.sliceBounds true n c (lo.map fun x:Nat=>Value.int .i64 (x:Int)) (hi.map fun x:Nat=>Value.int .i64 (x:Int)) none).run C.P w= .ok (l,h,c) w:=by
  unfold Instr.sliceBounds
  cases hi with
  |none=>
   simp at h1;subst h1
   cases lo with
   |none=>simp at h2;subst h2;simp
   |some l' =>
    simp at h2;subst h2
    simp[Instr.sliceBound,asIntOf,hlh]
  |some h' =>
   simp at h1;subst h1
   cases lo with
   |none=>simp at h2;subst h2;simp[Instr.sliceBound,asIntOf,hhc]
   |some l' =>
    simp at h2;subst h2
    simp[Instr.sliceBound,asIntOf,hlh,hhc]
 simp only[Instr.sliceAt,Sem.run_bind,run_underlying hD,Result.andThen_ok,Instr.slice,hb,BZ hE,hs,Sem.run_pure]
theorem ar (tk:BI C.P T) {t e es eb:Nat} {ez:List AV} (htd:Ar T t= .slice e es eb ez) {ad:Option Addr} {n c l h m:Nat} (hlh:l<=h) (hhc:h<=m) (hmc:m<=c) (w:World):
 ∃v,(Instr.sliceAt t (.slice ad n c) (some (.int .i64 l)) (some (.int .i64 h)) (some (.int .i64 m))).run C.P w= .ok v w:=by
 obtain⟨hD,E,z,hE,hs,_⟩:=Cf tk htd
 have hb:(Instr.sliceBounds true n c (some (.int .i64 l)) (some (.int .i64 h)) (some (.int .i64 m))).run C.P w= .ok (l,h,m) w:=by
  unfold Instr.sliceBounds
  simp[Instr.sliceBound,asIntOf,hlh,hhc,hmc]
 simp only[Instr.sliceAt,Sem.run_bind,run_underlying hD,Result.andThen_ok,Instr.slice,hb,BZ hE,hs,Sem.run_pure]
 exact⟨_,rfl⟩
theorem Rv (hrd:C.rd=none) {K:Act->World->Prop} {ops:Array Oper} {i d fuel:Nat} {listed:Array Bool} {o:Oper} {v:Value} {av:AV} (R:AK C F M a w σ own) (ho:ops[i]?=some o) (hd:o.dst=some d) (hg:o.guard=none) (hs:Region.noSelect ops=true) (hf:Region.free .any ops listed i=true) (hr:(Region.ready .any ops listed).contains i=true) (hdn:d<C.n)
 (hv:VR w C.sh σ av v (fun _=>0)) (hrun:∀w,(execOp a.eval o).run C.P w= .ok (.value v) w) (hab:∀w,o.about C.P w a.eval=none) (next:∀a',AK C (Bg F d av) M a' w σ own->a'.tmps.getD d undef=v->(∀t,t≠d->a'.tmps.getD t undef=a.tmps.getD t undef)->wpAnyIn (FX C) 0 C.P .any ops (fun e a w=>e= .normal/\K a w) fuel (listed.setIfInBounds i true) a' w):wpAnyIn (FX C) 0 C.P .any ops (fun e a w=>e= .normal/\K a w) (fuel+1) listed a w:=by
 refine wpAnyIn_take (i:=i) (v:=v) (by simp[FX,hrd]) ho hs hf hr (fun _ _ _ h=>by cases h.1) ⟨.inl ⟨by simp[Region.wanted,hg],hrun⟩,hab⟩ ?_
 rw[hd]
 refine next _ (R.put (some d) hv) ?_ fun t ht=>?_
 .have:=R.size
  simp[Act.put,Array.getD,this,hdn]
 .have:¬d=t:=fun e=>ht e.symm
  by_cases ht:t<a.tmps.size<;>simp[Act.put,Array.getD,ht,Array.getElem_setIfInBounds,this]
theorem H0 (hrd:C.rd=none) {K:Act->World->Prop} {ops:Array Oper} {i d s ty fuel:Nat} {pos:String} {af:Array Edge} {listed:Array Bool} (R:AK C F M a w σ own) (ho:ops[i]?=some {dst:=some d,op:= .move (.tmp s),type:=ty,pos:=pos,after:=af,guard:=none}) (hs:Region.noSelect ops=true) (hf:Region.free .any ops listed i=true) (hr:(Region.ready .any ops listed).contains i=true) (hdn:d<C.n) (hn:s<C.n)
 (next:∀a',AK C (Bg F d (F s)) M a' w σ own->a'.tmps.getD d undef=a.tmps.getD s undef->(∀t,t≠d->a'.tmps.getD t undef=a.tmps.getD t undef)->wpAnyIn (FX C) 0 C.P .any ops (fun e a w=>e= .normal/\K a w) fuel (listed.setIfInBounds i true) a' w):wpAnyIn (FX C) 0 C.P .any ops (fun e a w=>e= .normal/\K a w) (fuel+1) listed a w:=
 Rv hrd R ho rfl rfl hs hf hr hdn (R.tmp s hn) (fun w=>by simp only[execOp];rfl) (fun _=>rfl) next
theorem MC (tk:BI C.P T) (hrd:C.rd=none) {K:Act->World->Prop} {ops:Array Oper} {i d s ty t e es eb fuel B u hp b sz n c l h:Nat} {ez:List AV} {lo hi:Option (Nat×Nat)} {pos:String} {af:Array Edge} {listed:Array Bool} (R:AK C F M a w σ own) (ho:ops[i]?=some {dst:=some d,op:= .slice t (.tmp s) (lo.map fun x=> .tmp x.1) (hi.map fun x=> .tmp x.1) none,type:=ty,pos:=pos,after:=af,guard:=none}) (hs:Region.noSelect ops=true) (hf:Region.free .any ops listed i=true) (hr:(Region.ready .any ops listed).contains i=true) (hdn:d<C.n) (htd:Ar T t= .slice e es eb ez) (hst:σ B u=some (.loc hp b sz)) (hval:a.tmps.getD s undef= .slice (some ⟨hp,b,none⟩) n c) (hcm:c<=maxLen) (hsz:b+c*es<=sz) (hlo:∀x,lo=some x->a.tmps.getD x.1 undef= .int .i64 x.2) (hhi:∀x,hi=some x->a.tmps.getD x.1 undef= .int .i64 x.2)
 (h1:(hi.map fun x=>x.2).getD n=h) (h2:(lo.map fun x=>x.2).getD 0=l) (hlh:l<=h) (hhc:h<=c)
 (next:∀a',AK C (Bg F d (.tok B u es (l*es) (h-l))) M a' w σ own->a'.tmps.getD d undef= .slice (if c=l then some ⟨hp,b,none⟩ else some ⟨hp,b+l*es,none⟩) (h-l) (c-l)->(∀t,t≠d->a'.tmps.getD t undef=a.tmps.getD t undef)->wpAnyIn (FX C) 0 C.P .any ops (fun e a w=>e= .normal/\K a w) fuel (listed.setIfInBounds i true) a' w):wpAnyIn (FX C) 0 C.P .any ops (fun e a w=>e= .normal/\K a w) (fuel+1) listed a w:=by
 have el:(lo.map fun x=>Operand.tmp x.1).map a.eval=(lo.map fun x=>x.2).map fun x:Nat=>Value.int .i64 (x:Int):=by
  cases lo with
  |none=>rfl
  |some x=>simp only[Option.map_some];exact congrArg some (hlo x rfl)
 have eh:(hi.map fun x=>Operand.tmp x.1).map a.eval=(hi.map fun x=>x.2).map fun x:Nat=>Value.int .i64 (x:Int):=by
  cases hi with
  |none=>rfl
  |some x=>simp only[Option.map_some];exact congrArg some (hhi x rfl)
 have e1:a.eval (.tmp s)= .slice (some ⟨hp,b,none⟩) n c:=hval
 have hrun:=WT tk htd (ad:=some ⟨hp,b,none⟩) h1 h2 hlh hhc
 have hv:VR w C.sh σ (.tok B u es (l*es) (h-l)) (.slice (if c=l then some ⟨hp,b,none⟩ else some ⟨hp,b+l*es,none⟩) (h-l) (c-l)) (fun _=>0):=by
  have hz:b+l*es+(c-l)*es<=sz:=by
   rw[Nat.add_assoc,<-Nat.add_mul,Nat.add_sub_cancel' (by omega)];exact hsz
  split
  .exact MB hst (by omega) (by omega) hz (by omega)
  .exact MB hst (by omega) (by omega) hz (fun _=>rfl)
 refine Rv hrd R ho rfl rfl hs hf hr hdn hv (fun w=>?_) (fun _=>rfl) next
 have h3:=hrun w
 simp only[execOp,e1,el,eh,Option.map_none,Sem.run_bind]
 rw[h3]
 simp only[Result.andThen_ok,Sem.run_pure]
 split<;>simp[Addr.add]
theorem bH (tk:BI C.P T) (R:AK C F M a w σ own) {t e s eb d tx ty ty' :Nat} {ez:List AV} {pos:String} {af:Array Edge} (htd:Ar T t= .slice e s eb ez) {B u h b sz n c:Nat} {cs ys:List AV} (hb:Aj M B u=some cs) (hs:σ B u=some (.loc h b sz)) (hx:a.tmps.getD tx undef= .slice (some ⟨h,b,none⟩) n c) (hyn:ty<C.n)
 {m:Nat} (hyc:C2 M (F ty)=some (m,ys)) (hyl:ys.length=m*s) (hyo:ys.all Da=true) (hroom:n+m<=c) (hle:(n+m)*s<=cs.length) (hcm:c<=maxLen) (hsz:b+c*s<=sz) {next:Act->World->Prop} {Q:Exit->Act->World->Prop}
 (hdn:d<C.n) (hK:∀a' w',AK C (Bg F d (.tok B u s 0 (n+m))) (M.set B (.live u (CP cs (n*s) ys))) a' w' σ own->a'.tmps.getD d undef= .slice (some ⟨h,b,none⟩) (n+m) c->next a' w'):
 Oper.wpIn (FX C) 0 C.P {dst:=some d,op:= .call {callee:= .builtin .append,args:= #[.tmp tx,.tmp ty],argTypes:= #[t,t]},type:=ty',pos:=pos,after:=af,guard:=none} a w next Q:=by
 obtain⟨w',hrun,R'⟩:=R.appRoom (ty:=ty') tk htd hb hs (R.tmp ty hyn) hyc hyl hyo hroom hle
 have hv:VR w' C.sh σ (.tok B u s 0 (n+m)) (.slice (some ⟨h,b,none⟩) (n+m) c) (fun _=>0):=MB hs hroom hcm hsz (fun _=>rfl)
 refine Oper.wp_value (fun _ h=>by cases h) (v:= .slice (some ⟨h,b,none⟩) (n+m) c) (w' :=w') ?_ (hK _ _ (R'.put (some d) hv) (by have:=R'.size;simp[Act.put,Array.getD,this,hdn]))
 have e2:∀t,a.eval (.tmp t)=a.tmps.getD t undef:=fun _=>rfl
 simp only[execOp,resolve,invoke,builtin,e2,hx,List.map_toArray,List.map_cons,List.map_nil,Sem.run_bind,hrun,Result.andThen_ok,Sem.run_pure]
theorem KS {o:Oper} {d:Nat} (R:AK C F M a w σ own) (hnd:∀c,o.op≠ .defer c) (hd:o.dst=some d) (hdn:d<C.n) {v:Value} {av:AV} (hv:VR w C.sh σ av v (fun _=>0)) (hrun:(execOp a.eval o).run C.P w= .ok (.value v) w) {next:Act->World->Prop} {Q:Exit->Act->World->Prop}
 (hK:∀a',AK C (Bg F d av) M a' w σ own->a'.tmps.getD d undef=v->(∀t,t≠d->a'.tmps.getD t undef=a.tmps.getD t undef)->next a' w):o.wpIn (FX C) 0 C.P a w next Q:=by
 refine Oper.wp_value hnd hrun ?_
 rw[hd]
 refine hK _ (R.put (some d) hv) ?_ fun t ht=>?_
 .have:=R.size
  simp[Act.put,Array.getD,this,hdn]
 .have:¬d=t:=fun e=>ht e.symm
  by_cases ht:t<a.tmps.size<;>simp[Act.put,Array.getD,ht,Array.getElem_setIfInBounds,this]
theorem bI (tk:BI C.P T) (R:AK C F M a w σ own) {t e s eb tx ty' :Nat} {ez:List AV} {pos:String} {af:Array Edge} (htd:Ar T t= .slice e s eb ez) {B u h b sz n c off:Nat} {cs:List AV} (hb:Aj M B u=some cs) (hs:σ B u=some (.loc h b sz)) (hx:a.tmps.getD tx undef= .slice (some ⟨h,b+off,none⟩) n c) (hp:ez.all Da=true) (hn:0<n) (hle:off+n*s<=cs.length)
 {next:Act->World->Prop} {Q:Exit->Act->World->Prop}
 (hK:∀a' w',AK C F (M.set B (.live u (CP cs off (CF n ez)))) a' w' σ own->next a' w'):
 Oper.wpIn (FX C) 0 C.P {dst:=none,op:= .call {callee:= .builtin .clear,args:= #[.tmp tx],argTypes:= #[t]},type:=ty',pos:=pos,after:=af,guard:=none} a w next Q:=by
 obtain⟨w',hrun,R'⟩:=R.clr (ty:=ty') (c:=c) tk htd hb hs hp hn hle
 refine Oper.wp_value (fun _ h=>by cases h) (v:= .tuple #[]) (w' :=w') ?_ (hK _ _ R')
 have e2:∀t,a.eval (.tmp t)=a.tmps.getD t undef:=fun _=>rfl
 simp only[execOp,resolve,invoke,builtin,e2,hx,List.map_toArray,List.map_cons,List.map_nil,Sem.run_bind,hrun,Result.andThen_ok,Sem.run_pure]
end
def au (x y:AV):Prop:=y=x\/y= .any\/∃s n xs,x= .own s n xs/\y= .ro n []
def loose:List AV->List AV->Prop
 | [],[]=>True
 |x::xs,y::ys=>au x y/\loose xs ys
 |_,_=>False
theorem MD:∀xs,loose xs xs
 | []=>trivial
 |x::xs=>⟨.inl rfl,MD xs⟩
theorem Kq:∀{xs ys us vs:List AV},loose xs ys->loose us vs->loose (xs++us) (ys++vs)
 | [],[],_,_,_,h=>h
 |_::_,_::_,_,_,h,k=>⟨h.1,Kq h.2 k⟩
 | [],_::_,_,_,h,_=>h.elim
 |_::_,[],_,_,h,_=>h.elim
theorem H1:∀{xs ys:List AV},loose xs ys->xs.length=ys.length
 | [],[],_=>rfl
 |_::_,_::_,h=>by simp[H1 h.2]
 | [],_::_,h=>h.elim
 |_::_,[],h=>h.elim
theorem Oc {w:World} {sh:Nat->Prop} {σ:Nat->Nat->Option St}:∀{xs ys:List AV} {vs:List Value} {fp:Nat->Nat},loose xs ys->Aw w sh σ xs vs fp->∃fp',Aw w sh σ ys vs fp' /\∀g,fp' g<=fp g
 | [],[],_,fp,_,h=>⟨fp,h,fun _=>Nat.le_refl _⟩
 |x::xs,y::ys,vs,fp,h,hv=>by
  simp only[Aw] at hv
  obtain⟨v,rest,f1,f2,rfl,h1,h2,hf⟩:=hv
  obtain⟨f3,h3,hf3⟩:=Oc h.2 h2
  rcases h.1 with e|e| ⟨s,n,zs,e1,e⟩
  .subst e
   exact⟨fun g=>f1 g+f3 g,⟨v,rest,f1,f3,rfl,h1,h3,fun _=>rfl⟩,fun g=>by have:=hf g;have:=hf3 g;simp only;omega⟩
  .subst e
   exact⟨f3,⟨v,rest,fun _=>0,f3,rfl,fun _=>rfl,h3,fun g=>by simp⟩,fun g=>by have:=hf g;have:=hf3 g;omega⟩
  .subst e e1
   refine⟨f3,⟨v,rest,fun _=>0,f3,rfl,?_,h3,fun g=>by simp⟩,fun g=>by have:=hf g;have:=hf3 g;omega⟩
   simp only[VR] at h1 |-
   refine⟨fun _=>trivial,?_⟩
   rcases h1 with⟨⟨a,e⟩,rfl,rfl,_⟩ | ⟨hh,b,c,cur,e',fp',e,hn,_⟩
   .exact⟨a,0,e,Nat.le_refl _,fun _=>rfl,.inl trivial⟩
   .exact⟨_,c,e,hn,(fun h=>by simp at h),.inl trivial⟩
 | [],_::_,_,_,h,_=>h.elim
 |_::_,[],_,_,h,_=>h.elim
theorem Wk.loose {p:Nat} {F:Fr} {M:List Ag} {B v:Nat} {cs cs' :List AV} (hb:Aj M B v=some cs) (hl:Abs.loose cs cs'):Wk p F M F (M.set B (.live v cs')):=by
 rintro C hp a w ⟨σ,own,R⟩
 obtain⟨hM,fpB,hB,hfB⟩:=BS R.mem hb
 have hBl:B<M.length:=by
  rcases Nat.lt_or_ge B M.length with h|h
  .exact h
  .simp[List.getElem?_eq_none h] at hM
 obtain⟨hver,hB⟩:=hB
 refine⟨σ,own,R.size,R.dfr,R.tmp,⟨fun T BB hT=>?_,fun T u hT=>R.mem.key T u (by simpa using hT)⟩,R.shr,R.ext,R.key0⟩
 by_cases e:T=B
 .subst e
  rw[List.getElem?_set_self hBl] at hT
  simp at hT;subst hT
  rcases hB with⟨h1,h2,h3⟩ | ⟨h,b,cur,e,fp',h1,h2,h3,h4,h5⟩
  .subst h2
   have:cs' =[]:=List.eq_nil_of_length_eq_zero (H1 hl).symm
   subst this
   exact⟨fpB,⟨hver,.inl ⟨h1,rfl,h3⟩⟩,hfB⟩
  .obtain⟨f,k1,k2⟩:=Oc hl h4
   refine⟨fun g=>(if g=h then 1 else 0)+f g,⟨hver,.inr ⟨h,b,cur,e,f,h1,h2,by rw[<-H1 hl];exact h3,by rw[<-H1 hl];exact k1,fun _=>rfl⟩⟩,fun g=>?_⟩
   have e1:=hfB g;have e2:=h5 g;have e3:=k2 g
   show(if g=h then 1 else 0)+f g<=_
   omega
 .rw[List.getElem?_set_ne (Ne.symm e)] at hT
  exact R.mem.blk T BB hT
def Hf (K:List (Nat×Nat)) (T v:Nat):Option Nat:=K.findIdx? fun q=>decide (q.1=T/\q.2=v)
mutual
def rn (K:List (Nat×Nat)):AV->AV
 | .tok T v s off n=>match Hf K T v with|some i=> .tok i 0 s off n|none=> .any
 | .ptr T v off=>match Hf K T v with|some i=> .ptr i 0 off|none=> .any
 | .agg xs=> .agg (G6 K xs)
 | .tup xs=> .tup (G6 K xs)
 | .fn f cs=> .fn f (G6 K cs)
 |x=>x
def G6 (K:List (Nat×Nat)):List AV->List AV
 | []=> []
 |x::xs=>rn K x::G6 K xs
end
theorem KT (K:List (Nat×Nat)):∀xs,G6 K xs=xs.map (rn K)
 | []=>rfl
 |x::xs=>by rw[G6,KT K xs];rfl
mutual
theorem WU {w:World} {sh:Nat->Prop} {σ τ:Nat->Nat->Option St} {K:List (Nat×Nat)} (hσ:∀T v i,Hf K T v=some i->τ i 0=σ T v):∀(x:AV) (v:Value) (fp:Nat->Nat),VR w sh σ x v fp->VR w sh τ (rn K x) v fp
 | .any,_,_,h=>h
 | .bool _,_,_,h=>h
 | .int _ _,_,_,h=>h
 | .str _,_,_,h=>h
 | .nilp,_,_,h=>h
 | .ro _ _,_,_,h=>by simp only[VR,rn] at h |-;exact h
 | .own _ _ _,_,_,h=>by simp only[VR,rn] at h |-;exact h
 | .rptr _,_,_,h=>by simp only[VR,rn] at h |-;exact h
 | .optr _,_,_,h=>by simp only[VR,rn] at h |-;exact h
 | .tok T u s off n,v,fp,h=>by
   simp only[rn]
   split
   .rename_i i hi
    simp only[VR] at h |-
    rw[hσ T u i hi];exact h
   .simp only[VR] at h |-;exact h.1
 | .ptr T u off,v,fp,h=>by
   simp only[rn]
   split
   .rename_i i hi
    simp only[VR] at h |-
    rw[hσ T u i hi];exact h
   .simp only[VR] at h |-;exact h.1
 | .agg xs,v,fp,h=>by
   simp only[VR,rn] at h |-
   obtain⟨cs,e,hv⟩:=h
   exact⟨cs,e,Kr hσ xs _ _ hv⟩
 | .tup xs,v,fp,h=>by
   simp only[VR,rn] at h |-
   obtain⟨cs,e,hv⟩:=h
   exact⟨cs,e,Kr hσ xs _ _ hv⟩
 | .fn f xs,v,fp,h=>by
   simp only[VR,rn] at h |-
   obtain⟨h0,cs,e,hv⟩:=h
   exact⟨h0,cs,e,Kr hσ xs _ _ hv⟩
theorem Kr {w:World} {sh:Nat->Prop} {σ τ:Nat->Nat->Option St} {K:List (Nat×Nat)} (hσ:∀T v i,Hf K T v=some i->τ i 0=σ T v):∀(xs:List AV) (vs:List Value) (fp:Nat->Nat),Aw w sh σ xs vs fp->Aw w sh τ (G6 K xs) vs fp
 | [],_,_,h=>h
 |x::xs,vs,fp,h=>by
  simp only[Aw,G6] at h |-
  obtain⟨v,rest,f1,f2,e,h1,h2,hf⟩:=h
  exact⟨v,rest,f1,f2,e,WU hσ x v f1 h1,Kr hσ xs rest f2 h2,hf⟩
end
theorem bJ (K:List (Nat×Nat)):∀x,tf x=true->rn K x=x:=fun x h=>by
 cases x<;>simp[tf] at h<;>simp[rn]
 subst h;rfl
theorem PW (K:List (Nat×Nat)) {xs:List AV} (h:xs.all tf=true):G6 K xs=xs:=by
 rw[KT]
 conv=>rhs;rw[<-List.map_id xs]
 exact List.map_congr_left fun x hx=>bJ K x (List.all_eq_true.1 h x hx)
theorem YQ (K:List (Nat×Nat)) (xs ys:List AV):G6 K (xs++ys)=G6 K xs++G6 K ys:=by simp[KT]
def PX (K:List (Nat×Nat)) (F:Fr):List (Nat×AV)->Prop
 | []=>True
 |q::s=>rn K (F q.1)=q.2/\PX K F s
theorem UB (K:List (Nat×Nat)) (F:Fr):∀S,PX K F S->∀t,Abs.fr S t=rn K (F t)\/Abs.fr S t= .any
 | [],_,t=> .inr rfl
 |q::S,h,t=>by
  simp only[Abs.fr,Bg]
  split
  .rename_i e;subst e;exact .inl h.1.symm
  .exact UB K F S h.2 t
def Rw (K:List (Nat×Nat)) (M:List Ag):List (Option (List AV)):=K.map fun q=>Aj M q.1 q.2
theorem Wk.perm {F:Fr} {M N:List Ag} {S:List (Nat×AV)} (K:List (Nat×Nat)) (Xs:List (List AV)) (hnd:(K.map fun q=>q.1).Nodup) (hX:Rw K M=Xs.map some) (hS:PX K F S) (hN:Xs.map (fun xs=>Ag.live 0 (G6 K xs))=N):Wk 0 F M (Abs.fr S) N:=by
 subst hN
 rintro C hp a w ⟨σ,own,R⟩
 have hlen:K.length=Xs.length:=by have:=congrArg List.length hX;simpa[Rw] using this
 have hcell:∀(i:Nat) (q:Nat×Nat),K[i]?=some q->∃xs,Xs[i]?=some xs/\Aj M q.1 q.2=some xs:=fun i q hq=>by
  have h1:(Rw K M)[i]?=(Xs.map some)[i]?:=by rw[hX]
  simp only[Rw,List.getElem?_map,hq,Option.map_some] at h1
  cases e:Xs[i]? with
  |none=>rw[e] at h1;simp at h1
  |some xs=>rw[e] at h1;exact⟨xs,rfl,by simpa using h1⟩
 let τ:Nat->Nat->Option St:=fun T v=>if v=0 then(match K[T]? with|some q=>σ q.1 q.2|none=>none) else none
 let own' :Nat->Option Nat:=fun g=>match own g with|some B=>K.findIdx? fun q=>decide (q.1=B) |none=>none
 have hτ:∀T v i,Hf K T v=some i->τ i 0=σ T v:=fun T v i h=>by
  obtain⟨hi,h1,_⟩:=List.findIdx?_eq_some_iff_getElem.1 h
  simp only[decide_eq_true_eq] at h1
  simp only[τ,if_true,List.getElem?_eq_getElem hi]
  rw[h1.1,h1.2]
 have hown:∀(i:Nat) (q:Nat×Nat),K[i]?=some q->∀g,own g=some q.1->own' g=some i:=fun i q hq g hg=>by
  simp only[own',hg]
  obtain⟨hi,e⟩:=List.getElem?_eq_some_iff.1 hq
  refine List.findIdx?_eq_some_iff_getElem.2 ⟨hi,by simp[e],fun j hj=>?_⟩
  simp only[Bool.not_eq_true,decide_eq_false_iff_not]
  intro h
  have h2:=List.pairwise_iff_getElem.1 hnd j i (by simp;omega) (by simpa using hi) hj
  simp only[List.getElem_map] at h2
  exact h2 (by rw[h,e])
 refine⟨τ,own',R.size,R.dfr,fun t ht=>?_,⟨fun T B hB=>?_,fun T v hT=>?_⟩,fun g hg=>?_,?_,fun T v st h=>?_⟩
 .rcases UB K F S hS t with e|e
  .rw[e];exact WU hτ _ _ _ (R.tmp t ht)
  .rw[e];intro g;rfl
 .rw[List.getElem?_map] at hB
  cases hx:Xs[T]? with
  |none=>rw[hx] at hB;simp at hB
  |some xs=>
   rw[hx] at hB
   simp at hB;subst hB
   have hTl:T<K.length:=by
    rw[hlen]
    rcases Nat.lt_or_ge T Xs.length with h|h
    .exact h
    .rw[List.getElem?_eq_none h] at hx;simp at hx
   have hKT:K[T]?=some K[T]:=List.getElem?_eq_getElem hTl
   obtain⟨ys,h1,h2⟩:=hcell T _ hKT
   rw[hx] at h1;cases h1
   obtain⟨hM,fp,hb,hf⟩:=BS R.mem h2
   refine⟨fp,?_,fun g=>?_⟩
   .obtain⟨c0,b1⟩:=hb
    refine⟨fun u hu=>?_,?_⟩
    .have:¬u=0:=by omega
     simp only[τ,this,if_false]
    .have hτT:τ T 0=σ K[T].1 K[T].2:=by simp only[τ,if_true,hKT]
     have hl:(G6 K xs).length=xs.length:=by rw[KT];simp
     rcases b1 with⟨c1,c2,c3⟩ | ⟨hh,b,cur,e',fp',c1,c2,c3,c4,c5⟩
     .exact .inl ⟨by rw[hτT];exact c1,by rw[c2];rfl,c3⟩
     .exact .inr ⟨hh,b,cur,e',fp',by rw[hτT];exact c1,c2,by rw[hl];exact c3,by rw[hl];exact Kr hτ _ _ _ c4,c5⟩
   .have:=hf g
    split at this
    .rename_i e;rw[if_pos (hown T _ hKT g e)];exact this
    .omega
 .simp only[List.length_map] at hT
  have:K[T]?=none:=List.getElem?_eq_none (by omega)
  simp only[τ,this]
  split<;>rfl
 .have h1:=R.shr g hg
  exact⟨by simp only[own',h1.1],h1.2⟩
 .refine⟨R.ext.os,R.ext.tape,R.ext.output,R.ext.size,R.ext.block,fun g hg=>R.ext.own g ?_⟩
  intro e
  simp only[own',e] at hg
  exact hg rfl
 .obtain⟨h1,_⟩:=R.key0 T v st h
  omega
def sl:Bool->Nat->Nat->List AV->AV
 |true,s,n,xs=> .own s n xs
 |false,_,n,xs=> .ro n xs
@[simp] theorem gL (s n:Nat) (xs:List AV):sl true s n xs= .own s n xs:=rfl
@[simp] theorem eu (s n:Nat) (xs:List AV):sl false s n xs= .ro n xs:=rfl
def Ac {α:Type} (f:α->List AV):List α->List AV
 | []=> []
 |x::xs=>f x++Ac f xs
section
variable {α:Type} (f:α->List AV)
@[simp] theorem eA:Ac f []=[]:=rfl
theorem Ax (x:α) (xs:List α):Ac f (x::xs)=f x++Ac f xs:=rfl
theorem Ck (xs ys:List α):Ac f (xs++ys)=Ac f xs++Ac f ys:=by
 induction xs with
 |nil=>rfl
 |cons x xs ih=>simp[Ax,ih]
theorem FJ {s:Nat} (h:∀x,(f x).length=s) (xs:List α):(Ac f xs).length=xs.length*s:=by
 induction xs with
 |nil=>simp
 |cons x xs ih=>simp[Ax,ih,h,Nat.add_mul];omega
theorem ME {s:Nat} (h:∀x,(f x).length=s):∀(k:Nat) (xs:List α),(Ac f xs).drop (k*s)=Ac f (xs.drop k)
 |0,xs=>by simp
 |k+1,[]=>by simp
 |k+1,x::xs=>by
  rw[Ax,show(k+1)*s=(f x).length+k*s by rw[h];rw[Nat.add_mul];omega,List.drop_append]
  simp only[List.drop_succ_cons]
  rw[<-ME h k xs]
  simp
theorem Fs {s:Nat} (h:∀x,(f x).length=s):∀(k:Nat) (xs:List α),(Ac f xs).take (k*s)=Ac f (xs.take k)
 |0,xs=>by simp
 |k+1,[]=>by simp
 |k+1,x::xs=>by
  rw[Ax,show(k+1)*s=(f x).length+k*s by rw[h];rw[Nat.add_mul];omega,List.take_append]
  simp only[List.take_succ_cons,Ax]
  rw[<-Fs h k xs,List.take_of_length_le (by omega)]
  simp
theorem GY {s:Nat} (h:∀x,(f x).length=s) {k:Nat} {xs:List α} (hk:k<xs.length):(Ac f xs).drop (k*s)=f xs[k]++Ac f (xs.drop (k+1)):=by
 rw[ME f h,List.drop_eq_getElem_cons hk,Ax]
theorem Gz {p:AV->Bool} (h:∀x,(f x).all p=true) (xs:List α):(Ac f xs).all p=true:=by
 induction xs with
 |nil=>rfl
 |cons x xs ih=>rw[Ax,List.all_append,h,ih];rfl
theorem HC {g:AV->AV} {f' :α->List AV} (h:∀x,(f x).map g=f' x) (xs:List α):(Ac f xs).map g=Ac f' xs:=by
 induction xs with
 |nil=>rfl
 |cons x xs ih=>rw[Ax,List.map_append,h,ih,Ax]
theorem GA (k:Nat):∀xs,Dg k xs=xs.all (GX k)
 | []=>by simp[Dg]
 |x::xs=>by simp only[Dg,List.all_cons,GA k xs]
end
@[ext] structure Dh where
  data:ByteArray
  n:Int
  deriving DecidableEq
@[ext] structure Obj where
  id:Int
  base:Int
  data:Dh
  deriving DecidableEq
@[ext] structure AM where
  id:Int
  parent:Int
  base:Int
  data:Dh
  at_:Int
  tag:Bool
  gone:Bool
  deriving DecidableEq
@[ext] structure Gr where
  n:Int
  out:List (List Int)
  deriving DecidableEq
@[ext] structure Cu where
  kind:Int
  a:Int
  at_:Int
  move:Bool
  list:List Int
  out:List Int
  deriving DecidableEq
@[ext] structure CZ where
  opn:Bool
  pin:Int
  on:Bool
  frm:Int
  stage:Gr
  job:Cu
  deriving DecidableEq
@[ext] structure An where
  keep:Int
  blocks:Int
  vers:List AM
  sess:List CZ
  deriving DecidableEq
def Gg (m:Bool) (xs:List Int):AV:=sl m 1 xs.length (Ae xs)
def AA (m:Bool) (xs:List (List Int)):List AV:=xs.map (Gg m)
def Ev (m:Bool) (xs:List (List Int)):AV:=sl m 1 xs.length (AA m xs)
def CI (b:Dh):List AV:=[.str b.data,.int .i64 b.n]
def AC (r:Int×Int):List AV:=[.int .i64 r.1,.int .i64 r.2]
def bK (m:Bool) (l:List (Int×Int)):AV:=sl m 2 l.length (Ac AC l)
def As (o:Obj):List AV:=[.int .i64 o.id,.int .i64 o.base,.str o.data.data,.int .i64 o.data.n]
def Au (v:AM):List AV:=[.int .i64 v.id,.int .i64 v.parent,.int .i64 v.base,.str v.data.data,.int .i64 v.data.n,.int .i64 v.at_,.bool v.tag,.bool v.gone]
def Ba (m:Bool) (g:Gr):List AV:=[.int .i64 g.n,Ev m g.out]
def B4 (m:Bool) (j:Cu):List AV:=[.int .i64 j.kind,.int .i64 j.a,.int .i64 j.at_,.bool j.move,Gg m j.list,Gg m j.out]
def Az (m:Bool) (s:CZ):List AV:=[.bool s.opn,.int .i64 s.pin,.bool s.on,.int .i64 s.frm,.int .i64 s.stage.n,Ev m s.stage.out,.int .i64 s.job.kind,.int .i64 s.job.a,.int .i64 s.job.at_,.bool s.job.move,Gg m s.job.list,Gg m s.job.out]
def bL (m:Bool) (l:List Obj):AV:=sl m 4 l.length (Ac As l)
def FE (m:Bool) (l:List AM):AV:=sl m 8 l.length (Ac Au l)
def KU (m:Bool) (l:List CZ):AV:=sl m 12 l.length (Ac (Az m) l)
def Ao (m:Bool) (s:An):List AV:=[.int .i64 s.keep,.int .i64 s.blocks,FE m s.vers,KU m s.sess]
def UC (w:World) (g:Nat):Prop:=g<w.heap.size
theorem YR {w:World} {a:Addr} {v:Value} (h:w.cell? a=some v):a.block<w.heap.size:=by
 rcases Nat.lt_or_ge a.block w.heap.size with h1|h1
 .exact h1
 .simp[World.cell?,Array.getElem?_eq_none h1] at h
theorem UD (a:Addr) (i:Nat):(a.add i).block=a.block:=by unfold Addr.add;split<;>rfl
theorem PY {H:Type} {P:Program} {e:TypeId}:∀{l:List (DataW H)} {d:DataW H},d∈l->∀n∈d.weights P e,n∈DataW.weightsAll P e l
 |d' ::r,d,hd,n,hn=>by
  simp only[DataW.weightsAll,List.mem_append]
  rcases List.mem_cons.1 hd with rfl|h
  .exact .inl hn
  .exact .inr (PY h n hn)
section
variable {H:Type} {enc:TypeId×Value->H} {P:Program} {w:World} {t e:TypeId}
def Bd {α:Type} (enc:TypeId×Value->H) (P:Program) (w:World) (t:TypeId) (f:α->List AV) (good:α->Prop):Prop:=
 ∀fuel cs x,DataW.trod enc P w 0 (fun _=>true) true fuel t cs=some x->(∀n∈x.1.weights P t,n<=reachBytes)->∃a,Aw w (UC w) σ0 (f a) cs (fun _=>0)/\good a
theorem aw (ht:P.underlying t=some (.slice e)) (es sp:List (DataW H)):DataW.weights P t (.slice es sp)=(es.length+sp.length)*P.bytesOf e::(DataW.weightsAll P e es++DataW.weightsAll P e sp):=by simp[DataW.weights,ht]
theorem MF {sh:Nat->Prop} {a:AV} {v:Value} (h:VR w sh σ0 a v (fun _=>0)):Aw w sh σ0 [a] [v] (fun _=>0):=⟨v,[],fun _=>0,fun _=>0,rfl,h,⟨rfl,fun _=>rfl⟩,fun _=>rfl⟩
theorem Bd.map {α β:Type} {f:α->List AV} {f' :β->List AV} {good:α->Prop} {good' :β->Prop} (h:Bd enc P w t f good) (g:α->β) (hf:∀a,f a=f' (g a)) (hg:∀a,good a->good' (g a)):Bd enc P w t f' good' :=fun fuel cs x hx hw=>by
 obtain⟨a,h1,h2⟩:=h fuel cs x hx hw
 exact⟨g a,hf a ▸ h1,hg a h2⟩
theorem Bd.int {k:IntKind} (ht:P.underlying t=some (.int k)):Bd enc P w t (fun n:Int=> [.int k n]) fun _=>True:=fun fuel cs x hx _=>by
 obtain⟨n,rfl,_,_⟩:=DataW.trod_int ht hx
 exact⟨n,MF ⟨rfl,fun _=>rfl⟩,trivial⟩
theorem Bd.intR {k:IntKind} (ht:P.underlying t=some (.int k)):Bd enc P w t (fun n:Int=> [.int k n]) fun n=>(Lit.int k n).wf=true:=fun fuel cs x hx _=>by
 obtain⟨n,rfl,_,hwf⟩:=DataW.trod_int ht hx
 exact⟨n,MF ⟨rfl,fun _=>rfl⟩,hwf⟩
theorem Bd.bool (ht:P.underlying t=some .bool):Bd enc P w t (fun b:Bool=> [.bool b]) fun _=>True:=fun fuel cs x hx _=>by
 obtain⟨b,rfl,_⟩:=DataW.trod_bool ht hx
 exact⟨b,MF ⟨rfl,fun _=>rfl⟩,trivial⟩
theorem Bd.str (ht:P.underlying t=some .string):Bd enc P w t (fun s:ByteArray=> [.str s]) fun s=>s.size<=reachBytes:=fun fuel cs x hx hw=>by
 obtain⟨s,rfl,rfl,_⟩:=DataW.trod_string ht hx
 refine⟨s,MF ⟨rfl,fun _=>rfl⟩,?_⟩
 have:=hw s.data.toList.length (by simp[DataW.weights])
 simpa using this
theorem Bd.len (ht:P.underlying t=some (.slice e)) (hb:0<P.bytesOf e):Bd enc P w t (fun n:Nat=> [.ro n []]) fun n=>n<=reachBytes:=fun fuel cs x hx hw=>by
 rcases DataW.trod_slice ht hx with⟨rfl,_⟩ | ⟨a,len,cap,elems,rest,n,rfl,rfl,rfl,_,hlc,_,hel,_⟩
 .exact⟨0,MF ⟨fun _=>rfl,none,0,rfl,Nat.le_refl _,fun _=>rfl,.inl rfl⟩,Nat.zero_le _⟩
 .refine⟨len,MF ⟨fun _=>rfl,some a,cap,rfl,hlc,(by simp),.inl rfl⟩,?_⟩
  have:=hw ((elems.length+rest.length)*P.bytesOf e) (by simp[DataW.weights,ht])
  rw[hel] at this
  have h2:=Nat.le_mul_of_pos_right (len+rest.length) hb
  omega
theorem Bd.slice {α:Type} {f:α->List AV} {good:α->Prop} (h:Bd enc P w e f good) (ht:P.underlying t=some (.slice e)) (hb:0<P.bytesOf e):Bd enc P w t (fun xs:List α=> [.ro xs.length (Ac f xs)]) fun xs=>xs.length<=reachBytes/\∀a∈xs,good a:=fun fuel cs x hx hw=>by
 rcases DataW.trod_slice ht hx with⟨rfl,_⟩ | ⟨a,len,cap,elems,rest,n,rfl,rfl,rfl,_,hlc,_,hel,hget,_⟩
 .exact⟨[],MF ⟨fun _=>rfl,none,0,rfl,Nat.le_refl _,fun _=>rfl,.inl rfl⟩,Nat.zero_le _,by simp⟩
 .have hl:=hw ((elems.length+rest.length)*P.bytesOf e) (by simp[DataW.weights,ht])
  rw[hel] at hl
  have h2:=Nat.le_mul_of_pos_right (len+rest.length) hb
  have key:∀m,m<=len->∃(xs:List α) (vs:List Value),xs.length=m/\vs.length=m*P.cellsOf e/\Aw w (UC w) σ0 (Ac f xs) vs (fun _=>0)/\EE w a vs/\∀a∈xs,good a:=by
   intro m
   induction m with
   |zero=>intro _;exact⟨[],[],rfl,by simp,⟨rfl,fun _=>rfl⟩,by intro i v hv;simp at hv,by simp⟩
   |succ m ih=>
    intro hm
    obtain⟨xs,vs,e1,e2,h3,h4,h5⟩:=ih (by omega)
    have hmlt:m<elems.length:=by omega
    have hg:=hget m (by omega)
    rw[List.getElem?_eq_getElem hmlt] at hg
    obtain⟨cs',hc,hx'⟩:=Option.bind_eq_some_iff.1 hg
    obtain⟨b,hv,hgood⟩:=h n cs' _ hx' (fun k hk=>hw k (by
     rw[aw ht]
     exact List.mem_cons_of_mem _ (List.mem_append_left _ (PY (List.mem_map.2 ⟨_,List.getElem_mem hmlt,rfl⟩) k hk))))
    have hcl:cs'.length=P.cellsOf e:=by
     unfold World.cells? at hc
     rw[if_pos (Nat.zero_le _)] at hc
     simpa using mapM_some_length hc
    refine⟨xs++[b],vs++cs',by simp[e1],by simp[e2,hcl,Nat.add_mul],?_,?_,?_⟩
    .have:Ac f (xs++[b])=Ac f xs++f b:=by rw[Ck];simp[Ac]
     rw[this]
     exact EH h3 hv
    .intro i v hiv
     rcases Nat.lt_or_ge i vs.length with hlt|hge
     .exact h4 i v (by rwa [List.getElem?_append_left hlt] at hiv)
     .rw[List.getElem?_append_right hge] at hiv
      unfold World.cells? at hc
      rw[if_pos (Nat.zero_le _)] at hc
      have hi' :i-vs.length<P.cellsOf e:=by
       rw[<-hcl]
       rcases Nat.lt_or_ge (i-vs.length) cs'.length with h9|h9
       .exact h9
       .rw[List.getElem?_eq_none h9] at hiv;simp at hiv
      have:=mapM_some_get hc (i-vs.length) (i-vs.length) (by simp[hi'])
      rw[hiv,Addr.add_assoc] at this
      rw[<-this]
      congr 2
      omega
    .intro c hc'
     rcases List.mem_append.1 hc' with h9|h9
     .exact h5 c h9
     .simp at h9;subst h9;exact hgood
  obtain⟨xs,vs,e1,e2,h3,h4,h5⟩:=key len (Nat.le_refl _)
  refine⟨xs,MF ⟨fun _=>rfl,some a,cap,by rw[e1],by omega,(by simp),?_⟩,by omega,h5⟩
  cases hvs:vs with
  |nil=>
   left
   rw[hvs] at h3
   have:=BF h3
   exact List.length_eq_zero_iff.1 (by simpa using this.symm)
  |cons v vs' =>
   right
   refine⟨a,vs,rfl,?_,h4,h3⟩
   have:=YR (h4 0 v (by rw[hvs];rfl))
   rwa [UD] at this
def No {α:Type} (enc:TypeId×Value->H) (P:Program) (w:World) (fs:List Field) (off:Nat) (f:α->List AV) (good:α->Prop):Prop:=
 ∀(cs:List Value) (k:Nat) (xs:List (DataW H×List MemPlace)),xs.length=fs.length->(∀(i:Nat) (fd:Field),fs[i]?=some fd->DataW.trod enc P w 0 (fun _=>true) true k fd.type ((cs.drop fd.offset).take (P.cellsOf fd.type))=xs[i]?)->(∀(i:Nat) (fd:Field) (x:DataW H×List MemPlace),fs[i]?=some fd->xs[i]?=some x->∀n∈x.1.weights P fd.type,n<=reachBytes)->
  cs.length=off+(fs.map fun fd=>P.cellsOf fd.type).sum->∃a,Aw w (UC w) σ0 (f a) (cs.drop off) (fun _=>0)/\good a
theorem No.nil {off:Nat}:No enc P w [] off (fun _:Unit=> []) fun _=>True:=fun cs k xs _ _ _ hl=>⟨(),by
 have:cs.drop off=[]:=List.drop_eq_nil_of_le (by simp at hl;omega)
 rw[this];exact⟨rfl,fun _=>rfl⟩,trivial⟩
theorem No.cons {α β:Type} {fd:Field} {fs:List Field} {off s:Nat} {f:α->List AV} {g:β->List AV} {good:α->Prop} {good' :β->Prop} (h:Bd enc P w fd.type f good) (hsz:P.cellsOf fd.type=s) (ho:fd.offset=off) (hs:No enc P w fs (off+s) g good'):No enc P w (fd::fs) off (fun x:α×β=>f x.1++g x.2) fun x=>good x.1/\good' x.2:=fun cs k xs hxl hx hw hl=>by
 subst hsz
 cases xs with
 |nil=>simp at hxl
 |cons x xs=>
  have h0:=hx 0 fd rfl
  obtain⟨a,h1,h2⟩:=h k _ x h0 (hw 0 fd x rfl rfl)
  obtain⟨b,h3,h4⟩:=hs cs k xs (by simpa using hxl) (fun i fd' hi=>hx (i+1) fd' (by simpa using hi)) (fun i fd' x' hi hx' =>hw (i+1) fd' x' (by simpa using hi) (by simpa using hx')) (by simp at hl;omega)
  refine⟨(a,b),?_,h2,h4⟩
  have:cs.drop off=(cs.drop fd.offset).take (P.cellsOf fd.type)++cs.drop (off+P.cellsOf fd.type):=by
   rw[ho,<-List.drop_drop,List.take_append_drop]
  rw[this]
  exact EH h1 h3
theorem Bd.struct {α:Type} {fs:Array Field} {f:α->List AV} {good:α->Prop} (ht:P.underlying t=some (.struct fs)) (h:No enc P w fs.toList 0 f good) (hc:P.cellsOf t=(fs.toList.map fun fd=>P.cellsOf fd.type).sum):Bd enc P w t f good:=fun fuel cs x hx hw=>by
 obtain⟨xs,n,_,rfl,hl,hxl,hget⟩:=DataW.trod_struct ht hx
 obtain⟨a,h1,h2⟩:=h cs n xs (by simpa using hxl) (fun i fd hi=>hget i fd (by simpa using hi)) (fun i fd y hi hy k hk=>hw k (by
  simp only[DataW.weights,ht]
  exact DataW.weights_mem_each (j:=i) (by simp[hi]) (by simp[hy]) k hk)) (by rw[hl,hc];omega)
 exact⟨a,by simpa using h1,h2⟩
end
attribute [simp] Gg Ev bL FE KU bK CI As Au Ba B4 Az Ao
theorem Jg {α:Type} (f:α->List AV) (h:∀x,EY (f x)=true) (xs:List α):EY (Ac f xs)=true:=Gz f h xs
theorem HD {α:Type} (f:α->List AV) (h:∀x,EZ (f x)=true) (xs:List α):EZ (Ac f xs)=true:=Gz f h xs
theorem HE {α:Type} (f:α->List AV) (h:∀x,DX (f x)=true) (xs:List α):DX (Ac f xs)=true:=Gz f h xs
theorem GB {α:Type} (f:α->List AV) (k:Nat) (h:∀x,Dg k (f x)=true) (xs:List α):Dg k (Ac f xs)=true:=by
 rw[GA];exact Gz f (fun x=>by rw[<-GA];exact h x) xs
theorem GZ {α:Type} (f:α->List AV) (h:∀x,C4 (f x)=true) (xs:List α):C4 (Ac f xs)=true:=by
 rw[LE];exact Gz f (fun x=>by rw[<-LE];exact h x) xs
theorem HF {α:Type} (f f' :α->List AV) (h:∀x,EX (f x)=f' x) (xs:List α):EX (Ac f xs)=Ac f' xs:=by
 rw[Fo];exact HC f (fun x=>by rw[<-Fo];exact h x) xs
@[simp] theorem gM (M:List Ag) (k:Nat):CG M k .any= .any:=by cases k<;>simp
@[simp] theorem eB (M:List Ag) (k:Nat) (b:Bool):CG M k (.bool b)= .bool b:=by cases k<;>simp
@[simp] theorem gN (M:List Ag) (k:Nat) (q:IntKind) (n:Int):CG M k (.int q n)= .int q n:=by cases k<;>simp
@[simp] theorem gO (M:List Ag) (k:Nat) (b:ByteArray):CG M k (.str b)= .str b:=by cases k<;>simp
@[simp] theorem jm (M:List Ag) (k n:Nat) (xs:List AV):CG M k (.ro n xs)= .ro n xs:=by cases k<;>simp
@[simp] theorem gP (M:List Ag) (k s n:Nat) (xs:List AV):CG M k (.own s n xs)= .ro n (EX xs):=by cases k<;>simp
@[simp] theorem jn (m:Bool) (s n:Nat) (xs:List AV):Et (sl m s n xs)=(if m=true then .ro n (EX xs) else .ro n xs):=by cases m<;>simp
@[simp] theorem jo (M:List Ag) (k:Nat) (m:Bool) (s n:Nat) (xs:List AV):CG M k (sl m s n xs)=(if m=true then .ro n (EX xs) else .ro n xs):=by cases m<;>simp
@[simp] theorem eC (m:Bool) (s n:Nat) (xs:List AV):BO (sl m s n xs)=true:=by cases m<;>simp
@[simp] theorem jA (m:Bool) (s n:Nat) (xs:List AV):tf (sl m s n xs)=true:=by cases m<;>simp
@[simp] theorem jB (m:Bool) (k s n:Nat) (xs:List AV):GX k (sl m s n xs)=true:=by cases m<;>simp
section
variable (xs ys:List (List Int)) (m:Bool) (M:List Ag) (k:Nat)
@[simp] theorem cu (i:Nat):(AA m xs)[i]?=(xs[i]?).map (Gg m):=by simp[AA]
@[simp] theorem cx:(AA m xs).length=xs.length:=by simp[AA]
@[simp] theorem cy:AA m []=[]:=rfl
theorem D8 (x:List Int):AA m (x::xs)=Gg m x::AA m xs:=rfl
theorem UE:AA m (xs++ys)=AA m xs++AA m ys:=by simp[AA]
@[simp] theorem Jh:(AA m xs).take k=AA m (xs.take k):=by simp[AA,List.map_take]
@[simp] theorem bM:(AA m xs).drop k=AA m (xs.drop k):=by simp[AA,List.map_drop]
@[simp] theorem eD:EY (AA false xs)=true:=by induction xs<;>simp_all[D8]
@[simp] theorem eE:EZ (AA m xs)=true:=by induction xs<;>simp_all[D8]
@[simp] theorem eG:DX (AA m xs)=true:=by induction xs<;>simp_all[D8]
@[simp] theorem eH:Dg k (AA m xs)=true:=by induction xs<;>simp_all[D8]
@[simp] theorem cz:C4 (AA true xs)=true:=by induction xs<;>simp_all[D8]
@[simp] theorem UF:EX (AA m xs)=AA false xs:=by induction xs<;>cases m<;>simp_all[D8]
@[simp] theorem cA:(AA m xs).map Et=AA false xs:=by rw[<-Fo];exact UF xs m
@[simp] theorem cB:(AA m xs).map (CG M k)=AA false xs:=by induction xs<;>cases m<;>simp_all[D8]
end
section
variable (xs ys:List (Int×Int)) (m:Bool) (M:List Ag) (k:Nat)
@[simp] theorem eI:(Ac AC xs).length=xs.length*2:=FJ _ (fun x=>by simp[AC]) xs
@[simp] theorem cC (h:k<xs.length):(Ac AC xs).drop (k*2)=AC xs[k]++Ac AC (xs.drop (k+1)):=GY _ (fun x=>by simp[AC]) h
@[simp] theorem cD:(Ac AC xs).take (k*2)=Ac AC (xs.take k):=Fs _ (fun x=>by simp[AC]) k xs
@[simp] theorem gQ:EY (Ac AC xs)=true:=Jg _ (fun x=>by simp[AC]) xs
@[simp] theorem gR:EZ (Ac AC xs)=true:=HD _ (fun x=>by simp[AC]) xs
@[simp] theorem gS:DX (Ac AC xs)=true:=HE _ (fun x=>by simp[AC]) xs
@[simp] theorem gT:Dg k (Ac AC xs)=true:=GB _ k (fun x=>by simp[AC]) xs
@[simp] theorem eJ:C4 (Ac AC xs)=true:=GZ _ (fun x=>by simp[AC]) xs
@[simp] theorem Wo:EX (Ac AC xs)=Ac AC xs:=HF _ _ (fun x=>by simp[AC]) xs
@[simp] theorem eK:(Ac AC xs).map Et=Ac AC xs:=by rw[<-Fo];exact Wo xs
@[simp] theorem eM:(Ac AC xs).map (CG M k)=Ac AC xs:=HC _ (fun x=>by simp[AC]) xs
end
section
variable (xs ys:List Obj) (m:Bool) (M:List Ag) (k:Nat)
@[simp] theorem eN:(Ac As xs).length=xs.length*4:=FJ _ (fun x=>by simp[As]) xs
@[simp] theorem cE (h:k<xs.length):(Ac As xs).drop (k*4)=As xs[k]++Ac As (xs.drop (k+1)):=GY _ (fun x=>by simp[As]) h
@[simp] theorem cF:(Ac As xs).take (k*4)=Ac As (xs.take k):=Fs _ (fun x=>by simp[As]) k xs
@[simp] theorem gU:EY (Ac As xs)=true:=Jg _ (fun x=>by simp[As]) xs
@[simp] theorem gV:EZ (Ac As xs)=true:=HD _ (fun x=>by simp[As]) xs
@[simp] theorem gW:DX (Ac As xs)=true:=HE _ (fun x=>by simp[As]) xs
@[simp] theorem gX:Dg k (Ac As xs)=true:=GB _ k (fun x=>by simp[As]) xs
@[simp] theorem eO:C4 (Ac As xs)=true:=GZ _ (fun x=>by simp[As]) xs
@[simp] theorem Wp:EX (Ac As xs)=Ac As xs:=HF _ _ (fun x=>by simp[As]) xs
@[simp] theorem eP:(Ac As xs).map Et=Ac As xs:=by rw[<-Fo];exact Wp xs
@[simp] theorem eQ:(Ac As xs).map (CG M k)=Ac As xs:=HC _ (fun x=>by simp[As]) xs
end
section
variable (xs ys:List AM) (m:Bool) (M:List Ag) (k:Nat)
@[simp] theorem eR:(Ac Au xs).length=xs.length*8:=FJ _ (fun x=>by simp[Au]) xs
@[simp] theorem cG (h:k<xs.length):(Ac Au xs).drop (k*8)=Au xs[k]++Ac Au (xs.drop (k+1)):=GY _ (fun x=>by simp[Au]) h
@[simp] theorem cH:(Ac Au xs).take (k*8)=Ac Au (xs.take k):=Fs _ (fun x=>by simp[Au]) k xs
@[simp] theorem YS:EY (Ac Au xs)=true:=Jg _ (fun x=>by simp[Au]) xs
@[simp] theorem gY:EZ (Ac Au xs)=true:=HD _ (fun x=>by simp[Au]) xs
@[simp] theorem gZ:DX (Ac Au xs)=true:=HE _ (fun x=>by simp[Au]) xs
@[simp] theorem g9:Dg k (Ac Au xs)=true:=GB _ k (fun x=>by simp[Au]) xs
@[simp] theorem eS:C4 (Ac Au xs)=true:=GZ _ (fun x=>by simp[Au]) xs
@[simp] theorem Wq:EX (Ac Au xs)=Ac Au xs:=HF _ _ (fun x=>by simp[Au]) xs
@[simp] theorem eU:(Ac Au xs).map Et=Ac Au xs:=by rw[<-Fo];exact Wq xs
@[simp] theorem eW:(Ac Au xs).map (CG M k)=Ac Au xs:=HC _ (fun x=>by simp[Au]) xs
end
section
variable (xs ys:List CZ) (m:Bool) (M:List Ag) (k:Nat)
@[simp] theorem PZ:(Ac (Az m) xs).length=xs.length*12:=FJ _ (fun x=>by simp[Az]) xs
@[simp] theorem cI (h:k<xs.length):(Ac (Az m) xs).drop (k*12)=(Az m) xs[k]++Ac (Az m) (xs.drop (k+1)):=GY _ (fun x=>by simp[Az]) h
@[simp] theorem cJ:(Ac (Az m) xs).take (k*12)=Ac (Az m) (xs.take k):=Fs _ (fun x=>by simp[Az]) k xs
@[simp] theorem hG:EY (Ac (Az false) xs)=true:=Jg _ (fun x=>by simp[Az]) xs
@[simp] theorem hO:EZ (Ac (Az m) xs)=true:=HD _ (fun x=>by simp[Az]) xs
@[simp] theorem hZ:DX (Ac (Az m) xs)=true:=HE _ (fun x=>by simp[Az]) xs
@[simp] theorem ia:Dg k (Ac (Az m) xs)=true:=GB _ k (fun x=>by simp[Az]) xs
@[simp] theorem eZ:C4 (Ac (Az true) xs)=true:=GZ _ (fun x=>by simp[Az]) xs
@[simp] theorem Wr:EX (Ac (Az m) xs)=Ac (Az false) xs:=HF _ _ (fun x=>by cases m<;>simp[Az]) xs
@[simp] theorem fa:(Ac (Az m) xs).map Et=Ac (Az false) xs:=by rw[<-Fo];exact Wr xs m
@[simp] theorem fb:(Ac (Az m) xs).map (CG M k)=Ac (Az false) xs:=HC _ (fun x=>by cases m<;>simp[Az]) xs
end
set_option maxRecDepth 100000
def tL:List (Option TI):=[
 none,
 none,
 some ⟨false,1,8,[.int .i64 0],.int .i64,false⟩,
 some ⟨false,1,8,[.int .i64 0],.int .i64,false⟩,
 some ⟨false,1,1,[.bool false],.bool,false⟩,
 some ⟨false,1,1,[.int .u8 0],.int .u8,false⟩,
 some ⟨false,1,1,[.int .u8 0],.int .u8,false⟩,
 some ⟨true,4,24,[.int .i64 0,.int .i64 0,.bool false,.int .u8 0],.struct [(0,1,false),(1,1,false),(2,1,false),(3,1,false)],false⟩,
 some ⟨true,4,24,[.int .i64 0,.int .i64 0,.bool false,.int .u8 0],.struct [(0,1,false),(1,1,false),(2,1,false),(3,1,false)],false⟩,
 some ⟨false,1,16,[.str ByteArray.empty],.str,false⟩,
 some ⟨false,1,16,[.str ByteArray.empty],.str,false⟩,
 some ⟨false,1,16,[.str ByteArray.empty],.str,false⟩,
 some ⟨false,1,8,[.int .u64 0],.int .u64,false⟩,
 some ⟨true,2,24,[.str ByteArray.empty,.int .u64 0],.struct [(0,1,false),(1,1,false)],false⟩,
 some ⟨true,2,24,[.str ByteArray.empty,.int .u64 0],.struct [(0,1,false),(1,1,false)],false⟩,
 some ⟨false,1,8,[.nilp],.ptr,false⟩,
 some ⟨false,1,8,[.nilp],.ptr,false⟩,
 some ⟨false,1,8,[.nilp],.ptr,false⟩,
 some ⟨true,1,8,[.nilp],.struct [(0,1,false)],false⟩,
 some ⟨true,1,8,[.nilp],.struct [(0,1,false)],false⟩,
 none,
 some ⟨false,1,4,[.int .i32 0],.int .i32,false⟩,
 some ⟨false,1,24,[.own 4 0 []],.slice 38 4 64 [.int .i64 0,.int .i64 0,.own 8 0 [],.own 12 0 []],false⟩,
 some ⟨false,1,24,[.own 1 0 []],.slice 65 1 24 [.own 4 0 []],false⟩,
 some ⟨false,1,24,[.own 2 0 []],.slice 51 2 32 [.int .i64 0,.own 1 0 []],false⟩,
 some ⟨false,1,24,[.own 3 0 []],.slice 301 3 24 [.int .i64 0,.int .i64 0,.int .i64 0],false⟩,
 some ⟨true,2,48,[.own 2 0 [],.own 3 0 []],.struct [(0,1,false),(1,1,false)],false⟩,
 some ⟨true,2,48,[.own 2 0 [],.own 3 0 []],.struct [(0,1,false),(1,1,false)],false⟩,
 some ⟨false,1,24,[.own 1 0 []],.slice 3 1 8 [.int .i64 0],false⟩,
 some ⟨true,4,96,[.own 1 0 [],.own 2 0 [],.own 3 0 [],.own 1 0 []],.struct [(0,1,false),(1,2,true),(3,1,false)],false⟩,
 some ⟨true,4,96,[.own 1 0 [],.own 2 0 [],.own 3 0 [],.own 1 0 []],.struct [(0,1,false),(1,2,true),(3,1,false)],false⟩,
 some ⟨true,5,120,[.own 4 0 [],.own 1 0 [],.own 2 0 [],.own 3 0 [],.own 1 0 []],.struct [(0,1,false),(1,4,true)],false⟩,
 some ⟨true,5,120,[.own 4 0 [],.own 1 0 [],.own 2 0 [],.own 3 0 [],.own 1 0 []],.struct [(0,1,false),(1,4,true)],false⟩,
 none,
 none,
 some ⟨false,1,24,[.own 8 0 []],.slice 42 8 64 [.int .i64 0,.int .i64 0,.int .i64 0,.str ByteArray.empty,.int .i64 0,.int .i64 0,.bool false,.bool false],false⟩,
 some ⟨false,1,24,[.own 12 0 []],.slice 55 12 144 [.bool false,.int .i64 0,.bool false,.int .i64 0,.int .i64 0,.own 1 0 [],.int .i64 0,.int .i64 0,.int .i64 0,.bool false,.own 1 0 [],.own 1 0 []],false⟩,
 some ⟨true,4,64,[.int .i64 0,.int .i64 0,.own 8 0 [],.own 12 0 []],.struct [(0,1,false),(1,1,false),(2,1,false),(3,1,false)],false⟩,
 some ⟨true,4,64,[.int .i64 0,.int .i64 0,.own 8 0 [],.own 12 0 []],.struct [(0,1,false),(1,1,false),(2,1,false),(3,1,false)],false⟩,
 some ⟨true,2,24,[.str ByteArray.empty,.int .i64 0],.struct [(0,1,false),(1,1,false)],false⟩,
 some ⟨true,2,24,[.str ByteArray.empty,.int .i64 0],.struct [(0,1,false),(1,1,false)],true⟩,
 some ⟨true,8,64,[.int .i64 0,.int .i64 0,.int .i64 0,.str ByteArray.empty,.int .i64 0,.int .i64 0,.bool false,.bool false],.struct [(0,1,false),(1,1,false),(2,1,false),(3,2,true),(5,1,false),(6,1,false),(7,1,false)],false⟩,
 some ⟨true,8,64,[.int .i64 0,.int .i64 0,.int .i64 0,.str ByteArray.empty,.int .i64 0,.int .i64 0,.bool false,.bool false],.struct [(0,1,false),(1,1,false),(2,1,false),(3,2,true),(5,1,false),(6,1,false),(7,1,false)],true⟩,
 none,
 some ⟨false,1,8,[.int .i64 0],.int .i64,false⟩,
 none,
 none,
 none,
 none,
 some ⟨false,1,24,[.own 1 0 []],.slice 28 1 24 [.own 1 0 []],false⟩,
 some ⟨true,2,32,[.int .i64 0,.own 1 0 []],.struct [(0,1,false),(1,1,false)],false⟩,
 some ⟨true,2,32,[.int .i64 0,.own 1 0 []],.struct [(0,1,false),(1,1,false)],false⟩,
 some ⟨true,6,80,[.int .i64 0,.int .i64 0,.int .i64 0,.bool false,.own 1 0 [],.own 1 0 []],.struct [(0,1,false),(1,1,false),(2,1,false),(3,1,false),(4,1,false),(5,1,false)],false⟩,
 some ⟨true,6,80,[.int .i64 0,.int .i64 0,.int .i64 0,.bool false,.own 1 0 [],.own 1 0 []],.struct [(0,1,false),(1,1,false),(2,1,false),(3,1,false),(4,1,false),(5,1,false)],false⟩,
 some ⟨true,12,144,[.bool false,.int .i64 0,.bool false,.int .i64 0,.int .i64 0,.own 1 0 [],.int .i64 0,.int .i64 0,.int .i64 0,.bool false,.own 1 0 [],.own 1 0 []],.struct [(0,1,false),(1,1,false),(2,1,false),(3,1,false),(4,2,true),(6,6,true)],false⟩,
 some ⟨true,12,144,[.bool false,.int .i64 0,.bool false,.int .i64 0,.int .i64 0,.own 1 0 [],.int .i64 0,.int .i64 0,.int .i64 0,.bool false,.own 1 0 [],.own 1 0 []],.struct [(0,1,false),(1,1,false),(2,1,false),(3,1,false),(4,2,true),(6,6,true)],false⟩,
 none,
 none,
 none,
 some ⟨true,4,40,[.int .i64 0,.int .i64 0,.str ByteArray.empty,.int .i64 0],.struct [(0,1,false),(1,1,false),(2,2,true)],false⟩,
 some ⟨true,4,40,[.int .i64 0,.int .i64 0,.str ByteArray.empty,.int .i64 0],.struct [(0,1,false),(1,1,false),(2,2,true)],true⟩,
 none,
 none,
 none,
 none,
 some ⟨false,1,24,[.own 4 0 []],.slice 60 4 40 [.int .i64 0,.int .i64 0,.str ByteArray.empty,.int .i64 0],false⟩,
 none,
 none,
 none,
 none,
 none,
 some ⟨false,1,24,[.own 2 0 []],.slice 121 2 16 [.int .i64 0,.int .i64 0],false⟩,
 none,
 none,
 none,
 none,
 none,
 none,
 none,
 none,
 none,
 none,
 none,
 none,
 none,
 none,
 none,
 none,
 none,
 none,
 none,
 none,
 none,
 none,
 none,
 none,
 none,
 none,
 none,
 none,
 none,
 none,
 some ⟨true,2,16,[.int .i64 0,.int .i64 0],.struct [(0,1,false),(1,1,false)],false⟩,
 some ⟨true,2,16,[.int .i64 0,.int .i64 0],.struct [(0,1,false),(1,1,false)],true⟩,
 none,
 none,
 none,
 none,
 none,
 none,
 none,
 none,
 none,
 none,
 none,
 none,
 none,
 none,
 none,
 none,
 some ⟨true,2,16,[.int .i64 0,.int .i64 0],.struct [(0,1,false),(1,1,false)],false⟩,
 some ⟨true,2,16,[.int .i64 0,.int .i64 0],.struct [(0,1,false),(1,1,false)],true⟩,
 none,
 none,
 none,
 none,
 none,
 none,
 none,
 none,
 some ⟨false,1,8,[.int .u64 0],.int .u64,false⟩,
 none,
 none,
 none,
 none,
 none,
 none,
 none,
 none,
 none,
 none,
 none,
 none,
 some ⟨false,1,24,[.own 1 0 []],.slice 5 1 1 [.int .u8 0],false⟩,
 some ⟨false,1,24,[.own 1 0 []],.slice 5 1 1 [.int .u8 0],false⟩,
 none,
 none,
 none,
 none,
 none,
 none,
 none,
 none,
 none,
 some ⟨false,1,8,[.nilp],.ptr,false⟩,
 none,
 some ⟨false,1,24,[.own 1 0 []],.slice 4 1 1 [.bool false],false⟩,
 none,
 none,
 none,
 none,
 none,
 none,
 none,
 none,
 none,
 none,
 none,
 none,
 none,
 none,
 some ⟨false,1,8,[.nilp],.ptr,false⟩,
 none,
 none,
 none,
 none,
 none,
 none,
 none,
 none,
 none,
 none,
 none,
 none,
 none,
 none,
 none,
 none,
 none,
 none,
 none,
 none,
 none,
 none,
 none,
 none,
 none,
 none,
 none,
 none,
 none,
 none,
 none,
 none,
 none,
 none,
 none,
 none,
 none,
 none,
 none,
 none,
 none,
 none,
 none,
 none,
 none,
 none,
 none,
 none,
 none,
 none,
 none,
 none,
 none,
 some ⟨false,1,8,[.nilp],.ptr,false⟩,
 none,
 none,
 none,
 none,
 none,
 none,
 some ⟨true,2,32,[.own 1 0 [],.int .i64 0],.struct [(0,1,false),(1,1,false)],false⟩,
 some ⟨true,2,32,[.own 1 0 [],.int .i64 0],.struct [(0,1,false),(1,1,false)],false⟩,
 none,
 none,
 some ⟨true,16,16,[.bool false,.bool false,.bool false,.bool false,.bool false,.bool false,.bool false,.bool false,.bool false,.bool false,.bool false,.bool false,.bool false,.bool false,.bool false,.bool false],.array 16 4 1,false⟩,
 none,
 none,
 none,
 some ⟨false,1,8,[.nilp],.ptr,false⟩,
 none,
 none,
 none,
 none,
 none,
 none,
 none,
 none,
 none,
 none,
 none,
 none,
 some ⟨false,1,8,[.nilp],.ptr,false⟩,
 some ⟨true,4,40,[.str ByteArray.empty,.int .i64 0,.int .i64 0,.bool false],.struct [(0,2,true),(2,1,false),(3,1,false)],false⟩,
 some ⟨true,4,40,[.str ByteArray.empty,.int .i64 0,.int .i64 0,.bool false],.struct [(0,2,true),(2,1,false),(3,1,false)],true⟩,
 none,
 none,
 none,
 none,
 some ⟨false,1,4,[.int .u32 0],.int .u32,false⟩,
 none,
 some ⟨false,1,8,[.int .u64 0],.int .u64,false⟩,
 none,
 none,
 none,
 none,
 none,
 some ⟨false,1,8,[.int .i64 0],.int .i64,false⟩,
 none,
 none,
 none,
 none,
 none,
 none,
 none,
 none,
 none,
 some ⟨false,1,8,[.int .u64 0],.int .u64,false⟩,
 none,
 none,
 none,
 some ⟨false,1,8,[.nilp],.ptr,false⟩,
 none,
 some ⟨false,1,8,[.nilp],.ptr,false⟩,
 none,
 none,
 some ⟨true,4,40,[.nilp,.nilp,.nilp,.str ByteArray.empty],.struct [(0,1,false),(1,1,false),(2,1,false),(3,1,false)],false⟩,
 some ⟨true,4,40,[.nilp,.nilp,.nilp,.str ByteArray.empty],.struct [(0,1,false),(1,1,false),(2,1,false),(3,1,false)],false⟩,
 some ⟨true,0,0,[],.array 0 16 1,false⟩,
 none,
 none,
 some ⟨false,1,1,[.int .u8 0],.int .u8,false⟩,
 some ⟨false,1,1,[.int .u8 0],.int .u8,false⟩,
 none,
 some ⟨false,1,8,[.nilp],.ptr,false⟩,
 some ⟨false,1,4,[.int .i32 0],.int .i32,false⟩,
 some ⟨false,1,4,[.int .i32 0],.int .i32,false⟩,
 none,
 none,
 some ⟨true,3,24,[.int .i64 0,.int .i64 0,.int .i64 0],.struct [(0,1,false),(1,1,false),(2,1,false)],false⟩,
 some ⟨true,3,24,[.int .i64 0,.int .i64 0,.int .i64 0],.struct [(0,1,false),(1,1,false),(2,1,false)],true⟩,
 none
]
def tT (t:Nat):Option TI:=match tL[t]? with|some x=>x|none=>none
noncomputable abbrev pg:Program:=Go.Proofs.Tryz.prog
theorem jp:((List.range 303).all fun t=>match tT t with|some i=>Ze pg t i|none=>true)=true:=by kernel_rfl
theorem tk:BI pg tT:=fun t i h=>by
 have hl:t<303:=by
  rcases Nat.lt_or_ge t 303 with h1|h1
  .exact h1
  .have h2:tL[t]?=none:=List.getElem?_eq_none h1
   simp[tT,h2] at h
 have:=List.all_eq_true.1 jp t (List.mem_range.2 hl)
 rw[h] at this;exact this
@[simp] theorem mO:tT 2=some ⟨false,1,8,[.int .i64 0],.int .i64,false⟩:=rfl
@[simp] theorem mP:Ar tT 2= .int .i64:=rfl
@[simp] theorem mQ:tT 3=some ⟨false,1,8,[.int .i64 0],.int .i64,false⟩:=rfl
@[simp] theorem mR:Ar tT 3= .int .i64:=rfl
@[simp] theorem mS:tT 4=some ⟨false,1,1,[.bool false],.bool,false⟩:=rfl
@[simp] theorem mT:Ar tT 4= .bool:=rfl
@[simp] theorem mU:tT 5=some ⟨false,1,1,[.int .u8 0],.int .u8,false⟩:=rfl
@[simp] theorem mV:Ar tT 5= .int .u8:=rfl
@[simp] theorem mW:tT 6=some ⟨false,1,1,[.int .u8 0],.int .u8,false⟩:=rfl
@[simp] theorem mX:Ar tT 6= .int .u8:=rfl
@[simp] theorem mY:tT 7=some ⟨true,4,24,[.int .i64 0,.int .i64 0,.bool false,.int .u8 0],.struct [(0,1,false),(1,1,false),(2,1,false),(3,1,false)],false⟩:=rfl
@[simp] theorem mZ:Ar tT 7= .struct [(0,1,false),(1,1,false),(2,1,false),(3,1,false)]:=rfl
@[simp] theorem nc:tT 8=some ⟨true,4,24,[.int .i64 0,.int .i64 0,.bool false,.int .u8 0],.struct [(0,1,false),(1,1,false),(2,1,false),(3,1,false)],false⟩:=rfl
@[simp] theorem nd:Ar tT 8= .struct [(0,1,false),(1,1,false),(2,1,false),(3,1,false)]:=rfl
@[simp] theorem nf:tT 9=some ⟨false,1,16,[.str ByteArray.empty],.str,false⟩:=rfl
@[simp] theorem ng:Ar tT 9= .str:=rfl
@[simp] theorem la:tT 10=some ⟨false,1,16,[.str ByteArray.empty],.str,false⟩:=rfl
@[simp] theorem lc:Ar tT 10= .str:=rfl
@[simp] theorem ld:tT 11=some ⟨false,1,16,[.str ByteArray.empty],.str,false⟩:=rfl
@[simp] theorem lf:Ar tT 11= .str:=rfl
@[simp] theorem lg:tT 12=some ⟨false,1,8,[.int .u64 0],.int .u64,false⟩:=rfl
@[simp] theorem lh:Ar tT 12= .int .u64:=rfl
@[simp] theorem li:tT 13=some ⟨true,2,24,[.str ByteArray.empty,.int .u64 0],.struct [(0,1,false),(1,1,false)],false⟩:=rfl
@[simp] theorem lj:Ar tT 13= .struct [(0,1,false),(1,1,false)]:=rfl
@[simp] theorem lk:tT 14=some ⟨true,2,24,[.str ByteArray.empty,.int .u64 0],.struct [(0,1,false),(1,1,false)],false⟩:=rfl
@[simp] theorem ll:Ar tT 14= .struct [(0,1,false),(1,1,false)]:=rfl
@[simp] theorem lm:tT 15=some ⟨false,1,8,[.nilp],.ptr,false⟩:=rfl
@[simp] theorem ln:Ar tT 15= .ptr:=rfl
@[simp] theorem lp:tT 16=some ⟨false,1,8,[.nilp],.ptr,false⟩:=rfl
@[simp] theorem lq:Ar tT 16= .ptr:=rfl
@[simp] theorem lr:tT 17=some ⟨false,1,8,[.nilp],.ptr,false⟩:=rfl
@[simp] theorem lu:Ar tT 17= .ptr:=rfl
@[simp] theorem lv:tT 18=some ⟨true,1,8,[.nilp],.struct [(0,1,false)],false⟩:=rfl
@[simp] theorem lw:Ar tT 18= .struct [(0,1,false)]:=rfl
@[simp] theorem lz:tT 19=some ⟨true,1,8,[.nilp],.struct [(0,1,false)],false⟩:=rfl
@[simp] theorem lA:Ar tT 19= .struct [(0,1,false)]:=rfl
@[simp] theorem lB:tT 21=some ⟨false,1,4,[.int .i32 0],.int .i32,false⟩:=rfl
@[simp] theorem lC:Ar tT 21= .int .i32:=rfl
@[simp] theorem lD:tT 22=some ⟨false,1,24,[.own 4 0 []],.slice 38 4 64 [.int .i64 0,.int .i64 0,.own 8 0 [],.own 12 0 []],false⟩:=rfl
@[simp] theorem lE:Ar tT 22= .slice 38 4 64 [.int .i64 0,.int .i64 0,.own 8 0 [],.own 12 0 []]:=rfl
@[simp] theorem lF:tT 23=some ⟨false,1,24,[.own 1 0 []],.slice 65 1 24 [.own 4 0 []],false⟩:=rfl
@[simp] theorem lG:Ar tT 23= .slice 65 1 24 [.own 4 0 []]:=rfl
@[simp] theorem lH:tT 24=some ⟨false,1,24,[.own 2 0 []],.slice 51 2 32 [.int .i64 0,.own 1 0 []],false⟩:=rfl
@[simp] theorem lI:Ar tT 24= .slice 51 2 32 [.int .i64 0,.own 1 0 []]:=rfl
@[simp] theorem lJ:tT 25=some ⟨false,1,24,[.own 3 0 []],.slice 301 3 24 [.int .i64 0,.int .i64 0,.int .i64 0],false⟩:=rfl
@[simp] theorem lK:Ar tT 25= .slice 301 3 24 [.int .i64 0,.int .i64 0,.int .i64 0]:=rfl
@[simp] theorem lL:tT 26=some ⟨true,2,48,[.own 2 0 [],.own 3 0 []],.struct [(0,1,false),(1,1,false)],false⟩:=rfl
@[simp] theorem lM:Ar tT 26= .struct [(0,1,false),(1,1,false)]:=rfl
@[simp] theorem lN:tT 27=some ⟨true,2,48,[.own 2 0 [],.own 3 0 []],.struct [(0,1,false),(1,1,false)],false⟩:=rfl
@[simp] theorem lO:Ar tT 27= .struct [(0,1,false),(1,1,false)]:=rfl
@[simp] theorem lP:tT 28=some ⟨false,1,24,[.own 1 0 []],.slice 3 1 8 [.int .i64 0],false⟩:=rfl
@[simp] theorem lQ:Ar tT 28= .slice 3 1 8 [.int .i64 0]:=rfl
@[simp] theorem lR:tT 29=some ⟨true,4,96,[.own 1 0 [],.own 2 0 [],.own 3 0 [],.own 1 0 []],.struct [(0,1,false),(1,2,true),(3,1,false)],false⟩:=rfl
@[simp] theorem lS:Ar tT 29= .struct [(0,1,false),(1,2,true),(3,1,false)]:=rfl
@[simp] theorem lT:tT 30=some ⟨true,4,96,[.own 1 0 [],.own 2 0 [],.own 3 0 [],.own 1 0 []],.struct [(0,1,false),(1,2,true),(3,1,false)],false⟩:=rfl
@[simp] theorem lU:Ar tT 30= .struct [(0,1,false),(1,2,true),(3,1,false)]:=rfl
@[simp] theorem lV:tT 31=some ⟨true,5,120,[.own 4 0 [],.own 1 0 [],.own 2 0 [],.own 3 0 [],.own 1 0 []],.struct [(0,1,false),(1,4,true)],false⟩:=rfl
@[simp] theorem lW:Ar tT 31= .struct [(0,1,false),(1,4,true)]:=rfl
@[simp] theorem lX:tT 32=some ⟨true,5,120,[.own 4 0 [],.own 1 0 [],.own 2 0 [],.own 3 0 [],.own 1 0 []],.struct [(0,1,false),(1,4,true)],false⟩:=rfl
@[simp] theorem lY:Ar tT 32= .struct [(0,1,false),(1,4,true)]:=rfl
@[simp] theorem lZ:tT 35=some ⟨false,1,24,[.own 8 0 []],.slice 42 8 64 [.int .i64 0,.int .i64 0,.int .i64 0,.str ByteArray.empty,.int .i64 0,.int .i64 0,.bool false,.bool false],false⟩:=rfl
@[simp] theorem l0:Ar tT 35= .slice 42 8 64 [.int .i64 0,.int .i64 0,.int .i64 0,.str ByteArray.empty,.int .i64 0,.int .i64 0,.bool false,.bool false]:=rfl
@[simp] theorem l3:tT 36=some ⟨false,1,24,[.own 12 0 []],.slice 55 12 144 [.bool false,.int .i64 0,.bool false,.int .i64 0,.int .i64 0,.own 1 0 [],.int .i64 0,.int .i64 0,.int .i64 0,.bool false,.own 1 0 [],.own 1 0 []],false⟩:=rfl
@[simp] theorem l4:Ar tT 36= .slice 55 12 144 [.bool false,.int .i64 0,.bool false,.int .i64 0,.int .i64 0,.own 1 0 [],.int .i64 0,.int .i64 0,.int .i64 0,.bool false,.own 1 0 [],.own 1 0 []]:=rfl
@[simp] theorem l5:tT 37=some ⟨true,4,64,[.int .i64 0,.int .i64 0,.own 8 0 [],.own 12 0 []],.struct [(0,1,false),(1,1,false),(2,1,false),(3,1,false)],false⟩:=rfl
@[simp] theorem l6:Ar tT 37= .struct [(0,1,false),(1,1,false),(2,1,false),(3,1,false)]:=rfl
@[simp] theorem l7:tT 38=some ⟨true,4,64,[.int .i64 0,.int .i64 0,.own 8 0 [],.own 12 0 []],.struct [(0,1,false),(1,1,false),(2,1,false),(3,1,false)],false⟩:=rfl
@[simp] theorem l8:Ar tT 38= .struct [(0,1,false),(1,1,false),(2,1,false),(3,1,false)]:=rfl
@[simp] theorem l9:tT 39=some ⟨true,2,24,[.str ByteArray.empty,.int .i64 0],.struct [(0,1,false),(1,1,false)],false⟩:=rfl
@[simp] theorem ma:Ar tT 39= .struct [(0,1,false),(1,1,false)]:=rfl
@[simp] theorem mb:tT 40=some ⟨true,2,24,[.str ByteArray.empty,.int .i64 0],.struct [(0,1,false),(1,1,false)],true⟩:=rfl
@[simp] theorem mc:Ar tT 40= .struct [(0,1,false),(1,1,false)]:=rfl
@[simp] theorem md:tT 41=some ⟨true,8,64,[.int .i64 0,.int .i64 0,.int .i64 0,.str ByteArray.empty,.int .i64 0,.int .i64 0,.bool false,.bool false],.struct [(0,1,false),(1,1,false),(2,1,false),(3,2,true),(5,1,false),(6,1,false),(7,1,false)],false⟩:=rfl
@[simp] theorem me:Ar tT 41= .struct [(0,1,false),(1,1,false),(2,1,false),(3,2,true),(5,1,false),(6,1,false),(7,1,false)]:=rfl
@[simp] theorem mf:tT 42=some ⟨true,8,64,[.int .i64 0,.int .i64 0,.int .i64 0,.str ByteArray.empty,.int .i64 0,.int .i64 0,.bool false,.bool false],.struct [(0,1,false),(1,1,false),(2,1,false),(3,2,true),(5,1,false),(6,1,false),(7,1,false)],true⟩:=rfl
@[simp] theorem mg:Ar tT 42= .struct [(0,1,false),(1,1,false),(2,1,false),(3,2,true),(5,1,false),(6,1,false),(7,1,false)]:=rfl
@[simp] theorem mh:tT 44=some ⟨false,1,8,[.int .i64 0],.int .i64,false⟩:=rfl
@[simp] theorem mi:Ar tT 44= .int .i64:=rfl
@[simp] theorem mj:tT 49=some ⟨false,1,24,[.own 1 0 []],.slice 28 1 24 [.own 1 0 []],false⟩:=rfl
@[simp] theorem ml:Ar tT 49= .slice 28 1 24 [.own 1 0 []]:=rfl
@[simp] theorem mn:tT 50=some ⟨true,2,32,[.int .i64 0,.own 1 0 []],.struct [(0,1,false),(1,1,false)],false⟩:=rfl
@[simp] theorem mo:Ar tT 50= .struct [(0,1,false),(1,1,false)]:=rfl
@[simp] theorem mq:tT 51=some ⟨true,2,32,[.int .i64 0,.own 1 0 []],.struct [(0,1,false),(1,1,false)],false⟩:=rfl
@[simp] theorem mr:Ar tT 51= .struct [(0,1,false),(1,1,false)]:=rfl
@[simp] theorem ms:tT 52=some ⟨true,6,80,[.int .i64 0,.int .i64 0,.int .i64 0,.bool false,.own 1 0 [],.own 1 0 []],.struct [(0,1,false),(1,1,false),(2,1,false),(3,1,false),(4,1,false),(5,1,false)],false⟩:=rfl
@[simp] theorem mu:Ar tT 52= .struct [(0,1,false),(1,1,false),(2,1,false),(3,1,false),(4,1,false),(5,1,false)]:=rfl
@[simp] theorem mv:tT 53=some ⟨true,6,80,[.int .i64 0,.int .i64 0,.int .i64 0,.bool false,.own 1 0 [],.own 1 0 []],.struct [(0,1,false),(1,1,false),(2,1,false),(3,1,false),(4,1,false),(5,1,false)],false⟩:=rfl
@[simp] theorem mw:Ar tT 53= .struct [(0,1,false),(1,1,false),(2,1,false),(3,1,false),(4,1,false),(5,1,false)]:=rfl
@[simp] theorem my:tT 54=some ⟨true,12,144,[.bool false,.int .i64 0,.bool false,.int .i64 0,.int .i64 0,.own 1 0 [],.int .i64 0,.int .i64 0,.int .i64 0,.bool false,.own 1 0 [],.own 1 0 []],.struct [(0,1,false),(1,1,false),(2,1,false),(3,1,false),(4,2,true),(6,6,true)],false⟩:=rfl
@[simp] theorem mz:Ar tT 54= .struct [(0,1,false),(1,1,false),(2,1,false),(3,1,false),(4,2,true),(6,6,true)]:=rfl
@[simp] theorem mA:tT 55=some ⟨true,12,144,[.bool false,.int .i64 0,.bool false,.int .i64 0,.int .i64 0,.own 1 0 [],.int .i64 0,.int .i64 0,.int .i64 0,.bool false,.own 1 0 [],.own 1 0 []],.struct [(0,1,false),(1,1,false),(2,1,false),(3,1,false),(4,2,true),(6,6,true)],false⟩:=rfl
@[simp] theorem mB:Ar tT 55= .struct [(0,1,false),(1,1,false),(2,1,false),(3,1,false),(4,2,true),(6,6,true)]:=rfl
@[simp] theorem mE:tT 59=some ⟨true,4,40,[.int .i64 0,.int .i64 0,.str ByteArray.empty,.int .i64 0],.struct [(0,1,false),(1,1,false),(2,2,true)],false⟩:=rfl
@[simp] theorem mF:Ar tT 59= .struct [(0,1,false),(1,1,false),(2,2,true)]:=rfl
@[simp] theorem mG:tT 60=some ⟨true,4,40,[.int .i64 0,.int .i64 0,.str ByteArray.empty,.int .i64 0],.struct [(0,1,false),(1,1,false),(2,2,true)],true⟩:=rfl
@[simp] theorem mH:Ar tT 60= .struct [(0,1,false),(1,1,false),(2,2,true)]:=rfl
@[simp] theorem mI:tT 65=some ⟨false,1,24,[.own 4 0 []],.slice 60 4 40 [.int .i64 0,.int .i64 0,.str ByteArray.empty,.int .i64 0],false⟩:=rfl
@[simp] theorem mJ:Ar tT 65= .slice 60 4 40 [.int .i64 0,.int .i64 0,.str ByteArray.empty,.int .i64 0]:=rfl
@[simp] theorem mK:tT 71=some ⟨false,1,24,[.own 2 0 []],.slice 121 2 16 [.int .i64 0,.int .i64 0],false⟩:=rfl
@[simp] theorem mL:Ar tT 71= .slice 121 2 16 [.int .i64 0,.int .i64 0]:=rfl
@[simp] theorem jC:tT 102=some ⟨true,2,16,[.int .i64 0,.int .i64 0],.struct [(0,1,false),(1,1,false)],false⟩:=rfl
@[simp] theorem jD:Ar tT 102= .struct [(0,1,false),(1,1,false)]:=rfl
@[simp] theorem jE:tT 103=some ⟨true,2,16,[.int .i64 0,.int .i64 0],.struct [(0,1,false),(1,1,false)],true⟩:=rfl
@[simp] theorem jF:Ar tT 103= .struct [(0,1,false),(1,1,false)]:=rfl
@[simp] theorem jG:tT 120=some ⟨true,2,16,[.int .i64 0,.int .i64 0],.struct [(0,1,false),(1,1,false)],false⟩:=rfl
@[simp] theorem jH:Ar tT 120= .struct [(0,1,false),(1,1,false)]:=rfl
@[simp] theorem jI:tT 121=some ⟨true,2,16,[.int .i64 0,.int .i64 0],.struct [(0,1,false),(1,1,false)],true⟩:=rfl
@[simp] theorem jJ:Ar tT 121= .struct [(0,1,false),(1,1,false)]:=rfl
@[simp] theorem jK:tT 130=some ⟨false,1,8,[.int .u64 0],.int .u64,false⟩:=rfl
@[simp] theorem jL:Ar tT 130= .int .u64:=rfl
@[simp] theorem jM:tT 143=some ⟨false,1,24,[.own 1 0 []],.slice 5 1 1 [.int .u8 0],false⟩:=rfl
@[simp] theorem jN:Ar tT 143= .slice 5 1 1 [.int .u8 0]:=rfl
@[simp] theorem jO:tT 144=some ⟨false,1,24,[.own 1 0 []],.slice 5 1 1 [.int .u8 0],false⟩:=rfl
@[simp] theorem jP:Ar tT 144= .slice 5 1 1 [.int .u8 0]:=rfl
@[simp] theorem jQ:tT 154=some ⟨false,1,8,[.nilp],.ptr,false⟩:=rfl
@[simp] theorem jR:Ar tT 154= .ptr:=rfl
@[simp] theorem jS:tT 156=some ⟨false,1,24,[.own 1 0 []],.slice 4 1 1 [.bool false],false⟩:=rfl
@[simp] theorem jT:Ar tT 156= .slice 4 1 1 [.bool false]:=rfl
@[simp] theorem jU:tT 171=some ⟨false,1,8,[.nilp],.ptr,false⟩:=rfl
@[simp] theorem jV:Ar tT 171= .ptr:=rfl
@[simp] theorem jW:tT 225=some ⟨false,1,8,[.nilp],.ptr,false⟩:=rfl
@[simp] theorem jX:Ar tT 225= .ptr:=rfl
@[simp] theorem jY:tT 232=some ⟨true,2,32,[.own 1 0 [],.int .i64 0],.struct [(0,1,false),(1,1,false)],false⟩:=rfl
@[simp] theorem jZ:Ar tT 232= .struct [(0,1,false),(1,1,false)]:=rfl
@[simp] theorem j5:tT 233=some ⟨true,2,32,[.own 1 0 [],.int .i64 0],.struct [(0,1,false),(1,1,false)],false⟩:=rfl
@[simp] theorem j6:Ar tT 233= .struct [(0,1,false),(1,1,false)]:=rfl
@[simp] theorem j7:tT 236=some ⟨true,16,16,[.bool false,.bool false,.bool false,.bool false,.bool false,.bool false,.bool false,.bool false,.bool false,.bool false,.bool false,.bool false,.bool false,.bool false,.bool false,.bool false],.array 16 4 1,false⟩:=rfl
@[simp] theorem j8:Ar tT 236= .array 16 4 1:=rfl
@[simp] theorem j9:tT 240=some ⟨false,1,8,[.nilp],.ptr,false⟩:=rfl
@[simp] theorem ka:Ar tT 240= .ptr:=rfl
@[simp] theorem kb:tT 253=some ⟨false,1,8,[.nilp],.ptr,false⟩:=rfl
@[simp] theorem kc:Ar tT 253= .ptr:=rfl
@[simp] theorem ke:tT 254=some ⟨true,4,40,[.str ByteArray.empty,.int .i64 0,.int .i64 0,.bool false],.struct [(0,2,true),(2,1,false),(3,1,false)],false⟩:=rfl
@[simp] theorem kf:Ar tT 254= .struct [(0,2,true),(2,1,false),(3,1,false)]:=rfl
@[simp] theorem kg:tT 255=some ⟨true,4,40,[.str ByteArray.empty,.int .i64 0,.int .i64 0,.bool false],.struct [(0,2,true),(2,1,false),(3,1,false)],true⟩:=rfl
@[simp] theorem ki:Ar tT 255= .struct [(0,2,true),(2,1,false),(3,1,false)]:=rfl
@[simp] theorem kj:tT 260=some ⟨false,1,4,[.int .u32 0],.int .u32,false⟩:=rfl
@[simp] theorem kn:Ar tT 260= .int .u32:=rfl
@[simp] theorem ko:tT 262=some ⟨false,1,8,[.int .u64 0],.int .u64,false⟩:=rfl
@[simp] theorem kp:Ar tT 262= .int .u64:=rfl
@[simp] theorem kq:tT 268=some ⟨false,1,8,[.int .i64 0],.int .i64,false⟩:=rfl
@[simp] theorem kr:Ar tT 268= .int .i64:=rfl
@[simp] theorem ks:tT 278=some ⟨false,1,8,[.int .u64 0],.int .u64,false⟩:=rfl
@[simp] theorem kt:Ar tT 278= .int .u64:=rfl
@[simp] theorem ku:tT 282=some ⟨false,1,8,[.nilp],.ptr,false⟩:=rfl
@[simp] theorem kv:Ar tT 282= .ptr:=rfl
@[simp] theorem kw:tT 284=some ⟨false,1,8,[.nilp],.ptr,false⟩:=rfl
@[simp] theorem kx:Ar tT 284= .ptr:=rfl
@[simp] theorem ky:tT 287=some ⟨true,4,40,[.nilp,.nilp,.nilp,.str ByteArray.empty],.struct [(0,1,false),(1,1,false),(2,1,false),(3,1,false)],false⟩:=rfl
@[simp] theorem kz:Ar tT 287= .struct [(0,1,false),(1,1,false),(2,1,false),(3,1,false)]:=rfl
@[simp] theorem kA:tT 288=some ⟨true,4,40,[.nilp,.nilp,.nilp,.str ByteArray.empty],.struct [(0,1,false),(1,1,false),(2,1,false),(3,1,false)],false⟩:=rfl
@[simp] theorem kB:Ar tT 288= .struct [(0,1,false),(1,1,false),(2,1,false),(3,1,false)]:=rfl
@[simp] theorem kC:tT 289=some ⟨true,0,0,[],.array 0 16 1,false⟩:=rfl
@[simp] theorem kE:Ar tT 289= .array 0 16 1:=rfl
@[simp] theorem kF:tT 292=some ⟨false,1,1,[.int .u8 0],.int .u8,false⟩:=rfl
@[simp] theorem kG:Ar tT 292= .int .u8:=rfl
@[simp] theorem kH:tT 293=some ⟨false,1,1,[.int .u8 0],.int .u8,false⟩:=rfl
@[simp] theorem kI:Ar tT 293= .int .u8:=rfl
@[simp] theorem kJ:tT 295=some ⟨false,1,8,[.nilp],.ptr,false⟩:=rfl
@[simp] theorem kK:Ar tT 295= .ptr:=rfl
@[simp] theorem kL:tT 296=some ⟨false,1,4,[.int .i32 0],.int .i32,false⟩:=rfl
@[simp] theorem kM:Ar tT 296= .int .i32:=rfl
@[simp] theorem kN:tT 297=some ⟨false,1,4,[.int .i32 0],.int .i32,false⟩:=rfl
@[simp] theorem kO:Ar tT 297= .int .i32:=rfl
@[simp] theorem kP:tT 300=some ⟨true,3,24,[.int .i64 0,.int .i64 0,.int .i64 0],.struct [(0,1,false),(1,1,false),(2,1,false)],false⟩:=rfl
@[simp] theorem kQ:Ar tT 300= .struct [(0,1,false),(1,1,false),(2,1,false)]:=rfl
@[simp] theorem kR:tT 301=some ⟨true,3,24,[.int .i64 0,.int .i64 0,.int .i64 0],.struct [(0,1,false),(1,1,false),(2,1,false)],true⟩:=rfl
@[simp] theorem kS:Ar tT 301= .struct [(0,1,false),(1,1,false),(2,1,false)]:=rfl
open Go.Proofs
theorem Cz:pg.follows .mixedOrders=true:=by kernel_rfl
end Go.Abs
