/- Regions whose order is open up to a place, and which go on in the text's order: the rule; what is called there may be handed own memory. No program. -/
import Derived.Test.YtoklapibcmnaeaaGreatP5
import Derived.WalkKit
import Derived.ProofKit
import Derived.OpenShut
import Derived.SizedLaws
import Derived.ReadAgain
import Derived.Test.YtoklapibcmnaeaaGreatProg
import Derived.KernelRfl
set_option linter.unusedVariables false
set_option linter.unusedSimpArgs false
namespace Go.Abs
section
variable {P:Program} {L:Bool} {T:Nat→Option TI} {ops:Array Oper} {sl:Nat→Nat} {K:Fr→List Ae→Prop}
theorem QL {C:A2} {call:Df} (hcall:∀f args M (K K' :AV→List Ae→Prop),(∀r M,K r M→K' r M)→call f args M K→C4 C f args M K') (tk:Bt C.P T) {i:Nat} {o:Oper} (ho:ops[i]?=some o) (hops:∀(k:Nat) (o:Oper),ops[k]?=some o→A6 C.n o=true) {Q' :Exit→Act→World→Prop} {next:Act→World→Prop} {F:Fr} {M:List Ae} {a:Act} {w:World}
 (hN:∀F M a w,K F M→B9 C F M a w→next a w) (h:Bv T call ops sl i F M K) (r:B9 C F M a w):wpOpIn (FX C) 0 C.P ops Q' i next a w:=by
 unfold Bv at h
 unfold wpOpIn
 simp only[ho] at h ⊢
 have go:∀F,B2 T call o (sl i) F M K→B9 C F M a w→o.wpIn (FX C) 0 C.P a w next Q' :=fun F h r=>by
  obtain⟨σ,own,R⟩:=r
  exact FQ tk (hops i o ho) (Dq (call:=call) (call' :=C4 C) (fun f args M K K' hk hc=>hcall f args M K K' (fun r M h=>hk _ _ h) hc) (fun _ _ h=>h) h) R hN
 unfold ET at h
 cases hg:o.guard with
 |none=>
  simp only[hg] at h
  rw[if_pos (by simp[Region.wanted,hg])]
  exact go F h r
 |some g=>
  obtain⟨j,want⟩:=g
  simp only[hg] at h
  cases hd:(ops[j]?).bind (·.dst) with
  |none=>simp only[hd] at h
  |some d=>
   simp only[hd] at h
   have hor:(∃b,F d= .bool b)∨F d= .tup []:=by
    cases hFd:F d<;>simp only[hFd] at h
    .exact .inl ⟨_,rfl⟩
    .rename_i xs
     cases xs with
     |nil=>exact .inr rfl
     |cons x xs=>simp at h
   have r' :=r
   obtain⟨σ,own,R⟩:=r'
   obtain⟨oj,hj,hdj⟩:=Option.bind_eq_some_iff.1 hd
   have hdn:d<C.n:=by
    have h1:=hops j oj hj
    simp only[A6,Bool.and_eq_true,hdj] at h1
    simpa using h1.2
   have hv:=R.tmp d hdn
   rcases hor with⟨b,hFd⟩ |hFd
   rotate_left
   .rw[hFd] at hv
    obtain⟨cs,he,_⟩:=hv
    have hget:a.tmps[d]?=some (.tuple cs):=by
     have hs:=R.size
     have hlt:d<a.tmps.size:=by rw[hs];exact hdn
     simp[Array.getD,hlt] at he
     simp[hlt,he]
    have hy:yielded ops a.tmps j=none:=by simp[yielded,hd,hget]
    rw[if_neg (by simp[Region.wanted,hg,hy])]
    simp only[hFd] at h
    exact⟨fun _ _=>trivial,hN _ _ _ _ h ⟨σ,own,R.put o.dst (v:=undef) ⟨#[],rfl,rfl,fun _=>rfl⟩⟩⟩
   rw[hFd] at hv
   simp only[hFd] at h
   have he:=hv.1
   have hget:a.tmps[d]?=some (.bool b):=by
    have hs:=R.size
    have hlt:d<a.tmps.size:=by rw[hs];exact hdn
    simp[Array.getD,hlt] at he
    simp[hlt,he]
   have hy:yielded ops a.tmps j=some b:=by simp[yielded,hd,hget]
   by_cases hbw:b=want
   .rw[if_pos (by simp[Region.wanted,hg,hy,hbw])]
    simp only[hbw,beq_self_eq_true] at h
    exact go F h r
   .rw[if_neg (by simp[Region.wanted,hg,hy,hbw])]
    have:(b==want)=false:=by simpa using hbw
    simp only[this] at h
    exact⟨fun _ _=>trivial,hN _ _ _ _ h ⟨σ,own,R.put o.dst (v:=undef) ⟨#[],rfl,rfl,fun _=>rfl⟩⟩⟩
end
section
variable {P:Program} {L:Bool} {T:Nat→Option TI} {K:Fr→List Ae→Prop}
theorem Ih {call:Df} (hm:∀f args M (K K' :AV→List Ae→Prop),(∀r M,K r M→K' r M)→call f args M K→call f args M K') {K' :Fr→List Ae→Prop} (hK:∀F M,K F M→K' F M) {l tl:List Oper} {base:Nat}:∀(rest pre:List Oper) (F:Fr) (M:List Ae),l=pre++rest++tl→Ak T call l.toArray rest (base+AN pre) F M K→
 Bo T call l.toArray (fun i=>base+AN (l.take i)) (List.range' pre.length rest.length) F M K'
 | [],pre,F,M,hl,h=>hK _ _ h
 |o::rest,pre,F,M,hl,h=>by
  have hi:l.toArray[pre.length]?=some o:=by rw[hl];simp
  have ht:l.take pre.length=pre:=by rw[hl];simp
  have ih:∀F M,Ak T call l.toArray rest (base+AN pre+Bz o) F M K→Bo T call l.toArray (fun i=>base+AN (l.take i)) (List.range' (pre.length+1) rest.length) F M K' :=fun F M h=>by
   have:=Ih hm hK (l:=l) (tl:=tl) (base:=base) rest (pre++[o]) F M (by rw[hl];simp) (by rw[FD,Hc,←Nat.add_assoc];exact h)
   simpa using this
  simp only[List.length_cons,List.range'_succ,Bo]
  unfold Bv
  simp only[hi,ht]
  simp only[Ak] at h
  have mono:∀F,B2 T call o (base+AN pre) F M (fun F' M' =>Ak T call l.toArray rest (base+AN pre+Bz o) F' M' K)→B2 T call o (base+AN pre) F M (fun F' M' =>Bo T call l.toArray (fun i=>base+AN (l.take i)) (List.range' (pre.length+1) rest.length) F' M' K'):=fun F h=>
   Dq (call:=call) (call' :=call) (fun f args M K K' hk h=>hm f args M K K' (fun r M h=>hk _ _ h) h) (fun F M h=>ih F M h) h
  unfold ET
  split at h
  .rename_i hg
   simp only[hg]
   exact mono _ h
  .rename_i j want hg
   simp only[hg]
   split at h
   .rename_i d hd
    simp only[hd]
    unfold gK at h
    split at h
    .rename_i b hF
     simp only[hF]
     by_cases hb:b=want
     .simp only[hb,beq_self_eq_true]
      have:=h.1 hb
      simp only at this
      rw[E7 F d _ (by rw[hF,hb])] at this
      exact mono _ this
     .have e:(b==want)=false:=by simpa using hb
      simp only[e]
      have hbn:b= !want:=by cases b<;>cases want<;>simp_all
      have:=h.2 hbn
      simp only at this
      rw[E7 F d _ (by rw[hF,hbn])] at this
      exact ih _ _ this
    .rename_i hF
     simp only[hF]
     rw[E7 F d _ hF] at h
     exact ih _ _ h
    .exact h.elim
   .exact h.elim
end
section
variable {P:Program} {L:Bool} {T:Nat→Option TI} {sl:Nat→Nat} {K:Fr→List Ae→Prop}
theorem S7 {C:A2} {m:Nat} (hC:C.P=P) (tk:Bt P T) {l:List Oper} (hops:∀(k:Nat) (o:Oper),l.toArray[k]?=some o→A6 C.n o=true) (hml:m≤l.length) (hd:∀(i k:Nat) (oi ok:Oper),l.toArray[i]?=some oi→l.toArray[k]?=some ok→(∀p∈Bl oi,p<i)∧(k<i→(i<m∧Dt L l.toArray ok oi=true)∨∀S,GD l.toArray S→(∀p∈Bl oi,S p)→S k)) (hc5:∀(k:Nat) (o:Oper),l.toArray[k]?=some o→At o.op≤5)
 (hsl:∀(i k:Nat) (oi ok:Oper),l.toArray[i]?=some oi→l.toArray[k]?=some ok→AL oi.op=true→AL ok.op=true→i≠k→sl i≠sl k) {Q' :Exit→Act→World→Prop} (hQ:∀F M a w,K F M→B9 C F M a w→Q' .normal a w):
 ∀(fuel:Nat) (listed:Array Bool) (rem:List Nat) (F:Fr) (M:List Ae) (a:Act) (w:World),rem=(List.range m).filter (fun i=> !listed.getD i true)→rem.length+(l.length-m)≤fuel→(∀i,m≤i→listed.getD i false=false)→listed.size=l.length→GD l.toArray (fun i=>listed.getD i false=true)→
 (∀j oj,l.toArray[j]?=some oj→AL oj.op=true→sl j<M.length)→Bo T (Ah P L) l.toArray sl rem F M (fun F M=>Bo T (Ab P) l.toArray sl (List.range' m (l.length-m)) F M K)→B9 C F M a w→wpAnyIn (FX C) 0 C.P .any l.toArray Q' fuel listed a w:=by
 intro fuel
 have hready:∀(listed:Array Bool) i,i∈Region.ready .any l.toArray listed→i<l.length∧listed.getD i true=false∧∀o,l.toArray[i]?=some o→∀p∈Bl o,listed.getD p false=true:=by
  intro listed i hi
  simp only[Region.ready,List.mem_filter,List.mem_range,Bool.and_eq_true] at hi
  obtain⟨h1,h2,h3⟩:=hi
  refine⟨by simpa using h1,by simpa using h2,fun o ho p hp=>?_⟩
  rw[ho] at h3
  simp only[Option.map_some,Option.getD_some] at h3
  simp only[Bl,List.mem_map,List.mem_filter] at hp
  obtain⟨e,⟨he,hb⟩,rfl⟩:=hp
  have h4:=Array.all_eq_true'.1 h3 e (by simpa using he)
  simp only[hb,Bool.not_true,Bool.false_or] at h4
  exact h4
 have hleast:∀(listed:Array Bool) (i:Nat),listed.size=l.length→i<l.length→listed.getD i true=false→(∀p,p<i→listed.getD p false=true)→i∈Region.ready .any l.toArray listed:=by
  intro listed i hsz hlt hi hmin
  have hi2:l.toArray[i]?=some l[i]:=by simp[hlt]
  simp only[Region.ready,List.mem_filter,List.mem_range,Bool.and_eq_true]
  refine⟨by simpa using hlt,by simp[hi],?_⟩
  rw[hi2]
  simp only[Option.map_some,Option.getD_some]
  rw[Array.all_eq_true']
  intro e he
  cases hb:Region.binds .any e with
  |false=>rfl
  |true=>
   simp only[Bool.not_true,Bool.false_or]
   refine hmin _ ((hd i i _ _ hi2 hi2).1 _ ?_)
   simp only[Bl,List.mem_map,List.mem_filter]
   exact⟨e,⟨by simpa using he,hb⟩,rfl⟩
 have hstep:∀(listed:Array Bool) (i:Nat),listed.size=l.length→i<l.length→∀t,(listed.setIfInBounds i true).getD t false=true↔t=i∨listed.getD t false=true:=by
  intro listed i hsz hil t
  have hil:i<listed.size:=by rw[hsz];exact hil
  by_cases e:t=i
  .subst e;simp[Array.getD,hil]
  .have:¬i=t:=fun h=>e h.symm
   by_cases htl:t<listed.size
   .simp[Array.getD,htl,e,this,Array.getElem_setIfInBounds]
   .simp[Array.getD,htl,e]
 have hTF:∀(listed:Array Bool) t,listed.size=l.length→t<l.length→(listed.getD t true=false↔¬listed.getD t false=true):=by
  intro listed t hsz ht
  have:t<listed.size:=by omega
  simp[Array.getD,this]
 have chain:∀(fuel:Nat) (listed:Array Bool) (j:Nat) (F:Fr) (M:List Ae) (a:Act) (w:World),m≤j→j≤l.length→l.length-j≤fuel→listed.size=l.length→(∀t,listed.getD t false=true↔t<j)→
  Bo T (Ab P) l.toArray sl (List.range' j (l.length-j)) F M K→B9 C F M a w→wpAnyIn (FX C) 0 C.P .any l.toArray Q' fuel listed a w:=by
  intro fuel
  induction fuel with
  |zero=>
   intro listed j F M a w hmj hjl hf hsz hls h r
   have hj:j=l.length:=by omega
   subst hj
   rw[Nat.sub_self] at h
   refine⟨?_,hQ _ _ _ _ h r⟩
   apply Classical.byContradiction
   intro hne
   obtain⟨i,hi⟩:=List.exists_mem_of_ne_nil _ hne
   have h1:=hready listed i hi
   exact((hTF listed i hsz h1.1).1 h1.2.1) ((hls i).2 h1.1)
  |succ fuel ih=>
   intro listed j F M a w hmj hjl hf hsz hls h r
   refine⟨fun hr=>?_,fun i hi=>?_⟩
   .have hj:j=l.length:=by
     apply Classical.byContradiction
     intro hne
     have:=hleast listed j hsz (by omega) ((hTF listed j hsz (by omega)).2 fun e=>by have:=(hls j).1 e;omega) (fun p hp=>(hls p).2 hp)
     rw[hr] at this;simp at this
    subst hj
    rw[Nat.sub_self] at h
    exact hQ _ _ _ _ h r
   .have h1:=hready listed i hi
    have hij:i=j:=by
     have hge:¬i<j:=fun hlt=>((hTF listed i hsz h1.1).1 h1.2.1) ((hls i).2 hlt)
     apply Classical.byContradiction
     intro hne
     have hlt:j<i:=by omega
     have hjm:j<l.length:=by omega
     rcases(hd i j _ _ (show l.toArray[i]?=some (l[i]'h1.1) by simp[h1.1]) (show l.toArray[j]?=some (l[j]'hjm) by simp[hjm])).2 hlt with⟨h,_⟩ |h
     .omega
     .have:=h (fun t=>listed.getD t false=true) (fun t o ho ht p hp=>by
       have ht' :=(hls t).1 ht
       show listed.getD p false=true
       rw[hls]
       have:=(hd t t o o ho ho).1 p hp
       omega) (h1.2.2 _ (by simp[h1.1]))
      have:=(hls j).1 this
      omega
    subst hij
    have hi2:l.toArray[i]?=some (l[i]'h1.1):=by simp[h1.1]
    rw[show l.length-i=(l.length-(i+1))+1 by omega,List.range'_succ] at h
    refine QL (call:=Ab P) (fun f args M K K' hk hc=>(hc C hC).mono hk) (hC ▸ tk) hi2 hops (fun F' M' a' w' hk r' =>?_) h r
    exact ih _ (i+1) F' M' a' w' (by omega) (by omega) (by omega) (by simpa using hsz) (fun t=>by rw[hstep listed i hsz h1.1 t,hls];omega) hk r'
 induction fuel with
 |zero=>
  intro listed rem F M a w hrem hlen hlt hsz hcl hsm h r
  have hr0:rem=[]:=by
   have:rem.length=0:=by omega
   simpa using this
  subst hr0
  refine chain 0 listed m F M a w (Nat.le_refl _) hml (by simp at hlen;omega) hsz (fun t=>⟨fun ht=>?_,fun ht=>?_⟩) h r
  .apply Classical.byContradiction
   intro hn
   rw[hlt t (by omega)] at ht;simp at ht
  .apply Classical.byContradiction
   intro hn
   have:t∈(List.range m).filter (fun i=> !listed.getD i true):=List.mem_filter.2 ⟨by simpa using ht,by simp[(hTF listed t hsz (by omega)).2 hn]⟩
   rw[←hrem] at this;simp at this
 |succ fuel ih=>
  intro listed rem F M a w hrem hlen hlt hsz hcl hsm h r
  by_cases hr0:rem=[]
  .subst hr0
   refine chain (fuel+1) listed m F M a w (Nat.le_refl _) hml (by simp at hlen;omega) hsz (fun t=>⟨fun ht=>?_,fun ht=>?_⟩) h r
   .apply Classical.byContradiction
    intro hn
    rw[hlt t (by omega)] at ht;simp at ht
   .apply Classical.byContradiction
    intro hn
    have:t∈(List.range m).filter (fun i=> !listed.getD i true):=List.mem_filter.2 ⟨by simpa using ht,by simp[(hTF listed t hsz (by omega)).2 hn]⟩
    rw[←hrem] at this;simp at this
  refine⟨fun hr=>?_,fun i hi=>?_⟩
  .exfalso
   obtain⟨i,rest,hir⟩:=List.exists_cons_of_ne_nil hr0
   have hmem:i∈rem:=by rw[hir];simp
   have hpw:rem.Pairwise (·<·):=by rw[hrem];exact(Dx _).filter _
   have hmem' :=List.mem_filter.1 (hrem ▸ hmem)
   have him:i<m:=by simpa using hmem'.1
   have hmin:∀p,p<i→listed.getD p false=true:=by
    intro p hp
    apply Classical.byContradiction
    intro hno
    have:p∈rem:=by
     rw[hrem]
     exact List.mem_filter.2 ⟨by simp;omega,by simp[(hTF listed p hsz (by omega)).2 hno]⟩
    rw[hir] at this hpw
    rcases List.mem_cons.1 this with h|h
    .omega
    .have:=(List.pairwise_cons.1 hpw).1 p h;omega
   have:=hleast listed i hsz (by omega) (by simpa using hmem'.2) hmin
   rw[hr] at this;simp at this
  .have h1:=hready listed i hi
   have hi2:l.toArray[i]?=some (l[i]'h1.1):=by simp[h1.1]
   have him:i<m:=by
    apply Classical.byContradiction
    intro hge
    obtain⟨k,rest,hkr⟩:=List.exists_cons_of_ne_nil hr0
    have hkm:k∈rem:=by rw[hkr];simp
    have hk' :=List.mem_filter.1 (hrem ▸ hkm)
    have hkm:k<m:=by simpa using hk'.1
    rcases(hd i k _ _ hi2 (show l.toArray[k]?=some (l[k]'(by omega)) by simp)).2 (by omega) with⟨h,_⟩ |h
    .omega
    .have h3:=h _ hcl (h1.2.2 _ hi2)
     exact((hTF listed k hsz (by omega)).1 (by simpa using hk'.2)) h3
   have hmem:i∈rem:=by rw[hrem];exact List.mem_filter.2 ⟨by simpa using him,by simp[h1.2.1]⟩
   obtain⟨pre,post,hpp⟩:=List.append_of_mem hmem
   have hsorted:rem.Pairwise (·<·):=by rw[hrem];exact(Dx _).filter _
   rw[hpp] at hsorted
   have hs1:=List.pairwise_append.1 hsorted
   have hprelt:∀k∈pre,k<i:=fun k hk=>hs1.2.2 k hk i (by simp)
   have hpostgt:∀k∈post,i<k:=(List.pairwise_cons.1 hs1.2.1).1
   have hpull:=Ql (n:=C.n) (sl:=sl) (L:=L) (F:=F) (M:=M) tk hops hsl hi2 pre post (fun k hk=>Nat.ne_of_lt (hprelt k hk)) (fun k hk ok hok=>?_) (fun ha=>hsm i _ hi2 ha) ⟨C,a,w,hC,rfl,r⟩ (by rw[←hpp];exact h)
   .refine I3 hC (hC ▸ tk) hi2 hops (fun F' M' a' w' hk r' =>?_) (Hb hops hc5 hpull) r
    refine ih _ (pre++post) F' M' a' w' ?_ ?_ ?_ (by simpa using hsz) ?_ (fun j oj hj ha=>Nat.lt_of_lt_of_le (hsm j oj hj ha) hk.2) hk.1 r'
    .have:(List.range m).filter (fun t=> !(listed.setIfInBounds i true).getD t true)=((List.range m).filter (fun t=> !listed.getD t true)).filter (fun t=>t !=i):=by
      rw[List.filter_filter]
      refine List.filter_congr fun t ht=>?_
      have htl:t<listed.size:=by rw[hsz];have:t<m:=by simpa using ht
                                 omega
      by_cases e:t=i
      .subst e;simp[Array.getD,htl]
      .have:¬i=t:=fun h=>e h.symm
       simp[Array.getD,htl,e,this,Array.getElem_setIfInBounds]
     rw[this,←hrem,hpp,List.filter_append,List.filter_cons]
     simp only[bne_self_eq_false,Bool.false_eq_true,if_false]
     rw[List.filter_eq_self.2 (fun k hk=>by simp;exact Nat.ne_of_lt (hprelt k hk)),List.filter_eq_self.2 (fun k hk=>by simp;exact(Nat.ne_of_gt (hpostgt k hk)))]
    .rw[hpp] at hlen
     simp at hlen ⊢
     omega
    .intro t ht
     apply Classical.byContradiction
     intro hn
     have hn' :(listed.setIfInBounds i true).getD t false=true:=by simpa using hn
     rw[hstep listed i hsz h1.1 t] at hn'
     rcases hn' with h|h
     .omega
     .rw[hlt t ht] at h;simp at h
    .intro k o hk hlist p hp
     rw[hstep listed i hsz h1.1] at hlist ⊢
     rcases hlist with rfl|hlist
     .exact .inr (h1.2.2 o hk p hp)
     .exact .inr (hcl k o hk hlist p hp)
   .have hkrem:k∈rem:=by rw[hpp];simp[hk]
    have hkm:=List.mem_filter.1 (hrem ▸ hkrem)
    rcases(hd i k _ ok hi2 hok).2 (hprelt k hk) with h|h
    .exact h.2
    .exfalso
     have h3:=h _ hcl (h1.2.2 _ hi2)
     have hkl:k<l.length:=by have:=hprelt k hk;omega
     exact((hTF listed k hsz hkl).1 (by simpa using hkm.2)) h3
end
def Rl (L:Bool) (m:Nat) (l:List Oper):Bool:=GS (fun _ ok i oi=>decide (i<m)&&Dt L l.toArray ok oi) l.toArray l [] [] 0&&(decide (m≤l.length)&&l.all fun o=>decide (At o.op≤5))
theorem W.regdS {P:Program} {T:Nat→Option TI} {p:Nat} {F:Fr} {M:List Ae} {Q:BN} {id:Nat} {l:List Oper} (n m:Nat) (hn:AN l=n) (L:Bool) (hp:P.follows .mixedOrders=true) (hd:Rl L m l=true)
 (h:∀K:Fr→List Ae→Prop,(∀F M,Q .normal F M→K F M)→Ak T (Ah P L) l.toArray (l.take m) M.length F (M++List.replicate n .free) fun F' M' =>Ak T (Ab P) l.toArray (l.drop m) (M.length+AN (l.take m)) F' M' K):W P T p (.region id l.toArray true) F M Q:=by
 intro tk C hC hp' hb a w r
 simp only[Rl,Bool.and_eq_true] at hd
 simp only[B3] at hb
 subst hn
 have hops:∀(k:Nat) (o:Oper),l.toArray[k]?=some o→A6 C.n o=true:=fun k o ho=>by
  refine List.all_eq_true.1 hb o ?_
  rw[←Array.getElem?_toList] at ho
  exact List.mem_of_getElem? ho
 have hc5:∀(k:Nat) (o:Oper),l.toArray[k]?=some o→At o.op≤5:=fun k o ho=>by
  have:=List.all_eq_true.1 hd.2.2 o (List.mem_of_getElem? (by simpa using ho))
  simpa using this
 have hml:m≤l.length:=by simpa using hd.2.1
 refine wpIn_region_any (hC ▸ hp) ?_
 obtain⟨σ,own,R⟩:=r
 have hm1:∀f args M (K K' :AV→List Ae→Prop),(∀r M,K r M→K' r M)→Ah P L f args M K→Ah P L f args M K' :=fun f args M K K' hk h=>Ah.mono (fun r bs h=>hk _ _ h) h
 have hm2:∀f args M (K K' :AV→List Ae→Prop),(∀r M,K r M→K' r M)→Ab P f args M K→Ab P f args M K' :=fun f args M K K' hk h C hC=>(h C hC).mono hk
 have hlt:(l.take m).length=m:=by simp;omega
 have h' :=Ih (call:=Ah P L) hm1 (K' :=fun F' M' =>Bo T (Ab P) l.toArray (fun i=>M.length+AN (l.take i)) (List.range' m (l.length-m)) F' M' (Q .normal)) (fun F' M' hk=>by
  have:=Ih (call:=Ab P) hm2 (K' :=Q .normal) (fun _ _ h=>h) (l:=l) (tl:=[]) (base:=M.length) (l.drop m) (l.take m) F' M' (by simp) hk
  rw[hlt,List.length_drop] at this
  exact this) (l:=l) (tl:=l.drop m) (base:=M.length) (l.take m) [] F _ (by simp) (h _ fun _ _ h=>h)
 rw[hlt] at h'
 refine S7 (m:=m) (l:=l) (L:=L) hC tk hops hml (fun i k oi ok hi hk=>?_) hc5 (sl:=fun i=>M.length+AN (l.take i)) (fun i k oi ok hi hk ha ha' hne=>?_) (K:=Q .normal) (Q' :=aq C Q) (fun F M a w h r=> .inl ⟨F,M,h,r⟩) l.toArray.size (Array.replicate l.toArray.size false) (List.range' 0 m) F _ a w.drew ?_ ?_ ?_ ?_ ?_ ?_ h' ⟨σ,own,(R.grow _).drew⟩
 .have:=FW (ops:=l.toArray) l [] [] [] (by simp) rfl (fun t m h=>by simp at h) (fun k o _ h=>by simp at h) hd.1 i k oi ok hi hk (Nat.zero_le _)
  refine⟨this.1,fun hlt=>?_⟩
  rcases this.2 hlt with h|h
  .simp only[Bool.and_eq_true,decide_eq_true_eq] at h
   exact .inl h
  .exact .inr h
 .have s1:Bz oi=1:=by simp[Bz,ha]
  have s2:Bz ok=1:=by simp[Bz,ha']
  rcases Nat.lt_or_gt_of_ne hne with h|h
  .have:=CE (l:=l) (by simpa using hi) h
   omega
  .have:=CE (l:=l) (by simpa using hk) h
   omega
 .rw[←List.range_eq_range']
  symm
  rw[List.filter_eq_self]
  intro t ht
  have:t<l.length:=by have:t<m:=by simpa using ht
                      omega
  simp[Array.getD,this]
 .simp;omega
 .intro i _
  simp[Array.getD]
 .simp
 .intro i o ho hl
  simp[Array.getD] at hl
 .intro j oj hj ha
  have s1:Bz oj=1:=by simp[Bz,ha]
  have hjl:j<l.length:=by
   rcases Nat.lt_or_ge j l.length with h|h
   .exact h
   .rw[show l.toArray[j]?=l[j]? by simp,List.getElem?_eq_none h] at hj;simp at hj
  have:=CE (l:=l) (by simpa using hj) hjl
  rw[List.take_length] at this
  simp only[List.length_append,List.length_replicate]
  omega
end Go.Abs
namespace Go.Abs
def Nm (M:List Ae):AV→AV
 | .own _ 0 []=> .own 1 0 []
 |x=>vw M x
section
variable {P:Program} {f:Nat} {M:List Ae} {args cargs:List AV} {K:AV→List Ae→Prop} {Q:AV→List Ae→Prop}
theorem Ut {w:World} {sh shB:Nat→Prop} {σ:Nat→Nat→Option St} {own:Nat→Option Nat} (m:Bw w sh σ own M) (hs:∀g,sh g→shB g) (ho:∀g,own g≠none→g<w.heap.size→shB g) {x:AV} {v:Value} (h:VR w sh σ x v (fun _=>0)):VR w shB σ0 (Nm M x) v (fun _=>0):=by
 unfold Nm
 split
 .simp only[VR] at h ⊢
  rcases h with⟨ha,_⟩ | ⟨hh,b,c,cur,e',fp',_,_,_,_,_,_,_,hff⟩
  .exact .inl ⟨ha,trivial,trivial,fun _=>trivial⟩
  .have:=hff hh
   simp at this
   omega
 .exact NN m hs ho h
theorem Ab.borN (spec:Aa P f cargs [] Q) (hargs:args.map (Nm M)=cargs) (hk:∀r,Q r []→ES r=true∧K (Dg M.length r).1 (M++(Dg M.length r).2)):Ab P f args M K:=by
 intro C hC
 subst hC
 refine⟨spec.1,fun F a w σ own vals R hv=>?_⟩
 have hv' :An w (fun g=>C.sh g∨(own g≠none∧g<w.heap.size)) σ0 cargs vals.toList (fun _=>0):=by
  rw[←hargs]
  have:=Ef (w:=w) (sh:=C.sh) (shB:=fun g=>C.sh g∨(own g≠none∧g<w.heap.size)) (σ:=σ) (τ:=σ0) (f:=Nm M) (p:=fun fp=>∀g,fp g=0) (fun a b c hc e=>⟨fun g=>by have:=e g;have:=hc g;omega,fun g=>by have:=e g;have:=hc g;omega⟩) (fun x v fp h hf=>by
   have:fp=fun _=>0:=funext hf
   subst this
   exact Ut R.mem (fun g hg=> .inl hg) (fun g hg hlt=> .inr ⟨hg,hlt⟩) h)
  exact this _ _ _ hv (fun _=>rfl)
 refine(spec.2 w _ σ0 (fun _=>none) vals hv' (E6 _ _) (fun g hg=>⟨rfl,?_⟩)).mono ?_
 .rcases hg with hg|hg
  .exact(R.shr g hg).2
  .exact hg.2
 .rintro e w' ⟨r,v,M',σ',own',fpr,rfl,hq,hl,hr,hf,hm,_,he,_⟩
  have:M' =[]:=List.eq_nil_of_length_eq_zero (by simpa using hl)
  subst this
  obtain⟨h1,h2⟩:=hk r hq
  have hσ:σ' =σ0:=by funext T u;exact hm.key T u (Nat.zero_le _)
  subst hσ
  obtain⟨σ2,own2,R2,r2⟩:=H8 R he (Jz r v fpr h1 hr) hf
  exact⟨_,v,_,σ2,own2,rfl,h2,R2,r2⟩
theorem Ab.eqN {v:AV} (spec:Aa P f cargs [] fun r _=>r=v) (hargs:args.map (Nm M)=cargs) (hr:ES v=true) (hk:K (Dg M.length v).1 (M++(Dg M.length v).2)):Ab P f args M K:=
 Ab.borN spec hargs fun r e=>by subst e;exact⟨hr,hk⟩
end
end Go.Abs
namespace Go.Abs
def sl:Bool→Nat→Nat→List AV→AV
 |true,s,n,xs=> .own s n xs
 |false,_,n,xs=> .ro n xs
@[simp] theorem Yq (s n:Nat) (xs:List AV):sl true s n xs= .own s n xs:=rfl
@[simp] theorem W9 (s n:Nat) (xs:List AV):sl false s n xs= .ro n xs:=rfl
def Ag {α:Type} (f:α→List AV):List α→List AV
 | []=> []
 |x::xs=>f x++Ag f xs
section
variable {α:Type} (f:α→List AV)
@[simp] theorem Xa:Ag f []=[]:=rfl
theorem AM (x:α) (xs:List α):Ag f (x::xs)=f x++Ag f xs:=rfl
theorem CS (xs ys:List α):Ag f (xs++ys)=Ag f xs++Ag f ys:=by
 induction xs with
 |nil=>rfl
 |cons x xs ih=>simp[AM,ih]
theorem Hg {s:Nat} (h:∀x,(f x).length=s) (xs:List α):(Ag f xs).length=xs.length*s:=by
 induction xs with
 |nil=>simp
 |cons x xs ih=>simp[AM,ih,h,Nat.add_mul];omega
theorem JI {s:Nat} (h:∀x,(f x).length=s):∀(k:Nat) (xs:List α),(Ag f xs).drop (k*s)=Ag f (xs.drop k)
 |0,xs=>by simp
 |k+1,[]=>by simp
 |k+1,x::xs=>by
  rw[AM,show(k+1)*s=(f x).length+k*s by rw[h];rw[Nat.add_mul];omega,List.drop_append]
  simp only[List.drop_succ_cons]
  rw[←JI h k xs]
  simp
theorem EW {s:Nat} (h:∀x,(f x).length=s):∀(k:Nat) (xs:List α),(Ag f xs).take (k*s)=Ag f (xs.take k)
 |0,xs=>by simp
 |k+1,[]=>by simp
 |k+1,x::xs=>by
  rw[AM,show(k+1)*s=(f x).length+k*s by rw[h];rw[Nat.add_mul];omega,List.take_append]
  simp only[List.take_succ_cons,AM]
  rw[←EW h k xs,List.take_of_length_le (by omega)]
  simp
theorem Fq {s:Nat} (h:∀x,(f x).length=s) {k:Nat} {xs:List α} (hk:k<xs.length):(Ag f xs).drop (k*s)=f xs[k]++Ag f (xs.drop (k+1)):=by
 rw[JI f h,List.drop_eq_getElem_cons hk,AM]
theorem FY {p:AV→Bool} (h:∀x,(f x).all p=true) (xs:List α):(Ag f xs).all p=true:=by
 induction xs with
 |nil=>rfl
 |cons x xs ih=>rw[AM,List.all_append,h,ih];rfl
theorem FZ {g:AV→AV} {f' :α→List AV} (h:∀x,(f x).map g=f' x) (xs:List α):(Ag f xs).map g=Ag f' xs:=by
 induction xs with
 |nil=>rfl
 |cons x xs ih=>rw[AM,List.map_append,h,ih,AM]
theorem GT (k:Nat):∀xs,Dj k xs=xs.all (FS k)
 | []=>by simp[Dj]
 |x::xs=>by simp only[Dj,List.all_cons,GT k xs]
end
@[ext] structure CI where
  data:ByteArray
  n:Int
  deriving DecidableEq
@[ext] structure Obj where
  id:Int
  base:Int
  data:CI
  deriving DecidableEq
@[ext] structure Cw where
  id:Int
  parent:Int
  base:Int
  data:CI
  at_:Int
  tag:Bool
  gone:Bool
  deriving DecidableEq
@[ext] structure Gr where
  n:Int
  out:List (List Int)
  deriving DecidableEq
@[ext] structure BQ where
  kind:Int
  a:Int
  at_:Int
  move:Bool
  list:List Int
  out:List Int
  deriving DecidableEq
@[ext] structure C8 where
  opn:Bool
  pin:Int
  on:Bool
  frm:Int
  stage:Gr
  job:BQ
  deriving DecidableEq
@[ext] structure AS where
  keep:Int
  blocks:Int
  vers:List Cw
  sess:List C8
  deriving DecidableEq
def Fd (m:Bool) (xs:List Int):AV:=sl m 1 xs.length (Ac xs)
def Ax (m:Bool) (xs:List (List Int)):List AV:=xs.map (Fd m)
def DQ (m:Bool) (xs:List (List Int)):AV:=sl m 1 xs.length (Ax m xs)
def Cb (b:CI):List AV:=[.str b.data,.int .i64 b.n]
def Av (r:Int×Int):List AV:=[.int .i64 r.1,.int .i64 r.2]
def Vs (m:Bool) (l:List (Int×Int)):AV:=sl m 2 l.length (Ag Av l)
def Au (o:Obj):List AV:=[.int .i64 o.id,.int .i64 o.base,.str o.data.data,.int .i64 o.data.n]
def AU (v:Cw):List AV:=[.int .i64 v.id,.int .i64 v.parent,.int .i64 v.base,.str v.data.data,.int .i64 v.data.n,.int .i64 v.at_,.bool v.tag,.bool v.gone]
def AO (m:Bool) (g:Gr):List AV:=[.int .i64 g.n,DQ m g.out]
def BA (m:Bool) (j:BQ):List AV:=[.int .i64 j.kind,.int .i64 j.a,.int .i64 j.at_,.bool j.move,Fd m j.list,Fd m j.out]
def AQ (m:Bool) (s:C8):List AV:=[.bool s.opn,.int .i64 s.pin,.bool s.on,.int .i64 s.frm,.int .i64 s.stage.n,DQ m s.stage.out,.int .i64 s.job.kind,.int .i64 s.job.a,.int .i64 s.job.at_,.bool s.job.move,Fd m s.job.list,Fd m s.job.out]
def Vt (m:Bool) (l:List Obj):AV:=sl m 4 l.length (Ag Au l)
def FE (m:Bool) (l:List Cw):AV:=sl m 8 l.length (Ag AU l)
def Of (m:Bool) (l:List C8):AV:=sl m 12 l.length (Ag (AQ m) l)
def AC (m:Bool) (s:AS):List AV:=[.int .i64 s.keep,.int .i64 s.blocks,FE m s.vers,Of m s.sess]
end Go.Abs
namespace Go.Abs
def Ps (w:World) (g:Nat):Prop:=g<w.heap.size
theorem S8 {w:World} {a:Addr} {v:Value} (h:w.cell? a=some v):a.block<w.heap.size:=by
 rcases Nat.lt_or_ge a.block w.heap.size with h1|h1
 .exact h1
 .simp[World.cell?,Array.getElem?_eq_none h1] at h
theorem Pt (a:Addr) (i:Nat):(a.add i).block=a.block:=by unfold Addr.add;split<;>rfl
theorem L2 {H:Type} {P:Program} {e:TypeId}:∀{l:List (DataW H)} {d:DataW H},d∈l→∀n∈d.weights P e,n∈DataW.weightsAll P e l
 |d' ::r,d,hd,n,hn=>by
  simp only[DataW.weightsAll,List.mem_append]
  rcases List.mem_cons.1 hd with rfl|h
  .exact .inl hn
  .exact .inr (L2 h n hn)
section
variable {H:Type} {enc:TypeId×Value→H} {P:Program} {w:World} {t e:TypeId}
def AP {α:Type} (enc:TypeId×Value→H) (P:Program) (w:World) (t:TypeId) (f:α→List AV) (good:α→Prop):Prop:=
 ∀fuel cs x,DataW.trod enc P w 0 (fun _=>true) true fuel t cs=some x→(∀n∈x.1.weights P t,n≤reachBytes)→∃a,An w (Ps w) σ0 (f a) cs (fun _=>0)∧good a
theorem Uu (ht:P.underlying t=some (.slice e)) (es sp:List (DataW H)):DataW.weights P t (.slice es sp)=(es.length+sp.length)*P.bytesOf e::(DataW.weightsAll P e es++DataW.weightsAll P e sp):=by simp[DataW.weights,ht]
theorem KH {sh:Nat→Prop} {a:AV} {v:Value} (h:VR w sh σ0 a v (fun _=>0)):An w sh σ0 [a] [v] (fun _=>0):=⟨v,[],fun _=>0,fun _=>0,rfl,h,⟨rfl,fun _=>rfl⟩,fun _=>rfl⟩
theorem AP.map {α β:Type} {f:α→List AV} {f' :β→List AV} {good:α→Prop} {good' :β→Prop} (h:AP enc P w t f good) (g:α→β) (hf:∀a,f a=f' (g a)) (hg:∀a,good a→good' (g a)):AP enc P w t f' good' :=fun fuel cs x hx hw=>by
 obtain⟨a,h1,h2⟩:=h fuel cs x hx hw
 exact⟨g a,hf a ▸ h1,hg a h2⟩
theorem AP.int {k:IntKind} (ht:P.underlying t=some (.int k)):AP enc P w t (fun n:Int=> [.int k n]) fun _=>True:=fun fuel cs x hx _=>by
 obtain⟨n,rfl,_,_⟩:=DataW.trod_int ht hx
 exact⟨n,KH ⟨rfl,fun _=>rfl⟩,trivial⟩
theorem AP.bool (ht:P.underlying t=some .bool):AP enc P w t (fun b:Bool=> [.bool b]) fun _=>True:=fun fuel cs x hx _=>by
 obtain⟨b,rfl,_⟩:=DataW.trod_bool ht hx
 exact⟨b,KH ⟨rfl,fun _=>rfl⟩,trivial⟩
theorem AP.str (ht:P.underlying t=some .string):AP enc P w t (fun s:ByteArray=> [.str s]) fun s=>s.size≤reachBytes:=fun fuel cs x hx hw=>by
 obtain⟨s,rfl,rfl,_⟩:=DataW.trod_string ht hx
 refine⟨s,KH ⟨rfl,fun _=>rfl⟩,?_⟩
 have:=hw s.data.toList.length (by simp[DataW.weights])
 simpa using this
theorem AP.len (ht:P.underlying t=some (.slice e)) (hb:0<P.bytesOf e):AP enc P w t (fun n:Nat=> [.ro n []]) fun n=>n≤reachBytes:=fun fuel cs x hx hw=>by
 rcases DataW.trod_slice ht hx with⟨rfl,_⟩ | ⟨a,len,cap,elems,rest,n,rfl,rfl,rfl,_,hlc,_,hel,_⟩
 .exact⟨0,KH ⟨fun _=>rfl,none,0,rfl,Nat.le_refl _,fun _=>rfl,.inl rfl⟩,Nat.zero_le _⟩
 .refine⟨len,KH ⟨fun _=>rfl,some a,cap,rfl,hlc,(by simp),.inl rfl⟩,?_⟩
  have:=hw ((elems.length+rest.length)*P.bytesOf e) (by simp[DataW.weights,ht])
  rw[hel] at this
  have h2:=Nat.le_mul_of_pos_right (len+rest.length) hb
  omega
theorem AP.slice {α:Type} {f:α→List AV} {good:α→Prop} (h:AP enc P w e f good) (ht:P.underlying t=some (.slice e)) (hb:0<P.bytesOf e):AP enc P w t (fun xs:List α=> [.ro xs.length (Ag f xs)]) fun xs=>xs.length≤reachBytes∧∀a∈xs,good a:=fun fuel cs x hx hw=>by
 rcases DataW.trod_slice ht hx with⟨rfl,_⟩ | ⟨a,len,cap,elems,rest,n,rfl,rfl,rfl,_,hlc,_,hel,hget,_⟩
 .exact⟨[],KH ⟨fun _=>rfl,none,0,rfl,Nat.le_refl _,fun _=>rfl,.inl rfl⟩,Nat.zero_le _,by simp⟩
 .have hl:=hw ((elems.length+rest.length)*P.bytesOf e) (by simp[DataW.weights,ht])
  rw[hel] at hl
  have h2:=Nat.le_mul_of_pos_right (len+rest.length) hb
  have key:∀m,m≤len→∃(xs:List α) (vs:List Value),xs.length=m∧vs.length=m*P.cellsOf e∧An w (Ps w) σ0 (Ag f xs) vs (fun _=>0)∧DE w a vs∧∀a∈xs,good a:=by
   intro m
   induction m with
   |zero=>intro _;exact⟨[],[],rfl,by simp,⟨rfl,fun _=>rfl⟩,by intro i v hv;simp at hv,by simp⟩
   |succ m ih=>
    intro hm
    obtain⟨xs,vs,e1,e2,h3,h4,h5⟩:=ih (by omega)
    have hmlt:m<elems.length:=by omega
    have hg:=hget m (by omega)
    rw[List.getElem?_eq_getElem hmlt] at hg
    obtain⟨cs',hc,hx'⟩:=Option.bind_eq_some_iff.1 hg
    obtain⟨b,hv,hgood⟩:=h n cs' _ hx' (fun k hk=>hw k (by
     rw[Uu ht]
     exact List.mem_cons_of_mem _ (List.mem_append_left _ (L2 (List.mem_map.2 ⟨_,List.getElem_mem hmlt,rfl⟩) k hk))))
    have hcl:cs'.length=P.cellsOf e:=by
     unfold World.cells? at hc
     rw[if_pos (Nat.zero_le _)] at hc
     simpa using mapM_some_length hc
    refine⟨xs++[b],vs++cs',by simp[e1],by simp[e2,hcl,Nat.add_mul],?_,?_,?_⟩
    .have:Ag f (xs++[b])=Ag f xs++f b:=by rw[CS];simp[Ag]
     rw[this]
     exact DG h3 hv
    .intro i v hiv
     rcases Nat.lt_or_ge i vs.length with hlt|hge
     .exact h4 i v (by rwa [List.getElem?_append_left hlt] at hiv)
     .rw[List.getElem?_append_right hge] at hiv
      unfold World.cells? at hc
      rw[if_pos (Nat.zero_le _)] at hc
      have hi' :i-vs.length<P.cellsOf e:=by
       rw[←hcl]
       rcases Nat.lt_or_ge (i-vs.length) cs'.length with h9|h9
       .exact h9
       .rw[List.getElem?_eq_none h9] at hiv;simp at hiv
      have:=mapM_some_get hc (i-vs.length) (i-vs.length) (by simp[hi'])
      rw[hiv,Addr.add_assoc] at this
      rw[←this]
      congr 2
      omega
    .intro c hc'
     rcases List.mem_append.1 hc' with h9|h9
     .exact h5 c h9
     .simp at h9;subst h9;exact hgood
  obtain⟨xs,vs,e1,e2,h3,h4,h5⟩:=key len (Nat.le_refl _)
  refine⟨xs,KH ⟨fun _=>rfl,some a,cap,by rw[e1],by omega,(by simp),?_⟩,by omega,h5⟩
  cases hvs:vs with
  |nil=>
   left
   rw[hvs] at h3
   have:=Bp h3
   exact List.length_eq_zero_iff.1 (by simpa using this.symm)
  |cons v vs' =>
   right
   refine⟨a,vs,rfl,?_,h4,h3⟩
   have:=S8 (h4 0 v (by rw[hvs];rfl))
   rwa [Pt] at this
def Kg {α:Type} (enc:TypeId×Value→H) (P:Program) (w:World) (fs:List Field) (off:Nat) (f:α→List AV) (good:α→Prop):Prop:=
 ∀(cs:List Value) (k:Nat) (xs:List (DataW H×List MemPlace)),xs.length=fs.length→(∀(i:Nat) (fd:Field),fs[i]?=some fd→DataW.trod enc P w 0 (fun _=>true) true k fd.type ((cs.drop fd.offset).take (P.cellsOf fd.type))=xs[i]?)→(∀(i:Nat) (fd:Field) (x:DataW H×List MemPlace),fs[i]?=some fd→xs[i]?=some x→∀n∈x.1.weights P fd.type,n≤reachBytes)→
  cs.length=off+(fs.map fun fd=>P.cellsOf fd.type).sum→∃a,An w (Ps w) σ0 (f a) (cs.drop off) (fun _=>0)∧good a
theorem Kg.nil {off:Nat}:Kg enc P w [] off (fun _:Unit=> []) fun _=>True:=fun cs k xs _ _ _ hl=>⟨(),by
 have:cs.drop off=[]:=List.drop_eq_nil_of_le (by simp at hl;omega)
 rw[this];exact⟨rfl,fun _=>rfl⟩,trivial⟩
theorem Kg.cons {α β:Type} {fd:Field} {fs:List Field} {off s:Nat} {f:α→List AV} {g:β→List AV} {good:α→Prop} {good' :β→Prop} (h:AP enc P w fd.type f good) (hsz:P.cellsOf fd.type=s) (ho:fd.offset=off) (hs:Kg enc P w fs (off+s) g good'):Kg enc P w (fd::fs) off (fun x:α×β=>f x.1++g x.2) fun x=>good x.1∧good' x.2:=fun cs k xs hxl hx hw hl=>by
 subst hsz
 cases xs with
 |nil=>simp at hxl
 |cons x xs=>
  have h0:=hx 0 fd rfl
  obtain⟨a,h1,h2⟩:=h k _ x h0 (hw 0 fd x rfl rfl)
  obtain⟨b,h3,h4⟩:=hs cs k xs (by simpa using hxl) (fun i fd' hi=>hx (i+1) fd' (by simpa using hi)) (fun i fd' x' hi hx' =>hw (i+1) fd' x' (by simpa using hi) (by simpa using hx')) (by simp at hl;omega)
  refine⟨(a,b),?_,h2,h4⟩
  have:cs.drop off=(cs.drop fd.offset).take (P.cellsOf fd.type)++cs.drop (off+P.cellsOf fd.type):=by
   rw[ho,←List.drop_drop,List.take_append_drop]
  rw[this]
  exact DG h1 h3
theorem AP.struct {α:Type} {fs:Array Field} {f:α→List AV} {good:α→Prop} (ht:P.underlying t=some (.struct fs)) (h:Kg enc P w fs.toList 0 f good) (hc:P.cellsOf t=(fs.toList.map fun fd=>P.cellsOf fd.type).sum):AP enc P w t f good:=fun fuel cs x hx hw=>by
 obtain⟨xs,n,_,rfl,hl,hxl,hget⟩:=DataW.trod_struct ht hx
 obtain⟨a,h1,h2⟩:=h cs n xs (by simpa using hxl) (fun i fd hi=>hget i fd (by simpa using hi)) (fun i fd y hi hy k hk=>hw k (by
  simp only[DataW.weights,ht]
  exact DataW.weights_mem_each (j:=i) (by simp[hi]) (by simp[hy]) k hk)) (by rw[hl,hc];omega)
 exact⟨a,by simpa using h1,h2⟩
end
end Go.Abs
namespace Go.Abs
attribute [simp] Fd DQ Vt FE Of Vs Cb Au AU AO BA AQ AC
theorem Hh {α:Type} (f:α→List AV) (h:∀x,Er (f x)=true) (xs:List α):Er (Ag f xs)=true:=FY f h xs
theorem Hi {α:Type} (f:α→List AV) (h:∀x,Es (f x)=true) (xs:List α):Es (Ag f xs)=true:=FY f h xs
theorem Hj {α:Type} (f:α→List AV) (h:∀x,Et (f x)=true) (xs:List α):Et (Ag f xs)=true:=FY f h xs
theorem Hk {α:Type} (f:α→List AV) (k:Nat) (h:∀x,Dj k (f x)=true) (xs:List α):Dj k (Ag f xs)=true:=by
 rw[GT];exact FY f (fun x=>by rw[←GT];exact h x) xs
theorem Gh {α:Type} (f:α→List AV) (h:∀x,CC (f x)=true) (xs:List α):CC (Ag f xs)=true:=by
 rw[I0];exact FY f (fun x=>by rw[←I0];exact h x) xs
theorem Hm {α:Type} (f f' :α→List AV) (h:∀x,Ej (f x)=f' x) (xs:List α):Ej (Ag f xs)=Ag f' xs:=by
 rw[EG];exact FZ f (fun x=>by rw[←EG];exact h x) xs
@[simp] theorem Yr (M:List Ae) (k:Nat):BZ M k .any= .any:=by cases k<;>simp
@[simp] theorem Xb (M:List Ae) (k:Nat) (b:Bool):BZ M k (.bool b)= .bool b:=by cases k<;>simp
@[simp] theorem Ys (M:List Ae) (k:Nat) (q:IntKind) (n:Int):BZ M k (.int q n)= .int q n:=by cases k<;>simp
@[simp] theorem Yt (M:List Ae) (k:Nat) (b:ByteArray):BZ M k (.str b)= .str b:=by cases k<;>simp
@[simp] theorem Zs (M:List Ae) (k n:Nat) (xs:List AV):BZ M k (.ro n xs)= .ro n xs:=by cases k<;>simp
@[simp] theorem Yu (M:List Ae) (k s n:Nat) (xs:List AV):BZ M k (.own s n xs)= .ro n (Ej xs):=by cases k<;>simp
@[simp] theorem Zt (m:Bool) (s n:Nat) (xs:List AV):DO (sl m s n xs)=(if m=true then .ro n (Ej xs) else .ro n xs):=by cases m<;>simp
@[simp] theorem Zu (M:List Ae) (k:Nat) (m:Bool) (s n:Nat) (xs:List AV):BZ M k (sl m s n xs)=(if m=true then .ro n (Ej xs) else .ro n xs):=by cases m<;>simp
@[simp] theorem Xc (m:Bool) (s n:Nat) (xs:List AV):By (sl m s n xs)=true:=by cases m<;>simp
@[simp] theorem ZE (m:Bool) (s n:Nat) (xs:List AV):tf (sl m s n xs)=true:=by cases m<;>simp
@[simp] theorem ZF (m:Bool) (k s n:Nat) (xs:List AV):FS k (sl m s n xs)=true:=by cases m<;>simp
section
variable (xs ys:List (List Int)) (m:Bool) (M:List Ae) (k:Nat)
@[simp] theorem VX (i:Nat):(Ax m xs)[i]?=(xs[i]?).map (Fd m):=by simp[Ax]
@[simp] theorem VY:(Ax m xs).length=xs.length:=by simp[Ax]
@[simp] theorem VZ:Ax m []=[]:=rfl
theorem Dk (x:List Int):Ax m (x::xs)=Fd m x::Ax m xs:=rfl
theorem Pu:Ax m (xs++ys)=Ax m xs++Ax m ys:=by simp[Ax]
@[simp] theorem Hn:(Ax m xs).take k=Ax m (xs.take k):=by simp[Ax,List.map_take]
@[simp] theorem Vu:(Ax m xs).drop k=Ax m (xs.drop k):=by simp[Ax,List.map_drop]
@[simp] theorem Xd:Er (Ax false xs)=true:=by induction xs<;>simp_all[Dk]
@[simp] theorem Xe:Es (Ax m xs)=true:=by induction xs<;>simp_all[Dk]
@[simp] theorem Xf:Et (Ax m xs)=true:=by induction xs<;>simp_all[Dk]
@[simp] theorem Xg:Dj k (Ax m xs)=true:=by induction xs<;>simp_all[Dk]
@[simp] theorem V0:CC (Ax true xs)=true:=by induction xs<;>simp_all[Dk]
@[simp] theorem Pv:Ej (Ax m xs)=Ax false xs:=by induction xs<;>cases m<;>simp_all[Dk]
@[simp] theorem V1:(Ax m xs).map DO=Ax false xs:=by rw[←EG];exact Pv xs m
@[simp] theorem V2:(Ax m xs).map (BZ M k)=Ax false xs:=by induction xs<;>cases m<;>simp_all[Dk]
end
section
variable (xs ys:List (Int×Int)) (m:Bool) (M:List Ae) (k:Nat)
@[simp] theorem Xh:(Ag Av xs).length=xs.length*2:=Hg _ (fun x=>by simp[Av]) xs
@[simp] theorem V3 (h:k<xs.length):(Ag Av xs).drop (k*2)=Av xs[k]++Ag Av (xs.drop (k+1)):=Fq _ (fun x=>by simp[Av]) h
@[simp] theorem V4:(Ag Av xs).take (k*2)=Ag Av (xs.take k):=EW _ (fun x=>by simp[Av]) k xs
@[simp] theorem Yv:Er (Ag Av xs)=true:=Hh _ (fun x=>by simp[Av]) xs
@[simp] theorem Yw:Es (Ag Av xs)=true:=Hi _ (fun x=>by simp[Av]) xs
@[simp] theorem Yx:Et (Ag Av xs)=true:=Hj _ (fun x=>by simp[Av]) xs
@[simp] theorem Yy:Dj k (Ag Av xs)=true:=Hk _ k (fun x=>by simp[Av]) xs
@[simp] theorem Xi:CC (Ag Av xs)=true:=Gh _ (fun x=>by simp[Av]) xs
@[simp] theorem QM:Ej (Ag Av xs)=Ag Av xs:=Hm _ _ (fun x=>by simp[Av]) xs
@[simp] theorem Xj:(Ag Av xs).map DO=Ag Av xs:=by rw[←EG];exact QM xs
@[simp] theorem Xk:(Ag Av xs).map (BZ M k)=Ag Av xs:=FZ _ (fun x=>by simp[Av]) xs
end
section
variable (xs ys:List Obj) (m:Bool) (M:List Ae) (k:Nat)
@[simp] theorem Xl:(Ag Au xs).length=xs.length*4:=Hg _ (fun x=>by simp[Au]) xs
@[simp] theorem V5 (h:k<xs.length):(Ag Au xs).drop (k*4)=Au xs[k]++Ag Au (xs.drop (k+1)):=Fq _ (fun x=>by simp[Au]) h
@[simp] theorem V6:(Ag Au xs).take (k*4)=Ag Au (xs.take k):=EW _ (fun x=>by simp[Au]) k xs
@[simp] theorem Yz:Er (Ag Au xs)=true:=Hh _ (fun x=>by simp[Au]) xs
@[simp] theorem YA:Es (Ag Au xs)=true:=Hi _ (fun x=>by simp[Au]) xs
@[simp] theorem YB:Et (Ag Au xs)=true:=Hj _ (fun x=>by simp[Au]) xs
@[simp] theorem YC:Dj k (Ag Au xs)=true:=Hk _ k (fun x=>by simp[Au]) xs
@[simp] theorem Xm:CC (Ag Au xs)=true:=Gh _ (fun x=>by simp[Au]) xs
@[simp] theorem QN:Ej (Ag Au xs)=Ag Au xs:=Hm _ _ (fun x=>by simp[Au]) xs
@[simp] theorem Xn:(Ag Au xs).map DO=Ag Au xs:=by rw[←EG];exact QN xs
@[simp] theorem Xo:(Ag Au xs).map (BZ M k)=Ag Au xs:=FZ _ (fun x=>by simp[Au]) xs
end
section
variable (xs ys:List Cw) (m:Bool) (M:List Ae) (k:Nat)
@[simp] theorem Xp:(Ag AU xs).length=xs.length*8:=Hg _ (fun x=>by simp[AU]) xs
@[simp] theorem V7 (h:k<xs.length):(Ag AU xs).drop (k*8)=AU xs[k]++Ag AU (xs.drop (k+1)):=Fq _ (fun x=>by simp[AU]) h
@[simp] theorem V8:(Ag AU xs).take (k*8)=Ag AU (xs.take k):=EW _ (fun x=>by simp[AU]) k xs
@[simp] theorem YD:Er (Ag AU xs)=true:=Hh _ (fun x=>by simp[AU]) xs
@[simp] theorem YE:Es (Ag AU xs)=true:=Hi _ (fun x=>by simp[AU]) xs
@[simp] theorem YF:Et (Ag AU xs)=true:=Hj _ (fun x=>by simp[AU]) xs
@[simp] theorem YG:Dj k (Ag AU xs)=true:=Hk _ k (fun x=>by simp[AU]) xs
@[simp] theorem Xq:CC (Ag AU xs)=true:=Gh _ (fun x=>by simp[AU]) xs
@[simp] theorem QO:Ej (Ag AU xs)=Ag AU xs:=Hm _ _ (fun x=>by simp[AU]) xs
@[simp] theorem Xr:(Ag AU xs).map DO=Ag AU xs:=by rw[←EG];exact QO xs
@[simp] theorem Xs:(Ag AU xs).map (BZ M k)=Ag AU xs:=FZ _ (fun x=>by simp[AU]) xs
end
section
variable (xs ys:List C8) (m:Bool) (M:List Ae) (k:Nat)
@[simp] theorem Xt:(Ag (AQ m) xs).length=xs.length*12:=Hg _ (fun x=>by simp[AQ]) xs
@[simp] theorem V9 (h:k<xs.length):(Ag (AQ m) xs).drop (k*12)=(AQ m) xs[k]++Ag (AQ m) (xs.drop (k+1)):=Fq _ (fun x=>by simp[AQ]) h
@[simp] theorem Wa:(Ag (AQ m) xs).take (k*12)=Ag (AQ m) (xs.take k):=EW _ (fun x=>by simp[AQ]) k xs
@[simp] theorem YH:Er (Ag (AQ false) xs)=true:=Hh _ (fun x=>by simp[AQ]) xs
@[simp] theorem YI:Es (Ag (AQ m) xs)=true:=Hi _ (fun x=>by simp[AQ]) xs
@[simp] theorem YJ:Et (Ag (AQ m) xs)=true:=Hj _ (fun x=>by simp[AQ]) xs
@[simp] theorem YK:Dj k (Ag (AQ m) xs)=true:=Hk _ k (fun x=>by simp[AQ]) xs
@[simp] theorem Xu:CC (Ag (AQ true) xs)=true:=Gh _ (fun x=>by simp[AQ]) xs
@[simp] theorem QP:Ej (Ag (AQ m) xs)=Ag (AQ false) xs:=Hm _ _ (fun x=>by cases m<;>simp[AQ]) xs
@[simp] theorem Xv:(Ag (AQ m) xs).map DO=Ag (AQ false) xs:=by rw[←EG];exact QP xs m
@[simp] theorem Xw:(Ag (AQ m) xs).map (BZ M k)=Ag (AQ false) xs:=FZ _ (fun x=>by cases m<;>simp[AQ]) xs
end
end Go.Abs
set_option maxRecDepth 100000
namespace Go.Abs
def tL:List (Option TI):=[
 none,
 none,
 some ⟨false,1,8,[.int .i64 0],.int .i64,false⟩,
 some ⟨false,1,8,[.int .i64 0],.int .i64,false⟩,
 some ⟨false,1,1,[.bool false],.bool,false⟩,
 some ⟨false,1,1,[.int .u8 0],.int .u8,false⟩,
 some ⟨false,1,1,[.int .u8 0],.int .u8,false⟩,
 some ⟨true,4,24,[.int .i64 0,.int .i64 0,.bool false,.int .u8 0],.struct [(0,1,false),(1,1,false),(2,1,false),(3,1,false)],false⟩,
 some ⟨true,4,24,[.int .i64 0,.int .i64 0,.bool false,.int .u8 0],.struct [(0,1,false),(1,1,false),(2,1,false),(3,1,false)],false⟩,
 some ⟨false,1,16,[.str ByteArray.empty],.str,false⟩,
 some ⟨false,1,16,[.str ByteArray.empty],.str,false⟩,
 some ⟨false,1,16,[.str ByteArray.empty],.str,false⟩,
 some ⟨false,1,8,[.int .u64 0],.int .u64,false⟩,
 some ⟨true,2,24,[.str ByteArray.empty,.int .u64 0],.struct [(0,1,false),(1,1,false)],false⟩,
 some ⟨true,2,24,[.str ByteArray.empty,.int .u64 0],.struct [(0,1,false),(1,1,false)],false⟩,
 some ⟨false,1,8,[.nilp],.ptr,false⟩,
 some ⟨false,1,8,[.nilp],.ptr,false⟩,
 some ⟨false,1,8,[.nilp],.ptr,false⟩,
 some ⟨true,1,8,[.nilp],.struct [(0,1,false)],false⟩,
 some ⟨true,1,8,[.nilp],.struct [(0,1,false)],false⟩,
 none,
 some ⟨false,1,4,[.int .i32 0],.int .i32,false⟩,
 some ⟨false,1,24,[.own 4 0 []],.slice 38 4 64 [.int .i64 0,.int .i64 0,.own 8 0 [],.own 12 0 []],false⟩,
 some ⟨false,1,24,[.own 1 0 []],.slice 65 1 24 [.own 4 0 []],false⟩,
 some ⟨false,1,24,[.own 2 0 []],.slice 51 2 32 [.int .i64 0,.own 1 0 []],false⟩,
 some ⟨false,1,24,[.own 3 0 []],.slice 301 3 24 [.int .i64 0,.int .i64 0,.int .i64 0],false⟩,
 some ⟨true,2,48,[.own 2 0 [],.own 3 0 []],.struct [(0,1,false),(1,1,false)],false⟩,
 some ⟨true,2,48,[.own 2 0 [],.own 3 0 []],.struct [(0,1,false),(1,1,false)],false⟩,
 some ⟨false,1,24,[.own 1 0 []],.slice 3 1 8 [.int .i64 0],false⟩,
 some ⟨true,4,96,[.own 1 0 [],.own 2 0 [],.own 3 0 [],.own 1 0 []],.struct [(0,1,false),(1,2,true),(3,1,false)],false⟩,
 some ⟨true,4,96,[.own 1 0 [],.own 2 0 [],.own 3 0 [],.own 1 0 []],.struct [(0,1,false),(1,2,true),(3,1,false)],false⟩,
 some ⟨true,5,120,[.own 4 0 [],.own 1 0 [],.own 2 0 [],.own 3 0 [],.own 1 0 []],.struct [(0,1,false),(1,4,true)],false⟩,
 some ⟨true,5,120,[.own 4 0 [],.own 1 0 [],.own 2 0 [],.own 3 0 [],.own 1 0 []],.struct [(0,1,false),(1,4,true)],false⟩,
 none,
 none,
 some ⟨false,1,24,[.own 8 0 []],.slice 42 8 64 [.int .i64 0,.int .i64 0,.int .i64 0,.str ByteArray.empty,.int .i64 0,.int .i64 0,.bool false,.bool false],false⟩,
 some ⟨false,1,24,[.own 12 0 []],.slice 55 12 144 [.bool false,.int .i64 0,.bool false,.int .i64 0,.int .i64 0,.own 1 0 [],.int .i64 0,.int .i64 0,.int .i64 0,.bool false,.own 1 0 [],.own 1 0 []],false⟩,
 some ⟨true,4,64,[.int .i64 0,.int .i64 0,.own 8 0 [],.own 12 0 []],.struct [(0,1,false),(1,1,false),(2,1,false),(3,1,false)],false⟩,
 some ⟨true,4,64,[.int .i64 0,.int .i64 0,.own 8 0 [],.own 12 0 []],.struct [(0,1,false),(1,1,false),(2,1,false),(3,1,false)],false⟩,
 some ⟨true,2,24,[.str ByteArray.empty,.int .i64 0],.struct [(0,1,false),(1,1,false)],false⟩,
 some ⟨true,2,24,[.str ByteArray.empty,.int .i64 0],.struct [(0,1,false),(1,1,false)],true⟩,
 some ⟨true,8,64,[.int .i64 0,.int .i64 0,.int .i64 0,.str ByteArray.empty,.int .i64 0,.int .i64 0,.bool false,.bool false],.struct [(0,1,false),(1,1,false),(2,1,false),(3,2,true),(5,1,false),(6,1,false),(7,1,false)],false⟩,
 some ⟨true,8,64,[.int .i64 0,.int .i64 0,.int .i64 0,.str ByteArray.empty,.int .i64 0,.int .i64 0,.bool false,.bool false],.struct [(0,1,false),(1,1,false),(2,1,false),(3,2,true),(5,1,false),(6,1,false),(7,1,false)],true⟩,
 none,
 some ⟨false,1,8,[.int .i64 0],.int .i64,false⟩,
 none,
 none,
 none,
 none,
 some ⟨false,1,24,[.own 1 0 []],.slice 28 1 24 [.own 1 0 []],false⟩,
 some ⟨true,2,32,[.int .i64 0,.own 1 0 []],.struct [(0,1,false),(1,1,false)],false⟩,
 some ⟨true,2,32,[.int .i64 0,.own 1 0 []],.struct [(0,1,false),(1,1,false)],false⟩,
 some ⟨true,6,80,[.int .i64 0,.int .i64 0,.int .i64 0,.bool false,.own 1 0 [],.own 1 0 []],.struct [(0,1,false),(1,1,false),(2,1,false),(3,1,false),(4,1,false),(5,1,false)],false⟩,
 some ⟨true,6,80,[.int .i64 0,.int .i64 0,.int .i64 0,.bool false,.own 1 0 [],.own 1 0 []],.struct [(0,1,false),(1,1,false),(2,1,false),(3,1,false),(4,1,false),(5,1,false)],false⟩,
 some ⟨true,12,144,[.bool false,.int .i64 0,.bool false,.int .i64 0,.int .i64 0,.own 1 0 [],.int .i64 0,.int .i64 0,.int .i64 0,.bool false,.own 1 0 [],.own 1 0 []],.struct [(0,1,false),(1,1,false),(2,1,false),(3,1,false),(4,2,true),(6,6,true)],false⟩,
 some ⟨true,12,144,[.bool false,.int .i64 0,.bool false,.int .i64 0,.int .i64 0,.own 1 0 [],.int .i64 0,.int .i64 0,.int .i64 0,.bool false,.own 1 0 [],.own 1 0 []],.struct [(0,1,false),(1,1,false),(2,1,false),(3,1,false),(4,2,true),(6,6,true)],false⟩,
 none,
 none,
 none,
 some ⟨true,4,40,[.int .i64 0,.int .i64 0,.str ByteArray.empty,.int .i64 0],.struct [(0,1,false),(1,1,false),(2,2,true)],false⟩,
 some ⟨true,4,40,[.int .i64 0,.int .i64 0,.str ByteArray.empty,.int .i64 0],.struct [(0,1,false),(1,1,false),(2,2,true)],true⟩,
 none,
 none,
 none,
 none,
 some ⟨false,1,24,[.own 4 0 []],.slice 60 4 40 [.int .i64 0,.int .i64 0,.str ByteArray.empty,.int .i64 0],false⟩,
 none,
 none,
 none,
 none,
 none,
 some ⟨false,1,24,[.own 2 0 []],.slice 121 2 16 [.int .i64 0,.int .i64 0],false⟩,
 none,
 none,
 none,
 none,
 none,
 none,
 none,
 none,
 none,
 none,
 none,
 none,
 none,
 none,
 none,
 none,
 none,
 none,
 none,
 none,
 none,
 none,
 none,
 none,
 none,
 none,
 none,
 none,
 none,
 none,
 some ⟨true,2,16,[.int .i64 0,.int .i64 0],.struct [(0,1,false),(1,1,false)],false⟩,
 some ⟨true,2,16,[.int .i64 0,.int .i64 0],.struct [(0,1,false),(1,1,false)],true⟩,
 none,
 none,
 none,
 none,
 none,
 none,
 none,
 none,
 none,
 none,
 none,
 none,
 none,
 none,
 none,
 none,
 some ⟨true,2,16,[.int .i64 0,.int .i64 0],.struct [(0,1,false),(1,1,false)],false⟩,
 some ⟨true,2,16,[.int .i64 0,.int .i64 0],.struct [(0,1,false),(1,1,false)],true⟩,
 none,
 none,
 none,
 none,
 none,
 none,
 none,
 none,
 some ⟨false,1,8,[.int .u64 0],.int .u64,false⟩,
 none,
 none,
 none,
 none,
 none,
 none,
 none,
 none,
 none,
 none,
 none,
 none,
 some ⟨false,1,24,[.own 1 0 []],.slice 5 1 1 [.int .u8 0],false⟩,
 some ⟨false,1,24,[.own 1 0 []],.slice 5 1 1 [.int .u8 0],false⟩,
 none,
 none,
 none,
 none,
 none,
 none,
 none,
 none,
 none,
 some ⟨false,1,8,[.nilp],.ptr,false⟩,
 none,
 some ⟨false,1,24,[.own 1 0 []],.slice 4 1 1 [.bool false],false⟩,
 none,
 none,
 none,
 none,
 none,
 none,
 none,
 none,
 none,
 none,
 none,
 none,
 none,
 none,
 some ⟨false,1,8,[.nilp],.ptr,false⟩,
 none,
 none,
 none,
 none,
 none,
 none,
 none,
 none,
 none,
 none,
 none,
 none,
 none,
 none,
 none,
 none,
 none,
 none,
 none,
 none,
 none,
 none,
 none,
 none,
 none,
 none,
 none,
 none,
 none,
 none,
 none,
 none,
 none,
 none,
 none,
 none,
 none,
 none,
 none,
 none,
 none,
 none,
 none,
 none,
 none,
 none,
 none,
 none,
 none,
 none,
 none,
 none,
 none,
 some ⟨false,1,8,[.nilp],.ptr,false⟩,
 none,
 none,
 none,
 none,
 none,
 none,
 some ⟨true,2,32,[.own 1 0 [],.int .i64 0],.struct [(0,1,false),(1,1,false)],false⟩,
 some ⟨true,2,32,[.own 1 0 [],.int .i64 0],.struct [(0,1,false),(1,1,false)],false⟩,
 none,
 none,
 some ⟨true,16,16,[.bool false,.bool false,.bool false,.bool false,.bool false,.bool false,.bool false,.bool false,.bool false,.bool false,.bool false,.bool false,.bool false,.bool false,.bool false,.bool false],.array 16 4 1,false⟩,
 none,
 none,
 none,
 some ⟨false,1,8,[.nilp],.ptr,false⟩,
 none,
 none,
 none,
 none,
 none,
 none,
 none,
 none,
 none,
 none,
 none,
 none,
 some ⟨false,1,8,[.nilp],.ptr,false⟩,
 some ⟨true,4,40,[.str ByteArray.empty,.int .i64 0,.int .i64 0,.bool false],.struct [(0,2,true),(2,1,false),(3,1,false)],false⟩,
 some ⟨true,4,40,[.str ByteArray.empty,.int .i64 0,.int .i64 0,.bool false],.struct [(0,2,true),(2,1,false),(3,1,false)],true⟩,
 none,
 none,
 none,
 none,
 some ⟨false,1,4,[.int .u32 0],.int .u32,false⟩,
 none,
 some ⟨false,1,8,[.int .u64 0],.int .u64,false⟩,
 none,
 none,
 none,
 none,
 none,
 some ⟨false,1,8,[.int .i64 0],.int .i64,false⟩,
 none,
 none,
 none,
 none,
 none,
 none,
 none,
 none,
 none,
 some ⟨false,1,8,[.int .u64 0],.int .u64,false⟩,
 none,
 none,
 none,
 some ⟨false,1,8,[.nilp],.ptr,false⟩,
 none,
 some ⟨false,1,8,[.nilp],.ptr,false⟩,
 none,
 none,
 some ⟨true,4,40,[.nilp,.nilp,.nilp,.str ByteArray.empty],.struct [(0,1,false),(1,1,false),(2,1,false),(3,1,false)],false⟩,
 some ⟨true,4,40,[.nilp,.nilp,.nilp,.str ByteArray.empty],.struct [(0,1,false),(1,1,false),(2,1,false),(3,1,false)],false⟩,
 some ⟨true,0,0,[],.array 0 16 1,false⟩,
 none,
 none,
 some ⟨false,1,1,[.int .u8 0],.int .u8,false⟩,
 some ⟨false,1,1,[.int .u8 0],.int .u8,false⟩,
 none,
 some ⟨false,1,8,[.nilp],.ptr,false⟩,
 some ⟨false,1,4,[.int .i32 0],.int .i32,false⟩,
 some ⟨false,1,4,[.int .i32 0],.int .i32,false⟩,
 none,
 none,
 some ⟨true,3,24,[.int .i64 0,.int .i64 0,.int .i64 0],.struct [(0,1,false),(1,1,false),(2,1,false)],false⟩,
 some ⟨true,3,24,[.int .i64 0,.int .i64 0,.int .i64 0],.struct [(0,1,false),(1,1,false),(2,1,false)],true⟩,
 none
]
def tT (t:Nat):Option TI:=match tL[t]? with|some x=>x|none=>none
noncomputable abbrev pg:Program:=Go.Proofs.Tryz.prog
theorem Zv:((List.range 303).all fun t=>match tT t with|some i=>TA pg t i|none=>true)=true:=by kernel_rfl
theorem tk:Bt pg tT:=fun t i h=>by
 have hl:t<303:=by
  rcases Nat.lt_or_ge t 303 with h1|h1
  .exact h1
  .have h2:tL[t]?=none:=List.getElem?_eq_none h1
   simp[tT,h2] at h
 have:=List.all_eq_true.1 Zv t (List.mem_range.2 hl)
 rw[h] at this;exact this
@[simp] theorem cQ:tT 2=some ⟨false,1,8,[.int .i64 0],.int .i64,false⟩:=rfl
@[simp] theorem cR:Al tT 2= .int .i64:=rfl
@[simp] theorem cS:tT 3=some ⟨false,1,8,[.int .i64 0],.int .i64,false⟩:=rfl
@[simp] theorem cT:Al tT 3= .int .i64:=rfl
@[simp] theorem cU:tT 4=some ⟨false,1,1,[.bool false],.bool,false⟩:=rfl
@[simp] theorem cV:Al tT 4= .bool:=rfl
@[simp] theorem cW:tT 5=some ⟨false,1,1,[.int .u8 0],.int .u8,false⟩:=rfl
@[simp] theorem cY:Al tT 5= .int .u8:=rfl
@[simp] theorem cZ:tT 6=some ⟨false,1,1,[.int .u8 0],.int .u8,false⟩:=rfl
@[simp] theorem c8:Al tT 6= .int .u8:=rfl
@[simp] theorem da:tT 7=some ⟨true,4,24,[.int .i64 0,.int .i64 0,.bool false,.int .u8 0],.struct [(0,1,false),(1,1,false),(2,1,false),(3,1,false)],false⟩:=rfl
@[simp] theorem db:Al tT 7= .struct [(0,1,false),(1,1,false),(2,1,false),(3,1,false)]:=rfl
@[simp] theorem dc:tT 8=some ⟨true,4,24,[.int .i64 0,.int .i64 0,.bool false,.int .u8 0],.struct [(0,1,false),(1,1,false),(2,1,false),(3,1,false)],false⟩:=rfl
@[simp] theorem de:Al tT 8= .struct [(0,1,false),(1,1,false),(2,1,false),(3,1,false)]:=rfl
@[simp] theorem dg:tT 9=some ⟨false,1,16,[.str ByteArray.empty],.str,false⟩:=rfl
@[simp] theorem dh:Al tT 9= .str:=rfl
@[simp] theorem aW:tT 10=some ⟨false,1,16,[.str ByteArray.empty],.str,false⟩:=rfl
@[simp] theorem aX:Al tT 10= .str:=rfl
@[simp] theorem aY:tT 11=some ⟨false,1,16,[.str ByteArray.empty],.str,false⟩:=rfl
@[simp] theorem aZ:Al tT 11= .str:=rfl
@[simp] theorem ba:tT 12=some ⟨false,1,8,[.int .u64 0],.int .u64,false⟩:=rfl
@[simp] theorem bb:Al tT 12= .int .u64:=rfl
@[simp] theorem bc:tT 13=some ⟨true,2,24,[.str ByteArray.empty,.int .u64 0],.struct [(0,1,false),(1,1,false)],false⟩:=rfl
@[simp] theorem be:Al tT 13= .struct [(0,1,false),(1,1,false)]:=rfl
@[simp] theorem bf:tT 14=some ⟨true,2,24,[.str ByteArray.empty,.int .u64 0],.struct [(0,1,false),(1,1,false)],false⟩:=rfl
@[simp] theorem bg:Al tT 14= .struct [(0,1,false),(1,1,false)]:=rfl
@[simp] theorem bh:tT 15=some ⟨false,1,8,[.nilp],.ptr,false⟩:=rfl
@[simp] theorem bj:Al tT 15= .ptr:=rfl
@[simp] theorem bk:tT 16=some ⟨false,1,8,[.nilp],.ptr,false⟩:=rfl
@[simp] theorem bm:Al tT 16= .ptr:=rfl
@[simp] theorem bn:tT 17=some ⟨false,1,8,[.nilp],.ptr,false⟩:=rfl
@[simp] theorem bo:Al tT 17= .ptr:=rfl
@[simp] theorem bp:tT 18=some ⟨true,1,8,[.nilp],.struct [(0,1,false)],false⟩:=rfl
@[simp] theorem bq:Al tT 18= .struct [(0,1,false)]:=rfl
@[simp] theorem br:tT 19=some ⟨true,1,8,[.nilp],.struct [(0,1,false)],false⟩:=rfl
@[simp] theorem bt:Al tT 19= .struct [(0,1,false)]:=rfl
@[simp] theorem bu:tT 21=some ⟨false,1,4,[.int .i32 0],.int .i32,false⟩:=rfl
@[simp] theorem bx:Al tT 21= .int .i32:=rfl
@[simp] theorem bz:tT 22=some ⟨false,1,24,[.own 4 0 []],.slice 38 4 64 [.int .i64 0,.int .i64 0,.own 8 0 [],.own 12 0 []],false⟩:=rfl
@[simp] theorem bA:Al tT 22= .slice 38 4 64 [.int .i64 0,.int .i64 0,.own 8 0 [],.own 12 0 []]:=rfl
@[simp] theorem bB:tT 23=some ⟨false,1,24,[.own 1 0 []],.slice 65 1 24 [.own 4 0 []],false⟩:=rfl
@[simp] theorem bC:Al tT 23= .slice 65 1 24 [.own 4 0 []]:=rfl
@[simp] theorem bD:tT 24=some ⟨false,1,24,[.own 2 0 []],.slice 51 2 32 [.int .i64 0,.own 1 0 []],false⟩:=rfl
@[simp] theorem bE:Al tT 24= .slice 51 2 32 [.int .i64 0,.own 1 0 []]:=rfl
@[simp] theorem bF:tT 25=some ⟨false,1,24,[.own 3 0 []],.slice 301 3 24 [.int .i64 0,.int .i64 0,.int .i64 0],false⟩:=rfl
@[simp] theorem bG:Al tT 25= .slice 301 3 24 [.int .i64 0,.int .i64 0,.int .i64 0]:=rfl
@[simp] theorem bH:tT 26=some ⟨true,2,48,[.own 2 0 [],.own 3 0 []],.struct [(0,1,false),(1,1,false)],false⟩:=rfl
@[simp] theorem bI:Al tT 26= .struct [(0,1,false),(1,1,false)]:=rfl
@[simp] theorem bJ:tT 27=some ⟨true,2,48,[.own 2 0 [],.own 3 0 []],.struct [(0,1,false),(1,1,false)],false⟩:=rfl
@[simp] theorem bK:Al tT 27= .struct [(0,1,false),(1,1,false)]:=rfl
@[simp] theorem bL:tT 28=some ⟨false,1,24,[.own 1 0 []],.slice 3 1 8 [.int .i64 0],false⟩:=rfl
@[simp] theorem bM:Al tT 28= .slice 3 1 8 [.int .i64 0]:=rfl
@[simp] theorem bN:tT 29=some ⟨true,4,96,[.own 1 0 [],.own 2 0 [],.own 3 0 [],.own 1 0 []],.struct [(0,1,false),(1,2,true),(3,1,false)],false⟩:=rfl
@[simp] theorem bO:Al tT 29= .struct [(0,1,false),(1,2,true),(3,1,false)]:=rfl
@[simp] theorem bP:tT 30=some ⟨true,4,96,[.own 1 0 [],.own 2 0 [],.own 3 0 [],.own 1 0 []],.struct [(0,1,false),(1,2,true),(3,1,false)],false⟩:=rfl
@[simp] theorem bQ:Al tT 30= .struct [(0,1,false),(1,2,true),(3,1,false)]:=rfl
@[simp] theorem bR:tT 31=some ⟨true,5,120,[.own 4 0 [],.own 1 0 [],.own 2 0 [],.own 3 0 [],.own 1 0 []],.struct [(0,1,false),(1,4,true)],false⟩:=rfl
@[simp] theorem bS:Al tT 31= .struct [(0,1,false),(1,4,true)]:=rfl
@[simp] theorem bT:tT 32=some ⟨true,5,120,[.own 4 0 [],.own 1 0 [],.own 2 0 [],.own 3 0 [],.own 1 0 []],.struct [(0,1,false),(1,4,true)],false⟩:=rfl
@[simp] theorem bU:Al tT 32= .struct [(0,1,false),(1,4,true)]:=rfl
@[simp] theorem bV:tT 35=some ⟨false,1,24,[.own 8 0 []],.slice 42 8 64 [.int .i64 0,.int .i64 0,.int .i64 0,.str ByteArray.empty,.int .i64 0,.int .i64 0,.bool false,.bool false],false⟩:=rfl
@[simp] theorem bW:Al tT 35= .slice 42 8 64 [.int .i64 0,.int .i64 0,.int .i64 0,.str ByteArray.empty,.int .i64 0,.int .i64 0,.bool false,.bool false]:=rfl
@[simp] theorem bX:tT 36=some ⟨false,1,24,[.own 12 0 []],.slice 55 12 144 [.bool false,.int .i64 0,.bool false,.int .i64 0,.int .i64 0,.own 1 0 [],.int .i64 0,.int .i64 0,.int .i64 0,.bool false,.own 1 0 [],.own 1 0 []],false⟩:=rfl
@[simp] theorem bY:Al tT 36= .slice 55 12 144 [.bool false,.int .i64 0,.bool false,.int .i64 0,.int .i64 0,.own 1 0 [],.int .i64 0,.int .i64 0,.int .i64 0,.bool false,.own 1 0 [],.own 1 0 []]:=rfl
@[simp] theorem bZ:tT 37=some ⟨true,4,64,[.int .i64 0,.int .i64 0,.own 8 0 [],.own 12 0 []],.struct [(0,1,false),(1,1,false),(2,1,false),(3,1,false)],false⟩:=rfl
@[simp] theorem b7:Al tT 37= .struct [(0,1,false),(1,1,false),(2,1,false),(3,1,false)]:=rfl
@[simp] theorem b9:tT 38=some ⟨true,4,64,[.int .i64 0,.int .i64 0,.own 8 0 [],.own 12 0 []],.struct [(0,1,false),(1,1,false),(2,1,false),(3,1,false)],false⟩:=rfl
@[simp] theorem cb:Al tT 38= .struct [(0,1,false),(1,1,false),(2,1,false),(3,1,false)]:=rfl
@[simp] theorem cc:tT 39=some ⟨true,2,24,[.str ByteArray.empty,.int .i64 0],.struct [(0,1,false),(1,1,false)],false⟩:=rfl
@[simp] theorem cd:Al tT 39= .struct [(0,1,false),(1,1,false)]:=rfl
@[simp] theorem ce:tT 40=some ⟨true,2,24,[.str ByteArray.empty,.int .i64 0],.struct [(0,1,false),(1,1,false)],true⟩:=rfl
@[simp] theorem cf:Al tT 40= .struct [(0,1,false),(1,1,false)]:=rfl
@[simp] theorem cj:tT 41=some ⟨true,8,64,[.int .i64 0,.int .i64 0,.int .i64 0,.str ByteArray.empty,.int .i64 0,.int .i64 0,.bool false,.bool false],.struct [(0,1,false),(1,1,false),(2,1,false),(3,2,true),(5,1,false),(6,1,false),(7,1,false)],false⟩:=rfl
@[simp] theorem ck:Al tT 41= .struct [(0,1,false),(1,1,false),(2,1,false),(3,2,true),(5,1,false),(6,1,false),(7,1,false)]:=rfl
@[simp] theorem cm:tT 42=some ⟨true,8,64,[.int .i64 0,.int .i64 0,.int .i64 0,.str ByteArray.empty,.int .i64 0,.int .i64 0,.bool false,.bool false],.struct [(0,1,false),(1,1,false),(2,1,false),(3,2,true),(5,1,false),(6,1,false),(7,1,false)],true⟩:=rfl
@[simp] theorem cn:Al tT 42= .struct [(0,1,false),(1,1,false),(2,1,false),(3,2,true),(5,1,false),(6,1,false),(7,1,false)]:=rfl
@[simp] theorem co:tT 44=some ⟨false,1,8,[.int .i64 0],.int .i64,false⟩:=rfl
@[simp] theorem cp:Al tT 44= .int .i64:=rfl
@[simp] theorem cq:tT 49=some ⟨false,1,24,[.own 1 0 []],.slice 28 1 24 [.own 1 0 []],false⟩:=rfl
@[simp] theorem cr:Al tT 49= .slice 28 1 24 [.own 1 0 []]:=rfl
@[simp] theorem ct:tT 50=some ⟨true,2,32,[.int .i64 0,.own 1 0 []],.struct [(0,1,false),(1,1,false)],false⟩:=rfl
@[simp] theorem cu:Al tT 50= .struct [(0,1,false),(1,1,false)]:=rfl
@[simp] theorem cx:tT 51=some ⟨true,2,32,[.int .i64 0,.own 1 0 []],.struct [(0,1,false),(1,1,false)],false⟩:=rfl
@[simp] theorem cy:Al tT 51= .struct [(0,1,false),(1,1,false)]:=rfl
@[simp] theorem cz:tT 52=some ⟨true,6,80,[.int .i64 0,.int .i64 0,.int .i64 0,.bool false,.own 1 0 [],.own 1 0 []],.struct [(0,1,false),(1,1,false),(2,1,false),(3,1,false),(4,1,false),(5,1,false)],false⟩:=rfl
@[simp] theorem cA:Al tT 52= .struct [(0,1,false),(1,1,false),(2,1,false),(3,1,false),(4,1,false),(5,1,false)]:=rfl
@[simp] theorem cB:tT 53=some ⟨true,6,80,[.int .i64 0,.int .i64 0,.int .i64 0,.bool false,.own 1 0 [],.own 1 0 []],.struct [(0,1,false),(1,1,false),(2,1,false),(3,1,false),(4,1,false),(5,1,false)],false⟩:=rfl
@[simp] theorem cC:Al tT 53= .struct [(0,1,false),(1,1,false),(2,1,false),(3,1,false),(4,1,false),(5,1,false)]:=rfl
@[simp] theorem cD:tT 54=some ⟨true,12,144,[.bool false,.int .i64 0,.bool false,.int .i64 0,.int .i64 0,.own 1 0 [],.int .i64 0,.int .i64 0,.int .i64 0,.bool false,.own 1 0 [],.own 1 0 []],.struct [(0,1,false),(1,1,false),(2,1,false),(3,1,false),(4,2,true),(6,6,true)],false⟩:=rfl
@[simp] theorem cE:Al tT 54= .struct [(0,1,false),(1,1,false),(2,1,false),(3,1,false),(4,2,true),(6,6,true)]:=rfl
@[simp] theorem cF:tT 55=some ⟨true,12,144,[.bool false,.int .i64 0,.bool false,.int .i64 0,.int .i64 0,.own 1 0 [],.int .i64 0,.int .i64 0,.int .i64 0,.bool false,.own 1 0 [],.own 1 0 []],.struct [(0,1,false),(1,1,false),(2,1,false),(3,1,false),(4,2,true),(6,6,true)],false⟩:=rfl
@[simp] theorem cG:Al tT 55= .struct [(0,1,false),(1,1,false),(2,1,false),(3,1,false),(4,2,true),(6,6,true)]:=rfl
@[simp] theorem cH:tT 59=some ⟨true,4,40,[.int .i64 0,.int .i64 0,.str ByteArray.empty,.int .i64 0],.struct [(0,1,false),(1,1,false),(2,2,true)],false⟩:=rfl
@[simp] theorem cI:Al tT 59= .struct [(0,1,false),(1,1,false),(2,2,true)]:=rfl
@[simp] theorem cJ:tT 60=some ⟨true,4,40,[.int .i64 0,.int .i64 0,.str ByteArray.empty,.int .i64 0],.struct [(0,1,false),(1,1,false),(2,2,true)],true⟩:=rfl
@[simp] theorem cK:Al tT 60= .struct [(0,1,false),(1,1,false),(2,2,true)]:=rfl
@[simp] theorem cL:tT 65=some ⟨false,1,24,[.own 4 0 []],.slice 60 4 40 [.int .i64 0,.int .i64 0,.str ByteArray.empty,.int .i64 0],false⟩:=rfl
@[simp] theorem cN:Al tT 65= .slice 60 4 40 [.int .i64 0,.int .i64 0,.str ByteArray.empty,.int .i64 0]:=rfl
@[simp] theorem cO:tT 71=some ⟨false,1,24,[.own 2 0 []],.slice 121 2 16 [.int .i64 0,.int .i64 0],false⟩:=rfl
@[simp] theorem cP:Al tT 71= .slice 121 2 16 [.int .i64 0,.int .i64 0]:=rfl
@[simp] theorem ZG:tT 102=some ⟨true,2,16,[.int .i64 0,.int .i64 0],.struct [(0,1,false),(1,1,false)],false⟩:=rfl
@[simp] theorem ZH:Al tT 102= .struct [(0,1,false),(1,1,false)]:=rfl
@[simp] theorem ZI:tT 103=some ⟨true,2,16,[.int .i64 0,.int .i64 0],.struct [(0,1,false),(1,1,false)],true⟩:=rfl
@[simp] theorem ZJ:Al tT 103= .struct [(0,1,false),(1,1,false)]:=rfl
@[simp] theorem ZK:tT 120=some ⟨true,2,16,[.int .i64 0,.int .i64 0],.struct [(0,1,false),(1,1,false)],false⟩:=rfl
@[simp] theorem ZL:Al tT 120= .struct [(0,1,false),(1,1,false)]:=rfl
@[simp] theorem ZM:tT 121=some ⟨true,2,16,[.int .i64 0,.int .i64 0],.struct [(0,1,false),(1,1,false)],true⟩:=rfl
@[simp] theorem ZN:Al tT 121= .struct [(0,1,false),(1,1,false)]:=rfl
@[simp] theorem ZO:tT 130=some ⟨false,1,8,[.int .u64 0],.int .u64,false⟩:=rfl
@[simp] theorem ZP:Al tT 130= .int .u64:=rfl
@[simp] theorem ZQ:tT 143=some ⟨false,1,24,[.own 1 0 []],.slice 5 1 1 [.int .u8 0],false⟩:=rfl
@[simp] theorem ZR:Al tT 143= .slice 5 1 1 [.int .u8 0]:=rfl
@[simp] theorem ZS:tT 144=some ⟨false,1,24,[.own 1 0 []],.slice 5 1 1 [.int .u8 0],false⟩:=rfl
@[simp] theorem ZT:Al tT 144= .slice 5 1 1 [.int .u8 0]:=rfl
@[simp] theorem ZU:tT 154=some ⟨false,1,8,[.nilp],.ptr,false⟩:=rfl
@[simp] theorem ZV:Al tT 154= .ptr:=rfl
@[simp] theorem ZW:tT 156=some ⟨false,1,24,[.own 1 0 []],.slice 4 1 1 [.bool false],false⟩:=rfl
@[simp] theorem ZX:Al tT 156= .slice 4 1 1 [.bool false]:=rfl
@[simp] theorem ZY:tT 171=some ⟨false,1,8,[.nilp],.ptr,false⟩:=rfl
@[simp] theorem ZZ:Al tT 171= .ptr:=rfl
@[simp] theorem Z0:tT 225=some ⟨false,1,8,[.nilp],.ptr,false⟩:=rfl
@[simp] theorem Z1:Al tT 225= .ptr:=rfl
@[simp] theorem Z2:tT 232=some ⟨true,2,32,[.own 1 0 [],.int .i64 0],.struct [(0,1,false),(1,1,false)],false⟩:=rfl
@[simp] theorem Z3:Al tT 232= .struct [(0,1,false),(1,1,false)]:=rfl
@[simp] theorem Z4:tT 233=some ⟨true,2,32,[.own 1 0 [],.int .i64 0],.struct [(0,1,false),(1,1,false)],false⟩:=rfl
@[simp] theorem Z5:Al tT 233= .struct [(0,1,false),(1,1,false)]:=rfl
@[simp] theorem Z6:tT 236=some ⟨true,16,16,[.bool false,.bool false,.bool false,.bool false,.bool false,.bool false,.bool false,.bool false,.bool false,.bool false,.bool false,.bool false,.bool false,.bool false,.bool false,.bool false],.array 16 4 1,false⟩:=rfl
@[simp] theorem Z7:Al tT 236= .array 16 4 1:=rfl
@[simp] theorem Z8:tT 240=some ⟨false,1,8,[.nilp],.ptr,false⟩:=rfl
@[simp] theorem Z9:Al tT 240= .ptr:=rfl
@[simp] theorem aa:tT 253=some ⟨false,1,8,[.nilp],.ptr,false⟩:=rfl
@[simp] theorem ab:Al tT 253= .ptr:=rfl
@[simp] theorem ac:tT 254=some ⟨true,4,40,[.str ByteArray.empty,.int .i64 0,.int .i64 0,.bool false],.struct [(0,2,true),(2,1,false),(3,1,false)],false⟩:=rfl
@[simp] theorem ae:Al tT 254= .struct [(0,2,true),(2,1,false),(3,1,false)]:=rfl
@[simp] theorem ag:tT 255=some ⟨true,4,40,[.str ByteArray.empty,.int .i64 0,.int .i64 0,.bool false],.struct [(0,2,true),(2,1,false),(3,1,false)],true⟩:=rfl
@[simp] theorem ah:Al tT 255= .struct [(0,2,true),(2,1,false),(3,1,false)]:=rfl
@[simp] theorem ai:tT 260=some ⟨false,1,4,[.int .u32 0],.int .u32,false⟩:=rfl
@[simp] theorem aj:Al tT 260= .int .u32:=rfl
@[simp] theorem ak:tT 262=some ⟨false,1,8,[.int .u64 0],.int .u64,false⟩:=rfl
@[simp] theorem al:Al tT 262= .int .u64:=rfl
@[simp] theorem am:tT 268=some ⟨false,1,8,[.int .i64 0],.int .i64,false⟩:=rfl
@[simp] theorem ar:Al tT 268= .int .i64:=rfl
@[simp] theorem au:tT 278=some ⟨false,1,8,[.int .u64 0],.int .u64,false⟩:=rfl
@[simp] theorem aw:Al tT 278= .int .u64:=rfl
@[simp] theorem ax:tT 282=some ⟨false,1,8,[.nilp],.ptr,false⟩:=rfl
@[simp] theorem ay:Al tT 282= .ptr:=rfl
@[simp] theorem az:tT 284=some ⟨false,1,8,[.nilp],.ptr,false⟩:=rfl
@[simp] theorem aA:Al tT 284= .ptr:=rfl
@[simp] theorem aB:tT 287=some ⟨true,4,40,[.nilp,.nilp,.nilp,.str ByteArray.empty],.struct [(0,1,false),(1,1,false),(2,1,false),(3,1,false)],false⟩:=rfl
@[simp] theorem aC:Al tT 287= .struct [(0,1,false),(1,1,false),(2,1,false),(3,1,false)]:=rfl
@[simp] theorem aD:tT 288=some ⟨true,4,40,[.nilp,.nilp,.nilp,.str ByteArray.empty],.struct [(0,1,false),(1,1,false),(2,1,false),(3,1,false)],false⟩:=rfl
@[simp] theorem aE:Al tT 288= .struct [(0,1,false),(1,1,false),(2,1,false),(3,1,false)]:=rfl
@[simp] theorem aF:tT 289=some ⟨true,0,0,[],.array 0 16 1,false⟩:=rfl
@[simp] theorem aG:Al tT 289= .array 0 16 1:=rfl
@[simp] theorem aH:tT 292=some ⟨false,1,1,[.int .u8 0],.int .u8,false⟩:=rfl
@[simp] theorem aI:Al tT 292= .int .u8:=rfl
@[simp] theorem aJ:tT 293=some ⟨false,1,1,[.int .u8 0],.int .u8,false⟩:=rfl
@[simp] theorem aK:Al tT 293= .int .u8:=rfl
@[simp] theorem aL:tT 295=some ⟨false,1,8,[.nilp],.ptr,false⟩:=rfl
@[simp] theorem aM:Al tT 295= .ptr:=rfl
@[simp] theorem aN:tT 296=some ⟨false,1,4,[.int .i32 0],.int .i32,false⟩:=rfl
@[simp] theorem aO:Al tT 296= .int .i32:=rfl
@[simp] theorem aP:tT 297=some ⟨false,1,4,[.int .i32 0],.int .i32,false⟩:=rfl
@[simp] theorem aQ:Al tT 297= .int .i32:=rfl
@[simp] theorem aR:tT 300=some ⟨true,3,24,[.int .i64 0,.int .i64 0,.int .i64 0],.struct [(0,1,false),(1,1,false),(2,1,false)],false⟩:=rfl
@[simp] theorem aS:Al tT 300= .struct [(0,1,false),(1,1,false),(2,1,false)]:=rfl
@[simp] theorem aT:tT 301=some ⟨true,3,24,[.int .i64 0,.int .i64 0,.int .i64 0],.struct [(0,1,false),(1,1,false),(2,1,false)],true⟩:=rfl
@[simp] theorem aU:Al tT 301= .struct [(0,1,false),(1,1,false),(2,1,false)]:=rfl
end Go.Abs
set_option maxRecDepth 100000
namespace Go.Abs
open Go.Proofs
theorem Cc:pg.follows .mixedOrders=true:=by kernel_rfl
end Go.Abs
namespace Go.Abs
section
variable {G A B H:Prop}
theorem zs (h:A) (e:A→G:=by intro zz;(repeat refine W.seq ?_);refine W.reg 0 rfl fun K hK=>?_;simp -implicitDefEqProofs (maxSteps:=999999) (disch:=omega);(repeat refine⟨by clear zz;first|assumption|omega,?_⟩);refine hK _ _ ?_;clear hK K;exact zz):G:=e h
theorem z0 (h:A) (e:A→G:=by intro zz;(repeat refine W.seq ?_);refine W.reg 0 rfl fun K hK=>?_;simp -implicitDefEqProofs (maxSteps:=999999) (disch:=omega);revert hK;revert K;exact zz):G:=e h
theorem z1 (h:A) (e:A→G:=by intro zz;(repeat refine W.seq ?_);refine W.reg 1 rfl fun K hK=>?_;simp -implicitDefEqProofs (maxSteps:=999999) (disch:=omega);revert hK;revert K;exact zz):G:=e h
theorem z2 (h:A) (e:A→G:=by intro zz;(repeat refine W.seq ?_);refine W.reg 2 rfl fun K hK=>?_;simp -implicitDefEqProofs (maxSteps:=999999) (disch:=omega);revert hK;revert K;exact zz):G:=e h
theorem z3 (h:A) (e:A→G:=by intro zz;(repeat refine W.seq ?_);refine W.reg 3 rfl fun K hK=>?_;simp -implicitDefEqProofs (maxSteps:=999999) (disch:=omega);revert hK;revert K;exact zz):G:=e h
theorem Af (f:H) (h:A) (e:H→A→G:=by intro zf zz;(repeat refine W.seq ?_);refine W.reg 0 rfl fun K hK=>?_;simp -implicitDefEqProofs (maxSteps:=999999) (disch:=omega) [zf];clear zf;revert hK;revert K;exact zz):G:=e f h
theorem Pw (f:H) (h:A) (e:H→A→G:=by intro zf zz;(repeat refine W.seq ?_);refine W.reg 1 rfl fun K hK=>?_;simp -implicitDefEqProofs (maxSteps:=999999) (disch:=omega) [zf];clear zf;revert hK;revert K;exact zz):G:=e f h
theorem Co (h:A) (e:A→G:=by intro zz;(repeat refine W.seq ?_);refine W.regd 0 rfl true Cc (by kernel_rfl) fun K hK=>?_;simp -implicitDefEqProofs (maxSteps:=999999) (disch:=omega);revert hK;revert K;exact zz):G:=e h
theorem Bi (f:H) (h:A) (e:H→A→G:=by intro zf zz;(repeat refine W.seq ?_);refine W.regd 0 rfl true Cc (by kernel_rfl) fun K hK=>?_;simp -implicitDefEqProofs (maxSteps:=999999) (disch:=omega) [zf];clear zf;revert hK;revert K;exact zz):G:=e f h
theorem zx (h:A) (e:A→G:=by intro zz;simp only[D6];simp -implicitDefEqProofs (maxSteps:=999999) (disch:=omega);exact zz):G:=e h
theorem AJ (f:H) (h:A) (e:H→A→G:=by intro zf zz;simp only[D6];simp -implicitDefEqProofs (maxSteps:=999999) (disch:=omega) [zf];clear zf;exact zz):G:=e f h
theorem zk (h:A) (e:A→G:=by intro zz;(repeat refine⟨by clear zz;first|assumption|omega,?_⟩);refine hK _ _ ?_;exact zz):G:=e h
theorem zt (h:A) (e:A→G:=by intro zz;(repeat refine W.seq ?_);refine W.condK fun K1 K2 h1 h2=>?_;simp -implicitDefEqProofs (maxSteps:=999999) (disch:=omega);refine h1 ?_;clear h1 h2 K1 K2;exact zz):G:=e h
theorem zn (h:A) (e:A→G:=by intro zz;(repeat refine W.seq ?_);refine W.condK fun K1 K2 h1 h2=>?_;simp -implicitDefEqProofs (maxSteps:=999999) (disch:=omega);refine h2 ?_;clear h1 h2 K1 K2;exact zz):G:=e h
theorem zc (ha:A) (hb:B) (e:A→B→G:=by intro za zb;(repeat refine W.seq ?_);refine W.condK fun K1 K2 h1 h2=>?_;simp -implicitDefEqProofs (maxSteps:=999999) (disch:=omega) [-and_imp];refine⟨fun h=>h1 ?_,fun h=>h2 ?_⟩<;>clear h1 h2 K1 K2<;>revert h;exact za;exact zb):G:=e ha hb
theorem zr (h:A) (e:A→G:=by intro zz;refine W.ret ?_;simp only[B4,CM,Ch];refine B8 (d:=0) ?_;simp -implicitDefEqProofs (maxSteps:=999999) (disch:=omega);exact zz):G:=e h
theorem zR (e:G:=by refine W.ret ?_;simp only[B4,CM,Ch];refine B8 (d:=0) ?_;simp -implicitDefEqProofs (maxSteps:=999999) (disch:=omega)):G:=e
theorem zb (h:A) (e:A→G:=by intro zz;(repeat refine W.seq ?_);refine W.block ?_;exact zz):G:=e h
theorem an (a:A) (b:B):A∧B:=⟨a,b⟩
end
end Go.Abs
set_option maxRecDepth 100000
namespace Go.Abs
open Go.Proofs
theorem DA (xs ys:List Int) (hx:xs.length<4611686018427387904):Aa pg 33 [.ro xs.length (Ac xs),.ro ys.length (Ac ys)] [] (fun r _=>r= .bool (decide (xs=ys))):=by
 refine Aa.start (fn:=Tryz.f33) [.tmp 4] tk rfl rfl rfl (by kernel_rfl) (Nat.le_of_ble_eq_true rfl) rfl (by kernel_rfl) ?_
 rw[Aq]
 refine zs ?_
 refine zs ?_
 refine zc ?_ ?_<;>intro h
 .refine zs ?_
  refine zr ?_
  intro e;exact h (by rw[e])
 .refine W.skip ?_
  have hl:xs.length=ys.length:=by omega
  refine zs ?_
  (repeat refine W.seq ?_);refine W.block (W.loopS (fun k:Nat=> [(0,.ro xs.length (Ac xs)),(1,.ro ys.length (Ac ys)),(5,.int .i64 k)]) (fun _=> []) (fun k=>xs.length-k) (fun k=>k≤xs.length∧xs.take k=ys.take k) 0 (Wk.fr ?_) (by simp) ?_)
  .simp[Ad]
  .rintro k ⟨hk,ht⟩
   refine zs ?_
   refine zc ?_ ?_<;>intro h
   .refine W.skip ?_
    have hlt:k<xs.length:=by omega
    have hlt' :k<ys.length:=by omega
    refine zb ?_
    refine Co ?_;intro K hK
    simp[hlt,hlt']
    refine zk ?_;clear hK K
    refine zc ?_ ?_<;>intro h
    .refine zs ?_
     refine zr ?_
     intro e;subst e;exact h rfl
    .refine W.skip ?_
     refine zs ?_
     refine⟨k+1,by omega,⟨by omega,?_⟩,Wk.fr ?_⟩
     .rw[List.take_add_one,List.take_add_one,ht];simp[hlt,hlt',h]
     .simp[Ad]
   .refine W.exit ?_
    have hk' :k=xs.length:=by omega
    subst hk'
    refine zs ?_
    refine zr ?_
    rw[List.take_length,hl,List.take_length] at ht
    simp[ht]
end Go.Abs
set_option maxRecDepth 100000
namespace Go.Abs
open Go.Proofs
theorem DI (xs:List Int) (hx:xs.length<1000000000000):Aa pg 187 [.ro xs.length (Ac xs)] [] (fun r _=>r= .own 1 xs.length (Ac xs)):=by
 refine Aa.start (fn:=Tryz.f187) [.tmp 2] tk rfl rfl rfl (by kernel_rfl) (Nat.le_of_ble_eq_true rfl) rfl (by kernel_rfl) ?_
 rw[As]
 refine zs ?_
 refine zs ?_
 refine zs ?_
 (repeat refine W.seq ?_);refine W.block (W.loopS (fun k:Nat=> [(0,.ro xs.length (Ac xs)),(3,.tok 0 k 1 0 k),(4,.int .i64 k)]) (fun k=> [.live k (Ac (xs.take k))]) (fun k=>xs.length-k) (fun k=>k≤xs.length) 0 ((Wk.nil (t:=3) (s:=1) ?_).trans (Wk.fr ?_)) (by simp) ?_)
 .simp
 .simp[Ad]
 .intro k hk
  refine zs ?_
  refine zc ?_ ?_<;>intro h
  .refine W.skip ?_
   have hlt:k<xs.length:=by omega
   refine zb ?_
   refine z1 ?_;intro K hK
   refine⟨hlt,by omega,by omega,?_⟩
   refine zk ?_;clear hK K
   refine zs ?_
   refine⟨k+1,by omega,by omega,Wk.cutM (k:=1) ?_ ?_ ?_ ?_ ?_ ?_⟩<;>simp
   have e:Ac (List.take (k+1) xs)=Ac (List.take k xs)++[AV.int IntKind.i64 xs[k]]:=by rw[List.take_add_one,BP];simp[hlt,Ac]
   exact e.symm
  .refine W.exit ?_
   have hk' :k=xs.length:=by omega
   subst hk'
   refine zs ?_
   exact zR
end Go.Abs
set_option maxRecDepth 100000
namespace Go.Abs
open Go.Proofs
theorem Ii (xs ys:List (List Int)) (hx:xs.length<1000000000000) (hr:∀r∈xs,r.length<1000000000000):Aa pg 84 [.ro xs.length (Ax false xs),.ro ys.length (Ax false ys)] [] (fun r _=>r= .bool (decide (xs=ys))):=by
 refine Aa.start (fn:=Tryz.f84) [.tmp 4] tk rfl rfl rfl (by kernel_rfl) (Nat.le_of_ble_eq_true rfl) rfl (by kernel_rfl) ?_
 rw[Aq]
 refine zs ?_
 refine zs ?_
 refine zc ?_ ?_<;>intro h
 .refine zs ?_
  refine zr ?_
  intro e;exact h (by rw[e])
 .refine W.skip ?_
  have hl:xs.length=ys.length:=by omega
  refine zs ?_
  (repeat refine W.seq ?_);refine W.block (W.loopS (fun k:Nat=> [(0,.ro xs.length (Ax false xs)),(1,.ro ys.length (Ax false ys)),(5,.int .i64 k)]) (fun _=> []) (fun k=>xs.length-k) (fun k=>k≤xs.length∧xs.take k=ys.take k) 0 (Wk.fr ?_) (by simp) ?_)
  .simp[Ad]
  .rintro k ⟨hk,ht⟩
   refine zs ?_
   refine zc ?_ ?_<;>intro h
   .refine W.skip ?_
    have hlt:k<xs.length:=by omega
    have hlt' :k<ys.length:=by omega
    refine zb ?_
    refine Co ?_;intro K hK
    simp[hlt,hlt']
    refine Ah.eq (DA xs[k] ys[k] (by have:=hr xs[k] (by simp);omega)) (by simp) (by simp) ?_
    refine zx ?_
    refine zk ?_;clear hK K
    refine zc ?_ ?_<;>intro h
    .refine zs ?_
     refine zr ?_
     intro e;subst e;exact h rfl
    .refine W.skip ?_
     refine zs ?_
     refine⟨k+1,by omega,⟨by omega,?_⟩,Wk.fr ?_⟩
     .rw[List.take_add_one,List.take_add_one,ht];simp[hlt,hlt',h]
     .simp[Ad]
   .refine W.exit ?_
    have hk' :k=xs.length:=by omega
    subst hk'
    refine zs ?_
    refine zr ?_
    rw[List.take_length,hl,List.take_length] at ht
    simp[ht]
end Go.Abs
set_option maxRecDepth 100000
namespace Go.Abs
open Go.Proofs
end Go.Abs
namespace Go.Abs
def D7 (d:ByteArray) (i:Nat):Bool:=decide (CA d (i/8)/2^(7-i%8)%2=1)
def Am (b:CI):List Bool:=(List.range b.n.toNat).map (D7 b.data)
def DR (b:CI):Prop:=0≤b.n∧b.n≤6000∧(b.data.size:Int)=(b.n+7)/8∧∀i,i<8*b.data.size→b.n.toNat≤i→D7 b.data i=false
instance (b:CI):Decidable (DR b):=inferInstanceAs (Decidable (_∧_∧_∧_))
def Bj (l:List Bool):Nat:=l.foldl (fun v b=>2*v+b.toNat) 0
def ahead (l:List Bool) (p:Nat):Option Nat:=(l.drop p).findIdx? id
def AF (l:List Bool) (p:Nat):Option (Nat×Nat):=match ahead l p with
 |none=>none
 |some q=>if q≤30∧p+2*q+1≤l.length then(if Bj ((l.drop (p+q)).take (q+1))≤1073741824 then some (Bj ((l.drop (p+q)).take (q+1)),p+2*q+1) else none) else none
def Bq (v w:Nat):List Bool:=(List.range w).map fun i=>decide (v/2^(w-1-i)%2=1)
def A7 (n:Nat):List Bool:=Bq 0 (Nat.log2 n)++Bq n (Nat.log2 n+1)
def B5 (n:Int):Int:=if n%2=1 then-((n+1)/2) else n/2
def DV (n:Int):Int:=if n<0 then-2*n-1 else 2*n
def AG (l:List Int):Prop:=(∀x∈l,0≤x∧x<16)∧l.Pairwise (·<·)
instance (l:List Int):Decidable (AG l):=inferInstanceAs (Decidable (_∧_))
def BW (bs:List Bool):Nat→Bool→Nat→Int→Option (List Int×Nat)
 |0,_,p,_=>some ([],p)
 |k+1,f,p,last=>match AF bs p with
  |none=>none
  |some x=>let y:=last+(if f=true then B5 ((x.1:Int)-1) else(x.1:Int))
   if 0≤y∧y<16 then(match BW bs k false x.2 y with|some r=>some (y::r.1,r.2) |none=>none) else none
def Dl (bs:List Bool) (p:Nat) (v:Int):Option (List Int×Nat):=match AF bs p with
 |none=>none
 |some x=>if x.1≤17 then BW bs (x.1-1) true x.2 v else none
def CJ (bs:List Bool):Nat→Bool→Nat→Int→Option (List Int×Nat)
 |0,_,p,_=>some ([],p)
 |k+1,f,p,last=>match AF bs p with
  |none=>none
  |some x=>match CJ bs k false x.2 (last+(if f=true then B5 ((x.1:Int)-1) else(x.1:Int))) with
   |some r=>some ((last+(if f=true then B5 ((x.1:Int)-1) else(x.1:Int)))::r.1,r.2)
   |none=>none
def Ds (bs:List Bool) (p:Nat) (v:Int):Option (List Int×Nat):=match AF bs p with
 |none=>none
 |some x=>if x.1≤17 then(match CJ bs (x.1-1) true x.2 v with|some r=>if AG r.1 then some r else none|none=>none) else none
def A5:List Int→Nat
 | []=>0
 | [_]=>1
 |x::y::l=>if y=x+1 then A5 (y::l)+1 else 1
theorem FF (x:Int) (l:List Int):0<A5 (x::l):=by cases l<;>simp[A5];split<;>omega
theorem Gi:∀l:List Int,A5 l≤l.length
 | []=>by simp[A5]
 | [_]=>by simp[A5]
 |x::y::l=>by have:=Gi (y::l);simp[A5];split<;>simp at* <;>omega
def Ao:List Int→List (Int×Int)×List Int
 | []=>([],[])
 |x::l=>let k:=A5 (x::l)
  let q:=Ao ((x::l).drop k)
  if 3≤k then((x,(k:Int))::q.1,q.2) else(q.1,(x::l).take k++q.2)
termination_by l=>l.length
decreasing_by have:=FF x l;simp;omega
def Ci (bs:List Bool):Nat→Bool→Nat→Int→Option (List (Int×Int)×Nat)
 |0,_,p,_=>some ([],p)
 |k+1,f,p,e=>match AF bs p with
  |none=>none
  |some x=>match AF bs x.2 with
   |none=>none
   |some y=>let a:=e+(if f=true then B5 ((x.1:Int)-1) else(x.1:Int))
    match Ci bs k false y.2 (a+((y.1:Int)-1+3)) with
    |some r=>some ((a,(y.1:Int)-1+3)::r.1,r.2)
    |none=>none
def CN:List (Int×Int)→Int→Option (List Int)
 | [],_=>some []
 | (a,n)::rs,e=>if n<3∨16<n∨a≤e∨¬(0≤a∧a<16)∨¬(0≤a+n-1∧a+n-1<16) then none else
   match CN rs (a+n) with
   |some l=>some ((List.range n.toNat).map (fun i=>a+(i:Nat))++l)
   |none=>none
def BH (l:List Int):List Int:=l.mergeSort fun x y=>decide (x≤y)
def Eu (r:List (Int×Int)) (rest:List Int):Option (List Int):=match CN r (-1) with
 |none=>none
 |some l=>if AG rest∧AG (BH (rest++l)) then some (BH (rest++l)) else none
def CO (bs:List Bool) (p:Nat) (v:Int):Option (List Int×Nat):=match AF bs p with
 |none=>none
 |some x=>if x.1≤16 then(match Ci bs (x.1-1) true x.2 v with
  |none=>none
  |some r=>match Dl bs r.2 v with
   |none=>none
   |some g=>match Eu r.1 g.1 with
    |none=>none
    |some l=>if Ao l=(r.1,g.1) then some (l,g.2) else none) else none
def BC (bs:List Bool):Nat→Bool→Nat→Int→Option (List (Int×Int)×Nat)
 |0,_,p,_=>some ([],p)
 |k+1,f,p,e=>match AF bs p with
  |none=>none
  |some x=>match AF bs x.2 with
   |none=>none
   |some y=>if y.1≤16 then(let a:=e+(if f=true then B5 ((x.1:Int)-1) else(x.1:Int))
    match BC bs k false y.2 (a+((y.1:Int)-1+3)) with
    |some r=>some ((a,(y.1:Int)-1+3)::r.1,r.2)
    |none=>none) else none
def Dm:List (Int×Int)→Int→Prop
 | [],_=>True
 | (a,n)::rs,e=>0≤a∧a<16∧3≤n∧n≤16-a∧e<a∧Dm rs (a+n)
instance runsOKd:∀(r:List (Int×Int)) (e:Int),Decidable (Dm r e)
 | [],_=>inferInstanceAs (Decidable True)
 | (_,_)::rs,_=>have:=runsOKd rs;inferInstanceAs (Decidable (_∧_∧_∧_∧_∧_))
def Br (r:List (Int×Int)) (i:Int):Bool:=r.any fun q=>decide (q.1≤i∧i<q.1+q.2)
def Gj (p:Int→Bool):List Int:=((List.range 16).map fun i=>((i:Nat):Int)).filter p
def CW (r:List (Int×Int)) (rest:List Int):Option (List Int):=
 if AG rest∧Dm r (-1)∧∀x∈rest,Br r x=false then some (Gj fun i=>Br r i||rest.contains i) else none
def CX (v:Int):List Int→Bool→Int→List Bool
 | [],_,_=> []
 |x::l,f,last=>A7 (if f=true then DV (x-v)+1 else x-last).toNat++CX v l false x
def DJ (v:Int) (l:List Int):List Bool:=A7 (l.length+1)++CX v l true 0
def CP (v:Int):List (Int×Int)→Bool→Int→List Bool
 | [],_,_=> []
 | (a,n)::l,f,e=>A7 (if f=true then DV (a-v)+1 else a-e).toNat++A7 (n-3+1).toNat++CP v l false (a+n)
def BF (v:Int) (l:List Int):List Bool:=A7 ((Ao l).1.length+1)++CP v (Ao l).1 true 0++DJ v (Ao l).2
def Bk (bs:List Bool) (p:Nat) (v:Int):Option (List Int×Nat):=match AF bs p with
 |none=>none
 |some x=>if x.1≤17 then(match BC bs (x.1-1) true x.2 v with
  |none=>none
  |some r=>match Ds bs r.2 v with
   |none=>none
   |some g=>match CW r.1 g.1 with
    |none=>none
    |some l=>if (BF v l).length=g.2-p∧(bs.drop p).take (BF v l).length=BF v l then some (l,g.2) else none) else none
def A9 (l:List Int):List Int→Bool→Nat→List Nat
 | [],_,_=> []
 |x::ref,i,n=>if l.contains x=i then A9 l ref i (n+1) else n::A9 l ref (!i) 1
def blocks (ref l:List Int):List Int:=(A9 l ref true 0).map fun n=>((n:Nat):Int)
def Bd (ref l:List Int):List Int:=l.filter fun x=> !ref.contains x
def AX:List Int→List Int→Bool→Option (List Int)
 | [],left,i=>some (if i=true then left else [])
 |n::bs,left,i=>if n<0∨(left.length:Int)<n then none else
  match AX bs (left.drop n.toNat) (!i) with
  |some l=>some ((if i=true then left.take n.toNat else [])++l)
  |none=>none
def Cj (ref bl rest:List Int):Option (List Int):=match AX bl ref true with
 |none=>none
 |some l=>if AG (BH (rest++l))∧blocks ref (BH (rest++l))=bl∧Bd ref (BH (rest++l))=rest then some (BH (rest++l)) else none
def Cd (bs:List Bool):Nat→Bool→Nat→Option (List Int×Nat)
 |0,_,p=>some ([],p)
 |k+1,f,p=>match AF bs p with
  |none=>none
  |some x=>match Cd bs k false x.2 with
   |some r=>some ((if f=true then(x.1:Int)-1 else(x.1:Int))::r.1,r.2)
   |none=>none
def Cr (bs:List Bool) (p:Nat) (v:Int) (ref:List Int):Option (List Int×Nat):=match AF bs p with
 |none=>none
 |some x=>if x.1≤17 then(match Cd bs (x.1-1) true x.2 with
  |none=>none
  |some q=>match CO bs q.2 v with
   |none=>none
   |some r=>match Cj ref q.1 r.1 with
    |some l=>some (l,r.2)
    |none=>none) else none
def Bf (bs:List Bool):Nat→Bool→Nat→Option (List Int×Nat)
 |0,_,p=>some ([],p)
 |k+1,f,p=>match AF bs p with
  |none=>none
  |some x=>if x.1≤17 then(match Bf bs k false x.2 with
   |some r=>some ((if f=true then(x.1:Int)-1 else(x.1:Int))::r.1,r.2)
   |none=>none) else none
def DK (ref bl rest:List Int):Option (List Int):=
 if¬(AG ref∧AG rest∧bl.length≤16) then none else match AX bl ref true with
  |none=>none
  |some l=>let m:=Gj fun i=>l.contains i||rest.contains i
   if blocks ref m=bl∧Bd ref m=rest then some m else none
def DB (bs:List Bool) (p:Nat) (v:Int) (ref:List Int):Option (List Int×Nat):=match AF bs p with
 |none=>none
 |some x=>if x.1≤17 then(match Bf bs (x.1-1) true x.2 with
  |none=>none
  |some q=>match Bk bs q.2 v with
   |none=>none
   |some r=>match DK ref q.1 r.1 with
    |some l=>some (l,r.2)
    |none=>none) else none
end Go.Abs
namespace Go.Abs
def Cg (out:List (List Int)):Nat:=(out.map List.length).sum
def A1 (g:Gr):Prop:=0≤g.n∧g.n≤16∧(g.out.length:Int)=g.n∧(∀l∈g.out,AG l∧∀x∈l,x<g.n)∧Cg g.out≤120
instance (g:Gr):Decidable (A1 g):=inferInstanceAs (Decidable (_∧_∧_∧_∧_))
def AD:Gr:=⟨0,[]⟩
def B6:BQ:=⟨0,0,0,false,[],[]⟩
def Du:C8:=⟨false,0,false,0,AD,B6⟩
abbrev Rd:=Nat→Int→Option (List Int×Nat)
def AZ (rd:Rd):Nat→Int→Nat→Option (List (List Int)×Nat)
 |0,_,p=>some ([],p)
 |k+1,v,p=>match rd p v with
  |none=>none
  |some r=>match AZ rd k (v+1) r.2 with
   |some q=>some (r.1::q.1,q.2)
   |none=>none
def Cp (bs:List Bool) (rd:Rd):Option Gr:=match AF bs 0 with
 |none=>none
 |some x=>if x.1≤17 then(match AZ rd (x.1-1) 0 x.2 with
  |none=>none
  |some r=>if r.2=bs.length∧A1 ⟨(x.1:Int)-1,r.1⟩ then some ⟨(x.1:Int)-1,r.1⟩ else none) else none
def Az (g:Gr) (v:Int):List Int:=g.out.getD v.toNat []
def Ce (bs:List Bool):Option Gr:=Cp bs (CO bs)
def Cf (a:Gr) (bs:List Bool):Option Gr:=Cp bs fun p v=>Cr bs p v (Az a v)
def D8 (bs:List Bool):Option Gr:=Cp bs (Bk bs)
def Gk (a:Gr) (bs:List Bool):Option Gr:=Cp bs fun p v=>DB bs p v (Az a v)
def CY (l:List Obj) (id:Int):Option Obj:=l.find? fun o=>decide (o.id=id)
def BX {α:Type} (f:α→Bool) (l:List α):Int:=match l.findIdx? f with|some i=>(i:Int) |none=>-1
def CT (l:List Obj):Prop:=l.length≤12∧(∀o∈l,1≤o.id∧o.id≤1048576∧DR o.data∧o.base≠o.id∧(o.base=0∨∃q∈l,q.id=o.base))∧l.Pairwise fun a b=>a.id<b.id
instance (l:List Obj):Decidable (CT l):=inferInstanceAs (Decidable (_∧_∧_))
def A8 (l:List Obj):Nat→Int→List Obj
 |0,_=> []
 |k+1,id=>if id=0 then [] else match CY l id with
  |some o=>o::A8 l k o.base
  |none=> []
def Cz (l:List Obj) (id:Int):Int×Int:=match CY l id with
 |none=>(0,3)
 |some _=>if 3<(A8 l 4 id).length then(0,2) else(((A8 l 4 id).length:Int),0)
def CZ (rf:List Bool→Option Gr) (rd:Gr→List Bool→Option Gr):List Obj→Option Gr
 | []=>some AD
 |o::w=>if o.base=0 then rf (Am o.data) else match CZ rf rd w with
  |none=>none
  |some a=>rd a (Am o.data)
def BD (l:List Obj) (id:Int):Gr×Int:=if (Cz l id).2≠0 then(AD,(Cz l id).2) else match CZ Ce Cf (A8 l 3 id) with
 |some g=>(g,0)
 |none=>(AD,9)
def gi (l:List Int) (i:Int):Int:=l.getD i.toNat 0
def si (l:List Int) (i x:Int):List Int:=l.set i.toNat x
def BI (k:Int):Bool:=decide (k=1∨k=2∨k=4)
def C0 (g:Gr) (k a:Int):Int:=if¬(1≤k∧k≤6) then 1 else if BI k=true∧¬(0≤a∧a<g.n) then 3 else 0
def Ij (n:Nat):List Int:=(List.range n).map fun i=>((i:Nat):Int)
def BS (g:Gr) (k a:Int):BQ:=⟨k,if BI k=true then a else 0,0,false,if k=4 then [a] else [],if k=4 then si (List.replicate g.n.toNat (-1)) a 0 else if k=5 then Ij g.n.toNat else []⟩
def Bn (g:Gr) (j:BQ):Bool:=if j.kind=1 then decide (1≤j.at_) else if j.kind=4 then decide ((j.list.length:Int)≤j.at_) else decide (g.n≤j.at_)
def AR (v:Int) (s:List Int×List Int) (w:Int):List Int×List Int:=if gi s.1 w<0 then(si s.1 w (gi s.1 v+1),s.2++[w]) else s
def A3 (v:Int) (s:List Int×Bool) (w:Int):List Int×Bool:=
 (si (si s.1 v (min (gi s.1 v) (gi s.1 w))) w (min (gi s.1 v) (gi s.1 w)),s.2||!decide (gi s.1 v=gi s.1 w))
def CK (l:List Int) (n:Nat):List Int:=l++List.replicate (n+1-l.length) 0
def AK (g:Gr) (j:BQ):BQ:=
 if j.kind=1 then{j with at_:=j.at_+1,out:=Az g j.a}
 else if j.kind=2 then{j with at_:=j.at_+1,out:=j.out++if (Az g j.at_).contains j.a=true then [j.at_] else []}
 else if j.kind=3 then{j with at_:=j.at_+1,out:=si (CK j.out (Az g j.at_).length) (Az g j.at_).length (gi (CK j.out (Az g j.at_).length) (Az g j.at_).length+1)}
 else if j.kind=4 then{j with at_:=j.at_+1,out:=((Az g (gi j.list j.at_)).foldl (AR (gi j.list j.at_)) (j.out,j.list)).1,list:=((Az g (gi j.list j.at_)).foldl (AR (gi j.list j.at_)) (j.out,j.list)).2}
 else if j.kind=5 then
  (let q:=(Az g j.at_).foldl (A3 j.at_) (j.out,j.move)
   if j.at_+1=g.n∧q.2=true then{j with at_:=0,move:=false,out:=q.1} else{j with at_:=j.at_+1,move:=q.2,out:=q.1})
 else{j with at_:=j.at_+1,out:=j.out++((Az g j.at_).map fun w=> [j.at_,w]).flatten}
def Ff (g:Gr) (j:BQ):Nat→BQ→Bool
 |0,_=>false
 |k+1,x=>if x=j then true else if Bn g x=true then false else Ff g j k (AK g x)
def D9 (l:List Int):Nat:=(l.map Int.toNat).sum
def Ez (g:Gr) (j:BQ):Nat:=
 if j.kind=1 then(1-j.at_).toNat
 else if j.kind=5 then D9 j.out*(2*g.n.toNat+2)+(if j.move=true then g.n.toNat else 0)+(g.n-j.at_).toNat
 else(g.n-j.at_).toNat
def CF (g:Gr) (j:BQ):Bool:=decide (C0 g j.kind j.a=0)&&Ff g j (Ez g (BS g j.kind j.a)+1) (BS g j.kind j.a)
def Gl (v:Cw):Obj:=⟨v.id,v.base,v.data⟩
def Ar (s:AS):List Obj:=s.vers.map Gl
def I6 (b:CI):Int:=(4+(b.data.size:Int)+59)/60
def A0 (s:AS):List (Int×Int):=s.vers.map fun v=>(v.at_,I6 v.data)
def B1 (l:List Cw):Int:=match l.getLast? with|some v=>v.id|none=>0
def apart (x y:Int×Int):Prop:=¬(y.1<x.1+x.2∧x.1<y.1+y.2)
instance (x y:Int×Int):Decidable (apart x y):=inferInstanceAs (Decidable (¬_))
def DL (l:List (Int×Int)) (n:Int):Prop:=1≤n∧n≤100∧l.length≤13∧(∀x∈l,0≤x.1∧1≤x.2∧x.1+x.2≤n)∧l.Pairwise apart
instance (l:List (Int×Int)) (n:Int):Decidable (DL l n):=inferInstanceAs (Decidable (_∧_∧_∧_∧_))
def Aw (s:AS) (l:List Obj) (x:C8):Prop:=
 if x.opn=false then x=Du else
  (x.pin=0∨∃v∈s.vers,v.id=x.pin)∧(if x.on=true then 0≤x.frm∧x.frm≤B1 s.vers∧A1 x.stage else x.frm=0∧x.stage=AD)∧
    (x.job=B6∨(x.pin≠0∧CF (BD l x.pin).1 x.job=true∧Bn (BD l x.pin).1 x.job=false))
instance (s:AS) (l:List Obj) (x:C8):Decidable (Aw s l x):=by unfold Aw;exact inferInstance
def Gm (v:Cw):Prop:=0≤v.parent∧v.parent<v.id∧¬(v.tag=true∧v.gone=true)
instance (v:Cw):Decidable (Gm v):=inferInstanceAs (Decidable (_∧_∧_))
def F6 (l:List Cw):Bool:=match l.getLast? with|some v=>v.gone|none=>false
def Fa (s:AS):Prop:=1≤s.keep∧s.keep≤8∧1≤s.blocks∧s.blocks≤100∧(∀v∈s.vers,Gm v)∧F6 s.vers=false∧CT (Ar s)
instance (s:AS):Decidable (Fa s):=inferInstanceAs (Decidable (_∧_∧_∧_∧_∧_∧_))
def GU (s:AS):Prop:=Fa s∧s.sess.length=3∧(∀o∈Ar s,(BD (Ar s) o.id).2=0)∧∀x∈s.sess,Aw s (Ar s) x
instance (s:AS):Decidable (GU s):=inferInstanceAs (Decidable (_∧_∧_∧_))
def BT (s:AS):Prop:=GU s∧DL (A0 s) s.blocks
instance (s:AS):Decidable (BT s):=inferInstanceAs (Decidable (_∧_))
end Go.Abs
