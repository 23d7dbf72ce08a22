/- Regions whose order is open up to a place, and which go on in the text's order: the rule; what is called there may be handed own memory. No program. -/
import Derived.Test.YtoklapibcmnaeaaGreatP5
import Derived.WalkKit
import Derived.ProofKit
import Derived.OpenShut
import Derived.SizedLaws
import Derived.ReadAgain
import Derived.Test.YtoklapibcmnaeaaGreatProg
import Derived.KernelRfl
set_option linter.unusedVariables false
set_option linter.unusedSimpArgs false
namespace Go.Abs
section
variable {P:Program} {L:Bool} {T:Nat→Option TI} {ops:Array Oper} {sl:Nat→Nat} {K:Fr→List Ae→Prop}
theorem RW {C:A6} {call:Dq} (hcall:∀f args M (K K' :AV→List Ae→Prop),(∀r M,K r M→K' r M)→call f args M K→De C f args M K') (tk:BC C.P T) {i:Nat} {o:Oper} (ho:ops[i]?=some o) (hops:∀(k:Nat) (o:Oper),ops[k]?=some o→Bb C.n o=true) {Q' :Exit→Act→World→Prop} {next:Act→World→Prop} {F:Fr} {M:List Ae} {a:Act} {w:World}
 (hN:∀F M a w,K F M→Cf C F M a w→next a w) (h:BD T call ops sl i F M K) (r:Cf C F M a w):wpOpIn (FX C) 0 C.P ops Q' i next a w:=by
 unfold BD at h
 unfold wpOpIn
 simp only[ho] at h ⊢
 have go:∀F,B8 T call o (sl i) F M K→Cf C F M a w→o.wpIn (FX C) 0 C.P a w next Q' :=fun F h r=>by
  obtain⟨σ,own,R⟩:=r
  exact Ga tk (hops i o ho) (DA (call:=call) (call' :=De C) (fun f args M K K' hk hc=>hcall f args M K K' (fun r M h=>hk _ _ h) hc) (fun _ _ h=>h) h) R hN
 unfold E3 at h
 cases hg:o.guard with
 |none=>
  simp only[hg] at h
  rw[if_pos (by simp[Region.wanted,hg])]
  exact go F h r
 |some g=>
  obtain⟨j,want⟩:=g
  simp only[hg] at h
  cases hd:(ops[j]?).bind (·.dst) with
  |none=>simp only[hd] at h
  |some d=>
   simp only[hd] at h
   have hor:(∃b,F d= .bool b)∨F d= .tup []:=by
    cases hFd:F d<;>simp only[hFd] at h
    .exact .inl ⟨_,rfl⟩
    .rename_i xs
     cases xs with
     |nil=>exact .inr rfl
     |cons x xs=>simp at h
   have r' :=r
   obtain⟨σ,own,R⟩:=r'
   obtain⟨oj,hj,hdj⟩:=Option.bind_eq_some_iff.1 hd
   have hdn:d<C.n:=by
    have h1:=hops j oj hj
    simp only[Bb,Bool.and_eq_true,hdj] at h1
    simpa using h1.2
   have hv:=R.tmp d hdn
   rcases hor with⟨b,hFd⟩ |hFd
   rotate_left
   .rw[hFd] at hv
    obtain⟨cs,he,_⟩:=hv
    have hget:a.tmps[d]?=some (.tuple cs):=by
     have hs:=R.size
     have hlt:d<a.tmps.size:=by rw[hs];exact hdn
     simp[Array.getD,hlt] at he
     simp[hlt,he]
    have hy:yielded ops a.tmps j=none:=by simp[yielded,hd,hget]
    rw[if_neg (by simp[Region.wanted,hg,hy])]
    simp only[hFd] at h
    exact⟨fun _ _=>trivial,hN _ _ _ _ h ⟨σ,own,R.put o.dst (v:=undef) ⟨#[],rfl,rfl,fun _=>rfl⟩⟩⟩
   rw[hFd] at hv
   simp only[hFd] at h
   have he:=hv.1
   have hget:a.tmps[d]?=some (.bool b):=by
    have hs:=R.size
    have hlt:d<a.tmps.size:=by rw[hs];exact hdn
    simp[Array.getD,hlt] at he
    simp[hlt,he]
   have hy:yielded ops a.tmps j=some b:=by simp[yielded,hd,hget]
   by_cases hbw:b=want
   .rw[if_pos (by simp[Region.wanted,hg,hy,hbw])]
    simp only[hbw,beq_self_eq_true] at h
    exact go F h r
   .rw[if_neg (by simp[Region.wanted,hg,hy,hbw])]
    have:(b==want)=false:=by simpa using hbw
    simp only[this] at h
    exact⟨fun _ _=>trivial,hN _ _ _ _ h ⟨σ,own,R.put o.dst (v:=undef) ⟨#[],rfl,rfl,fun _=>rfl⟩⟩⟩
end
section
variable {P:Program} {L:Bool} {T:Nat→Option TI} {K:Fr→List Ae→Prop}
theorem IF {call:Dq} (hm:∀f args M (K K' :AV→List Ae→Prop),(∀r M,K r M→K' r M)→call f args M K→call f args M K') {K' :Fr→List Ae→Prop} (hK:∀F M,K F M→K' F M) {l tl:List Oper} {base:Nat}:∀(rest pre:List Oper) (F:Fr) (M:List Ae),l=pre++rest++tl→Ak T call l.toArray rest (base+AU pre) F M K→
 Bw T call l.toArray (fun i=>base+AU (l.take i)) (List.range' pre.length rest.length) F M K'
 | [],pre,F,M,hl,h=>hK _ _ h
 |o::rest,pre,F,M,hl,h=>by
  have hi:l.toArray[pre.length]?=some o:=by rw[hl];simp
  have ht:l.take pre.length=pre:=by rw[hl];simp
  have ih:∀F M,Ak T call l.toArray rest (base+AU pre+BI o) F M K→Bw T call l.toArray (fun i=>base+AU (l.take i)) (List.range' (pre.length+1) rest.length) F M K' :=fun F M h=>by
   have:=IF hm hK (l:=l) (tl:=tl) (base:=base) rest (pre++[o]) F M (by rw[hl];simp) (by rw[FQ,Hx,←Nat.add_assoc];exact h)
   simpa using this
  simp only[List.length_cons,List.range'_succ,Bw]
  unfold BD
  simp only[hi,ht]
  simp only[Ak] at h
  have mono:∀F,B8 T call o (base+AU pre) F M (fun F' M' =>Ak T call l.toArray rest (base+AU pre+BI o) F' M' K)→B8 T call o (base+AU pre) F M (fun F' M' =>Bw T call l.toArray (fun i=>base+AU (l.take i)) (List.range' (pre.length+1) rest.length) F' M' K'):=fun F h=>
   DA (call:=call) (call' :=call) (fun f args M K K' hk h=>hm f args M K K' (fun r M h=>hk _ _ h) h) (fun F M h=>ih F M h) h
  unfold E3
  split at h
  .rename_i hg
   simp only[hg]
   exact mono _ h
  .rename_i j want hg
   simp only[hg]
   split at h
   .rename_i d hd
    simp only[hd]
    unfold gK at h
    split at h
    .rename_i b hF
     simp only[hF]
     by_cases hb:b=want
     .simp only[hb,beq_self_eq_true]
      have:=h.1 hb
      simp only at this
      rw[Fl F d _ (by rw[hF,hb])] at this
      exact mono _ this
     .have e:(b==want)=false:=by simpa using hb
      simp only[e]
      have hbn:b= !want:=by cases b<;>cases want<;>simp_all
      have:=h.2 hbn
      simp only at this
      rw[Fl F d _ (by rw[hF,hbn])] at this
      exact ih _ _ this
    .rename_i hF
     simp only[hF]
     rw[Fl F d _ hF] at h
     exact ih _ _ h
    .exact h.elim
   .exact h.elim
end
section
variable {P:Program} {L:Bool} {T:Nat→Option TI} {sl:Nat→Nat} {K:Fr→List Ae→Prop}
theorem Un {C:A6} {m:Nat} (hC:C.P=P) (tk:BC P T) {l:List Oper} (hops:∀(k:Nat) (o:Oper),l.toArray[k]?=some o→Bb C.n o=true) (hml:m≤l.length) (hd:∀(i k:Nat) (oi ok:Oper),l.toArray[i]?=some oi→l.toArray[k]?=some ok→(∀p∈Bu oi,p<i)∧(k<i→(i<m∧DF L l.toArray ok oi=true)∨∀S,GU l.toArray S→(∀p∈Bu oi,S p)→S k)) (hc5:∀(k:Nat) (o:Oper),l.toArray[k]?=some o→Aw o.op≤5)
 (hsl:∀(i k:Nat) (oi ok:Oper),l.toArray[i]?=some oi→l.toArray[k]?=some ok→AR oi.op=true→AR ok.op=true→i≠k→sl i≠sl k) {Q' :Exit→Act→World→Prop} (hQ:∀F M a w,K F M→Cf C F M a w→Q' .normal a w):
 ∀(fuel:Nat) (listed:Array Bool) (rem:List Nat) (F:Fr) (M:List Ae) (a:Act) (w:World),rem=(List.range m).filter (fun i=> !listed.getD i true)→rem.length+(l.length-m)≤fuel→(∀i,m≤i→listed.getD i false=false)→listed.size=l.length→GU l.toArray (fun i=>listed.getD i false=true)→
 (∀j oj,l.toArray[j]?=some oj→AR oj.op=true→sl j<M.length)→Bw T (Ah P L) l.toArray sl rem F M (fun F M=>Bw T (Ab P) l.toArray sl (List.range' m (l.length-m)) F M K)→Cf C F M a w→wpAnyIn (FX C) 0 C.P .any l.toArray Q' fuel listed a w:=by
 intro fuel
 have hready:∀(listed:Array Bool) i,i∈Region.ready .any l.toArray listed→i<l.length∧listed.getD i true=false∧∀o,l.toArray[i]?=some o→∀p∈Bu o,listed.getD p false=true:=by
  intro listed i hi
  simp only[Region.ready,List.mem_filter,List.mem_range,Bool.and_eq_true] at hi
  obtain⟨h1,h2,h3⟩:=hi
  refine⟨by simpa using h1,by simpa using h2,fun o ho p hp=>?_⟩
  rw[ho] at h3
  simp only[Option.map_some,Option.getD_some] at h3
  simp only[Bu,List.mem_map,List.mem_filter] at hp
  obtain⟨e,⟨he,hb⟩,rfl⟩:=hp
  have h4:=Array.all_eq_true'.1 h3 e (by simpa using he)
  simp only[hb,Bool.not_true,Bool.false_or] at h4
  exact h4
 have hleast:∀(listed:Array Bool) (i:Nat),listed.size=l.length→i<l.length→listed.getD i true=false→(∀p,p<i→listed.getD p false=true)→i∈Region.ready .any l.toArray listed:=by
  intro listed i hsz hlt hi hmin
  have hi2:l.toArray[i]?=some l[i]:=by simp[hlt]
  simp only[Region.ready,List.mem_filter,List.mem_range,Bool.and_eq_true]
  refine⟨by simpa using hlt,by simp[hi],?_⟩
  rw[hi2]
  simp only[Option.map_some,Option.getD_some]
  rw[Array.all_eq_true']
  intro e he
  cases hb:Region.binds .any e with
  |false=>rfl
  |true=>
   simp only[Bool.not_true,Bool.false_or]
   refine hmin _ ((hd i i _ _ hi2 hi2).1 _ ?_)
   simp only[Bu,List.mem_map,List.mem_filter]
   exact⟨e,⟨by simpa using he,hb⟩,rfl⟩
 have hstep:∀(listed:Array Bool) (i:Nat),listed.size=l.length→i<l.length→∀t,(listed.setIfInBounds i true).getD t false=true↔t=i∨listed.getD t false=true:=by
  intro listed i hsz hil t
  have hil:i<listed.size:=by rw[hsz];exact hil
  by_cases e:t=i
  .subst e;simp[Array.getD,hil]
  .have:¬i=t:=fun h=>e h.symm
   by_cases htl:t<listed.size
   .simp[Array.getD,htl,e,this,Array.getElem_setIfInBounds]
   .simp[Array.getD,htl,e]
 have hTF:∀(listed:Array Bool) t,listed.size=l.length→t<l.length→(listed.getD t true=false↔¬listed.getD t false=true):=by
  intro listed t hsz ht
  have:t<listed.size:=by omega
  simp[Array.getD,this]
 have chain:∀(fuel:Nat) (listed:Array Bool) (j:Nat) (F:Fr) (M:List Ae) (a:Act) (w:World),m≤j→j≤l.length→l.length-j≤fuel→listed.size=l.length→(∀t,listed.getD t false=true↔t<j)→
  Bw T (Ab P) l.toArray sl (List.range' j (l.length-j)) F M K→Cf C F M a w→wpAnyIn (FX C) 0 C.P .any l.toArray Q' fuel listed a w:=by
  intro fuel
  induction fuel with
  |zero=>
   intro listed j F M a w hmj hjl hf hsz hls h r
   have hj:j=l.length:=by omega
   subst hj
   rw[Nat.sub_self] at h
   refine⟨?_,hQ _ _ _ _ h r⟩
   apply Classical.byContradiction
   intro hne
   obtain⟨i,hi⟩:=List.exists_mem_of_ne_nil _ hne
   have h1:=hready listed i hi
   exact((hTF listed i hsz h1.1).1 h1.2.1) ((hls i).2 h1.1)
  |succ fuel ih=>
   intro listed j F M a w hmj hjl hf hsz hls h r
   refine⟨fun hr=>?_,fun i hi=>?_⟩
   .have hj:j=l.length:=by
     apply Classical.byContradiction
     intro hne
     have:=hleast listed j hsz (by omega) ((hTF listed j hsz (by omega)).2 fun e=>by have:=(hls j).1 e;omega) (fun p hp=>(hls p).2 hp)
     rw[hr] at this;simp at this
    subst hj
    rw[Nat.sub_self] at h
    exact hQ _ _ _ _ h r
   .have h1:=hready listed i hi
    have hij:i=j:=by
     have hge:¬i<j:=fun hlt=>((hTF listed i hsz h1.1).1 h1.2.1) ((hls i).2 hlt)
     apply Classical.byContradiction
     intro hne
     have hlt:j<i:=by omega
     have hjm:j<l.length:=by omega
     rcases(hd i j _ _ (show l.toArray[i]?=some (l[i]'h1.1) by simp[h1.1]) (show l.toArray[j]?=some (l[j]'hjm) by simp[hjm])).2 hlt with⟨h,_⟩ |h
     .omega
     .have:=h (fun t=>listed.getD t false=true) (fun t o ho ht p hp=>by
       have ht' :=(hls t).1 ht
       show listed.getD p false=true
       rw[hls]
       have:=(hd t t o o ho ho).1 p hp
       omega) (h1.2.2 _ (by simp[h1.1]))
      have:=(hls j).1 this
      omega
    subst hij
    have hi2:l.toArray[i]?=some (l[i]'h1.1):=by simp[h1.1]
    rw[show l.length-i=(l.length-(i+1))+1 by omega,List.range'_succ] at h
    refine RW (call:=Ab P) (fun f args M K K' hk hc=>(hc C hC).mono hk) (hC ▸ tk) hi2 hops (fun F' M' a' w' hk r' =>?_) h r
    exact ih _ (i+1) F' M' a' w' (by omega) (by omega) (by omega) (by simpa using hsz) (fun t=>by rw[hstep listed i hsz h1.1 t,hls];omega) hk r'
 induction fuel with
 |zero=>
  intro listed rem F M a w hrem hlen hlt hsz hcl hsm h r
  have hr0:rem=[]:=by
   have:rem.length=0:=by omega
   simpa using this
  subst hr0
  refine chain 0 listed m F M a w (Nat.le_refl _) hml (by simp at hlen;omega) hsz (fun t=>⟨fun ht=>?_,fun ht=>?_⟩) h r
  .apply Classical.byContradiction
   intro hn
   rw[hlt t (by omega)] at ht;simp at ht
  .apply Classical.byContradiction
   intro hn
   have:t∈(List.range m).filter (fun i=> !listed.getD i true):=List.mem_filter.2 ⟨by simpa using ht,by simp[(hTF listed t hsz (by omega)).2 hn]⟩
   rw[←hrem] at this;simp at this
 |succ fuel ih=>
  intro listed rem F M a w hrem hlen hlt hsz hcl hsm h r
  by_cases hr0:rem=[]
  .subst hr0
   refine chain (fuel+1) listed m F M a w (Nat.le_refl _) hml (by simp at hlen;omega) hsz (fun t=>⟨fun ht=>?_,fun ht=>?_⟩) h r
   .apply Classical.byContradiction
    intro hn
    rw[hlt t (by omega)] at ht;simp at ht
   .apply Classical.byContradiction
    intro hn
    have:t∈(List.range m).filter (fun i=> !listed.getD i true):=List.mem_filter.2 ⟨by simpa using ht,by simp[(hTF listed t hsz (by omega)).2 hn]⟩
    rw[←hrem] at this;simp at this
  refine⟨fun hr=>?_,fun i hi=>?_⟩
  .exfalso
   obtain⟨i,rest,hir⟩:=List.exists_cons_of_ne_nil hr0
   have hmem:i∈rem:=by rw[hir];simp
   have hpw:rem.Pairwise (·<·):=by rw[hrem];exact(DJ _).filter _
   have hmem' :=List.mem_filter.1 (hrem ▸ hmem)
   have him:i<m:=by simpa using hmem'.1
   have hmin:∀p,p<i→listed.getD p false=true:=by
    intro p hp
    apply Classical.byContradiction
    intro hno
    have:p∈rem:=by
     rw[hrem]
     exact List.mem_filter.2 ⟨by simp;omega,by simp[(hTF listed p hsz (by omega)).2 hno]⟩
    rw[hir] at this hpw
    rcases List.mem_cons.1 this with h|h
    .omega
    .have:=(List.pairwise_cons.1 hpw).1 p h;omega
   have:=hleast listed i hsz (by omega) (by simpa using hmem'.2) hmin
   rw[hr] at this;simp at this
  .have h1:=hready listed i hi
   have hi2:l.toArray[i]?=some (l[i]'h1.1):=by simp[h1.1]
   have him:i<m:=by
    apply Classical.byContradiction
    intro hge
    obtain⟨k,rest,hkr⟩:=List.exists_cons_of_ne_nil hr0
    have hkm:k∈rem:=by rw[hkr];simp
    have hk' :=List.mem_filter.1 (hrem ▸ hkm)
    have hkm:k<m:=by simpa using hk'.1
    rcases(hd i k _ _ hi2 (show l.toArray[k]?=some (l[k]'(by omega)) by simp)).2 (by omega) with⟨h,_⟩ |h
    .omega
    .have h3:=h _ hcl (h1.2.2 _ hi2)
     exact((hTF listed k hsz (by omega)).1 (by simpa using hk'.2)) h3
   have hmem:i∈rem:=by rw[hrem];exact List.mem_filter.2 ⟨by simpa using him,by simp[h1.2.1]⟩
   obtain⟨pre,post,hpp⟩:=List.append_of_mem hmem
   have hsorted:rem.Pairwise (·<·):=by rw[hrem];exact(DJ _).filter _
   rw[hpp] at hsorted
   have hs1:=List.pairwise_append.1 hsorted
   have hprelt:∀k∈pre,k<i:=fun k hk=>hs1.2.2 k hk i (by simp)
   have hpostgt:∀k∈post,i<k:=(List.pairwise_cons.1 hs1.2.1).1
   have hpull:=Rv (n:=C.n) (sl:=sl) (L:=L) (F:=F) (M:=M) tk hops hsl hi2 pre post (fun k hk=>Nat.ne_of_lt (hprelt k hk)) (fun k hk ok hok=>?_) (fun ha=>hsm i _ hi2 ha) ⟨C,a,w,hC,rfl,r⟩ (by rw[←hpp];exact h)
   .refine Jy hC (hC ▸ tk) hi2 hops (fun F' M' a' w' hk r' =>?_) (Hw hops hc5 hpull) r
    refine ih _ (pre++post) F' M' a' w' ?_ ?_ ?_ (by simpa using hsz) ?_ (fun j oj hj ha=>Nat.lt_of_lt_of_le (hsm j oj hj ha) hk.2) hk.1 r'
    .have:(List.range m).filter (fun t=> !(listed.setIfInBounds i true).getD t true)=((List.range m).filter (fun t=> !listed.getD t true)).filter (fun t=>t !=i):=by
      rw[List.filter_filter]
      refine List.filter_congr fun t ht=>?_
      have htl:t<listed.size:=by rw[hsz];have:t<m:=by simpa using ht
                                 omega
      by_cases e:t=i
      .subst e;simp[Array.getD,htl]
      .have:¬i=t:=fun h=>e h.symm
       simp[Array.getD,htl,e,this,Array.getElem_setIfInBounds]
     rw[this,←hrem,hpp,List.filter_append,List.filter_cons]
     simp only[bne_self_eq_false,Bool.false_eq_true,if_false]
     rw[List.filter_eq_self.2 (fun k hk=>by simp;exact Nat.ne_of_lt (hprelt k hk)),List.filter_eq_self.2 (fun k hk=>by simp;exact(Nat.ne_of_gt (hpostgt k hk)))]
    .rw[hpp] at hlen
     simp at hlen ⊢
     omega
    .intro t ht
     apply Classical.byContradiction
     intro hn
     have hn' :(listed.setIfInBounds i true).getD t false=true:=by simpa using hn
     rw[hstep listed i hsz h1.1 t] at hn'
     rcases hn' with h|h
     .omega
     .rw[hlt t ht] at h;simp at h
    .intro k o hk hlist p hp
     rw[hstep listed i hsz h1.1] at hlist ⊢
     rcases hlist with rfl|hlist
     .exact .inr (h1.2.2 o hk p hp)
     .exact .inr (hcl k o hk hlist p hp)
   .have hkrem:k∈rem:=by rw[hpp];simp[hk]
    have hkm:=List.mem_filter.1 (hrem ▸ hkrem)
    rcases(hd i k _ ok hi2 hok).2 (hprelt k hk) with h|h
    .exact h.2
    .exfalso
     have h3:=h _ hcl (h1.2.2 _ hi2)
     have hkl:k<l.length:=by have:=hprelt k hk;omega
     exact((hTF listed k hsz hkl).1 (by simpa using hkm.2)) h3
end
def SE (L:Bool) (m:Nat) (l:List Oper):Bool:=G9 (fun _ ok i oi=>decide (i<m)&&DF L l.toArray ok oi) l.toArray l [] [] 0&&(decide (m≤l.length)&&l.all fun o=>decide (Aw o.op≤5))
theorem W.regdS {P:Program} {T:Nat→Option TI} {p:Nat} {F:Fr} {M:List Ae} {Q:BY} {id:Nat} {l:List Oper} (n m:Nat) (hn:AU l=n) (L:Bool) (hp:P.follows .mixedOrders=true) (hd:SE L m l=true)
 (h:∀K:Fr→List Ae→Prop,(∀F M,Q .normal F M→K F M)→Ak T (Ah P L) l.toArray (l.take m) M.length F (M++List.replicate n .free) fun F' M' =>Ak T (Ab P) l.toArray (l.drop m) (M.length+AU (l.take m)) F' M' K):W P T p (.region id l.toArray true) F M Q:=by
 intro tk C hC hp' hb a w r
 simp only[SE,Bool.and_eq_true] at hd
 simp only[B9] at hb
 subst hn
 have hops:∀(k:Nat) (o:Oper),l.toArray[k]?=some o→Bb C.n o=true:=fun k o ho=>by
  refine List.all_eq_true.1 hb o ?_
  rw[←Array.getElem?_toList] at ho
  exact List.mem_of_getElem? ho
 have hc5:∀(k:Nat) (o:Oper),l.toArray[k]?=some o→Aw o.op≤5:=fun k o ho=>by
  have:=List.all_eq_true.1 hd.2.2 o (List.mem_of_getElem? (by simpa using ho))
  simpa using this
 have hml:m≤l.length:=by simpa using hd.2.1
 refine wpIn_region_any (hC ▸ hp) ?_
 obtain⟨σ,own,R⟩:=r
 have hm1:∀f args M (K K' :AV→List Ae→Prop),(∀r M,K r M→K' r M)→Ah P L f args M K→Ah P L f args M K' :=fun f args M K K' hk h=>Ah.mono (fun r bs h=>hk _ _ h) h
 have hm2:∀f args M (K K' :AV→List Ae→Prop),(∀r M,K r M→K' r M)→Ab P f args M K→Ab P f args M K' :=fun f args M K K' hk h C hC=>(h C hC).mono hk
 have hlt:(l.take m).length=m:=by simp;omega
 have h' :=IF (call:=Ah P L) hm1 (K' :=fun F' M' =>Bw T (Ab P) l.toArray (fun i=>M.length+AU (l.take i)) (List.range' m (l.length-m)) F' M' (Q .normal)) (fun F' M' hk=>by
  have:=IF (call:=Ab P) hm2 (K' :=Q .normal) (fun _ _ h=>h) (l:=l) (tl:=[]) (base:=M.length) (l.drop m) (l.take m) F' M' (by simp) hk
  rw[hlt,List.length_drop] at this
  exact this) (l:=l) (tl:=l.drop m) (base:=M.length) (l.take m) [] F _ (by simp) (h _ fun _ _ h=>h)
 rw[hlt] at h'
 refine Un (m:=m) (l:=l) (L:=L) hC tk hops hml (fun i k oi ok hi hk=>?_) hc5 (sl:=fun i=>M.length+AU (l.take i)) (fun i k oi ok hi hk ha ha' hne=>?_) (K:=Q .normal) (Q' :=aq C Q) (fun F M a w h r=> .inl ⟨F,M,h,r⟩) l.toArray.size (Array.replicate l.toArray.size false) (List.range' 0 m) F _ a w.drew ?_ ?_ ?_ ?_ ?_ ?_ h' ⟨σ,own,(R.grow _).drew⟩
 .have:=Gg (ops:=l.toArray) l [] [] [] (by simp) rfl (fun t m h=>by simp at h) (fun k o _ h=>by simp at h) hd.1 i k oi ok hi hk (Nat.zero_le _)
  refine⟨this.1,fun hlt=>?_⟩
  rcases this.2 hlt with h|h
  .simp only[Bool.and_eq_true,decide_eq_true_eq] at h
   exact .inl h
  .exact .inr h
 .have s1:BI oi=1:=by simp[BI,ha]
  have s2:BI ok=1:=by simp[BI,ha']
  rcases Nat.lt_or_gt_of_ne hne with h|h
  .have:=CN (l:=l) (by simpa using hi) h
   omega
  .have:=CN (l:=l) (by simpa using hk) h
   omega
 .rw[←List.range_eq_range']
  symm
  rw[List.filter_eq_self]
  intro t ht
  have:t<l.length:=by have:t<m:=by simpa using ht
                      omega
  simp[Array.getD,this]
 .simp;omega
 .intro i _
  simp[Array.getD]
 .simp
 .intro i o ho hl
  simp[Array.getD] at hl
 .intro j oj hj ha
  have s1:BI oj=1:=by simp[BI,ha]
  have hjl:j<l.length:=by
   rcases Nat.lt_or_ge j l.length with h|h
   .exact h
   .rw[show l.toArray[j]?=l[j]? by simp,List.getElem?_eq_none h] at hj;simp at hj
  have:=CN (l:=l) (by simpa using hj) hjl
  rw[List.take_length] at this
  simp only[List.length_append,List.length_replicate]
  omega
end Go.Abs
namespace Go.Abs
def Of (M:List Ae):AV→AV
 | .own _ 0 []=> .own 1 0 []
 |x=>vw M x
section
variable {P:Program} {f:Nat} {M:List Ae} {args cargs:List AV} {K:AV→List Ae→Prop} {Q:AV→List Ae→Prop}
theorem VL {w:World} {sh shB:Nat→Prop} {σ:Nat→Nat→Option St} {own:Nat→Option Nat} (m:BE w sh σ own M) (hs:∀g,sh g→shB g) (ho:∀g,own g≠none→g<w.heap.size→shB g) {x:AV} {v:Value} (h:VR w sh σ x v (fun _=>0)):VR w shB σ0 (Of M x) v (fun _=>0):=by
 unfold Of
 split
 .simp only[VR] at h ⊢
  rcases h with⟨ha,_⟩ | ⟨hh,b,c,cur,e',fp',_,_,_,_,_,_,_,hff⟩
  .exact .inl ⟨ha,trivial,trivial,fun _=>trivial⟩
  .have:=hff hh
   simp at this
   omega
 .exact OL m hs ho h
theorem Ab.borN (spec:Aa P f cargs [] Q) (hargs:args.map (Of M)=cargs) (hk:∀r,Q r []→E2 r=true∧K (Dr M.length r).1 (M++(Dr M.length r).2)):Ab P f args M K:=by
 intro C hC
 subst hC
 refine⟨spec.1,fun F a w σ own vals R hv=>?_⟩
 have hv' :Ao w (fun g=>C.sh g∨(own g≠none∧g<w.heap.size)) σ0 cargs vals.toList (fun _=>0):=by
  rw[←hargs]
  have:=Eo (w:=w) (sh:=C.sh) (shB:=fun g=>C.sh g∨(own g≠none∧g<w.heap.size)) (σ:=σ) (τ:=σ0) (f:=Of M) (p:=fun fp=>∀g,fp g=0) (fun a b c hc e=>⟨fun g=>by have:=e g;have:=hc g;omega,fun g=>by have:=e g;have:=hc g;omega⟩) (fun x v fp h hf=>by
   have:fp=fun _=>0:=funext hf
   subst this
   exact VL R.mem (fun g hg=> .inl hg) (fun g hg hlt=> .inr ⟨hg,hlt⟩) h)
  exact this _ _ _ hv (fun _=>rfl)
 refine(spec.2 w _ σ0 (fun _=>none) vals hv' (Fk _ _) (fun g hg=>⟨rfl,?_⟩)).mono ?_
 .rcases hg with hg|hg
  .exact(R.shr g hg).2
  .exact hg.2
 .rintro e w' ⟨r,v,M',σ',own',fpr,rfl,hq,hl,hr,hf,hm,_,he,_⟩
  have:M' =[]:=List.eq_nil_of_length_eq_zero (by simpa using hl)
  subst this
  obtain⟨h1,h2⟩:=hk r hq
  have hσ:σ' =σ0:=by funext T u;exact hm.key T u (Nat.zero_le _)
  subst hσ
  obtain⟨σ2,own2,R2,r2⟩:=Iw R he (J6 r v fpr h1 hr) hf
  exact⟨_,v,_,σ2,own2,rfl,h2,R2,r2⟩
theorem Ab.eqN {v:AV} (spec:Aa P f cargs [] fun r _=>r=v) (hargs:args.map (Of M)=cargs) (hr:E2 v=true) (hk:K (Dr M.length v).1 (M++(Dr M.length v).2)):Ab P f args M K:=
 Ab.borN spec hargs fun r e=>by subst e;exact⟨hr,hk⟩
end
end Go.Abs
namespace Go.Abs
def sl:Bool→Nat→Nat→List AV→AV
 |true,s,n,xs=> .own s n xs
 |false,_,n,xs=> .ro n xs
@[simp] theorem ZI (s n:Nat) (xs:List AV):sl true s n xs= .own s n xs:=rfl
@[simp] theorem Ys (s n:Nat) (xs:List AV):sl false s n xs= .ro n xs:=rfl
def Af {α:Type} (f:α→List AV):List α→List AV
 | []=> []
 |x::xs=>f x++Af f xs
section
variable {α:Type} (f:α→List AV)
@[simp] theorem Yt:Af f []=[]:=rfl
theorem AD (x:α) (xs:List α):Af f (x::xs)=f x++Af f xs:=rfl
theorem Co (xs ys:List α):Af f (xs++ys)=Af f xs++Af f ys:=by
 induction xs with
 |nil=>rfl
 |cons x xs ih=>simp[AD,ih]
theorem HC {s:Nat} (h:∀x,(f x).length=s) (xs:List α):(Af f xs).length=xs.length*s:=by
 induction xs with
 |nil=>simp
 |cons x xs ih=>simp[AD,ih,h,Nat.add_mul];omega
theorem Kf {s:Nat} (h:∀x,(f x).length=s):∀(k:Nat) (xs:List α),(Af f xs).drop (k*s)=Af f (xs.drop k)
 |0,xs=>by simp
 |k+1,[]=>by simp
 |k+1,x::xs=>by
  rw[AD,show(k+1)*s=(f x).length+k*s by rw[h];rw[Nat.add_mul];omega,List.drop_append]
  simp only[List.drop_succ_cons]
  rw[←Kf h k xs]
  simp
theorem E6 {s:Nat} (h:∀x,(f x).length=s):∀(k:Nat) (xs:List α),(Af f xs).take (k*s)=Af f (xs.take k)
 |0,xs=>by simp
 |k+1,[]=>by simp
 |k+1,x::xs=>by
  rw[AD,show(k+1)*s=(f x).length+k*s by rw[h];rw[Nat.add_mul];omega,List.take_append]
  simp only[List.take_succ_cons,AD]
  rw[←E6 h k xs,List.take_of_length_le (by omega)]
  simp
theorem FC {s:Nat} (h:∀x,(f x).length=s) {k:Nat} {xs:List α} (hk:k<xs.length):(Af f xs).drop (k*s)=f xs[k]++Af f (xs.drop (k+1)):=by
 rw[Kf f h,List.drop_eq_getElem_cons hk,AD]
theorem Gh {p:AV→Bool} (h:∀x,(f x).all p=true) (xs:List α):(Af f xs).all p=true:=by
 induction xs with
 |nil=>rfl
 |cons x xs ih=>rw[AD,List.all_append,h,ih];rfl
theorem Gi {g:AV→AV} {f' :α→List AV} (h:∀x,(f x).map g=f' x) (xs:List α):(Af f xs).map g=Af f' xs:=by
 induction xs with
 |nil=>rfl
 |cons x xs ih=>rw[AD,List.map_append,h,ih,AD]
theorem Ha (k:Nat):∀xs,Db k xs=xs.all (Gc k)
 | []=>by simp[Db]
 |x::xs=>by simp only[Db,List.all_cons,Ha k xs]
end
@[ext] structure CM where
  data:ByteArray
  n:Int
  deriving DecidableEq
@[ext] structure Obj where
  id:Int
  base:Int
  data:CM
  deriving DecidableEq
@[ext] structure AS where
  id:Int
  parent:Int
  base:Int
  data:CM
  at_:Int
  tag:Bool
  gone:Bool
  deriving DecidableEq
@[ext] structure Gr where
  n:Int
  out:List (List Int)
  deriving DecidableEq
@[ext] structure BW where
  kind:Int
  a:Int
  at_:Int
  move:Bool
  list:List Int
  out:List Int
  deriving DecidableEq
@[ext] structure CD where
  opn:Bool
  pin:Int
  on:Bool
  frm:Int
  stage:Gr
  job:BW
  deriving DecidableEq
@[ext] structure AT where
  keep:Int
  blocks:Int
  vers:List AS
  sess:List CD
  deriving DecidableEq
def E7 (m:Bool) (xs:List Int):AV:=sl m 1 xs.length (Ac xs)
def Au (m:Bool) (xs:List (List Int)):List AV:=xs.map (E7 m)
def DM (m:Bool) (xs:List (List Int)):AV:=sl m 1 xs.length (Au m xs)
def Ch (b:CM):List AV:=[.str b.data,.int .i64 b.n]
def At (r:Int×Int):List AV:=[.int .i64 r.1,.int .i64 r.2]
def WM (m:Bool) (l:List (Int×Int)):AV:=sl m 2 l.length (Af At l)
def Av (o:Obj):List AV:=[.int .i64 o.id,.int .i64 o.base,.str o.data.data,.int .i64 o.data.n]
def AE (v:AS):List AV:=[.int .i64 v.id,.int .i64 v.parent,.int .i64 v.base,.str v.data.data,.int .i64 v.data.n,.int .i64 v.at_,.bool v.tag,.bool v.gone]
def AX (m:Bool) (g:Gr):List AV:=[.int .i64 g.n,DM m g.out]
def BA (m:Bool) (j:BW):List AV:=[.int .i64 j.kind,.int .i64 j.a,.int .i64 j.at_,.bool j.move,E7 m j.list,E7 m j.out]
def Ay (m:Bool) (s:CD):List AV:=[.bool s.opn,.int .i64 s.pin,.bool s.on,.int .i64 s.frm,.int .i64 s.stage.n,DM m s.stage.out,.int .i64 s.job.kind,.int .i64 s.job.a,.int .i64 s.job.at_,.bool s.job.move,E7 m s.job.list,E7 m s.job.out]
def WO (m:Bool) (l:List Obj):AV:=sl m 4 l.length (Af Av l)
def IX (m:Bool) (l:List AS):AV:=sl m 8 l.length (Af AE l)
def Pd (m:Bool) (l:List CD):AV:=sl m 12 l.length (Af (Ay m) l)
def AJ (m:Bool) (s:AT):List AV:=[.int .i64 s.keep,.int .i64 s.blocks,IX m s.vers,Pd m s.sess]
end Go.Abs
namespace Go.Abs
def Qu (w:World) (g:Nat):Prop:=g<w.heap.size
theorem Uo {w:World} {a:Addr} {v:Value} (h:w.cell? a=some v):a.block<w.heap.size:=by
 rcases Nat.lt_or_ge a.block w.heap.size with h1|h1
 .exact h1
 .simp[World.cell?,Array.getElem?_eq_none h1] at h
theorem Qv (a:Addr) (i:Nat):(a.add i).block=a.block:=by unfold Addr.add;split<;>rfl
theorem MR {H:Type} {P:Program} {e:TypeId}:∀{l:List (DataW H)} {d:DataW H},d∈l→∀n∈d.weights P e,n∈DataW.weightsAll P e l
 |d' ::r,d,hd,n,hn=>by
  simp only[DataW.weightsAll,List.mem_append]
  rcases List.mem_cons.1 hd with rfl|h
  .exact .inl hn
  .exact .inr (MR h n hn)
section
variable {H:Type} {enc:TypeId×Value→H} {P:Program} {w:World} {t e:TypeId}
def AY {α:Type} (enc:TypeId×Value→H) (P:Program) (w:World) (t:TypeId) (f:α→List AV) (good:α→Prop):Prop:=
 ∀fuel cs x,DataW.trod enc P w 0 (fun _=>true) true fuel t cs=some x→(∀n∈x.1.weights P t,n≤reachBytes)→∃a,Ao w (Qu w) σ0 (f a) cs (fun _=>0)∧good a
theorem VM (ht:P.underlying t=some (.slice e)) (es sp:List (DataW H)):DataW.weights P t (.slice es sp)=(es.length+sp.length)*P.bytesOf e::(DataW.weightsAll P e es++DataW.weightsAll P e sp):=by simp[DataW.weights,ht]
theorem Ls {sh:Nat→Prop} {a:AV} {v:Value} (h:VR w sh σ0 a v (fun _=>0)):Ao w sh σ0 [a] [v] (fun _=>0):=⟨v,[],fun _=>0,fun _=>0,rfl,h,⟨rfl,fun _=>rfl⟩,fun _=>rfl⟩
theorem AY.map {α β:Type} {f:α→List AV} {f' :β→List AV} {good:α→Prop} {good' :β→Prop} (h:AY enc P w t f good) (g:α→β) (hf:∀a,f a=f' (g a)) (hg:∀a,good a→good' (g a)):AY enc P w t f' good' :=fun fuel cs x hx hw=>by
 obtain⟨a,h1,h2⟩:=h fuel cs x hx hw
 exact⟨g a,hf a ▸ h1,hg a h2⟩
theorem AY.int {k:IntKind} (ht:P.underlying t=some (.int k)):AY enc P w t (fun n:Int=> [.int k n]) fun _=>True:=fun fuel cs x hx _=>by
 obtain⟨n,rfl,_,_⟩:=DataW.trod_int ht hx
 exact⟨n,Ls ⟨rfl,fun _=>rfl⟩,trivial⟩
theorem AY.bool (ht:P.underlying t=some .bool):AY enc P w t (fun b:Bool=> [.bool b]) fun _=>True:=fun fuel cs x hx _=>by
 obtain⟨b,rfl,_⟩:=DataW.trod_bool ht hx
 exact⟨b,Ls ⟨rfl,fun _=>rfl⟩,trivial⟩
theorem AY.str (ht:P.underlying t=some .string):AY enc P w t (fun s:ByteArray=> [.str s]) fun s=>s.size≤reachBytes:=fun fuel cs x hx hw=>by
 obtain⟨s,rfl,rfl,_⟩:=DataW.trod_string ht hx
 refine⟨s,Ls ⟨rfl,fun _=>rfl⟩,?_⟩
 have:=hw s.data.toList.length (by simp[DataW.weights])
 simpa using this
theorem AY.len (ht:P.underlying t=some (.slice e)) (hb:0<P.bytesOf e):AY enc P w t (fun n:Nat=> [.ro n []]) fun n=>n≤reachBytes:=fun fuel cs x hx hw=>by
 rcases DataW.trod_slice ht hx with⟨rfl,_⟩ | ⟨a,len,cap,elems,rest,n,rfl,rfl,rfl,_,hlc,_,hel,_⟩
 .exact⟨0,Ls ⟨fun _=>rfl,none,0,rfl,Nat.le_refl _,fun _=>rfl,.inl rfl⟩,Nat.zero_le _⟩
 .refine⟨len,Ls ⟨fun _=>rfl,some a,cap,rfl,hlc,(by simp),.inl rfl⟩,?_⟩
  have:=hw ((elems.length+rest.length)*P.bytesOf e) (by simp[DataW.weights,ht])
  rw[hel] at this
  have h2:=Nat.le_mul_of_pos_right (len+rest.length) hb
  omega
theorem AY.slice {α:Type} {f:α→List AV} {good:α→Prop} (h:AY enc P w e f good) (ht:P.underlying t=some (.slice e)) (hb:0<P.bytesOf e):AY enc P w t (fun xs:List α=> [.ro xs.length (Af f xs)]) fun xs=>xs.length≤reachBytes∧∀a∈xs,good a:=fun fuel cs x hx hw=>by
 rcases DataW.trod_slice ht hx with⟨rfl,_⟩ | ⟨a,len,cap,elems,rest,n,rfl,rfl,rfl,_,hlc,_,hel,hget,_⟩
 .exact⟨[],Ls ⟨fun _=>rfl,none,0,rfl,Nat.le_refl _,fun _=>rfl,.inl rfl⟩,Nat.zero_le _,by simp⟩
 .have hl:=hw ((elems.length+rest.length)*P.bytesOf e) (by simp[DataW.weights,ht])
  rw[hel] at hl
  have h2:=Nat.le_mul_of_pos_right (len+rest.length) hb
  have key:∀m,m≤len→∃(xs:List α) (vs:List Value),xs.length=m∧vs.length=m*P.cellsOf e∧Ao w (Qu w) σ0 (Af f xs) vs (fun _=>0)∧DQ w a vs∧∀a∈xs,good a:=by
   intro m
   induction m with
   |zero=>intro _;exact⟨[],[],rfl,by simp,⟨rfl,fun _=>rfl⟩,by intro i v hv;simp at hv,by simp⟩
   |succ m ih=>
    intro hm
    obtain⟨xs,vs,e1,e2,h3,h4,h5⟩:=ih (by omega)
    have hmlt:m<elems.length:=by omega
    have hg:=hget m (by omega)
    rw[List.getElem?_eq_getElem hmlt] at hg
    obtain⟨cs',hc,hx'⟩:=Option.bind_eq_some_iff.1 hg
    obtain⟨b,hv,hgood⟩:=h n cs' _ hx' (fun k hk=>hw k (by
     rw[VM ht]
     exact List.mem_cons_of_mem _ (List.mem_append_left _ (MR (List.mem_map.2 ⟨_,List.getElem_mem hmlt,rfl⟩) k hk))))
    have hcl:cs'.length=P.cellsOf e:=by
     unfold World.cells? at hc
     rw[if_pos (Nat.zero_le _)] at hc
     simpa using mapM_some_length hc
    refine⟨xs++[b],vs++cs',by simp[e1],by simp[e2,hcl,Nat.add_mul],?_,?_,?_⟩
    .have:Af f (xs++[b])=Af f xs++f b:=by rw[Co];simp[Af]
     rw[this]
     exact DS h3 hv
    .intro i v hiv
     rcases Nat.lt_or_ge i vs.length with hlt|hge
     .exact h4 i v (by rwa [List.getElem?_append_left hlt] at hiv)
     .rw[List.getElem?_append_right hge] at hiv
      unfold World.cells? at hc
      rw[if_pos (Nat.zero_le _)] at hc
      have hi' :i-vs.length<P.cellsOf e:=by
       rw[←hcl]
       rcases Nat.lt_or_ge (i-vs.length) cs'.length with h9|h9
       .exact h9
       .rw[List.getElem?_eq_none h9] at hiv;simp at hiv
      have:=mapM_some_get hc (i-vs.length) (i-vs.length) (by simp[hi'])
      rw[hiv,Addr.add_assoc] at this
      rw[←this]
      congr 2
      omega
    .intro c hc'
     rcases List.mem_append.1 hc' with h9|h9
     .exact h5 c h9
     .simp at h9;subst h9;exact hgood
  obtain⟨xs,vs,e1,e2,h3,h4,h5⟩:=key len (Nat.le_refl _)
  refine⟨xs,Ls ⟨fun _=>rfl,some a,cap,by rw[e1],by omega,(by simp),?_⟩,by omega,h5⟩
  cases hvs:vs with
  |nil=>
   left
   rw[hvs] at h3
   have:=Bx h3
   exact List.length_eq_zero_iff.1 (by simpa using this.symm)
  |cons v vs' =>
   right
   refine⟨a,vs,rfl,?_,h4,h3⟩
   have:=Uo (h4 0 v (by rw[hvs];rfl))
   rwa [Qv] at this
def KS {α:Type} (enc:TypeId×Value→H) (P:Program) (w:World) (fs:List Field) (off:Nat) (f:α→List AV) (good:α→Prop):Prop:=
 ∀(cs:List Value) (k:Nat) (xs:List (DataW H×List MemPlace)),xs.length=fs.length→(∀(i:Nat) (fd:Field),fs[i]?=some fd→DataW.trod enc P w 0 (fun _=>true) true k fd.type ((cs.drop fd.offset).take (P.cellsOf fd.type))=xs[i]?)→(∀(i:Nat) (fd:Field) (x:DataW H×List MemPlace),fs[i]?=some fd→xs[i]?=some x→∀n∈x.1.weights P fd.type,n≤reachBytes)→
  cs.length=off+(fs.map fun fd=>P.cellsOf fd.type).sum→∃a,Ao w (Qu w) σ0 (f a) (cs.drop off) (fun _=>0)∧good a
theorem KS.nil {off:Nat}:KS enc P w [] off (fun _:Unit=> []) fun _=>True:=fun cs k xs _ _ _ hl=>⟨(),by
 have:cs.drop off=[]:=List.drop_eq_nil_of_le (by simp at hl;omega)
 rw[this];exact⟨rfl,fun _=>rfl⟩,trivial⟩
theorem KS.cons {α β:Type} {fd:Field} {fs:List Field} {off s:Nat} {f:α→List AV} {g:β→List AV} {good:α→Prop} {good' :β→Prop} (h:AY enc P w fd.type f good) (hsz:P.cellsOf fd.type=s) (ho:fd.offset=off) (hs:KS enc P w fs (off+s) g good'):KS enc P w (fd::fs) off (fun x:α×β=>f x.1++g x.2) fun x=>good x.1∧good' x.2:=fun cs k xs hxl hx hw hl=>by
 subst hsz
 cases xs with
 |nil=>simp at hxl
 |cons x xs=>
  have h0:=hx 0 fd rfl
  obtain⟨a,h1,h2⟩:=h k _ x h0 (hw 0 fd x rfl rfl)
  obtain⟨b,h3,h4⟩:=hs cs k xs (by simpa using hxl) (fun i fd' hi=>hx (i+1) fd' (by simpa using hi)) (fun i fd' x' hi hx' =>hw (i+1) fd' x' (by simpa using hi) (by simpa using hx')) (by simp at hl;omega)
  refine⟨(a,b),?_,h2,h4⟩
  have:cs.drop off=(cs.drop fd.offset).take (P.cellsOf fd.type)++cs.drop (off+P.cellsOf fd.type):=by
   rw[ho,←List.drop_drop,List.take_append_drop]
  rw[this]
  exact DS h1 h3
theorem AY.struct {α:Type} {fs:Array Field} {f:α→List AV} {good:α→Prop} (ht:P.underlying t=some (.struct fs)) (h:KS enc P w fs.toList 0 f good) (hc:P.cellsOf t=(fs.toList.map fun fd=>P.cellsOf fd.type).sum):AY enc P w t f good:=fun fuel cs x hx hw=>by
 obtain⟨xs,n,_,rfl,hl,hxl,hget⟩:=DataW.trod_struct ht hx
 obtain⟨a,h1,h2⟩:=h cs n xs (by simpa using hxl) (fun i fd hi=>hget i fd (by simpa using hi)) (fun i fd y hi hy k hk=>hw k (by
  simp only[DataW.weights,ht]
  exact DataW.weights_mem_each (j:=i) (by simp[hi]) (by simp[hy]) k hk)) (by rw[hl,hc];omega)
 exact⟨a,by simpa using h1,h2⟩
end
end Go.Abs
namespace Go.Abs
attribute [simp] E7 DM WO IX Pd WM Ch Av AE AX BA Ay AJ
theorem HD {α:Type} (f:α→List AV) (h:∀x,EC (f x)=true) (xs:List α):EC (Af f xs)=true:=Gh f h xs
theorem HE {α:Type} (f:α→List AV) (h:∀x,ED (f x)=true) (xs:List α):ED (Af f xs)=true:=Gh f h xs
theorem HF {α:Type} (f:α→List AV) (h:∀x,EE (f x)=true) (xs:List α):EE (Af f xs)=true:=Gh f h xs
theorem HG {α:Type} (f:α→List AV) (k:Nat) (h:∀x,Db k (f x)=true) (xs:List α):Db k (Af f xs)=true:=by
 rw[Ha];exact Gh f (fun x=>by rw[←Ha];exact h x) xs
theorem GB {α:Type} (f:α→List AV) (h:∀x,CJ (f x)=true) (xs:List α):CJ (Af f xs)=true:=by
 rw[Jv];exact Gh f (fun x=>by rw[←Jv];exact h x) xs
theorem HH {α:Type} (f f' :α→List AV) (h:∀x,Et (f x)=f' x) (xs:List α):Et (Af f xs)=Af f' xs:=by
 rw[ES];exact Gi f (fun x=>by rw[←ES];exact h x) xs
@[simp] theorem ZJ (M:List Ae) (k:Nat):B6 M k .any= .any:=by cases k<;>simp
@[simp] theorem Yu (M:List Ae) (k:Nat) (b:Bool):B6 M k (.bool b)= .bool b:=by cases k<;>simp
@[simp] theorem ZK (M:List Ae) (k:Nat) (q:IntKind) (n:Int):B6 M k (.int q n)= .int q n:=by cases k<;>simp
@[simp] theorem ZL (M:List Ae) (k:Nat) (b:ByteArray):B6 M k (.str b)= .str b:=by cases k<;>simp
@[simp] theorem aV (M:List Ae) (k n:Nat) (xs:List AV):B6 M k (.ro n xs)= .ro n xs:=by cases k<;>simp
@[simp] theorem ZM (M:List Ae) (k s n:Nat) (xs:List AV):B6 M k (.own s n xs)= .ro n (Et xs):=by cases k<;>simp
@[simp] theorem aW (m:Bool) (s n:Nat) (xs:List AV):D0 (sl m s n xs)=(if m=true then .ro n (Et xs) else .ro n xs):=by cases m<;>simp
@[simp] theorem aX (M:List Ae) (k:Nat) (m:Bool) (s n:Nat) (xs:List AV):B6 M k (sl m s n xs)=(if m=true then .ro n (Et xs) else .ro n xs):=by cases m<;>simp
@[simp] theorem Yv (m:Bool) (s n:Nat) (xs:List AV):BH (sl m s n xs)=true:=by cases m<;>simp
@[simp] theorem bj (m:Bool) (s n:Nat) (xs:List AV):tf (sl m s n xs)=true:=by cases m<;>simp
@[simp] theorem bk (m:Bool) (k s n:Nat) (xs:List AV):Gc k (sl m s n xs)=true:=by cases m<;>simp
section
variable (xs ys:List (List Int)) (m:Bool) (M:List Ae) (k:Nat)
@[simp] theorem Xn (i:Nat):(Au m xs)[i]?=(xs[i]?).map (E7 m):=by simp[Au]
@[simp] theorem Xo:(Au m xs).length=xs.length:=by simp[Au]
@[simp] theorem Xp:Au m []=[]:=rfl
theorem Du (x:List Int):Au m (x::xs)=E7 m x::Au m xs:=rfl
theorem Qw:Au m (xs++ys)=Au m xs++Au m ys:=by simp[Au]
@[simp] theorem HJ:(Au m xs).take k=Au m (xs.take k):=by simp[Au,List.map_take]
@[simp] theorem WP:(Au m xs).drop k=Au m (xs.drop k):=by simp[Au,List.map_drop]
@[simp] theorem Yw:EC (Au false xs)=true:=by induction xs<;>simp_all[Du]
@[simp] theorem Yx:ED (Au m xs)=true:=by induction xs<;>simp_all[Du]
@[simp] theorem Yy:EE (Au m xs)=true:=by induction xs<;>simp_all[Du]
@[simp] theorem Yz:Db k (Au m xs)=true:=by induction xs<;>simp_all[Du]
@[simp] theorem Xq:CJ (Au true xs)=true:=by induction xs<;>simp_all[Du]
@[simp] theorem Qx:Et (Au m xs)=Au false xs:=by induction xs<;>cases m<;>simp_all[Du]
@[simp] theorem Xr:(Au m xs).map D0=Au false xs:=by rw[←ES];exact Qx xs m
@[simp] theorem Xs:(Au m xs).map (B6 M k)=Au false xs:=by induction xs<;>cases m<;>simp_all[Du]
end
section
variable (xs ys:List (Int×Int)) (m:Bool) (M:List Ae) (k:Nat)
@[simp] theorem YA:(Af At xs).length=xs.length*2:=HC _ (fun x=>by simp[At]) xs
@[simp] theorem Xt (h:k<xs.length):(Af At xs).drop (k*2)=At xs[k]++Af At (xs.drop (k+1)):=FC _ (fun x=>by simp[At]) h
@[simp] theorem Xu:(Af At xs).take (k*2)=Af At (xs.take k):=E6 _ (fun x=>by simp[At]) k xs
@[simp] theorem ZN:EC (Af At xs)=true:=HD _ (fun x=>by simp[At]) xs
@[simp] theorem ZO:ED (Af At xs)=true:=HE _ (fun x=>by simp[At]) xs
@[simp] theorem ZP:EE (Af At xs)=true:=HF _ (fun x=>by simp[At]) xs
@[simp] theorem ZQ:Db k (Af At xs)=true:=HG _ k (fun x=>by simp[At]) xs
@[simp] theorem YB:CJ (Af At xs)=true:=GB _ (fun x=>by simp[At]) xs
@[simp] theorem RX:Et (Af At xs)=Af At xs:=HH _ _ (fun x=>by simp[At]) xs
@[simp] theorem YC:(Af At xs).map D0=Af At xs:=by rw[←ES];exact RX xs
@[simp] theorem YD:(Af At xs).map (B6 M k)=Af At xs:=Gi _ (fun x=>by simp[At]) xs
end
section
variable (xs ys:List Obj) (m:Bool) (M:List Ae) (k:Nat)
@[simp] theorem YE:(Af Av xs).length=xs.length*4:=HC _ (fun x=>by simp[Av]) xs
@[simp] theorem Xv (h:k<xs.length):(Af Av xs).drop (k*4)=Av xs[k]++Af Av (xs.drop (k+1)):=FC _ (fun x=>by simp[Av]) h
@[simp] theorem Xw:(Af Av xs).take (k*4)=Af Av (xs.take k):=E6 _ (fun x=>by simp[Av]) k xs
@[simp] theorem ZR:EC (Af Av xs)=true:=HD _ (fun x=>by simp[Av]) xs
@[simp] theorem ZS:ED (Af Av xs)=true:=HE _ (fun x=>by simp[Av]) xs
@[simp] theorem ZT:EE (Af Av xs)=true:=HF _ (fun x=>by simp[Av]) xs
@[simp] theorem ZU:Db k (Af Av xs)=true:=HG _ k (fun x=>by simp[Av]) xs
@[simp] theorem YF:CJ (Af Av xs)=true:=GB _ (fun x=>by simp[Av]) xs
@[simp] theorem RY:Et (Af Av xs)=Af Av xs:=HH _ _ (fun x=>by simp[Av]) xs
@[simp] theorem YG:(Af Av xs).map D0=Af Av xs:=by rw[←ES];exact RY xs
@[simp] theorem YH:(Af Av xs).map (B6 M k)=Af Av xs:=Gi _ (fun x=>by simp[Av]) xs
end
section
variable (xs ys:List AS) (m:Bool) (M:List Ae) (k:Nat)
@[simp] theorem YI:(Af AE xs).length=xs.length*8:=HC _ (fun x=>by simp[AE]) xs
@[simp] theorem Xx (h:k<xs.length):(Af AE xs).drop (k*8)=AE xs[k]++Af AE (xs.drop (k+1)):=FC _ (fun x=>by simp[AE]) h
@[simp] theorem Xy:(Af AE xs).take (k*8)=Af AE (xs.take k):=E6 _ (fun x=>by simp[AE]) k xs
@[simp] theorem ZV:EC (Af AE xs)=true:=HD _ (fun x=>by simp[AE]) xs
@[simp] theorem ZW:ED (Af AE xs)=true:=HE _ (fun x=>by simp[AE]) xs
@[simp] theorem ZX:EE (Af AE xs)=true:=HF _ (fun x=>by simp[AE]) xs
@[simp] theorem ZY:Db k (Af AE xs)=true:=HG _ k (fun x=>by simp[AE]) xs
@[simp] theorem YJ:CJ (Af AE xs)=true:=GB _ (fun x=>by simp[AE]) xs
@[simp] theorem RZ:Et (Af AE xs)=Af AE xs:=HH _ _ (fun x=>by simp[AE]) xs
@[simp] theorem YK:(Af AE xs).map D0=Af AE xs:=by rw[←ES];exact RZ xs
@[simp] theorem YL:(Af AE xs).map (B6 M k)=Af AE xs:=Gi _ (fun x=>by simp[AE]) xs
end
section
variable (xs ys:List CD) (m:Bool) (M:List Ae) (k:Nat)
@[simp] theorem MT:(Af (Ay m) xs).length=xs.length*12:=HC _ (fun x=>by simp[Ay]) xs
@[simp] theorem Xz (h:k<xs.length):(Af (Ay m) xs).drop (k*12)=(Ay m) xs[k]++Af (Ay m) (xs.drop (k+1)):=FC _ (fun x=>by simp[Ay]) h
@[simp] theorem XA:(Af (Ay m) xs).take (k*12)=Af (Ay m) (xs.take k):=E6 _ (fun x=>by simp[Ay]) k xs
@[simp] theorem ZZ:EC (Af (Ay false) xs)=true:=HD _ (fun x=>by simp[Ay]) xs
@[simp] theorem Z0:ED (Af (Ay m) xs)=true:=HE _ (fun x=>by simp[Ay]) xs
@[simp] theorem Z1:EE (Af (Ay m) xs)=true:=HF _ (fun x=>by simp[Ay]) xs
@[simp] theorem Z2:Db k (Af (Ay m) xs)=true:=HG _ k (fun x=>by simp[Ay]) xs
@[simp] theorem YM:CJ (Af (Ay true) xs)=true:=GB _ (fun x=>by simp[Ay]) xs
@[simp] theorem Sa:Et (Af (Ay m) xs)=Af (Ay false) xs:=HH _ _ (fun x=>by cases m<;>simp[Ay]) xs
@[simp] theorem YN:(Af (Ay m) xs).map D0=Af (Ay false) xs:=by rw[←ES];exact Sa xs m
@[simp] theorem YO:(Af (Ay m) xs).map (B6 M k)=Af (Ay false) xs:=Gi _ (fun x=>by cases m<;>simp[Ay]) xs
end
end Go.Abs
set_option maxRecDepth 100000
namespace Go.Abs
def tL:List (Option TI):=[
 none,
 none,
 some ⟨false,1,8,[.int .i64 0],.int .i64,false⟩,
 some ⟨false,1,8,[.int .i64 0],.int .i64,false⟩,
 some ⟨false,1,1,[.bool false],.bool,false⟩,
 some ⟨false,1,1,[.int .u8 0],.int .u8,false⟩,
 some ⟨false,1,1,[.int .u8 0],.int .u8,false⟩,
 some ⟨true,4,24,[.int .i64 0,.int .i64 0,.bool false,.int .u8 0],.struct [(0,1,false),(1,1,false),(2,1,false),(3,1,false)],false⟩,
 some ⟨true,4,24,[.int .i64 0,.int .i64 0,.bool false,.int .u8 0],.struct [(0,1,false),(1,1,false),(2,1,false),(3,1,false)],false⟩,
 some ⟨false,1,16,[.str ByteArray.empty],.str,false⟩,
 some ⟨false,1,16,[.str ByteArray.empty],.str,false⟩,
 some ⟨false,1,16,[.str ByteArray.empty],.str,false⟩,
 some ⟨false,1,8,[.int .u64 0],.int .u64,false⟩,
 some ⟨true,2,24,[.str ByteArray.empty,.int .u64 0],.struct [(0,1,false),(1,1,false)],false⟩,
 some ⟨true,2,24,[.str ByteArray.empty,.int .u64 0],.struct [(0,1,false),(1,1,false)],false⟩,
 some ⟨false,1,8,[.nilp],.ptr,false⟩,
 some ⟨false,1,8,[.nilp],.ptr,false⟩,
 some ⟨false,1,8,[.nilp],.ptr,false⟩,
 some ⟨true,1,8,[.nilp],.struct [(0,1,false)],false⟩,
 some ⟨true,1,8,[.nilp],.struct [(0,1,false)],false⟩,
 none,
 some ⟨false,1,4,[.int .i32 0],.int .i32,false⟩,
 some ⟨false,1,24,[.own 4 0 []],.slice 38 4 64 [.int .i64 0,.int .i64 0,.own 8 0 [],.own 12 0 []],false⟩,
 some ⟨false,1,24,[.own 1 0 []],.slice 65 1 24 [.own 4 0 []],false⟩,
 some ⟨false,1,24,[.own 2 0 []],.slice 51 2 32 [.int .i64 0,.own 1 0 []],false⟩,
 some ⟨false,1,24,[.own 3 0 []],.slice 301 3 24 [.int .i64 0,.int .i64 0,.int .i64 0],false⟩,
 some ⟨true,2,48,[.own 2 0 [],.own 3 0 []],.struct [(0,1,false),(1,1,false)],false⟩,
 some ⟨true,2,48,[.own 2 0 [],.own 3 0 []],.struct [(0,1,false),(1,1,false)],false⟩,
 some ⟨false,1,24,[.own 1 0 []],.slice 3 1 8 [.int .i64 0],false⟩,
 some ⟨true,4,96,[.own 1 0 [],.own 2 0 [],.own 3 0 [],.own 1 0 []],.struct [(0,1,false),(1,2,true),(3,1,false)],false⟩,
 some ⟨true,4,96,[.own 1 0 [],.own 2 0 [],.own 3 0 [],.own 1 0 []],.struct [(0,1,false),(1,2,true),(3,1,false)],false⟩,
 some ⟨true,5,120,[.own 4 0 [],.own 1 0 [],.own 2 0 [],.own 3 0 [],.own 1 0 []],.struct [(0,1,false),(1,4,true)],false⟩,
 some ⟨true,5,120,[.own 4 0 [],.own 1 0 [],.own 2 0 [],.own 3 0 [],.own 1 0 []],.struct [(0,1,false),(1,4,true)],false⟩,
 none,
 none,
 some ⟨false,1,24,[.own 8 0 []],.slice 42 8 64 [.int .i64 0,.int .i64 0,.int .i64 0,.str ByteArray.empty,.int .i64 0,.int .i64 0,.bool false,.bool false],false⟩,
 some ⟨false,1,24,[.own 12 0 []],.slice 55 12 144 [.bool false,.int .i64 0,.bool false,.int .i64 0,.int .i64 0,.own 1 0 [],.int .i64 0,.int .i64 0,.int .i64 0,.bool false,.own 1 0 [],.own 1 0 []],false⟩,
 some ⟨true,4,64,[.int .i64 0,.int .i64 0,.own 8 0 [],.own 12 0 []],.struct [(0,1,false),(1,1,false),(2,1,false),(3,1,false)],false⟩,
 some ⟨true,4,64,[.int .i64 0,.int .i64 0,.own 8 0 [],.own 12 0 []],.struct [(0,1,false),(1,1,false),(2,1,false),(3,1,false)],false⟩,
 some ⟨true,2,24,[.str ByteArray.empty,.int .i64 0],.struct [(0,1,false),(1,1,false)],false⟩,
 some ⟨true,2,24,[.str ByteArray.empty,.int .i64 0],.struct [(0,1,false),(1,1,false)],true⟩,
 some ⟨true,8,64,[.int .i64 0,.int .i64 0,.int .i64 0,.str ByteArray.empty,.int .i64 0,.int .i64 0,.bool false,.bool false],.struct [(0,1,false),(1,1,false),(2,1,false),(3,2,true),(5,1,false),(6,1,false),(7,1,false)],false⟩,
 some ⟨true,8,64,[.int .i64 0,.int .i64 0,.int .i64 0,.str ByteArray.empty,.int .i64 0,.int .i64 0,.bool false,.bool false],.struct [(0,1,false),(1,1,false),(2,1,false),(3,2,true),(5,1,false),(6,1,false),(7,1,false)],true⟩,
 none,
 some ⟨false,1,8,[.int .i64 0],.int .i64,false⟩,
 none,
 none,
 none,
 none,
 some ⟨false,1,24,[.own 1 0 []],.slice 28 1 24 [.own 1 0 []],false⟩,
 some ⟨true,2,32,[.int .i64 0,.own 1 0 []],.struct [(0,1,false),(1,1,false)],false⟩,
 some ⟨true,2,32,[.int .i64 0,.own 1 0 []],.struct [(0,1,false),(1,1,false)],false⟩,
 some ⟨true,6,80,[.int .i64 0,.int .i64 0,.int .i64 0,.bool false,.own 1 0 [],.own 1 0 []],.struct [(0,1,false),(1,1,false),(2,1,false),(3,1,false),(4,1,false),(5,1,false)],false⟩,
 some ⟨true,6,80,[.int .i64 0,.int .i64 0,.int .i64 0,.bool false,.own 1 0 [],.own 1 0 []],.struct [(0,1,false),(1,1,false),(2,1,false),(3,1,false),(4,1,false),(5,1,false)],false⟩,
 some ⟨true,12,144,[.bool false,.int .i64 0,.bool false,.int .i64 0,.int .i64 0,.own 1 0 [],.int .i64 0,.int .i64 0,.int .i64 0,.bool false,.own 1 0 [],.own 1 0 []],.struct [(0,1,false),(1,1,false),(2,1,false),(3,1,false),(4,2,true),(6,6,true)],false⟩,
 some ⟨true,12,144,[.bool false,.int .i64 0,.bool false,.int .i64 0,.int .i64 0,.own 1 0 [],.int .i64 0,.int .i64 0,.int .i64 0,.bool false,.own 1 0 [],.own 1 0 []],.struct [(0,1,false),(1,1,false),(2,1,false),(3,1,false),(4,2,true),(6,6,true)],false⟩,
 none,
 none,
 none,
 some ⟨true,4,40,[.int .i64 0,.int .i64 0,.str ByteArray.empty,.int .i64 0],.struct [(0,1,false),(1,1,false),(2,2,true)],false⟩,
 some ⟨true,4,40,[.int .i64 0,.int .i64 0,.str ByteArray.empty,.int .i64 0],.struct [(0,1,false),(1,1,false),(2,2,true)],true⟩,
 none,
 none,
 none,
 none,
 some ⟨false,1,24,[.own 4 0 []],.slice 60 4 40 [.int .i64 0,.int .i64 0,.str ByteArray.empty,.int .i64 0],false⟩,
 none,
 none,
 none,
 none,
 none,
 some ⟨false,1,24,[.own 2 0 []],.slice 121 2 16 [.int .i64 0,.int .i64 0],false⟩,
 none,
 none,
 none,
 none,
 none,
 none,
 none,
 none,
 none,
 none,
 none,
 none,
 none,
 none,
 none,
 none,
 none,
 none,
 none,
 none,
 none,
 none,
 none,
 none,
 none,
 none,
 none,
 none,
 none,
 none,
 some ⟨true,2,16,[.int .i64 0,.int .i64 0],.struct [(0,1,false),(1,1,false)],false⟩,
 some ⟨true,2,16,[.int .i64 0,.int .i64 0],.struct [(0,1,false),(1,1,false)],true⟩,
 none,
 none,
 none,
 none,
 none,
 none,
 none,
 none,
 none,
 none,
 none,
 none,
 none,
 none,
 none,
 none,
 some ⟨true,2,16,[.int .i64 0,.int .i64 0],.struct [(0,1,false),(1,1,false)],false⟩,
 some ⟨true,2,16,[.int .i64 0,.int .i64 0],.struct [(0,1,false),(1,1,false)],true⟩,
 none,
 none,
 none,
 none,
 none,
 none,
 none,
 none,
 some ⟨false,1,8,[.int .u64 0],.int .u64,false⟩,
 none,
 none,
 none,
 none,
 none,
 none,
 none,
 none,
 none,
 none,
 none,
 none,
 some ⟨false,1,24,[.own 1 0 []],.slice 5 1 1 [.int .u8 0],false⟩,
 some ⟨false,1,24,[.own 1 0 []],.slice 5 1 1 [.int .u8 0],false⟩,
 none,
 none,
 none,
 none,
 none,
 none,
 none,
 none,
 none,
 some ⟨false,1,8,[.nilp],.ptr,false⟩,
 none,
 some ⟨false,1,24,[.own 1 0 []],.slice 4 1 1 [.bool false],false⟩,
 none,
 none,
 none,
 none,
 none,
 none,
 none,
 none,
 none,
 none,
 none,
 none,
 none,
 none,
 some ⟨false,1,8,[.nilp],.ptr,false⟩,
 none,
 none,
 none,
 none,
 none,
 none,
 none,
 none,
 none,
 none,
 none,
 none,
 none,
 none,
 none,
 none,
 none,
 none,
 none,
 none,
 none,
 none,
 none,
 none,
 none,
 none,
 none,
 none,
 none,
 none,
 none,
 none,
 none,
 none,
 none,
 none,
 none,
 none,
 none,
 none,
 none,
 none,
 none,
 none,
 none,
 none,
 none,
 none,
 none,
 none,
 none,
 none,
 none,
 some ⟨false,1,8,[.nilp],.ptr,false⟩,
 none,
 none,
 none,
 none,
 none,
 none,
 some ⟨true,2,32,[.own 1 0 [],.int .i64 0],.struct [(0,1,false),(1,1,false)],false⟩,
 some ⟨true,2,32,[.own 1 0 [],.int .i64 0],.struct [(0,1,false),(1,1,false)],false⟩,
 none,
 none,
 some ⟨true,16,16,[.bool false,.bool false,.bool false,.bool false,.bool false,.bool false,.bool false,.bool false,.bool false,.bool false,.bool false,.bool false,.bool false,.bool false,.bool false,.bool false],.array 16 4 1,false⟩,
 none,
 none,
 none,
 some ⟨false,1,8,[.nilp],.ptr,false⟩,
 none,
 none,
 none,
 none,
 none,
 none,
 none,
 none,
 none,
 none,
 none,
 none,
 some ⟨false,1,8,[.nilp],.ptr,false⟩,
 some ⟨true,4,40,[.str ByteArray.empty,.int .i64 0,.int .i64 0,.bool false],.struct [(0,2,true),(2,1,false),(3,1,false)],false⟩,
 some ⟨true,4,40,[.str ByteArray.empty,.int .i64 0,.int .i64 0,.bool false],.struct [(0,2,true),(2,1,false),(3,1,false)],true⟩,
 none,
 none,
 none,
 none,
 some ⟨false,1,4,[.int .u32 0],.int .u32,false⟩,
 none,
 some ⟨false,1,8,[.int .u64 0],.int .u64,false⟩,
 none,
 none,
 none,
 none,
 none,
 some ⟨false,1,8,[.int .i64 0],.int .i64,false⟩,
 none,
 none,
 none,
 none,
 none,
 none,
 none,
 none,
 none,
 some ⟨false,1,8,[.int .u64 0],.int .u64,false⟩,
 none,
 none,
 none,
 some ⟨false,1,8,[.nilp],.ptr,false⟩,
 none,
 some ⟨false,1,8,[.nilp],.ptr,false⟩,
 none,
 none,
 some ⟨true,4,40,[.nilp,.nilp,.nilp,.str ByteArray.empty],.struct [(0,1,false),(1,1,false),(2,1,false),(3,1,false)],false⟩,
 some ⟨true,4,40,[.nilp,.nilp,.nilp,.str ByteArray.empty],.struct [(0,1,false),(1,1,false),(2,1,false),(3,1,false)],false⟩,
 some ⟨true,0,0,[],.array 0 16 1,false⟩,
 none,
 none,
 some ⟨false,1,1,[.int .u8 0],.int .u8,false⟩,
 some ⟨false,1,1,[.int .u8 0],.int .u8,false⟩,
 none,
 some ⟨false,1,8,[.nilp],.ptr,false⟩,
 some ⟨false,1,4,[.int .i32 0],.int .i32,false⟩,
 some ⟨false,1,4,[.int .i32 0],.int .i32,false⟩,
 none,
 none,
 some ⟨true,3,24,[.int .i64 0,.int .i64 0,.int .i64 0],.struct [(0,1,false),(1,1,false),(2,1,false)],false⟩,
 some ⟨true,3,24,[.int .i64 0,.int .i64 0,.int .i64 0],.struct [(0,1,false),(1,1,false),(2,1,false)],true⟩,
 none
]
def tT (t:Nat):Option TI:=match tL[t]? with|some x=>x|none=>none
noncomputable abbrev pg:Program:=Go.Proofs.Tryz.prog
theorem aY:((List.range 303).all fun t=>match tT t with|some i=>UO pg t i|none=>true)=true:=by kernel_rfl
theorem tk:BC pg tT:=fun t i h=>by
 have hl:t<303:=by
  rcases Nat.lt_or_ge t 303 with h1|h1
  .exact h1
  .have h2:tL[t]?=none:=List.getElem?_eq_none h1
   simp[tT,h2] at h
 have:=List.all_eq_true.1 aY t (List.mem_range.2 hl)
 rw[h] at this;exact this
@[simp] theorem eR:tT 2=some ⟨false,1,8,[.int .i64 0],.int .i64,false⟩:=rfl
@[simp] theorem eS:Am tT 2= .int .i64:=rfl
@[simp] theorem eU:tT 3=some ⟨false,1,8,[.int .i64 0],.int .i64,false⟩:=rfl
@[simp] theorem eW:Am tT 3= .int .i64:=rfl
@[simp] theorem eZ:tT 4=some ⟨false,1,1,[.bool false],.bool,false⟩:=rfl
@[simp] theorem e9:Am tT 4= .bool:=rfl
@[simp] theorem fa:tT 5=some ⟨false,1,1,[.int .u8 0],.int .u8,false⟩:=rfl
@[simp] theorem fb:Am tT 5= .int .u8:=rfl
@[simp] theorem fc:tT 6=some ⟨false,1,1,[.int .u8 0],.int .u8,false⟩:=rfl
@[simp] theorem fe:Am tT 6= .int .u8:=rfl
@[simp] theorem ff:tT 7=some ⟨true,4,24,[.int .i64 0,.int .i64 0,.bool false,.int .u8 0],.struct [(0,1,false),(1,1,false),(2,1,false),(3,1,false)],false⟩:=rfl
@[simp] theorem fg:Am tT 7= .struct [(0,1,false),(1,1,false),(2,1,false),(3,1,false)]:=rfl
@[simp] theorem fh:tT 8=some ⟨true,4,24,[.int .i64 0,.int .i64 0,.bool false,.int .u8 0],.struct [(0,1,false),(1,1,false),(2,1,false),(3,1,false)],false⟩:=rfl
@[simp] theorem fi:Am tT 8= .struct [(0,1,false),(1,1,false),(2,1,false),(3,1,false)]:=rfl
@[simp] theorem fj:tT 9=some ⟨false,1,16,[.str ByteArray.empty],.str,false⟩:=rfl
@[simp] theorem fm:Am tT 9= .str:=rfl
@[simp] theorem cO:tT 10=some ⟨false,1,16,[.str ByteArray.empty],.str,false⟩:=rfl
@[simp] theorem cP:Am tT 10= .str:=rfl
@[simp] theorem cQ:tT 11=some ⟨false,1,16,[.str ByteArray.empty],.str,false⟩:=rfl
@[simp] theorem cR:Am tT 11= .str:=rfl
@[simp] theorem cS:tT 12=some ⟨false,1,8,[.int .u64 0],.int .u64,false⟩:=rfl
@[simp] theorem cT:Am tT 12= .int .u64:=rfl
@[simp] theorem cU:tT 13=some ⟨true,2,24,[.str ByteArray.empty,.int .u64 0],.struct [(0,1,false),(1,1,false)],false⟩:=rfl
@[simp] theorem cV:Am tT 13= .struct [(0,1,false),(1,1,false)]:=rfl
@[simp] theorem cW:tT 14=some ⟨true,2,24,[.str ByteArray.empty,.int .u64 0],.struct [(0,1,false),(1,1,false)],false⟩:=rfl
@[simp] theorem cY:Am tT 14= .struct [(0,1,false),(1,1,false)]:=rfl
@[simp] theorem cZ:tT 15=some ⟨false,1,8,[.nilp],.ptr,false⟩:=rfl
@[simp] theorem c8:Am tT 15= .ptr:=rfl
@[simp] theorem da:tT 16=some ⟨false,1,8,[.nilp],.ptr,false⟩:=rfl
@[simp] theorem db:Am tT 16= .ptr:=rfl
@[simp] theorem dc:tT 17=some ⟨false,1,8,[.nilp],.ptr,false⟩:=rfl
@[simp] theorem de:Am tT 17= .ptr:=rfl
@[simp] theorem dg:tT 18=some ⟨true,1,8,[.nilp],.struct [(0,1,false)],false⟩:=rfl
@[simp] theorem dh:Am tT 18= .struct [(0,1,false)]:=rfl
@[simp] theorem di:tT 19=some ⟨true,1,8,[.nilp],.struct [(0,1,false)],false⟩:=rfl
@[simp] theorem dj:Am tT 19= .struct [(0,1,false)]:=rfl
@[simp] theorem dk:tT 21=some ⟨false,1,4,[.int .i32 0],.int .i32,false⟩:=rfl
@[simp] theorem dl:Am tT 21= .int .i32:=rfl
@[simp] theorem dm:tT 22=some ⟨false,1,24,[.own 4 0 []],.slice 38 4 64 [.int .i64 0,.int .i64 0,.own 8 0 [],.own 12 0 []],false⟩:=rfl
@[simp] theorem dp:Am tT 22= .slice 38 4 64 [.int .i64 0,.int .i64 0,.own 8 0 [],.own 12 0 []]:=rfl
@[simp] theorem dq:tT 23=some ⟨false,1,24,[.own 1 0 []],.slice 65 1 24 [.own 4 0 []],false⟩:=rfl
@[simp] theorem dr:Am tT 23= .slice 65 1 24 [.own 4 0 []]:=rfl
@[simp] theorem dt:tT 24=some ⟨false,1,24,[.own 2 0 []],.slice 51 2 32 [.int .i64 0,.own 1 0 []],false⟩:=rfl
@[simp] theorem du:Am tT 24= .slice 51 2 32 [.int .i64 0,.own 1 0 []]:=rfl
@[simp] theorem dv:tT 25=some ⟨false,1,24,[.own 3 0 []],.slice 301 3 24 [.int .i64 0,.int .i64 0,.int .i64 0],false⟩:=rfl
@[simp] theorem dw:Am tT 25= .slice 301 3 24 [.int .i64 0,.int .i64 0,.int .i64 0]:=rfl
@[simp] theorem dx:tT 26=some ⟨true,2,48,[.own 2 0 [],.own 3 0 []],.struct [(0,1,false),(1,1,false)],false⟩:=rfl
@[simp] theorem dy:Am tT 26= .struct [(0,1,false),(1,1,false)]:=rfl
@[simp] theorem dz:tT 27=some ⟨true,2,48,[.own 2 0 [],.own 3 0 []],.struct [(0,1,false),(1,1,false)],false⟩:=rfl
@[simp] theorem dA:Am tT 27= .struct [(0,1,false),(1,1,false)]:=rfl
@[simp] theorem dB:tT 28=some ⟨false,1,24,[.own 1 0 []],.slice 3 1 8 [.int .i64 0],false⟩:=rfl
@[simp] theorem dC:Am tT 28= .slice 3 1 8 [.int .i64 0]:=rfl
@[simp] theorem dD:tT 29=some ⟨true,4,96,[.own 1 0 [],.own 2 0 [],.own 3 0 [],.own 1 0 []],.struct [(0,1,false),(1,2,true),(3,1,false)],false⟩:=rfl
@[simp] theorem dE:Am tT 29= .struct [(0,1,false),(1,2,true),(3,1,false)]:=rfl
@[simp] theorem dF:tT 30=some ⟨true,4,96,[.own 1 0 [],.own 2 0 [],.own 3 0 [],.own 1 0 []],.struct [(0,1,false),(1,2,true),(3,1,false)],false⟩:=rfl
@[simp] theorem dG:Am tT 30= .struct [(0,1,false),(1,2,true),(3,1,false)]:=rfl
@[simp] theorem dH:tT 31=some ⟨true,5,120,[.own 4 0 [],.own 1 0 [],.own 2 0 [],.own 3 0 [],.own 1 0 []],.struct [(0,1,false),(1,4,true)],false⟩:=rfl
@[simp] theorem dI:Am tT 31= .struct [(0,1,false),(1,4,true)]:=rfl
@[simp] theorem dJ:tT 32=some ⟨true,5,120,[.own 4 0 [],.own 1 0 [],.own 2 0 [],.own 3 0 [],.own 1 0 []],.struct [(0,1,false),(1,4,true)],false⟩:=rfl
@[simp] theorem dK:Am tT 32= .struct [(0,1,false),(1,4,true)]:=rfl
@[simp] theorem dL:tT 35=some ⟨false,1,24,[.own 8 0 []],.slice 42 8 64 [.int .i64 0,.int .i64 0,.int .i64 0,.str ByteArray.empty,.int .i64 0,.int .i64 0,.bool false,.bool false],false⟩:=rfl
@[simp] theorem dM:Am tT 35= .slice 42 8 64 [.int .i64 0,.int .i64 0,.int .i64 0,.str ByteArray.empty,.int .i64 0,.int .i64 0,.bool false,.bool false]:=rfl
@[simp] theorem dN:tT 36=some ⟨false,1,24,[.own 12 0 []],.slice 55 12 144 [.bool false,.int .i64 0,.bool false,.int .i64 0,.int .i64 0,.own 1 0 [],.int .i64 0,.int .i64 0,.int .i64 0,.bool false,.own 1 0 [],.own 1 0 []],false⟩:=rfl
@[simp] theorem dO:Am tT 36= .slice 55 12 144 [.bool false,.int .i64 0,.bool false,.int .i64 0,.int .i64 0,.own 1 0 [],.int .i64 0,.int .i64 0,.int .i64 0,.bool false,.own 1 0 [],.own 1 0 []]:=rfl
@[simp] theorem dP:tT 37=some ⟨true,4,64,[.int .i64 0,.int .i64 0,.own 8 0 [],.own 12 0 []],.struct [(0,1,false),(1,1,false),(2,1,false),(3,1,false)],false⟩:=rfl
@[simp] theorem dQ:Am tT 37= .struct [(0,1,false),(1,1,false),(2,1,false),(3,1,false)]:=rfl
@[simp] theorem dR:tT 38=some ⟨true,4,64,[.int .i64 0,.int .i64 0,.own 8 0 [],.own 12 0 []],.struct [(0,1,false),(1,1,false),(2,1,false),(3,1,false)],false⟩:=rfl
@[simp] theorem dS:Am tT 38= .struct [(0,1,false),(1,1,false),(2,1,false),(3,1,false)]:=rfl
@[simp] theorem dT:tT 39=some ⟨true,2,24,[.str ByteArray.empty,.int .i64 0],.struct [(0,1,false),(1,1,false)],false⟩:=rfl
@[simp] theorem dU:Am tT 39= .struct [(0,1,false),(1,1,false)]:=rfl
@[simp] theorem dV:tT 40=some ⟨true,2,24,[.str ByteArray.empty,.int .i64 0],.struct [(0,1,false),(1,1,false)],true⟩:=rfl
@[simp] theorem dW:Am tT 40= .struct [(0,1,false),(1,1,false)]:=rfl
@[simp] theorem dX:tT 41=some ⟨true,8,64,[.int .i64 0,.int .i64 0,.int .i64 0,.str ByteArray.empty,.int .i64 0,.int .i64 0,.bool false,.bool false],.struct [(0,1,false),(1,1,false),(2,1,false),(3,2,true),(5,1,false),(6,1,false),(7,1,false)],false⟩:=rfl
@[simp] theorem dY:Am tT 41= .struct [(0,1,false),(1,1,false),(2,1,false),(3,2,true),(5,1,false),(6,1,false),(7,1,false)]:=rfl
@[simp] theorem dZ:tT 42=some ⟨true,8,64,[.int .i64 0,.int .i64 0,.int .i64 0,.str ByteArray.empty,.int .i64 0,.int .i64 0,.bool false,.bool false],.struct [(0,1,false),(1,1,false),(2,1,false),(3,2,true),(5,1,false),(6,1,false),(7,1,false)],true⟩:=rfl
@[simp] theorem d7:Am tT 42= .struct [(0,1,false),(1,1,false),(2,1,false),(3,2,true),(5,1,false),(6,1,false),(7,1,false)]:=rfl
@[simp] theorem d8:tT 44=some ⟨false,1,8,[.int .i64 0],.int .i64,false⟩:=rfl
@[simp] theorem d9:Am tT 44= .int .i64:=rfl
@[simp] theorem ec:tT 49=some ⟨false,1,24,[.own 1 0 []],.slice 28 1 24 [.own 1 0 []],false⟩:=rfl
@[simp] theorem ed:Am tT 49= .slice 28 1 24 [.own 1 0 []]:=rfl
@[simp] theorem ej:tT 50=some ⟨true,2,32,[.int .i64 0,.own 1 0 []],.struct [(0,1,false),(1,1,false)],false⟩:=rfl
@[simp] theorem em:Am tT 50= .struct [(0,1,false),(1,1,false)]:=rfl
@[simp] theorem en:tT 51=some ⟨true,2,32,[.int .i64 0,.own 1 0 []],.struct [(0,1,false),(1,1,false)],false⟩:=rfl
@[simp] theorem er:Am tT 51= .struct [(0,1,false),(1,1,false)]:=rfl
@[simp] theorem eu:tT 52=some ⟨true,6,80,[.int .i64 0,.int .i64 0,.int .i64 0,.bool false,.own 1 0 [],.own 1 0 []],.struct [(0,1,false),(1,1,false),(2,1,false),(3,1,false),(4,1,false),(5,1,false)],false⟩:=rfl
@[simp] theorem eA:Am tT 52= .struct [(0,1,false),(1,1,false),(2,1,false),(3,1,false),(4,1,false),(5,1,false)]:=rfl
@[simp] theorem eB:tT 53=some ⟨true,6,80,[.int .i64 0,.int .i64 0,.int .i64 0,.bool false,.own 1 0 [],.own 1 0 []],.struct [(0,1,false),(1,1,false),(2,1,false),(3,1,false),(4,1,false),(5,1,false)],false⟩:=rfl
@[simp] theorem eC:Am tT 53= .struct [(0,1,false),(1,1,false),(2,1,false),(3,1,false),(4,1,false),(5,1,false)]:=rfl
@[simp] theorem eD:tT 54=some ⟨true,12,144,[.bool false,.int .i64 0,.bool false,.int .i64 0,.int .i64 0,.own 1 0 [],.int .i64 0,.int .i64 0,.int .i64 0,.bool false,.own 1 0 [],.own 1 0 []],.struct [(0,1,false),(1,1,false),(2,1,false),(3,1,false),(4,2,true),(6,6,true)],false⟩:=rfl
@[simp] theorem eE:Am tT 54= .struct [(0,1,false),(1,1,false),(2,1,false),(3,1,false),(4,2,true),(6,6,true)]:=rfl
@[simp] theorem eG:tT 55=some ⟨true,12,144,[.bool false,.int .i64 0,.bool false,.int .i64 0,.int .i64 0,.own 1 0 [],.int .i64 0,.int .i64 0,.int .i64 0,.bool false,.own 1 0 [],.own 1 0 []],.struct [(0,1,false),(1,1,false),(2,1,false),(3,1,false),(4,2,true),(6,6,true)],false⟩:=rfl
@[simp] theorem eH:Am tT 55= .struct [(0,1,false),(1,1,false),(2,1,false),(3,1,false),(4,2,true),(6,6,true)]:=rfl
@[simp] theorem eI:tT 59=some ⟨true,4,40,[.int .i64 0,.int .i64 0,.str ByteArray.empty,.int .i64 0],.struct [(0,1,false),(1,1,false),(2,2,true)],false⟩:=rfl
@[simp] theorem eJ:Am tT 59= .struct [(0,1,false),(1,1,false),(2,2,true)]:=rfl
@[simp] theorem eK:tT 60=some ⟨true,4,40,[.int .i64 0,.int .i64 0,.str ByteArray.empty,.int .i64 0],.struct [(0,1,false),(1,1,false),(2,2,true)],true⟩:=rfl
@[simp] theorem eM:Am tT 60= .struct [(0,1,false),(1,1,false),(2,2,true)]:=rfl
@[simp] theorem eN:tT 65=some ⟨false,1,24,[.own 4 0 []],.slice 60 4 40 [.int .i64 0,.int .i64 0,.str ByteArray.empty,.int .i64 0],false⟩:=rfl
@[simp] theorem eO:Am tT 65= .slice 60 4 40 [.int .i64 0,.int .i64 0,.str ByteArray.empty,.int .i64 0]:=rfl
@[simp] theorem eP:tT 71=some ⟨false,1,24,[.own 2 0 []],.slice 121 2 16 [.int .i64 0,.int .i64 0],false⟩:=rfl
@[simp] theorem eQ:Am tT 71= .slice 121 2 16 [.int .i64 0,.int .i64 0]:=rfl
@[simp] theorem bm:tT 102=some ⟨true,2,16,[.int .i64 0,.int .i64 0],.struct [(0,1,false),(1,1,false)],false⟩:=rfl
@[simp] theorem bn:Am tT 102= .struct [(0,1,false),(1,1,false)]:=rfl
@[simp] theorem bo:tT 103=some ⟨true,2,16,[.int .i64 0,.int .i64 0],.struct [(0,1,false),(1,1,false)],true⟩:=rfl
@[simp] theorem bp:Am tT 103= .struct [(0,1,false),(1,1,false)]:=rfl
@[simp] theorem bq:tT 120=some ⟨true,2,16,[.int .i64 0,.int .i64 0],.struct [(0,1,false),(1,1,false)],false⟩:=rfl
@[simp] theorem br:Am tT 120= .struct [(0,1,false),(1,1,false)]:=rfl
@[simp] theorem bt:tT 121=some ⟨true,2,16,[.int .i64 0,.int .i64 0],.struct [(0,1,false),(1,1,false)],true⟩:=rfl
@[simp] theorem bu:Am tT 121= .struct [(0,1,false),(1,1,false)]:=rfl
@[simp] theorem bx:tT 130=some ⟨false,1,8,[.int .u64 0],.int .u64,false⟩:=rfl
@[simp] theorem bz:Am tT 130= .int .u64:=rfl
@[simp] theorem bA:tT 143=some ⟨false,1,24,[.own 1 0 []],.slice 5 1 1 [.int .u8 0],false⟩:=rfl
@[simp] theorem bB:Am tT 143= .slice 5 1 1 [.int .u8 0]:=rfl
@[simp] theorem bC:tT 144=some ⟨false,1,24,[.own 1 0 []],.slice 5 1 1 [.int .u8 0],false⟩:=rfl
@[simp] theorem bD:Am tT 144= .slice 5 1 1 [.int .u8 0]:=rfl
@[simp] theorem bE:tT 154=some ⟨false,1,8,[.nilp],.ptr,false⟩:=rfl
@[simp] theorem bF:Am tT 154= .ptr:=rfl
@[simp] theorem bG:tT 156=some ⟨false,1,24,[.own 1 0 []],.slice 4 1 1 [.bool false],false⟩:=rfl
@[simp] theorem bH:Am tT 156= .slice 4 1 1 [.bool false]:=rfl
@[simp] theorem bI:tT 171=some ⟨false,1,8,[.nilp],.ptr,false⟩:=rfl
@[simp] theorem bJ:Am tT 171= .ptr:=rfl
@[simp] theorem bK:tT 225=some ⟨false,1,8,[.nilp],.ptr,false⟩:=rfl
@[simp] theorem bL:Am tT 225= .ptr:=rfl
@[simp] theorem bM:tT 232=some ⟨true,2,32,[.own 1 0 [],.int .i64 0],.struct [(0,1,false),(1,1,false)],false⟩:=rfl
@[simp] theorem bN:Am tT 232= .struct [(0,1,false),(1,1,false)]:=rfl
@[simp] theorem bO:tT 233=some ⟨true,2,32,[.own 1 0 [],.int .i64 0],.struct [(0,1,false),(1,1,false)],false⟩:=rfl
@[simp] theorem bP:Am tT 233= .struct [(0,1,false),(1,1,false)]:=rfl
@[simp] theorem bQ:tT 236=some ⟨true,16,16,[.bool false,.bool false,.bool false,.bool false,.bool false,.bool false,.bool false,.bool false,.bool false,.bool false,.bool false,.bool false,.bool false,.bool false,.bool false,.bool false],.array 16 4 1,false⟩:=rfl
@[simp] theorem bR:Am tT 236= .array 16 4 1:=rfl
@[simp] theorem bS:tT 240=some ⟨false,1,8,[.nilp],.ptr,false⟩:=rfl
@[simp] theorem bT:Am tT 240= .ptr:=rfl
@[simp] theorem bU:tT 253=some ⟨false,1,8,[.nilp],.ptr,false⟩:=rfl
@[simp] theorem bV:Am tT 253= .ptr:=rfl
@[simp] theorem bW:tT 254=some ⟨true,4,40,[.str ByteArray.empty,.int .i64 0,.int .i64 0,.bool false],.struct [(0,2,true),(2,1,false),(3,1,false)],false⟩:=rfl
@[simp] theorem bX:Am tT 254= .struct [(0,2,true),(2,1,false),(3,1,false)]:=rfl
@[simp] theorem bY:tT 255=some ⟨true,4,40,[.str ByteArray.empty,.int .i64 0,.int .i64 0,.bool false],.struct [(0,2,true),(2,1,false),(3,1,false)],true⟩:=rfl
@[simp] theorem bZ:Am tT 255= .struct [(0,2,true),(2,1,false),(3,1,false)]:=rfl
@[simp] theorem b7:tT 260=some ⟨false,1,4,[.int .u32 0],.int .u32,false⟩:=rfl
@[simp] theorem b9:Am tT 260= .int .u32:=rfl
@[simp] theorem cb:tT 262=some ⟨false,1,8,[.int .u64 0],.int .u64,false⟩:=rfl
@[simp] theorem cc:Am tT 262= .int .u64:=rfl
@[simp] theorem cd:tT 268=some ⟨false,1,8,[.int .i64 0],.int .i64,false⟩:=rfl
@[simp] theorem ce:Am tT 268= .int .i64:=rfl
@[simp] theorem cf:tT 278=some ⟨false,1,8,[.int .u64 0],.int .u64,false⟩:=rfl
@[simp] theorem cj:Am tT 278= .int .u64:=rfl
@[simp] theorem ck:tT 282=some ⟨false,1,8,[.nilp],.ptr,false⟩:=rfl
@[simp] theorem cm:Am tT 282= .ptr:=rfl
@[simp] theorem cn:tT 284=some ⟨false,1,8,[.nilp],.ptr,false⟩:=rfl
@[simp] theorem co:Am tT 284= .ptr:=rfl
@[simp] theorem cp:tT 287=some ⟨true,4,40,[.nilp,.nilp,.nilp,.str ByteArray.empty],.struct [(0,1,false),(1,1,false),(2,1,false),(3,1,false)],false⟩:=rfl
@[simp] theorem cq:Am tT 287= .struct [(0,1,false),(1,1,false),(2,1,false),(3,1,false)]:=rfl
@[simp] theorem cr:tT 288=some ⟨true,4,40,[.nilp,.nilp,.nilp,.str ByteArray.empty],.struct [(0,1,false),(1,1,false),(2,1,false),(3,1,false)],false⟩:=rfl
@[simp] theorem ct:Am tT 288= .struct [(0,1,false),(1,1,false),(2,1,false),(3,1,false)]:=rfl
@[simp] theorem cu:tT 289=some ⟨true,0,0,[],.array 0 16 1,false⟩:=rfl
@[simp] theorem cx:Am tT 289= .array 0 16 1:=rfl
@[simp] theorem cy:tT 292=some ⟨false,1,1,[.int .u8 0],.int .u8,false⟩:=rfl
@[simp] theorem cz:Am tT 292= .int .u8:=rfl
@[simp] theorem cA:tT 293=some ⟨false,1,1,[.int .u8 0],.int .u8,false⟩:=rfl
@[simp] theorem cB:Am tT 293= .int .u8:=rfl
@[simp] theorem cC:tT 295=some ⟨false,1,8,[.nilp],.ptr,false⟩:=rfl
@[simp] theorem cD:Am tT 295= .ptr:=rfl
@[simp] theorem cE:tT 296=some ⟨false,1,4,[.int .i32 0],.int .i32,false⟩:=rfl
@[simp] theorem cF:Am tT 296= .int .i32:=rfl
@[simp] theorem cG:tT 297=some ⟨false,1,4,[.int .i32 0],.int .i32,false⟩:=rfl
@[simp] theorem cH:Am tT 297= .int .i32:=rfl
@[simp] theorem cI:tT 300=some ⟨true,3,24,[.int .i64 0,.int .i64 0,.int .i64 0],.struct [(0,1,false),(1,1,false),(2,1,false)],false⟩:=rfl
@[simp] theorem cJ:Am tT 300= .struct [(0,1,false),(1,1,false),(2,1,false)]:=rfl
@[simp] theorem cK:tT 301=some ⟨true,3,24,[.int .i64 0,.int .i64 0,.int .i64 0],.struct [(0,1,false),(1,1,false),(2,1,false)],true⟩:=rfl
@[simp] theorem cL:Am tT 301= .struct [(0,1,false),(1,1,false),(2,1,false)]:=rfl
end Go.Abs
set_option maxRecDepth 100000
namespace Go.Abs
open Go.Proofs
theorem Ci:pg.follows .mixedOrders=true:=by kernel_rfl
end Go.Abs
namespace Go.Abs
section
variable {G A B H:Prop}
theorem zs (h:A) (e:A→G:=by intro zz;(repeat refine W.seq ?_);refine W.reg 0 rfl fun K hK=>?_;simp -implicitDefEqProofs (maxSteps:=999999) (disch:=omega);(repeat refine⟨by clear zz;first|assumption|omega,?_⟩);refine hK _ _ ?_;clear hK K;exact zz):G:=e h
theorem z0 (h:A) (e:A→G:=by intro zz;(repeat refine W.seq ?_);refine W.reg 0 rfl fun K hK=>?_;simp -implicitDefEqProofs (maxSteps:=999999) (disch:=omega);revert hK;revert K;exact zz):G:=e h
theorem z1 (h:A) (e:A→G:=by intro zz;(repeat refine W.seq ?_);refine W.reg 1 rfl fun K hK=>?_;simp -implicitDefEqProofs (maxSteps:=999999) (disch:=omega);revert hK;revert K;exact zz):G:=e h
theorem z2 (h:A) (e:A→G:=by intro zz;(repeat refine W.seq ?_);refine W.reg 2 rfl fun K hK=>?_;simp -implicitDefEqProofs (maxSteps:=999999) (disch:=omega);revert hK;revert K;exact zz):G:=e h
theorem z3 (h:A) (e:A→G:=by intro zz;(repeat refine W.seq ?_);refine W.reg 3 rfl fun K hK=>?_;simp -implicitDefEqProofs (maxSteps:=999999) (disch:=omega);revert hK;revert K;exact zz):G:=e h
theorem Ag (f:H) (h:A) (e:H→A→G:=by intro zf zz;(repeat refine W.seq ?_);refine W.reg 0 rfl fun K hK=>?_;simp -implicitDefEqProofs (maxSteps:=999999) (disch:=omega) [zf];clear zf;revert hK;revert K;exact zz):G:=e f h
theorem MU (f:H) (h:A) (e:H→A→G:=by intro zf zz;(repeat refine W.seq ?_);refine W.reg 1 rfl fun K hK=>?_;simp -implicitDefEqProofs (maxSteps:=999999) (disch:=omega) [zf];clear zf;revert hK;revert K;exact zz):G:=e f h
theorem B4 (h:A) (e:A→G:=by intro zz;(repeat refine W.seq ?_);refine W.regd 0 rfl true Ci (by kernel_rfl) fun K hK=>?_;simp -implicitDefEqProofs (maxSteps:=999999) (disch:=omega);revert hK;revert K;exact zz):G:=e h
theorem Bj (f:H) (h:A) (e:H→A→G:=by intro zf zz;(repeat refine W.seq ?_);refine W.regd 0 rfl true Ci (by kernel_rfl) fun K hK=>?_;simp -implicitDefEqProofs (maxSteps:=999999) (disch:=omega) [zf];clear zf;revert hK;revert K;exact zz):G:=e f h
theorem zx (h:A) (e:A→G:=by intro zz;simp only[DU];simp -implicitDefEqProofs (maxSteps:=999999) (disch:=omega);exact zz):G:=e h
theorem AI (f:H) (h:A) (e:H→A→G:=by intro zf zz;simp only[DU];simp -implicitDefEqProofs (maxSteps:=999999) (disch:=omega) [zf];clear zf;exact zz):G:=e f h
theorem zk (h:A) (e:A→G:=by intro zz;(repeat refine⟨by clear zz;first|assumption|omega,?_⟩);refine hK _ _ ?_;exact zz):G:=e h
theorem zt (h:A) (e:A→G:=by intro zz;(repeat refine W.seq ?_);refine W.condK fun K1 K2 h1 h2=>?_;simp -implicitDefEqProofs (maxSteps:=999999) (disch:=omega);refine h1 ?_;clear h1 h2 K1 K2;exact zz):G:=e h
theorem zn (h:A) (e:A→G:=by intro zz;(repeat refine W.seq ?_);refine W.condK fun K1 K2 h1 h2=>?_;simp -implicitDefEqProofs (maxSteps:=999999) (disch:=omega);refine h2 ?_;clear h1 h2 K1 K2;exact zz):G:=e h
theorem zc (ha:A) (hb:B) (e:A→B→G:=by intro za zb;(repeat refine W.seq ?_);refine W.condK fun K1 K2 h1 h2=>?_;simp -implicitDefEqProofs (maxSteps:=999999) (disch:=omega) [-and_imp];refine⟨fun h=>h1 ?_,fun h=>h2 ?_⟩<;>clear h1 h2 K1 K2<;>revert h;exact za;exact zb):G:=e ha hb
theorem zr (h:A) (e:A→G:=by intro zz;refine W.ret ?_;simp only[Ca,CU,Cp];refine Ce (d:=0) ?_;simp -implicitDefEqProofs (maxSteps:=999999) (disch:=omega);exact zz):G:=e h
theorem zR (e:G:=by refine W.ret ?_;simp only[Ca,CU,Cp];refine Ce (d:=0) ?_;simp -implicitDefEqProofs (maxSteps:=999999) (disch:=omega)):G:=e
theorem zb (h:A) (e:A→G:=by intro zz;(repeat refine W.seq ?_);refine W.block ?_;exact zz):G:=e h
theorem an (a:A) (b:B):A∧B:=⟨a,b⟩
end
end Go.Abs
set_option maxRecDepth 100000
namespace Go.Abs
open Go.Proofs
theorem DN (xs ys:List Int) (hx:xs.length<4611686018427387904):Aa pg 33 [.ro xs.length (Ac xs),.ro ys.length (Ac ys)] [] (fun r _=>r= .bool (decide (xs=ys))):=by
 refine Aa.start (fn:=Tryz.f33) [.tmp 4] tk rfl rfl rfl (by kernel_rfl) (Nat.le_of_ble_eq_true rfl) rfl (by kernel_rfl) ?_
 rw[Ar]
 refine zs ?_
 refine zs ?_
 refine zc ?_ ?_<;>intro h
 .refine zs ?_
  refine zr ?_
  intro e;exact h (by rw[e])
 .refine W.skip ?_
  have hl:xs.length=ys.length:=by omega
  refine zs ?_
  (repeat refine W.seq ?_);refine W.block (W.loopS (fun k:Nat=> [(0,.ro xs.length (Ac xs)),(1,.ro ys.length (Ac ys)),(5,.int .i64 k)]) (fun _=> []) (fun k=>xs.length-k) (fun k=>k≤xs.length∧xs.take k=ys.take k) 0 (Wk.fr ?_) (by simp) ?_)
  .simp[Ad]
  .rintro k ⟨hk,ht⟩
   refine zs ?_
   refine zc ?_ ?_<;>intro h
   .refine W.skip ?_
    have hlt:k<xs.length:=by omega
    have hlt' :k<ys.length:=by omega
    refine zb ?_
    refine B4 ?_;intro K hK
    simp[hlt,hlt']
    refine zk ?_;clear hK K
    refine zc ?_ ?_<;>intro h
    .refine zs ?_
     refine zr ?_
     intro e;subst e;exact h rfl
    .refine W.skip ?_
     refine zs ?_
     refine⟨k+1,by omega,⟨by omega,?_⟩,Wk.fr ?_⟩
     .rw[List.take_add_one,List.take_add_one,ht];simp[hlt,hlt',h]
     .simp[Ad]
   .refine W.exit ?_
    have hk' :k=xs.length:=by omega
    subst hk'
    refine zs ?_
    refine zr ?_
    rw[List.take_length,hl,List.take_length] at ht
    simp[ht]
end Go.Abs
set_option maxRecDepth 100000
namespace Go.Abs
open Go.Proofs
theorem DV (xs:List Int) (hx:xs.length<1000000000000):Aa pg 187 [.ro xs.length (Ac xs)] [] (fun r _=>r= .own 1 xs.length (Ac xs)):=by
 refine Aa.start (fn:=Tryz.f187) [.tmp 2] tk rfl rfl rfl (by kernel_rfl) (Nat.le_of_ble_eq_true rfl) rfl (by kernel_rfl) ?_
 rw[As]
 refine zs ?_
 refine zs ?_
 refine zs ?_
 (repeat refine W.seq ?_);refine W.block (W.loopS (fun k:Nat=> [(0,.ro xs.length (Ac xs)),(3,.tok 0 k 1 0 k),(4,.int .i64 k)]) (fun k=> [.live k (Ac (xs.take k))]) (fun k=>xs.length-k) (fun k=>k≤xs.length) 0 ((Wk.nil (t:=3) (s:=1) ?_).trans (Wk.fr ?_)) (by simp) ?_)
 .simp
 .simp[Ad]
 .intro k hk
  refine zs ?_
  refine zc ?_ ?_<;>intro h
  .refine W.skip ?_
   have hlt:k<xs.length:=by omega
   refine zb ?_
   refine z1 ?_;intro K hK
   refine⟨hlt,by omega,by omega,?_⟩
   refine zk ?_;clear hK K
   refine zs ?_
   refine⟨k+1,by omega,by omega,Wk.cutM (k:=1) ?_ ?_ ?_ ?_ ?_ ?_⟩<;>simp
   have e:Ac (List.take (k+1) xs)=Ac (List.take k xs)++[AV.int IntKind.i64 xs[k]]:=by rw[List.take_add_one,Dg];simp[hlt,Ac]
   exact e.symm
  .refine W.exit ?_
   have hk' :k=xs.length:=by omega
   subst hk'
   refine zs ?_
   exact zR
end Go.Abs
set_option maxRecDepth 100000
namespace Go.Abs
open Go.Proofs
theorem IG (xs ys:List (List Int)) (hx:xs.length<1000000000000) (hr:∀r∈xs,r.length<1000000000000):Aa pg 84 [.ro xs.length (Au false xs),.ro ys.length (Au false ys)] [] (fun r _=>r= .bool (decide (xs=ys))):=by
 refine Aa.start (fn:=Tryz.f84) [.tmp 4] tk rfl rfl rfl (by kernel_rfl) (Nat.le_of_ble_eq_true rfl) rfl (by kernel_rfl) ?_
 rw[Ar]
 refine zs ?_
 refine zs ?_
 refine zc ?_ ?_<;>intro h
 .refine zs ?_
  refine zr ?_
  intro e;exact h (by rw[e])
 .refine W.skip ?_
  have hl:xs.length=ys.length:=by omega
  refine zs ?_
  (repeat refine W.seq ?_);refine W.block (W.loopS (fun k:Nat=> [(0,.ro xs.length (Au false xs)),(1,.ro ys.length (Au false ys)),(5,.int .i64 k)]) (fun _=> []) (fun k=>xs.length-k) (fun k=>k≤xs.length∧xs.take k=ys.take k) 0 (Wk.fr ?_) (by simp) ?_)
  .simp[Ad]
  .rintro k ⟨hk,ht⟩
   refine zs ?_
   refine zc ?_ ?_<;>intro h
   .refine W.skip ?_
    have hlt:k<xs.length:=by omega
    have hlt' :k<ys.length:=by omega
    refine zb ?_
    refine B4 ?_;intro K hK
    simp[hlt,hlt']
    refine Ah.eq (DN xs[k] ys[k] (by have:=hr xs[k] (by simp);omega)) (by simp) (by simp) ?_
    refine zx ?_
    refine zk ?_;clear hK K
    refine zc ?_ ?_<;>intro h
    .refine zs ?_
     refine zr ?_
     intro e;subst e;exact h rfl
    .refine W.skip ?_
     refine zs ?_
     refine⟨k+1,by omega,⟨by omega,?_⟩,Wk.fr ?_⟩
     .rw[List.take_add_one,List.take_add_one,ht];simp[hlt,hlt',h]
     .simp[Ad]
   .refine W.exit ?_
    have hk' :k=xs.length:=by omega
    subst hk'
    refine zs ?_
    refine zr ?_
    rw[List.take_length,hl,List.take_length] at ht
    simp[ht]
end Go.Abs
set_option maxRecDepth 100000
namespace Go.Abs
open Go.Proofs
end Go.Abs
namespace Go.Abs
def Eh (d:ByteArray) (i:Nat):Bool:=decide (CG d (i/8)/2^(7-i%8)%2=1)
def An (b:CM):List Bool:=(List.range b.n.toNat).map (Eh b.data)
def C2 (b:CM):Prop:=0≤b.n∧b.n≤6000∧(b.data.size:Int)=(b.n+7)/8∧∀i,i<8*b.data.size→b.n.toNat≤i→Eh b.data i=false
instance (b:CM):Decidable (C2 b):=inferInstanceAs (Decidable (_∧_∧_∧_))
def Bq (l:List Bool):Nat:=l.foldl (fun v b=>2*v+b.toNat) 0
def ahead (l:List Bool) (p:Nat):Option Nat:=(l.drop p).findIdx? id
def AK (l:List Bool) (p:Nat):Option (Nat×Nat):=match ahead l p with
 |none=>none
 |some q=>if q≤30∧p+2*q+1≤l.length then(if Bq ((l.drop (p+q)).take (q+1))≤1073741824 then some (Bq ((l.drop (p+q)).take (q+1)),p+2*q+1) else none) else none
def By (v w:Nat):List Bool:=(List.range w).map fun i=>decide (v/2^(w-1-i)%2=1)
def Bc (n:Nat):List Bool:=By 0 (Nat.log2 n)++By n (Nat.log2 n+1)
def Cb (n:Int):Int:=if n%2=1 then-((n+1)/2) else n/2
def D5 (n:Int):Int:=if n<0 then-2*n-1 else 2*n
def AL (l:List Int):Prop:=(∀x∈l,0≤x∧x<16)∧l.Pairwise (·<·)
instance (l:List Int):Decidable (AL l):=inferInstanceAs (Decidable (_∧_))
def B2 (bs:List Bool):Nat→Bool→Nat→Int→Option (List Int×Nat)
 |0,_,p,_=>some ([],p)
 |k+1,f,p,last=>match AK bs p with
  |none=>none
  |some x=>let y:=last+(if f=true then Cb ((x.1:Int)-1) else(x.1:Int))
   if 0≤y∧y<16 then(match B2 bs k false x.2 y with|some r=>some (y::r.1,r.2) |none=>none) else none
def Dv (bs:List Bool) (p:Nat) (v:Int):Option (List Int×Nat):=match AK bs p with
 |none=>none
 |some x=>if x.1≤17 then B2 bs (x.1-1) true x.2 v else none
def CR (bs:List Bool):Nat→Bool→Nat→Int→Option (List Int×Nat)
 |0,_,p,_=>some ([],p)
 |k+1,f,p,last=>match AK bs p with
  |none=>none
  |some x=>match CR bs k false x.2 (last+(if f=true then Cb ((x.1:Int)-1) else(x.1:Int))) with
   |some r=>some ((last+(if f=true then Cb ((x.1:Int)-1) else(x.1:Int)))::r.1,r.2)
   |none=>none
def DC (bs:List Bool) (p:Nat) (v:Int):Option (List Int×Nat):=match AK bs p with
 |none=>none
 |some x=>if x.1≤17 then(match CR bs (x.1-1) true x.2 v with|some r=>if AL r.1 then some r else none|none=>none) else none
def A9:List Int→Nat
 | []=>0
 | [_]=>1
 |x::y::l=>if y=x+1 then A9 (y::l)+1 else 1
theorem FR (x:Int) (l:List Int):0<A9 (x::l):=by cases l<;>simp[A9];split<;>omega
theorem GC:∀l:List Int,A9 l≤l.length
 | []=>by simp[A9]
 | [_]=>by simp[A9]
 |x::y::l=>by have:=GC (y::l);simp[A9];split<;>simp at* <;>omega
def Aq:List Int→List (Int×Int)×List Int
 | []=>([],[])
 |x::l=>let k:=A9 (x::l)
  let q:=Aq ((x::l).drop k)
  if 3≤k then((x,(k:Int))::q.1,q.2) else(q.1,(x::l).take k++q.2)
termination_by l=>l.length
decreasing_by have:=FR x l;simp;omega
def Cq (bs:List Bool):Nat→Bool→Nat→Int→Option (List (Int×Int)×Nat)
 |0,_,p,_=>some ([],p)
 |k+1,f,p,e=>match AK bs p with
  |none=>none
  |some x=>match AK bs x.2 with
   |none=>none
   |some y=>let a:=e+(if f=true then Cb ((x.1:Int)-1) else(x.1:Int))
    match Cq bs k false y.2 (a+((y.1:Int)-1+3)) with
    |some r=>some ((a,(y.1:Int)-1+3)::r.1,r.2)
    |none=>none
def CV:List (Int×Int)→Int→Option (List Int)
 | [],_=>some []
 | (a,n)::rs,e=>if n<3∨16<n∨a≤e∨¬(0≤a∧a<16)∨¬(0≤a+n-1∧a+n-1<16) then none else
   match CV rs (a+n) with
   |some l=>some ((List.range n.toNat).map (fun i=>a+(i:Nat))++l)
   |none=>none
def BQ (l:List Int):List Int:=l.mergeSort fun x y=>decide (x≤y)
def EF (r:List (Int×Int)) (rest:List Int):Option (List Int):=match CV r (-1) with
 |none=>none
 |some l=>if AL rest∧AL (BQ (rest++l)) then some (BQ (rest++l)) else none
def CW (bs:List Bool) (p:Nat) (v:Int):Option (List Int×Nat):=match AK bs p with
 |none=>none
 |some x=>if x.1≤16 then(match Cq bs (x.1-1) true x.2 v with
  |none=>none
  |some r=>match Dv bs r.2 v with
   |none=>none
   |some g=>match EF r.1 g.1 with
    |none=>none
    |some l=>if Aq l=(r.1,g.1) then some (l,g.2) else none) else none
def BJ (bs:List Bool):Nat→Bool→Nat→Int→Option (List (Int×Int)×Nat)
 |0,_,p,_=>some ([],p)
 |k+1,f,p,e=>match AK bs p with
  |none=>none
  |some x=>match AK bs x.2 with
   |none=>none
   |some y=>if y.1≤16 then(let a:=e+(if f=true then Cb ((x.1:Int)-1) else(x.1:Int))
    match BJ bs k false y.2 (a+((y.1:Int)-1+3)) with
    |some r=>some ((a,(y.1:Int)-1+3)::r.1,r.2)
    |none=>none) else none
def Dw:List (Int×Int)→Int→Prop
 | [],_=>True
 | (a,n)::rs,e=>0≤a∧a<16∧3≤n∧n≤16-a∧e<a∧Dw rs (a+n)
instance runsOKd:∀(r:List (Int×Int)) (e:Int),Decidable (Dw r e)
 | [],_=>inferInstanceAs (Decidable True)
 | (_,_)::rs,_=>have:=runsOKd rs;inferInstanceAs (Decidable (_∧_∧_∧_∧_∧_))
def Bz (r:List (Int×Int)) (i:Int):Bool:=r.any fun q=>decide (q.1≤i∧i<q.1+q.2)
def GD (p:Int→Bool):List Int:=((List.range 16).map fun i=>((i:Nat):Int)).filter p
def C6 (r:List (Int×Int)) (rest:List Int):Option (List Int):=
 if AL rest∧Dw r (-1)∧∀x∈rest,Bz r x=false then some (GD fun i=>Bz r i||rest.contains i) else none
def C7 (v:Int):List Int→Bool→Int→List Bool
 | [],_,_=> []
 |x::l,f,last=>Bc (if f=true then D5 (x-v)+1 else x-last).toNat++C7 v l false x
def DW (v:Int) (l:List Int):List Bool:=Bc (l.length+1)++C7 v l true 0
def CX (v:Int):List (Int×Int)→Bool→Int→List Bool
 | [],_,_=> []
 | (a,n)::l,f,e=>Bc (if f=true then D5 (a-v)+1 else a-e).toNat++Bc (n-3+1).toNat++CX v l false (a+n)
def BL (v:Int) (l:List Int):List Bool:=Bc ((Aq l).1.length+1)++CX v (Aq l).1 true 0++DW v (Aq l).2
def Br (bs:List Bool) (p:Nat) (v:Int):Option (List Int×Nat):=match AK bs p with
 |none=>none
 |some x=>if x.1≤17 then(match BJ bs (x.1-1) true x.2 v with
  |none=>none
  |some r=>match DC bs r.2 v with
   |none=>none
   |some g=>match C6 r.1 g.1 with
    |none=>none
    |some l=>if (BL v l).length=g.2-p∧(bs.drop p).take (BL v l).length=BL v l then some (l,g.2) else none) else none
def Bd (l:List Int):List Int→Bool→Nat→List Nat
 | [],_,_=> []
 |x::ref,i,n=>if l.contains x=i then Bd l ref i (n+1) else n::Bd l ref (!i) 1
def blocks (ref l:List Int):List Int:=(Bd l ref true 0).map fun n=>((n:Nat):Int)
def Bk (ref l:List Int):List Int:=l.filter fun x=> !ref.contains x
def A2:List Int→List Int→Bool→Option (List Int)
 | [],left,i=>some (if i=true then left else [])
 |n::bs,left,i=>if n<0∨(left.length:Int)<n then none else
  match A2 bs (left.drop n.toNat) (!i) with
  |some l=>some ((if i=true then left.take n.toNat else [])++l)
  |none=>none
def Cr (ref bl rest:List Int):Option (List Int):=match A2 bl ref true with
 |none=>none
 |some l=>if AL (BQ (rest++l))∧blocks ref (BQ (rest++l))=bl∧Bk ref (BQ (rest++l))=rest then some (BQ (rest++l)) else none
def Cj (bs:List Bool):Nat→Bool→Nat→Option (List Int×Nat)
 |0,_,p=>some ([],p)
 |k+1,f,p=>match AK bs p with
  |none=>none
  |some x=>match Cj bs k false x.2 with
   |some r=>some ((if f=true then(x.1:Int)-1 else(x.1:Int))::r.1,r.2)
   |none=>none
def Cz (bs:List Bool) (p:Nat) (v:Int) (ref:List Int):Option (List Int×Nat):=match AK bs p with
 |none=>none
 |some x=>if x.1≤17 then(match Cj bs (x.1-1) true x.2 with
  |none=>none
  |some q=>match CW bs q.2 v with
   |none=>none
   |some r=>match Cr ref q.1 r.1 with
    |some l=>some (l,r.2)
    |none=>none) else none
def Bm (bs:List Bool):Nat→Bool→Nat→Option (List Int×Nat)
 |0,_,p=>some ([],p)
 |k+1,f,p=>match AK bs p with
  |none=>none
  |some x=>if x.1≤17 then(match Bm bs k false x.2 with
   |some r=>some ((if f=true then(x.1:Int)-1 else(x.1:Int))::r.1,r.2)
   |none=>none) else none
def DX (ref bl rest:List Int):Option (List Int):=
 if¬(AL ref∧AL rest∧bl.length≤16) then none else match A2 bl ref true with
  |none=>none
  |some l=>let m:=GD fun i=>l.contains i||rest.contains i
   if blocks ref m=bl∧Bk ref m=rest then some m else none
def DO (bs:List Bool) (p:Nat) (v:Int) (ref:List Int):Option (List Int×Nat):=match AK bs p with
 |none=>none
 |some x=>if x.1≤17 then(match Bm bs (x.1-1) true x.2 with
  |none=>none
  |some q=>match Br bs q.2 v with
   |none=>none
   |some r=>match DX ref q.1 r.1 with
    |some l=>some (l,r.2)
    |none=>none) else none
end Go.Abs
namespace Go.Abs
def Cm (out:List (List Int)):Nat:=(out.map List.length).sum
def A5 (g:Gr):Prop:=0≤g.n∧g.n≤16∧(g.out.length:Int)=g.n∧(∀l∈g.out,AL l∧∀x∈l,x<g.n)∧Cm g.out≤120
instance (g:Gr):Decidable (A5 g):=inferInstanceAs (Decidable (_∧_∧_∧_∧_))
def AG:Gr:=⟨0,[]⟩
def Cc:BW:=⟨0,0,0,false,[],[]⟩
def DG:CD:=⟨false,0,false,0,AG,Cc⟩
abbrev Rd:=Nat→Int→Option (List Int×Nat)
def A4 (rd:Rd):Nat→Int→Nat→Option (List (List Int)×Nat)
 |0,_,p=>some ([],p)
 |k+1,v,p=>match rd p v with
  |none=>none
  |some r=>match A4 rd k (v+1) r.2 with
   |some q=>some (r.1::q.1,q.2)
   |none=>none
def Cx (bs:List Bool) (rd:Rd):Option Gr:=match AK bs 0 with
 |none=>none
 |some x=>if x.1≤17 then(match A4 rd (x.1-1) 0 x.2 with
  |none=>none
  |some r=>if r.2=bs.length∧A5 ⟨(x.1:Int)-1,r.1⟩ then some ⟨(x.1:Int)-1,r.1⟩ else none) else none
def AC (g:Gr) (v:Int):List Int:=g.out.getD v.toNat []
def Ck (bs:List Bool):Option Gr:=Cx bs (CW bs)
def Cl (a:Gr) (bs:List Bool):Option Gr:=Cx bs fun p v=>Cz bs p v (AC a v)
def Ei (bs:List Bool):Option Gr:=Cx bs (Br bs)
def GE (a:Gr) (bs:List Bool):Option Gr:=Cx bs fun p v=>DO bs p v (AC a v)
def Bl (l:List Obj) (id:Int):Option Obj:=l.find? fun o=>decide (o.id=id)
def BN {α:Type} (f:α→Bool) (l:List α):Int:=match l.findIdx? f with|some i=>(i:Int) |none=>-1
def CK (l:List Obj):Prop:=l.length≤12∧(∀o∈l,1≤o.id∧o.id≤1048576∧C2 o.data∧o.base≠o.id∧(o.base=0∨∃q∈l,q.id=o.base))∧l.Pairwise fun a b=>a.id<b.id
instance (l:List Obj):Decidable (CK l):=inferInstanceAs (Decidable (_∧_∧_))
def A1 (l:List Obj):Nat→Int→List Obj
 |0,_=> []
 |k+1,id=>if id=0 then [] else match Bl l id with
  |some o=>o::A1 l k o.base
  |none=> []
def Ct (l:List Obj) (id:Int):Int×Int:=match Bl l id with
 |none=>(0,3)
 |some _=>if 3<(A1 l 4 id).length then(0,2) else(((A1 l 4 id).length:Int),0)
def C0 (rf:List Bool→Option Gr) (rd:Gr→List Bool→Option Gr):List Obj→Option Gr
 | []=>some AG
 |o::w=>if o.base=0 then rf (An o.data) else match C0 rf rd w with
  |none=>none
  |some a=>rd a (An o.data)
def Bi (l:List Obj) (id:Int):Gr×Int:=if (Ct l id).2≠0 then(AG,(Ct l id).2) else match C0 Ck Cl (A1 l 3 id) with
 |some g=>(g,0)
 |none=>(AG,9)
def gi (l:List Int) (i:Int):Int:=l.getD i.toNat 0
def si (l:List Int) (i x:Int):List Int:=l.set i.toNat x
def BS (k:Int):Bool:=decide (k=1∨k=2∨k=4)
def C8 (g:Gr) (k a:Int):Int:=if¬(1≤k∧k≤6) then 1 else if BS k=true∧¬(0≤a∧a<g.n) then 3 else 0
def IH (n:Nat):List Int:=(List.range n).map fun i=>((i:Nat):Int)
def B0 (g:Gr) (k a:Int):BW:=⟨k,if BS k=true then a else 0,0,false,if k=4 then [a] else [],if k=4 then si (List.replicate g.n.toNat (-1)) a 0 else if k=5 then IH g.n.toNat else []⟩
def Bv (g:Gr) (j:BW):Bool:=if j.kind=1 then decide (1≤j.at_) else if j.kind=4 then decide ((j.list.length:Int)≤j.at_) else decide (g.n≤j.at_)
def AZ (v:Int) (s:List Int×List Int) (w:Int):List Int×List Int:=if gi s.1 w<0 then(si s.1 w (gi s.1 v+1),s.2++[w]) else s
def A7 (v:Int) (s:List Int×Bool) (w:Int):List Int×Bool:=
 (si (si s.1 v (min (gi s.1 v) (gi s.1 w))) w (min (gi s.1 v) (gi s.1 w)),s.2||!decide (gi s.1 v=gi s.1 w))
def CS (l:List Int) (n:Nat):List Int:=l++List.replicate (n+1-l.length) 0
def AQ (g:Gr) (j:BW):BW:=
 if j.kind=1 then{j with at_:=j.at_+1,out:=AC g j.a}
 else if j.kind=2 then{j with at_:=j.at_+1,out:=j.out++if (AC g j.at_).contains j.a=true then [j.at_] else []}
 else if j.kind=3 then{j with at_:=j.at_+1,out:=si (CS j.out (AC g j.at_).length) (AC g j.at_).length (gi (CS j.out (AC g j.at_).length) (AC g j.at_).length+1)}
 else if j.kind=4 then{j with at_:=j.at_+1,out:=((AC g (gi j.list j.at_)).foldl (AZ (gi j.list j.at_)) (j.out,j.list)).1,list:=((AC g (gi j.list j.at_)).foldl (AZ (gi j.list j.at_)) (j.out,j.list)).2}
 else if j.kind=5 then
  (let q:=(AC g j.at_).foldl (A7 j.at_) (j.out,j.move)
   if j.at_+1=g.n∧q.2=true then{j with at_:=0,move:=false,out:=q.1} else{j with at_:=j.at_+1,move:=q.2,out:=q.1})
 else{j with at_:=j.at_+1,out:=j.out++((AC g j.at_).map fun w=> [j.at_,w]).flatten}
def Ft (g:Gr) (j:BW):Nat→BW→Bool
 |0,_=>false
 |k+1,x=>if x=j then true else if Bv g x=true then false else Ft g j k (AQ g x)
def Ej (l:List Int):Nat:=(l.map Int.toNat).sum
def EL (g:Gr) (j:BW):Nat:=
 if j.kind=1 then(1-j.at_).toNat
 else if j.kind=5 then Ej j.out*(2*g.n.toNat+2)+(if j.move=true then g.n.toNat else 0)+(g.n-j.at_).toNat
 else(g.n-j.at_).toNat
def CO (g:Gr) (j:BW):Bool:=decide (C8 g j.kind j.a=0)&&Ft g j (EL g (B0 g j.kind j.a)+1) (B0 g j.kind j.a)
def Cd (v:AS):Obj:=⟨v.id,v.base,v.data⟩
def Al (s:AT):List Obj:=s.vers.map Cd
def Ba (b:CM):Int:=(4+(b.data.size:Int)+59)/60
def AM (s:AT):List (Int×Int):=s.vers.map fun v=>(v.at_,Ba v.data)
def AP (l:List AS):Int:=match l.getLast? with|some v=>v.id|none=>0
def apart (x y:Int×Int):Prop:=¬(y.1<x.1+x.2∧x.1<y.1+y.2)
instance (x y:Int×Int):Decidable (apart x y):=inferInstanceAs (Decidable (¬_))
def CL (l:List (Int×Int)) (n:Int):Prop:=1≤n∧n≤100∧l.length≤13∧(∀x∈l,0≤x.1∧1≤x.2∧x.1+x.2≤n)∧l.Pairwise apart
instance (l:List (Int×Int)) (n:Int):Decidable (CL l n):=inferInstanceAs (Decidable (_∧_∧_∧_∧_))
def Az (s:AT) (l:List Obj) (x:CD):Prop:=
 if x.opn=false then x=DG else
  (x.pin=0∨∃v∈s.vers,v.id=x.pin)∧(if x.on=true then 0≤x.frm∧x.frm≤AP s.vers∧A5 x.stage else x.frm=0∧x.stage=AG)∧
    (x.job=Cc∨(x.pin≠0∧CO (Bi l x.pin).1 x.job=true∧Bv (Bi l x.pin).1 x.job=false))
instance (s:AT) (l:List Obj) (x:CD):Decidable (Az s l x):=by unfold Az;exact inferInstance
def FS (v:AS):Prop:=0≤v.parent∧v.parent<v.id∧¬(v.tag=true∧v.gone=true)
instance (v:AS):Decidable (FS v):=inferInstanceAs (Decidable (_∧_∧_))
def Di (l:List AS):Bool:=match l.getLast? with|some v=>v.gone|none=>false
def Fo (s:AT):Prop:=1≤s.keep∧s.keep≤8∧1≤s.blocks∧s.blocks≤100∧(∀v∈s.vers,FS v)∧Di s.vers=false∧CK (Al s)
instance (s:AT):Decidable (Fo s):=inferInstanceAs (Decidable (_∧_∧_∧_∧_∧_∧_))
def Cs (s:AT):Prop:=Fo s∧s.sess.length=3∧(∀o∈Al s,(Bi (Al s) o.id).2=0)∧∀x∈s.sess,Az s (Al s) x
instance (s:AT):Decidable (Cs s):=inferInstanceAs (Decidable (_∧_∧_∧_))
def C9 (s:AT):Prop:=Cs s∧CL (AM s) s.blocks
instance (s:AT):Decidable (C9 s):=inferInstanceAs (Decidable (_∧_))
end Go.Abs
