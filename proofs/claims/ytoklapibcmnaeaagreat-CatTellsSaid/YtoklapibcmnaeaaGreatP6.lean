/- Regions whose order is open up to a place, and which go on in the text's order: the rule; what is called there may be handed own memory. No program. -/
import Derived.Test.YtoklapibcmnaeaaGreatP5
import Derived.WalkKit
import Derived.ProofKit
import Derived.OpenShut
import Derived.SizedLaws
import Derived.ReadAgain
import Derived.Test.YtoklapibcmnaeaaGreatProg
import Derived.KernelRfl
set_option linter.unusedVariables false
set_option linter.unusedSimpArgs false
namespace Go.Abs
section
variable {P:Program} {L:Bool} {T:Nat→Option TI} {ops:Array Oper} {sl:Nat→Nat} {K:Fr→List Ag→Prop}
theorem Q9 {C:A3} {call:Ds} (hcall:∀f args M (K K' :AV→List Ag→Prop),(∀r M,K r M→K' r M)→call f args M K→Di C f args M K') (tk:Bx C.P T) {i:Nat} {o:Oper} (ho:ops[i]?=some o) (hops:∀(k:Nat) (o:Oper),ops[k]?=some o→A9 C.n o=true) {Q' :Exit→Act→World→Prop} {next:Act→World→Prop} {F:Fr} {M:List Ag} {a:Act} {w:World}
 (hN:∀F M a w,K F M→Cf C F M a w→next a w) (h:BA T call ops sl i F M K) (r:Cf C F M a w):wpOpIn (FX C) 0 C.P ops Q' i next a w:=by
 unfold BA at h
 unfold wpOpIn
 simp only[ho] at h ⊢
 have go:∀F,B9 T call o (sl i) F M K→Cf C F M a w→o.wpIn (FX C) 0 C.P a w next Q' :=fun F h r=>by
  obtain⟨σ,own,R⟩:=r
  exact FZ tk (hops i o ho) (DC (call:=call) (call' :=Di C) (fun f args M K K' hk hc=>hcall f args M K K' (fun r M h=>hk _ _ h) hc) (fun _ _ h=>h) h) R hN
 unfold EY at h
 cases hg:o.guard with
 |none=>
  simp only[hg] at h
  rw[if_pos (by simp[Region.wanted,hg])]
  exact go F h r
 |some g=>
  obtain⟨j,want⟩:=g
  simp only[hg] at h
  cases hd:(ops[j]?).bind (·.dst) with
  |none=>simp only[hd] at h
  |some d=>
   simp only[hd] at h
   have hor:(∃b,F d= .bool b)∨F d= .tup []:=by
    cases hFd:F d<;>simp only[hFd] at h
    .exact .inl ⟨_,rfl⟩
    .rename_i xs
     cases xs with
     |nil=>exact .inr rfl
     |cons x xs=>simp at h
   have r' :=r
   obtain⟨σ,own,R⟩:=r'
   obtain⟨oj,hj,hdj⟩:=Option.bind_eq_some_iff.1 hd
   have hdn:d<C.n:=by
    have h1:=hops j oj hj
    simp only[A9,Bool.and_eq_true,hdj] at h1
    simpa using h1.2
   have hv:=R.tmp d hdn
   rcases hor with⟨b,hFd⟩ |hFd
   rotate_left
   .rw[hFd] at hv
    obtain⟨cs,he,_⟩:=hv
    have hget:a.tmps[d]?=some (.tuple cs):=by
     have hs:=R.size
     have hlt:d<a.tmps.size:=by rw[hs];exact hdn
     simp[Array.getD,hlt] at he
     simp[hlt,he]
    have hy:yielded ops a.tmps j=none:=by simp[yielded,hd,hget]
    rw[if_neg (by simp[Region.wanted,hg,hy])]
    simp only[hFd] at h
    exact⟨fun _ _=>trivial,hN _ _ _ _ h ⟨σ,own,R.put o.dst (v:=undef) ⟨#[],rfl,rfl,fun _=>rfl⟩⟩⟩
   rw[hFd] at hv
   simp only[hFd] at h
   have he:=hv.1
   have hget:a.tmps[d]?=some (.bool b):=by
    have hs:=R.size
    have hlt:d<a.tmps.size:=by rw[hs];exact hdn
    simp[Array.getD,hlt] at he
    simp[hlt,he]
   have hy:yielded ops a.tmps j=some b:=by simp[yielded,hd,hget]
   by_cases hbw:b=want
   .rw[if_pos (by simp[Region.wanted,hg,hy,hbw])]
    simp only[hbw,beq_self_eq_true] at h
    exact go F h r
   .rw[if_neg (by simp[Region.wanted,hg,hy,hbw])]
    have:(b==want)=false:=by simpa using hbw
    simp only[this] at h
    exact⟨fun _ _=>trivial,hN _ _ _ _ h ⟨σ,own,R.put o.dst (v:=undef) ⟨#[],rfl,rfl,fun _=>rfl⟩⟩⟩
end
section
variable {P:Program} {L:Bool} {T:Nat→Option TI} {K:Fr→List Ag→Prop}
theorem Is {call:Ds} (hm:∀f args M (K K' :AV→List Ag→Prop),(∀r M,K r M→K' r M)→call f args M K→call f args M K') {K' :Fr→List Ag→Prop} (hK:∀F M,K F M→K' F M) {l tl:List Oper} {base:Nat}:∀(rest pre:List Oper) (F:Fr) (M:List Ag),l=pre++rest++tl→Ak T call l.toArray rest (base+AS pre) F M K→
 Bt T call l.toArray (fun i=>base+AS (l.take i)) (List.range' pre.length rest.length) F M K'
 | [],pre,F,M,hl,h=>hK _ _ h
 |o::rest,pre,F,M,hl,h=>by
  have hi:l.toArray[pre.length]?=some o:=by rw[hl];simp
  have ht:l.take pre.length=pre:=by rw[hl];simp
  have ih:∀F M,Ak T call l.toArray rest (base+AS pre+BH o) F M K→Bt T call l.toArray (fun i=>base+AS (l.take i)) (List.range' (pre.length+1) rest.length) F M K' :=fun F M h=>by
   have:=Is hm hK (l:=l) (tl:=tl) (base:=base) rest (pre++[o]) F M (by rw[hl];simp) (by rw[FK,Hk,←Nat.add_assoc];exact h)
   simpa using this
  simp only[List.length_cons,List.range'_succ,Bt]
  unfold BA
  simp only[hi,ht]
  simp only[Ak] at h
  have mono:∀F,B9 T call o (base+AS pre) F M (fun F' M' =>Ak T call l.toArray rest (base+AS pre+BH o) F' M' K)→B9 T call o (base+AS pre) F M (fun F' M' =>Bt T call l.toArray (fun i=>base+AS (l.take i)) (List.range' (pre.length+1) rest.length) F' M' K'):=fun F h=>
   DC (call:=call) (call' :=call) (fun f args M K K' hk h=>hm f args M K K' (fun r M h=>hk _ _ h) h) (fun F M h=>ih F M h) h
  unfold EY
  split at h
  .rename_i hg
   simp only[hg]
   exact mono _ h
  .rename_i j want hg
   simp only[hg]
   split at h
   .rename_i d hd
    simp only[hd]
    unfold gK at h
    split at h
    .rename_i b hF
     simp only[hF]
     by_cases hb:b=want
     .simp only[hb,beq_self_eq_true]
      have:=h.1 hb
      simp only at this
      rw[Fd F d _ (by rw[hF,hb])] at this
      exact mono _ this
     .have e:(b==want)=false:=by simpa using hb
      simp only[e]
      have hbn:b= !want:=by cases b<;>cases want<;>simp_all
      have:=h.2 hbn
      simp only at this
      rw[Fd F d _ (by rw[hF,hbn])] at this
      exact ih _ _ this
    .rename_i hF
     simp only[hF]
     rw[Fd F d _ hF] at h
     exact ih _ _ h
    .exact h.elim
   .exact h.elim
end
section
variable {P:Program} {L:Bool} {T:Nat→Option TI} {sl:Nat→Nat} {K:Fr→List Ag→Prop}
theorem Tz {C:A3} {m:Nat} (hC:C.P=P) (tk:Bx P T) {l:List Oper} (hops:∀(k:Nat) (o:Oper),l.toArray[k]?=some o→A9 C.n o=true) (hml:m≤l.length) (hd:∀(i k:Nat) (oi ok:Oper),l.toArray[i]?=some oi→l.toArray[k]?=some ok→(∀p∈Bp oi,p<i)∧(k<i→(i<m∧DG L l.toArray ok oi=true)∨∀S,GL l.toArray S→(∀p∈Bp oi,S p)→S k)) (hc5:∀(k:Nat) (o:Oper),l.toArray[k]?=some o→Ax o.op≤5)
 (hsl:∀(i k:Nat) (oi ok:Oper),l.toArray[i]?=some oi→l.toArray[k]?=some ok→AO oi.op=true→AO ok.op=true→i≠k→sl i≠sl k) {Q' :Exit→Act→World→Prop} (hQ:∀F M a w,K F M→Cf C F M a w→Q' .normal a w):
 ∀(fuel:Nat) (listed:Array Bool) (rem:List Nat) (F:Fr) (M:List Ag) (a:Act) (w:World),rem=(List.range m).filter (fun i=> !listed.getD i true)→rem.length+(l.length-m)≤fuel→(∀i,m≤i→listed.getD i false=false)→listed.size=l.length→GL l.toArray (fun i=>listed.getD i false=true)→
 (∀j oj,l.toArray[j]?=some oj→AO oj.op=true→sl j<M.length)→Bt T (Ah P L) l.toArray sl rem F M (fun F M=>Bt T (Ab P) l.toArray sl (List.range' m (l.length-m)) F M K)→Cf C F M a w→wpAnyIn (FX C) 0 C.P .any l.toArray Q' fuel listed a w:=by
 intro fuel
 have hready:∀(listed:Array Bool) i,i∈Region.ready .any l.toArray listed→i<l.length∧listed.getD i true=false∧∀o,l.toArray[i]?=some o→∀p∈Bp o,listed.getD p false=true:=by
  intro listed i hi
  simp only[Region.ready,List.mem_filter,List.mem_range,Bool.and_eq_true] at hi
  obtain⟨h1,h2,h3⟩:=hi
  refine⟨by simpa using h1,by simpa using h2,fun o ho p hp=>?_⟩
  rw[ho] at h3
  simp only[Option.map_some,Option.getD_some] at h3
  simp only[Bp,List.mem_map,List.mem_filter] at hp
  obtain⟨e,⟨he,hb⟩,rfl⟩:=hp
  have h4:=Array.all_eq_true'.1 h3 e (by simpa using he)
  simp only[hb,Bool.not_true,Bool.false_or] at h4
  exact h4
 have hleast:∀(listed:Array Bool) (i:Nat),listed.size=l.length→i<l.length→listed.getD i true=false→(∀p,p<i→listed.getD p false=true)→i∈Region.ready .any l.toArray listed:=by
  intro listed i hsz hlt hi hmin
  have hi2:l.toArray[i]?=some l[i]:=by simp[hlt]
  simp only[Region.ready,List.mem_filter,List.mem_range,Bool.and_eq_true]
  refine⟨by simpa using hlt,by simp[hi],?_⟩
  rw[hi2]
  simp only[Option.map_some,Option.getD_some]
  rw[Array.all_eq_true']
  intro e he
  cases hb:Region.binds .any e with
  |false=>rfl
  |true=>
   simp only[Bool.not_true,Bool.false_or]
   refine hmin _ ((hd i i _ _ hi2 hi2).1 _ ?_)
   simp only[Bp,List.mem_map,List.mem_filter]
   exact⟨e,⟨by simpa using he,hb⟩,rfl⟩
 have hstep:∀(listed:Array Bool) (i:Nat),listed.size=l.length→i<l.length→∀t,(listed.setIfInBounds i true).getD t false=true↔t=i∨listed.getD t false=true:=by
  intro listed i hsz hil t
  have hil:i<listed.size:=by rw[hsz];exact hil
  by_cases e:t=i
  .subst e;simp[Array.getD,hil]
  .have:¬i=t:=fun h=>e h.symm
   by_cases htl:t<listed.size
   .simp[Array.getD,htl,e,this,Array.getElem_setIfInBounds]
   .simp[Array.getD,htl,e]
 have hTF:∀(listed:Array Bool) t,listed.size=l.length→t<l.length→(listed.getD t true=false↔¬listed.getD t false=true):=by
  intro listed t hsz ht
  have:t<listed.size:=by omega
  simp[Array.getD,this]
 have chain:∀(fuel:Nat) (listed:Array Bool) (j:Nat) (F:Fr) (M:List Ag) (a:Act) (w:World),m≤j→j≤l.length→l.length-j≤fuel→listed.size=l.length→(∀t,listed.getD t false=true↔t<j)→
  Bt T (Ab P) l.toArray sl (List.range' j (l.length-j)) F M K→Cf C F M a w→wpAnyIn (FX C) 0 C.P .any l.toArray Q' fuel listed a w:=by
  intro fuel
  induction fuel with
  |zero=>
   intro listed j F M a w hmj hjl hf hsz hls h r
   have hj:j=l.length:=by omega
   subst hj
   rw[Nat.sub_self] at h
   refine⟨?_,hQ _ _ _ _ h r⟩
   apply Classical.byContradiction
   intro hne
   obtain⟨i,hi⟩:=List.exists_mem_of_ne_nil _ hne
   have h1:=hready listed i hi
   exact((hTF listed i hsz h1.1).1 h1.2.1) ((hls i).2 h1.1)
  |succ fuel ih=>
   intro listed j F M a w hmj hjl hf hsz hls h r
   refine⟨fun hr=>?_,fun i hi=>?_⟩
   .have hj:j=l.length:=by
     apply Classical.byContradiction
     intro hne
     have:=hleast listed j hsz (by omega) ((hTF listed j hsz (by omega)).2 fun e=>by have:=(hls j).1 e;omega) (fun p hp=>(hls p).2 hp)
     rw[hr] at this;simp at this
    subst hj
    rw[Nat.sub_self] at h
    exact hQ _ _ _ _ h r
   .have h1:=hready listed i hi
    have hij:i=j:=by
     have hge:¬i<j:=fun hlt=>((hTF listed i hsz h1.1).1 h1.2.1) ((hls i).2 hlt)
     apply Classical.byContradiction
     intro hne
     have hlt:j<i:=by omega
     have hjm:j<l.length:=by omega
     rcases(hd i j _ _ (show l.toArray[i]?=some (l[i]'h1.1) by simp[h1.1]) (show l.toArray[j]?=some (l[j]'hjm) by simp[hjm])).2 hlt with⟨h,_⟩ |h
     .omega
     .have:=h (fun t=>listed.getD t false=true) (fun t o ho ht p hp=>by
       have ht' :=(hls t).1 ht
       show listed.getD p false=true
       rw[hls]
       have:=(hd t t o o ho ho).1 p hp
       omega) (h1.2.2 _ (by simp[h1.1]))
      have:=(hls j).1 this
      omega
    subst hij
    have hi2:l.toArray[i]?=some (l[i]'h1.1):=by simp[h1.1]
    rw[show l.length-i=(l.length-(i+1))+1 by omega,List.range'_succ] at h
    refine Q9 (call:=Ab P) (fun f args M K K' hk hc=>(hc C hC).mono hk) (hC ▸ tk) hi2 hops (fun F' M' a' w' hk r' =>?_) h r
    exact ih _ (i+1) F' M' a' w' (by omega) (by omega) (by omega) (by simpa using hsz) (fun t=>by rw[hstep listed i hsz h1.1 t,hls];omega) hk r'
 induction fuel with
 |zero=>
  intro listed rem F M a w hrem hlen hlt hsz hcl hsm h r
  have hr0:rem=[]:=by
   have:rem.length=0:=by omega
   simpa using this
  subst hr0
  refine chain 0 listed m F M a w (Nat.le_refl _) hml (by simp at hlen;omega) hsz (fun t=>⟨fun ht=>?_,fun ht=>?_⟩) h r
  .apply Classical.byContradiction
   intro hn
   rw[hlt t (by omega)] at ht;simp at ht
  .apply Classical.byContradiction
   intro hn
   have:t∈(List.range m).filter (fun i=> !listed.getD i true):=List.mem_filter.2 ⟨by simpa using ht,by simp[(hTF listed t hsz (by omega)).2 hn]⟩
   rw[←hrem] at this;simp at this
 |succ fuel ih=>
  intro listed rem F M a w hrem hlen hlt hsz hcl hsm h r
  by_cases hr0:rem=[]
  .subst hr0
   refine chain (fuel+1) listed m F M a w (Nat.le_refl _) hml (by simp at hlen;omega) hsz (fun t=>⟨fun ht=>?_,fun ht=>?_⟩) h r
   .apply Classical.byContradiction
    intro hn
    rw[hlt t (by omega)] at ht;simp at ht
   .apply Classical.byContradiction
    intro hn
    have:t∈(List.range m).filter (fun i=> !listed.getD i true):=List.mem_filter.2 ⟨by simpa using ht,by simp[(hTF listed t hsz (by omega)).2 hn]⟩
    rw[←hrem] at this;simp at this
  refine⟨fun hr=>?_,fun i hi=>?_⟩
  .exfalso
   obtain⟨i,rest,hir⟩:=List.exists_cons_of_ne_nil hr0
   have hmem:i∈rem:=by rw[hir];simp
   have hpw:rem.Pairwise (·<·):=by rw[hrem];exact(DH _).filter _
   have hmem' :=List.mem_filter.1 (hrem ▸ hmem)
   have him:i<m:=by simpa using hmem'.1
   have hmin:∀p,p<i→listed.getD p false=true:=by
    intro p hp
    apply Classical.byContradiction
    intro hno
    have:p∈rem:=by
     rw[hrem]
     exact List.mem_filter.2 ⟨by simp;omega,by simp[(hTF listed p hsz (by omega)).2 hno]⟩
    rw[hir] at this hpw
    rcases List.mem_cons.1 this with h|h
    .omega
    .have:=(List.pairwise_cons.1 hpw).1 p h;omega
   have:=hleast listed i hsz (by omega) (by simpa using hmem'.2) hmin
   rw[hr] at this;simp at this
  .have h1:=hready listed i hi
   have hi2:l.toArray[i]?=some (l[i]'h1.1):=by simp[h1.1]
   have him:i<m:=by
    apply Classical.byContradiction
    intro hge
    obtain⟨k,rest,hkr⟩:=List.exists_cons_of_ne_nil hr0
    have hkm:k∈rem:=by rw[hkr];simp
    have hk' :=List.mem_filter.1 (hrem ▸ hkm)
    have hkm:k<m:=by simpa using hk'.1
    rcases(hd i k _ _ hi2 (show l.toArray[k]?=some (l[k]'(by omega)) by simp)).2 (by omega) with⟨h,_⟩ |h
    .omega
    .have h3:=h _ hcl (h1.2.2 _ hi2)
     exact((hTF listed k hsz (by omega)).1 (by simpa using hk'.2)) h3
   have hmem:i∈rem:=by rw[hrem];exact List.mem_filter.2 ⟨by simpa using him,by simp[h1.2.1]⟩
   obtain⟨pre,post,hpp⟩:=List.append_of_mem hmem
   have hsorted:rem.Pairwise (·<·):=by rw[hrem];exact(DH _).filter _
   rw[hpp] at hsorted
   have hs1:=List.pairwise_append.1 hsorted
   have hprelt:∀k∈pre,k<i:=fun k hk=>hs1.2.2 k hk i (by simp)
   have hpostgt:∀k∈post,i<k:=(List.pairwise_cons.1 hs1.2.1).1
   have hpull:=QJ (n:=C.n) (sl:=sl) (L:=L) (F:=F) (M:=M) tk hops hsl hi2 pre post (fun k hk=>Nat.ne_of_lt (hprelt k hk)) (fun k hk ok hok=>?_) (fun ha=>hsm i _ hi2 ha) ⟨C,a,w,hC,rfl,r⟩ (by rw[←hpp];exact h)
   .refine Jd hC (hC ▸ tk) hi2 hops (fun F' M' a' w' hk r' =>?_) (Hj hops hc5 hpull) r
    refine ih _ (pre++post) F' M' a' w' ?_ ?_ ?_ (by simpa using hsz) ?_ (fun j oj hj ha=>Nat.lt_of_lt_of_le (hsm j oj hj ha) hk.2) hk.1 r'
    .have:(List.range m).filter (fun t=> !(listed.setIfInBounds i true).getD t true)=((List.range m).filter (fun t=> !listed.getD t true)).filter (fun t=>t !=i):=by
      rw[List.filter_filter]
      refine List.filter_congr fun t ht=>?_
      have htl:t<listed.size:=by rw[hsz];have:t<m:=by simpa using ht
                                 omega
      by_cases e:t=i
      .subst e;simp[Array.getD,htl]
      .have:¬i=t:=fun h=>e h.symm
       simp[Array.getD,htl,e,this,Array.getElem_setIfInBounds]
     rw[this,←hrem,hpp,List.filter_append,List.filter_cons]
     simp only[bne_self_eq_false,Bool.false_eq_true,if_false]
     rw[List.filter_eq_self.2 (fun k hk=>by simp;exact Nat.ne_of_lt (hprelt k hk)),List.filter_eq_self.2 (fun k hk=>by simp;exact(Nat.ne_of_gt (hpostgt k hk)))]
    .rw[hpp] at hlen
     simp at hlen ⊢
     omega
    .intro t ht
     apply Classical.byContradiction
     intro hn
     have hn' :(listed.setIfInBounds i true).getD t false=true:=by simpa using hn
     rw[hstep listed i hsz h1.1 t] at hn'
     rcases hn' with h|h
     .omega
     .rw[hlt t ht] at h;simp at h
    .intro k o hk hlist p hp
     rw[hstep listed i hsz h1.1] at hlist ⊢
     rcases hlist with rfl|hlist
     .exact .inr (h1.2.2 o hk p hp)
     .exact .inr (hcl k o hk hlist p hp)
   .have hkrem:k∈rem:=by rw[hpp];simp[hk]
    have hkm:=List.mem_filter.1 (hrem ▸ hkrem)
    rcases(hd i k _ ok hi2 hok).2 (hprelt k hk) with h|h
    .exact h.2
    .exfalso
     have h3:=h _ hcl (h1.2.2 _ hi2)
     have hkl:k<l.length:=by have:=hprelt k hk;omega
     exact((hTF listed k hsz hkl).1 (by simpa using hkm.2)) h3
end
def RL (L:Bool) (m:Nat) (l:List Oper):Bool:=G0 (fun _ ok i oi=>decide (i<m)&&DG L l.toArray ok oi) l.toArray l [] [] 0&&(decide (m≤l.length)&&l.all fun o=>decide (Ax o.op≤5))
theorem W.regdS {P:Program} {T:Nat→Option TI} {p:Nat} {F:Fr} {M:List Ag} {Q:BU} {id:Nat} {l:List Oper} (n m:Nat) (hn:AS l=n) (L:Bool) (hp:P.follows .mixedOrders=true) (hd:RL L m l=true)
 (h:∀K:Fr→List Ag→Prop,(∀F M,Q .normal F M→K F M)→Ak T (Ah P L) l.toArray (l.take m) M.length F (M++List.replicate n .free) fun F' M' =>Ak T (Ab P) l.toArray (l.drop m) (M.length+AS (l.take m)) F' M' K):W P T p (.region id l.toArray true) F M Q:=by
 intro tk C hC hp' hb a w r
 simp only[RL,Bool.and_eq_true] at hd
 simp only[Ca] at hb
 subst hn
 have hops:∀(k:Nat) (o:Oper),l.toArray[k]?=some o→A9 C.n o=true:=fun k o ho=>by
  refine List.all_eq_true.1 hb o ?_
  rw[←Array.getElem?_toList] at ho
  exact List.mem_of_getElem? ho
 have hc5:∀(k:Nat) (o:Oper),l.toArray[k]?=some o→Ax o.op≤5:=fun k o ho=>by
  have:=List.all_eq_true.1 hd.2.2 o (List.mem_of_getElem? (by simpa using ho))
  simpa using this
 have hml:m≤l.length:=by simpa using hd.2.1
 refine wpIn_region_any (hC ▸ hp) ?_
 obtain⟨σ,own,R⟩:=r
 have hm1:∀f args M (K K' :AV→List Ag→Prop),(∀r M,K r M→K' r M)→Ah P L f args M K→Ah P L f args M K' :=fun f args M K K' hk h=>Ah.mono (fun r bs h=>hk _ _ h) h
 have hm2:∀f args M (K K' :AV→List Ag→Prop),(∀r M,K r M→K' r M)→Ab P f args M K→Ab P f args M K' :=fun f args M K K' hk h C hC=>(h C hC).mono hk
 have hlt:(l.take m).length=m:=by simp;omega
 have h' :=Is (call:=Ah P L) hm1 (K' :=fun F' M' =>Bt T (Ab P) l.toArray (fun i=>M.length+AS (l.take i)) (List.range' m (l.length-m)) F' M' (Q .normal)) (fun F' M' hk=>by
  have:=Is (call:=Ab P) hm2 (K' :=Q .normal) (fun _ _ h=>h) (l:=l) (tl:=[]) (base:=M.length) (l.drop m) (l.take m) F' M' (by simp) hk
  rw[hlt,List.length_drop] at this
  exact this) (l:=l) (tl:=l.drop m) (base:=M.length) (l.take m) [] F _ (by simp) (h _ fun _ _ h=>h)
 rw[hlt] at h'
 refine Tz (m:=m) (l:=l) (L:=L) hC tk hops hml (fun i k oi ok hi hk=>?_) hc5 (sl:=fun i=>M.length+AS (l.take i)) (fun i k oi ok hi hk ha ha' hne=>?_) (K:=Q .normal) (Q' :=aq C Q) (fun F M a w h r=> .inl ⟨F,M,h,r⟩) l.toArray.size (Array.replicate l.toArray.size false) (List.range' 0 m) F _ a w.drew ?_ ?_ ?_ ?_ ?_ ?_ h' ⟨σ,own,(R.grow _).drew⟩
 .have:=F9 (ops:=l.toArray) l [] [] [] (by simp) rfl (fun t m h=>by simp at h) (fun k o _ h=>by simp at h) hd.1 i k oi ok hi hk (Nat.zero_le _)
  refine⟨this.1,fun hlt=>?_⟩
  rcases this.2 hlt with h|h
  .simp only[Bool.and_eq_true,decide_eq_true_eq] at h
   exact .inl h
  .exact .inr h
 .have s1:BH oi=1:=by simp[BH,ha]
  have s2:BH ok=1:=by simp[BH,ha']
  rcases Nat.lt_or_gt_of_ne hne with h|h
  .have:=CM (l:=l) (by simpa using hi) h
   omega
  .have:=CM (l:=l) (by simpa using hk) h
   omega
 .rw[←List.range_eq_range']
  symm
  rw[List.filter_eq_self]
  intro t ht
  have:t<l.length:=by have:t<m:=by simpa using ht
                      omega
  simp[Array.getD,this]
 .simp;omega
 .intro i _
  simp[Array.getD]
 .simp
 .intro i o ho hl
  simp[Array.getD] at hl
 .intro j oj hj ha
  have s1:BH oj=1:=by simp[BH,ha]
  have hjl:j<l.length:=by
   rcases Nat.lt_or_ge j l.length with h|h
   .exact h
   .rw[show l.toArray[j]?=l[j]? by simp,List.getElem?_eq_none h] at hj;simp at hj
  have:=CM (l:=l) (by simpa using hj) hjl
  rw[List.take_length] at this
  simp only[List.length_append,List.length_replicate]
  omega
end Go.Abs
namespace Go.Abs
def NI (M:List Ag):AV→AV
 | .own _ 0 []=> .own 1 0 []
 |x=>vw M x
section
variable {P:Program} {f:Nat} {M:List Ag} {args cargs:List AV} {K:AV→List Ag→Prop} {Q:AV→List Ag→Prop}
theorem UX {w:World} {sh shB:Nat→Prop} {σ:Nat→Nat→Option St} {own:Nat→Option Nat} (m:BC w sh σ own M) (hs:∀g,sh g→shB g) (ho:∀g,own g≠none→g<w.heap.size→shB g) {x:AV} {v:Value} (h:VR w sh σ x v (fun _=>0)):VR w shB σ0 (NI M x) v (fun _=>0):=by
 unfold NI
 split
 .simp only[VR] at h ⊢
  rcases h with⟨ha,_⟩ | ⟨hh,b,c,cur,e',fp',_,_,_,_,_,_,_,hff⟩
  .exact .inl ⟨ha,trivial,trivial,fun _=>trivial⟩
  .have:=hff hh
   simp at this
   omega
 .exact N9 m hs ho h
theorem Ab.borN (spec:Aa P f cargs [] Q) (hargs:args.map (NI M)=cargs) (hk:∀r,Q r []→EX r=true∧K (Dt M.length r).1 (M++(Dt M.length r).2)):Ab P f args M K:=by
 intro C hC
 subst hC
 refine⟨spec.1,fun F a w σ own vals R hv=>?_⟩
 have hv' :Aq w (fun g=>C.sh g∨(own g≠none∧g<w.heap.size)) σ0 cargs vals.toList (fun _=>0):=by
  rw[←hargs]
  have:=El (w:=w) (sh:=C.sh) (shB:=fun g=>C.sh g∨(own g≠none∧g<w.heap.size)) (σ:=σ) (τ:=σ0) (f:=NI M) (p:=fun fp=>∀g,fp g=0) (fun a b c hc e=>⟨fun g=>by have:=e g;have:=hc g;omega,fun g=>by have:=e g;have:=hc g;omega⟩) (fun x v fp h hf=>by
   have:fp=fun _=>0:=funext hf
   subst this
   exact UX R.mem (fun g hg=> .inl hg) (fun g hg hlt=> .inr ⟨hg,hlt⟩) h)
  exact this _ _ _ hv (fun _=>rfl)
 refine(spec.2 w _ σ0 (fun _=>none) vals hv' (Fc _ _) (fun g hg=>⟨rfl,?_⟩)).mono ?_
 .rcases hg with hg|hg
  .exact(R.shr g hg).2
  .exact hg.2
 .rintro e w' ⟨r,v,M',σ',own',fpr,rfl,hq,hl,hr,hf,hm,_,he,_⟩
  have:M' =[]:=List.eq_nil_of_length_eq_zero (by simpa using hl)
  subst this
  obtain⟨h1,h2⟩:=hk r hq
  have hσ:σ' =σ0:=by funext T u;exact hm.key T u (Nat.zero_le _)
  subst hσ
  obtain⟨σ2,own2,R2,r2⟩:=Ij R he (JJ r v fpr h1 hr) hf
  exact⟨_,v,_,σ2,own2,rfl,h2,R2,r2⟩
theorem Ab.eqN {v:AV} (spec:Aa P f cargs [] fun r _=>r=v) (hargs:args.map (NI M)=cargs) (hr:EX v=true) (hk:K (Dt M.length v).1 (M++(Dt M.length v).2)):Ab P f args M K:=
 Ab.borN spec hargs fun r e=>by subst e;exact⟨hr,hk⟩
end
end Go.Abs
namespace Go.Abs
def sl:Bool→Nat→Nat→List AV→AV
 |true,s,n,xs=> .own s n xs
 |false,_,n,xs=> .ro n xs
@[simp] theorem TA (s n:Nat) (xs:List AV):sl true s n xs= .own s n xs:=rfl
@[simp] theorem XK (s n:Nat) (xs:List AV):sl false s n xs= .ro n xs:=rfl
def Af {α:Type} (f:α→List AV):List α→List AV
 | []=> []
 |x::xs=>f x++Af f xs
section
variable {α:Type} (f:α→List AV)
@[simp] theorem XL:Af f []=[]:=rfl
theorem AL (x:α) (xs:List α):Af f (x::xs)=f x++Af f xs:=rfl
theorem Cz (xs ys:List α):Af f (xs++ys)=Af f xs++Af f ys:=by
 induction xs with
 |nil=>rfl
 |cons x xs ih=>simp[AL,ih]
theorem Hp {s:Nat} (h:∀x,(f x).length=s) (xs:List α):(Af f xs).length=xs.length*s:=by
 induction xs with
 |nil=>simp
 |cons x xs ih=>simp[AL,ih,h,Nat.add_mul];omega
theorem JR {s:Nat} (h:∀x,(f x).length=s):∀(k:Nat) (xs:List α),(Af f xs).drop (k*s)=Af f (xs.drop k)
 |0,xs=>by simp
 |k+1,[]=>by simp
 |k+1,x::xs=>by
  rw[AL,show(k+1)*s=(f x).length+k*s by rw[h];rw[Nat.add_mul];omega,List.drop_append]
  simp only[List.drop_succ_cons]
  rw[←JR h k xs]
  simp
theorem E1 {s:Nat} (h:∀x,(f x).length=s):∀(k:Nat) (xs:List α),(Af f xs).take (k*s)=Af f (xs.take k)
 |0,xs=>by simp
 |k+1,[]=>by simp
 |k+1,x::xs=>by
  rw[AL,show(k+1)*s=(f x).length+k*s by rw[h];rw[Nat.add_mul];omega,List.take_append]
  simp only[List.take_succ_cons,AL]
  rw[←E1 h k xs,List.take_of_length_le (by omega)]
  simp
theorem Fy {s:Nat} (h:∀x,(f x).length=s) {k:Nat} {xs:List α} (hk:k<xs.length):(Af f xs).drop (k*s)=f xs[k]++Af f (xs.drop (k+1)):=by
 rw[JR f h,List.drop_eq_getElem_cons hk,AL]
theorem Ga {p:AV→Bool} (h:∀x,(f x).all p=true) (xs:List α):(Af f xs).all p=true:=by
 induction xs with
 |nil=>rfl
 |cons x xs ih=>rw[AL,List.all_append,h,ih];rfl
theorem Gb {g:AV→AV} {f' :α→List AV} (h:∀x,(f x).map g=f' x) (xs:List α):(Af f xs).map g=Af f' xs:=by
 induction xs with
 |nil=>rfl
 |cons x xs ih=>rw[AL,List.map_append,h,ih,AL]
theorem Fj (k:Nat):∀xs,Dd k xs=xs.all (Fx k)
 | []=>by simp[Dd]
 |x::xs=>by simp only[Dd,List.all_cons,Fj k xs]
end
@[ext] structure CL where
  data:ByteArray
  n:Int
  deriving DecidableEq
@[ext] structure Obj where
  id:Int
  base:Int
  data:CL
  deriving DecidableEq
@[ext] structure Cv where
  id:Int
  parent:Int
  base:Int
  data:CL
  at_:Int
  tag:Bool
  gone:Bool
  deriving DecidableEq
@[ext] structure Gr where
  n:Int
  out:List (List Int)
  deriving DecidableEq
@[ext] structure BX where
  kind:Int
  a:Int
  at_:Int
  move:Bool
  list:List Int
  out:List Int
  deriving DecidableEq
@[ext] structure C1 where
  opn:Bool
  pin:Int
  on:Bool
  frm:Int
  stage:Gr
  job:BX
  deriving DecidableEq
@[ext] structure AP where
  keep:Int
  blocks:Int
  vers:List Cv
  sess:List C1
  deriving DecidableEq
def E2 (m:Bool) (xs:List Int):AV:=sl m 1 xs.length (Ad xs)
def Aw (m:Bool) (xs:List (List Int)):List AV:=xs.map (E2 m)
def DX (m:Bool) (xs:List (List Int)):AV:=sl m 1 xs.length (Aw m xs)
def Ch (b:CL):List AV:=[.str b.data,.int .i64 b.n]
def Al (r:Int×Int):List AV:=[.int .i64 r.1,.int .i64 r.2]
def VZ (m:Bool) (l:List (Int×Int)):AV:=sl m 2 l.length (Af Al l)
def Av (o:Obj):List AV:=[.int .i64 o.id,.int .i64 o.base,.str o.data.data,.int .i64 o.data.n]
def A8 (v:Cv):List AV:=[.int .i64 v.id,.int .i64 v.parent,.int .i64 v.base,.str v.data.data,.int .i64 v.data.n,.int .i64 v.at_,.bool v.tag,.bool v.gone]
def AQ (m:Bool) (g:Gr):List AV:=[.int .i64 g.n,DX m g.out]
def BI (m:Bool) (j:BX):List AV:=[.int .i64 j.kind,.int .i64 j.a,.int .i64 j.at_,.bool j.move,E2 m j.list,E2 m j.out]
def AG (m:Bool) (s:C1):List AV:=[.bool s.opn,.int .i64 s.pin,.bool s.on,.int .i64 s.frm,.int .i64 s.stage.n,DX m s.stage.out,.int .i64 s.job.kind,.int .i64 s.job.a,.int .i64 s.job.at_,.bool s.job.move,E2 m s.job.list,E2 m s.job.out]
def V0 (m:Bool) (l:List Obj):AV:=sl m 4 l.length (Af Av l)
def FL (m:Bool) (l:List Cv):AV:=sl m 8 l.length (Af A8 l)
def OE (m:Bool) (l:List C1):AV:=sl m 12 l.length (Af (AG m) l)
def Ay (m:Bool) (s:AP):List AV:=[.int .i64 s.keep,.int .i64 s.blocks,FL m s.vers,OE m s.sess]
end Go.Abs
namespace Go.Abs
def PO (w:World) (g:Nat):Prop:=g<w.heap.size
theorem TB {w:World} {a:Addr} {v:Value} (h:w.cell? a=some v):a.block<w.heap.size:=by
 rcases Nat.lt_or_ge a.block w.heap.size with h1|h1
 .exact h1
 .simp[World.cell?,Array.getElem?_eq_none h1] at h
theorem PP (a:Addr) (i:Nat):(a.add i).block=a.block:=by unfold Addr.add;split<;>rfl
theorem Mj {H:Type} {P:Program} {e:TypeId}:∀{l:List (DataW H)} {d:DataW H},d∈l→∀n∈d.weights P e,n∈DataW.weightsAll P e l
 |d' ::r,d,hd,n,hn=>by
  simp only[DataW.weightsAll,List.mem_append]
  rcases List.mem_cons.1 hd with rfl|h
  .exact .inl hn
  .exact .inr (Mj h n hn)
section
variable {H:Type} {enc:TypeId×Value→H} {P:Program} {w:World} {t e:TypeId}
def AT {α:Type} (enc:TypeId×Value→H) (P:Program) (w:World) (t:TypeId) (f:α→List AV) (good:α→Prop):Prop:=
 ∀fuel cs x,DataW.trod enc P w 0 (fun _=>true) true fuel t cs=some x→(∀n∈x.1.weights P t,n≤reachBytes)→∃a,Aq w (PO w) σ0 (f a) cs (fun _=>0)∧good a
theorem UY (ht:P.underlying t=some (.slice e)) (es sp:List (DataW H)):DataW.weights P t (.slice es sp)=(es.length+sp.length)*P.bytesOf e::(DataW.weightsAll P e es++DataW.weightsAll P e sp):=by simp[DataW.weights,ht]
theorem KX {sh:Nat→Prop} {a:AV} {v:Value} (h:VR w sh σ0 a v (fun _=>0)):Aq w sh σ0 [a] [v] (fun _=>0):=⟨v,[],fun _=>0,fun _=>0,rfl,h,⟨rfl,fun _=>rfl⟩,fun _=>rfl⟩
theorem AT.map {α β:Type} {f:α→List AV} {f' :β→List AV} {good:α→Prop} {good' :β→Prop} (h:AT enc P w t f good) (g:α→β) (hf:∀a,f a=f' (g a)) (hg:∀a,good a→good' (g a)):AT enc P w t f' good' :=fun fuel cs x hx hw=>by
 obtain⟨a,h1,h2⟩:=h fuel cs x hx hw
 exact⟨g a,hf a ▸ h1,hg a h2⟩
theorem AT.int {k:IntKind} (ht:P.underlying t=some (.int k)):AT enc P w t (fun n:Int=> [.int k n]) fun _=>True:=fun fuel cs x hx _=>by
 obtain⟨n,rfl,_,_⟩:=DataW.trod_int ht hx
 exact⟨n,KX ⟨rfl,fun _=>rfl⟩,trivial⟩
theorem AT.bool (ht:P.underlying t=some .bool):AT enc P w t (fun b:Bool=> [.bool b]) fun _=>True:=fun fuel cs x hx _=>by
 obtain⟨b,rfl,_⟩:=DataW.trod_bool ht hx
 exact⟨b,KX ⟨rfl,fun _=>rfl⟩,trivial⟩
theorem AT.str (ht:P.underlying t=some .string):AT enc P w t (fun s:ByteArray=> [.str s]) fun s=>s.size≤reachBytes:=fun fuel cs x hx hw=>by
 obtain⟨s,rfl,rfl,_⟩:=DataW.trod_string ht hx
 refine⟨s,KX ⟨rfl,fun _=>rfl⟩,?_⟩
 have:=hw s.data.toList.length (by simp[DataW.weights])
 simpa using this
theorem AT.len (ht:P.underlying t=some (.slice e)) (hb:0<P.bytesOf e):AT enc P w t (fun n:Nat=> [.ro n []]) fun n=>n≤reachBytes:=fun fuel cs x hx hw=>by
 rcases DataW.trod_slice ht hx with⟨rfl,_⟩ | ⟨a,len,cap,elems,rest,n,rfl,rfl,rfl,_,hlc,_,hel,_⟩
 .exact⟨0,KX ⟨fun _=>rfl,none,0,rfl,Nat.le_refl _,fun _=>rfl,.inl rfl⟩,Nat.zero_le _⟩
 .refine⟨len,KX ⟨fun _=>rfl,some a,cap,rfl,hlc,(by simp),.inl rfl⟩,?_⟩
  have:=hw ((elems.length+rest.length)*P.bytesOf e) (by simp[DataW.weights,ht])
  rw[hel] at this
  have h2:=Nat.le_mul_of_pos_right (len+rest.length) hb
  omega
theorem AT.slice {α:Type} {f:α→List AV} {good:α→Prop} (h:AT enc P w e f good) (ht:P.underlying t=some (.slice e)) (hb:0<P.bytesOf e):AT enc P w t (fun xs:List α=> [.ro xs.length (Af f xs)]) fun xs=>xs.length≤reachBytes∧∀a∈xs,good a:=fun fuel cs x hx hw=>by
 rcases DataW.trod_slice ht hx with⟨rfl,_⟩ | ⟨a,len,cap,elems,rest,n,rfl,rfl,rfl,_,hlc,_,hel,hget,_⟩
 .exact⟨[],KX ⟨fun _=>rfl,none,0,rfl,Nat.le_refl _,fun _=>rfl,.inl rfl⟩,Nat.zero_le _,by simp⟩
 .have hl:=hw ((elems.length+rest.length)*P.bytesOf e) (by simp[DataW.weights,ht])
  rw[hel] at hl
  have h2:=Nat.le_mul_of_pos_right (len+rest.length) hb
  have key:∀m,m≤len→∃(xs:List α) (vs:List Value),xs.length=m∧vs.length=m*P.cellsOf e∧Aq w (PO w) σ0 (Af f xs) vs (fun _=>0)∧DL w a vs∧∀a∈xs,good a:=by
   intro m
   induction m with
   |zero=>intro _;exact⟨[],[],rfl,by simp,⟨rfl,fun _=>rfl⟩,by intro i v hv;simp at hv,by simp⟩
   |succ m ih=>
    intro hm
    obtain⟨xs,vs,e1,e2,h3,h4,h5⟩:=ih (by omega)
    have hmlt:m<elems.length:=by omega
    have hg:=hget m (by omega)
    rw[List.getElem?_eq_getElem hmlt] at hg
    obtain⟨cs',hc,hx'⟩:=Option.bind_eq_some_iff.1 hg
    obtain⟨b,hv,hgood⟩:=h n cs' _ hx' (fun k hk=>hw k (by
     rw[UY ht]
     exact List.mem_cons_of_mem _ (List.mem_append_left _ (Mj (List.mem_map.2 ⟨_,List.getElem_mem hmlt,rfl⟩) k hk))))
    have hcl:cs'.length=P.cellsOf e:=by
     unfold World.cells? at hc
     rw[if_pos (Nat.zero_le _)] at hc
     simpa using mapM_some_length hc
    refine⟨xs++[b],vs++cs',by simp[e1],by simp[e2,hcl,Nat.add_mul],?_,?_,?_⟩
    .have:Af f (xs++[b])=Af f xs++f b:=by rw[Cz];simp[Af]
     rw[this]
     exact DO h3 hv
    .intro i v hiv
     rcases Nat.lt_or_ge i vs.length with hlt|hge
     .exact h4 i v (by rwa [List.getElem?_append_left hlt] at hiv)
     .rw[List.getElem?_append_right hge] at hiv
      unfold World.cells? at hc
      rw[if_pos (Nat.zero_le _)] at hc
      have hi' :i-vs.length<P.cellsOf e:=by
       rw[←hcl]
       rcases Nat.lt_or_ge (i-vs.length) cs'.length with h9|h9
       .exact h9
       .rw[List.getElem?_eq_none h9] at hiv;simp at hiv
      have:=mapM_some_get hc (i-vs.length) (i-vs.length) (by simp[hi'])
      rw[hiv,Addr.add_assoc] at this
      rw[←this]
      congr 2
      omega
    .intro c hc'
     rcases List.mem_append.1 hc' with h9|h9
     .exact h5 c h9
     .simp at h9;subst h9;exact hgood
  obtain⟨xs,vs,e1,e2,h3,h4,h5⟩:=key len (Nat.le_refl _)
  refine⟨xs,KX ⟨fun _=>rfl,some a,cap,by rw[e1],by omega,(by simp),?_⟩,by omega,h5⟩
  cases hvs:vs with
  |nil=>
   left
   rw[hvs] at h3
   have:=Bu h3
   exact List.length_eq_zero_iff.1 (by simpa using this.symm)
  |cons v vs' =>
   right
   refine⟨a,vs,rfl,?_,h4,h3⟩
   have:=TB (h4 0 v (by rw[hvs];rfl))
   rwa [PP] at this
def Kv {α:Type} (enc:TypeId×Value→H) (P:Program) (w:World) (fs:List Field) (off:Nat) (f:α→List AV) (good:α→Prop):Prop:=
 ∀(cs:List Value) (k:Nat) (xs:List (DataW H×List MemPlace)),xs.length=fs.length→(∀(i:Nat) (fd:Field),fs[i]?=some fd→DataW.trod enc P w 0 (fun _=>true) true k fd.type ((cs.drop fd.offset).take (P.cellsOf fd.type))=xs[i]?)→(∀(i:Nat) (fd:Field) (x:DataW H×List MemPlace),fs[i]?=some fd→xs[i]?=some x→∀n∈x.1.weights P fd.type,n≤reachBytes)→
  cs.length=off+(fs.map fun fd=>P.cellsOf fd.type).sum→∃a,Aq w (PO w) σ0 (f a) (cs.drop off) (fun _=>0)∧good a
theorem Kv.nil {off:Nat}:Kv enc P w [] off (fun _:Unit=> []) fun _=>True:=fun cs k xs _ _ _ hl=>⟨(),by
 have:cs.drop off=[]:=List.drop_eq_nil_of_le (by simp at hl;omega)
 rw[this];exact⟨rfl,fun _=>rfl⟩,trivial⟩
theorem Kv.cons {α β:Type} {fd:Field} {fs:List Field} {off s:Nat} {f:α→List AV} {g:β→List AV} {good:α→Prop} {good' :β→Prop} (h:AT enc P w fd.type f good) (hsz:P.cellsOf fd.type=s) (ho:fd.offset=off) (hs:Kv enc P w fs (off+s) g good'):Kv enc P w (fd::fs) off (fun x:α×β=>f x.1++g x.2) fun x=>good x.1∧good' x.2:=fun cs k xs hxl hx hw hl=>by
 subst hsz
 cases xs with
 |nil=>simp at hxl
 |cons x xs=>
  have h0:=hx 0 fd rfl
  obtain⟨a,h1,h2⟩:=h k _ x h0 (hw 0 fd x rfl rfl)
  obtain⟨b,h3,h4⟩:=hs cs k xs (by simpa using hxl) (fun i fd' hi=>hx (i+1) fd' (by simpa using hi)) (fun i fd' x' hi hx' =>hw (i+1) fd' x' (by simpa using hi) (by simpa using hx')) (by simp at hl;omega)
  refine⟨(a,b),?_,h2,h4⟩
  have:cs.drop off=(cs.drop fd.offset).take (P.cellsOf fd.type)++cs.drop (off+P.cellsOf fd.type):=by
   rw[ho,←List.drop_drop,List.take_append_drop]
  rw[this]
  exact DO h1 h3
theorem AT.struct {α:Type} {fs:Array Field} {f:α→List AV} {good:α→Prop} (ht:P.underlying t=some (.struct fs)) (h:Kv enc P w fs.toList 0 f good) (hc:P.cellsOf t=(fs.toList.map fun fd=>P.cellsOf fd.type).sum):AT enc P w t f good:=fun fuel cs x hx hw=>by
 obtain⟨xs,n,_,rfl,hl,hxl,hget⟩:=DataW.trod_struct ht hx
 obtain⟨a,h1,h2⟩:=h cs n xs (by simpa using hxl) (fun i fd hi=>hget i fd (by simpa using hi)) (fun i fd y hi hy k hk=>hw k (by
  simp only[DataW.weights,ht]
  exact DataW.weights_mem_each (j:=i) (by simp[hi]) (by simp[hy]) k hk)) (by rw[hl,hc];omega)
 exact⟨a,by simpa using h1,h2⟩
end
end Go.Abs
namespace Go.Abs
attribute [simp] E2 DX V0 FL OE VZ Ch Av A8 AQ BI AG Ay
theorem Hq {α:Type} (f:α→List AV) (h:∀x,Ey (f x)=true) (xs:List α):Ey (Af f xs)=true:=Ga f h xs
theorem Hr {α:Type} (f:α→List AV) (h:∀x,Ez (f x)=true) (xs:List α):Ez (Af f xs)=true:=Ga f h xs
theorem Hu {α:Type} (f:α→List AV) (h:∀x,D2 (f x)=true) (xs:List α):D2 (Af f xs)=true:=Ga f h xs
theorem Hv {α:Type} (f:α→List AV) (k:Nat) (h:∀x,Dd k (f x)=true) (xs:List α):Dd k (Af f xs)=true:=by
 rw[Fj];exact Ga f (fun x=>by rw[←Fj];exact h x) xs
theorem Gt {α:Type} (f:α→List AV) (h:∀x,Cy (f x)=true) (xs:List α):Cy (Af f xs)=true:=by
 rw[Jb];exact Ga f (fun x=>by rw[←Jb];exact h x) xs
theorem Hw {α:Type} (f f' :α→List AV) (h:∀x,Ep (f x)=f' x) (xs:List α):Ep (Af f xs)=Af f' xs:=by
 rw[EO];exact Gb f (fun x=>by rw[←EO];exact h x) xs
@[simp] theorem Y2 (M:List Ag) (k:Nat):B6 M k .any= .any:=by cases k<;>simp
@[simp] theorem XM (M:List Ag) (k:Nat) (b:Bool):B6 M k (.bool b)= .bool b:=by cases k<;>simp
@[simp] theorem Y3 (M:List Ag) (k:Nat) (q:IntKind) (n:Int):B6 M k (.int q n)= .int q n:=by cases k<;>simp
@[simp] theorem Y4 (M:List Ag) (k:Nat) (b:ByteArray):B6 M k (.str b)= .str b:=by cases k<;>simp
@[simp] theorem Z3 (M:List Ag) (k n:Nat) (xs:List AV):B6 M k (.ro n xs)= .ro n xs:=by cases k<;>simp
@[simp] theorem Y5 (M:List Ag) (k s n:Nat) (xs:List AV):B6 M k (.own s n xs)= .ro n (Ep xs):=by cases k<;>simp
@[simp] theorem Z4 (m:Bool) (s n:Nat) (xs:List AV):DV (sl m s n xs)=(if m=true then .ro n (Ep xs) else .ro n xs):=by cases m<;>simp
@[simp] theorem Z5 (M:List Ag) (k:Nat) (m:Bool) (s n:Nat) (xs:List AV):B6 M k (sl m s n xs)=(if m=true then .ro n (Ep xs) else .ro n xs):=by cases m<;>simp
@[simp] theorem XN (m:Bool) (s n:Nat) (xs:List AV):BG (sl m s n xs)=true:=by cases m<;>simp
@[simp] theorem ah (m:Bool) (s n:Nat) (xs:List AV):tf (sl m s n xs)=true:=by cases m<;>simp
@[simp] theorem ai (m:Bool) (k s n:Nat) (xs:List AV):Fx k (sl m s n xs)=true:=by cases m<;>simp
section
variable (xs ys:List (List Int)) (m:Bool) (M:List Ag) (k:Nat)
@[simp] theorem Wt (i:Nat):(Aw m xs)[i]?=(xs[i]?).map (E2 m):=by simp[Aw]
@[simp] theorem Wu:(Aw m xs).length=xs.length:=by simp[Aw]
@[simp] theorem Wv:Aw m []=[]:=rfl
theorem Dw (x:List Int):Aw m (x::xs)=E2 m x::Aw m xs:=rfl
theorem PQ:Aw m (xs++ys)=Aw m xs++Aw m ys:=by simp[Aw]
@[simp] theorem Hx:(Aw m xs).take k=Aw m (xs.take k):=by simp[Aw,List.map_take]
@[simp] theorem V1:(Aw m xs).drop k=Aw m (xs.drop k):=by simp[Aw,List.map_drop]
@[simp] theorem XO:Ey (Aw false xs)=true:=by induction xs<;>simp_all[Dw]
@[simp] theorem XP:Ez (Aw m xs)=true:=by induction xs<;>simp_all[Dw]
@[simp] theorem XQ:D2 (Aw m xs)=true:=by induction xs<;>simp_all[Dw]
@[simp] theorem XR:Dd k (Aw m xs)=true:=by induction xs<;>simp_all[Dw]
@[simp] theorem Ww:Cy (Aw true xs)=true:=by induction xs<;>simp_all[Dw]
@[simp] theorem PR:Ep (Aw m xs)=Aw false xs:=by induction xs<;>cases m<;>simp_all[Dw]
@[simp] theorem Wx:(Aw m xs).map DV=Aw false xs:=by rw[←EO];exact PR xs m
@[simp] theorem Wy:(Aw m xs).map (B6 M k)=Aw false xs:=by induction xs<;>cases m<;>simp_all[Dw]
end
section
variable (xs ys:List (Int×Int)) (m:Bool) (M:List Ag) (k:Nat)
@[simp] theorem XS:(Af Al xs).length=xs.length*2:=Hp _ (fun x=>by simp[Al]) xs
@[simp] theorem Wz (h:k<xs.length):(Af Al xs).drop (k*2)=Al xs[k]++Af Al (xs.drop (k+1)):=Fy _ (fun x=>by simp[Al]) h
@[simp] theorem WA:(Af Al xs).take (k*2)=Af Al (xs.take k):=E1 _ (fun x=>by simp[Al]) k xs
@[simp] theorem Y6:Ey (Af Al xs)=true:=Hq _ (fun x=>by simp[Al]) xs
@[simp] theorem Y7:Ez (Af Al xs)=true:=Hr _ (fun x=>by simp[Al]) xs
@[simp] theorem Y8:D2 (Af Al xs)=true:=Hu _ (fun x=>by simp[Al]) xs
@[simp] theorem Y9:Dd k (Af Al xs)=true:=Hv _ k (fun x=>by simp[Al]) xs
@[simp] theorem XT:Cy (Af Al xs)=true:=Gt _ (fun x=>by simp[Al]) xs
@[simp] theorem Ra:Ep (Af Al xs)=Af Al xs:=Hw _ _ (fun x=>by simp[Al]) xs
@[simp] theorem XU:(Af Al xs).map DV=Af Al xs:=by rw[←EO];exact Ra xs
@[simp] theorem XV:(Af Al xs).map (B6 M k)=Af Al xs:=Gb _ (fun x=>by simp[Al]) xs
end
section
variable (xs ys:List Obj) (m:Bool) (M:List Ag) (k:Nat)
@[simp] theorem XW:(Af Av xs).length=xs.length*4:=Hp _ (fun x=>by simp[Av]) xs
@[simp] theorem WB (h:k<xs.length):(Af Av xs).drop (k*4)=Av xs[k]++Af Av (xs.drop (k+1)):=Fy _ (fun x=>by simp[Av]) h
@[simp] theorem WC:(Af Av xs).take (k*4)=Af Av (xs.take k):=E1 _ (fun x=>by simp[Av]) k xs
@[simp] theorem Za:Ey (Af Av xs)=true:=Hq _ (fun x=>by simp[Av]) xs
@[simp] theorem Zb:Ez (Af Av xs)=true:=Hr _ (fun x=>by simp[Av]) xs
@[simp] theorem Zc:D2 (Af Av xs)=true:=Hu _ (fun x=>by simp[Av]) xs
@[simp] theorem Zd:Dd k (Af Av xs)=true:=Hv _ k (fun x=>by simp[Av]) xs
@[simp] theorem XX:Cy (Af Av xs)=true:=Gt _ (fun x=>by simp[Av]) xs
@[simp] theorem Rb:Ep (Af Av xs)=Af Av xs:=Hw _ _ (fun x=>by simp[Av]) xs
@[simp] theorem XY:(Af Av xs).map DV=Af Av xs:=by rw[←EO];exact Rb xs
@[simp] theorem XZ:(Af Av xs).map (B6 M k)=Af Av xs:=Gb _ (fun x=>by simp[Av]) xs
end
section
variable (xs ys:List Cv) (m:Bool) (M:List Ag) (k:Nat)
@[simp] theorem X0:(Af A8 xs).length=xs.length*8:=Hp _ (fun x=>by simp[A8]) xs
@[simp] theorem WD (h:k<xs.length):(Af A8 xs).drop (k*8)=A8 xs[k]++Af A8 (xs.drop (k+1)):=Fy _ (fun x=>by simp[A8]) h
@[simp] theorem WE:(Af A8 xs).take (k*8)=Af A8 (xs.take k):=E1 _ (fun x=>by simp[A8]) k xs
@[simp] theorem Ze:Ey (Af A8 xs)=true:=Hq _ (fun x=>by simp[A8]) xs
@[simp] theorem Zf:Ez (Af A8 xs)=true:=Hr _ (fun x=>by simp[A8]) xs
@[simp] theorem Zg:D2 (Af A8 xs)=true:=Hu _ (fun x=>by simp[A8]) xs
@[simp] theorem Zh:Dd k (Af A8 xs)=true:=Hv _ k (fun x=>by simp[A8]) xs
@[simp] theorem X1:Cy (Af A8 xs)=true:=Gt _ (fun x=>by simp[A8]) xs
@[simp] theorem Rc:Ep (Af A8 xs)=Af A8 xs:=Hw _ _ (fun x=>by simp[A8]) xs
@[simp] theorem X2:(Af A8 xs).map DV=Af A8 xs:=by rw[←EO];exact Rc xs
@[simp] theorem X3:(Af A8 xs).map (B6 M k)=Af A8 xs:=Gb _ (fun x=>by simp[A8]) xs
end
section
variable (xs ys:List C1) (m:Bool) (M:List Ag) (k:Nat)
@[simp] theorem X4:(Af (AG m) xs).length=xs.length*12:=Hp _ (fun x=>by simp[AG]) xs
@[simp] theorem WF (h:k<xs.length):(Af (AG m) xs).drop (k*12)=(AG m) xs[k]++Af (AG m) (xs.drop (k+1)):=Fy _ (fun x=>by simp[AG]) h
@[simp] theorem WG:(Af (AG m) xs).take (k*12)=Af (AG m) (xs.take k):=E1 _ (fun x=>by simp[AG]) k xs
@[simp] theorem Zi:Ey (Af (AG false) xs)=true:=Hq _ (fun x=>by simp[AG]) xs
@[simp] theorem Zj:Ez (Af (AG m) xs)=true:=Hr _ (fun x=>by simp[AG]) xs
@[simp] theorem Zk:D2 (Af (AG m) xs)=true:=Hu _ (fun x=>by simp[AG]) xs
@[simp] theorem Zl:Dd k (Af (AG m) xs)=true:=Hv _ k (fun x=>by simp[AG]) xs
@[simp] theorem X5:Cy (Af (AG true) xs)=true:=Gt _ (fun x=>by simp[AG]) xs
@[simp] theorem Re:Ep (Af (AG m) xs)=Af (AG false) xs:=Hw _ _ (fun x=>by cases m<;>simp[AG]) xs
@[simp] theorem X6:(Af (AG m) xs).map DV=Af (AG false) xs:=by rw[←EO];exact Re xs m
@[simp] theorem X7:(Af (AG m) xs).map (B6 M k)=Af (AG false) xs:=Gb _ (fun x=>by cases m<;>simp[AG]) xs
end
end Go.Abs
set_option maxRecDepth 100000
namespace Go.Abs
def tL:List (Option TI):=[
 none,
 none,
 some ⟨false,1,8,[.int .i64 0],.int .i64,false⟩,
 some ⟨false,1,8,[.int .i64 0],.int .i64,false⟩,
 some ⟨false,1,1,[.bool false],.bool,false⟩,
 some ⟨false,1,1,[.int .u8 0],.int .u8,false⟩,
 some ⟨false,1,1,[.int .u8 0],.int .u8,false⟩,
 some ⟨true,4,24,[.int .i64 0,.int .i64 0,.bool false,.int .u8 0],.struct [(0,1,false),(1,1,false),(2,1,false),(3,1,false)],false⟩,
 some ⟨true,4,24,[.int .i64 0,.int .i64 0,.bool false,.int .u8 0],.struct [(0,1,false),(1,1,false),(2,1,false),(3,1,false)],false⟩,
 some ⟨false,1,16,[.str ByteArray.empty],.str,false⟩,
 some ⟨false,1,16,[.str ByteArray.empty],.str,false⟩,
 some ⟨false,1,16,[.str ByteArray.empty],.str,false⟩,
 some ⟨false,1,8,[.int .u64 0],.int .u64,false⟩,
 some ⟨true,2,24,[.str ByteArray.empty,.int .u64 0],.struct [(0,1,false),(1,1,false)],false⟩,
 some ⟨true,2,24,[.str ByteArray.empty,.int .u64 0],.struct [(0,1,false),(1,1,false)],false⟩,
 some ⟨false,1,8,[.nilp],.ptr,false⟩,
 some ⟨false,1,8,[.nilp],.ptr,false⟩,
 some ⟨false,1,8,[.nilp],.ptr,false⟩,
 some ⟨true,1,8,[.nilp],.struct [(0,1,false)],false⟩,
 some ⟨true,1,8,[.nilp],.struct [(0,1,false)],false⟩,
 none,
 some ⟨false,1,4,[.int .i32 0],.int .i32,false⟩,
 some ⟨false,1,24,[.own 4 0 []],.slice 38 4 64 [.int .i64 0,.int .i64 0,.own 8 0 [],.own 12 0 []],false⟩,
 some ⟨false,1,24,[.own 1 0 []],.slice 65 1 24 [.own 4 0 []],false⟩,
 some ⟨false,1,24,[.own 2 0 []],.slice 51 2 32 [.int .i64 0,.own 1 0 []],false⟩,
 some ⟨false,1,24,[.own 3 0 []],.slice 301 3 24 [.int .i64 0,.int .i64 0,.int .i64 0],false⟩,
 some ⟨true,2,48,[.own 2 0 [],.own 3 0 []],.struct [(0,1,false),(1,1,false)],false⟩,
 some ⟨true,2,48,[.own 2 0 [],.own 3 0 []],.struct [(0,1,false),(1,1,false)],false⟩,
 some ⟨false,1,24,[.own 1 0 []],.slice 3 1 8 [.int .i64 0],false⟩,
 some ⟨true,4,96,[.own 1 0 [],.own 2 0 [],.own 3 0 [],.own 1 0 []],.struct [(0,1,false),(1,2,true),(3,1,false)],false⟩,
 some ⟨true,4,96,[.own 1 0 [],.own 2 0 [],.own 3 0 [],.own 1 0 []],.struct [(0,1,false),(1,2,true),(3,1,false)],false⟩,
 some ⟨true,5,120,[.own 4 0 [],.own 1 0 [],.own 2 0 [],.own 3 0 [],.own 1 0 []],.struct [(0,1,false),(1,4,true)],false⟩,
 some ⟨true,5,120,[.own 4 0 [],.own 1 0 [],.own 2 0 [],.own 3 0 [],.own 1 0 []],.struct [(0,1,false),(1,4,true)],false⟩,
 none,
 none,
 some ⟨false,1,24,[.own 8 0 []],.slice 42 8 64 [.int .i64 0,.int .i64 0,.int .i64 0,.str ByteArray.empty,.int .i64 0,.int .i64 0,.bool false,.bool false],false⟩,
 some ⟨false,1,24,[.own 12 0 []],.slice 55 12 144 [.bool false,.int .i64 0,.bool false,.int .i64 0,.int .i64 0,.own 1 0 [],.int .i64 0,.int .i64 0,.int .i64 0,.bool false,.own 1 0 [],.own 1 0 []],false⟩,
 some ⟨true,4,64,[.int .i64 0,.int .i64 0,.own 8 0 [],.own 12 0 []],.struct [(0,1,false),(1,1,false),(2,1,false),(3,1,false)],false⟩,
 some ⟨true,4,64,[.int .i64 0,.int .i64 0,.own 8 0 [],.own 12 0 []],.struct [(0,1,false),(1,1,false),(2,1,false),(3,1,false)],false⟩,
 some ⟨true,2,24,[.str ByteArray.empty,.int .i64 0],.struct [(0,1,false),(1,1,false)],false⟩,
 some ⟨true,2,24,[.str ByteArray.empty,.int .i64 0],.struct [(0,1,false),(1,1,false)],true⟩,
 some ⟨true,8,64,[.int .i64 0,.int .i64 0,.int .i64 0,.str ByteArray.empty,.int .i64 0,.int .i64 0,.bool false,.bool false],.struct [(0,1,false),(1,1,false),(2,1,false),(3,2,true),(5,1,false),(6,1,false),(7,1,false)],false⟩,
 some ⟨true,8,64,[.int .i64 0,.int .i64 0,.int .i64 0,.str ByteArray.empty,.int .i64 0,.int .i64 0,.bool false,.bool false],.struct [(0,1,false),(1,1,false),(2,1,false),(3,2,true),(5,1,false),(6,1,false),(7,1,false)],true⟩,
 none,
 some ⟨false,1,8,[.int .i64 0],.int .i64,false⟩,
 none,
 none,
 none,
 none,
 some ⟨false,1,24,[.own 1 0 []],.slice 28 1 24 [.own 1 0 []],false⟩,
 some ⟨true,2,32,[.int .i64 0,.own 1 0 []],.struct [(0,1,false),(1,1,false)],false⟩,
 some ⟨true,2,32,[.int .i64 0,.own 1 0 []],.struct [(0,1,false),(1,1,false)],false⟩,
 some ⟨true,6,80,[.int .i64 0,.int .i64 0,.int .i64 0,.bool false,.own 1 0 [],.own 1 0 []],.struct [(0,1,false),(1,1,false),(2,1,false),(3,1,false),(4,1,false),(5,1,false)],false⟩,
 some ⟨true,6,80,[.int .i64 0,.int .i64 0,.int .i64 0,.bool false,.own 1 0 [],.own 1 0 []],.struct [(0,1,false),(1,1,false),(2,1,false),(3,1,false),(4,1,false),(5,1,false)],false⟩,
 some ⟨true,12,144,[.bool false,.int .i64 0,.bool false,.int .i64 0,.int .i64 0,.own 1 0 [],.int .i64 0,.int .i64 0,.int .i64 0,.bool false,.own 1 0 [],.own 1 0 []],.struct [(0,1,false),(1,1,false),(2,1,false),(3,1,false),(4,2,true),(6,6,true)],false⟩,
 some ⟨true,12,144,[.bool false,.int .i64 0,.bool false,.int .i64 0,.int .i64 0,.own 1 0 [],.int .i64 0,.int .i64 0,.int .i64 0,.bool false,.own 1 0 [],.own 1 0 []],.struct [(0,1,false),(1,1,false),(2,1,false),(3,1,false),(4,2,true),(6,6,true)],false⟩,
 none,
 none,
 none,
 some ⟨true,4,40,[.int .i64 0,.int .i64 0,.str ByteArray.empty,.int .i64 0],.struct [(0,1,false),(1,1,false),(2,2,true)],false⟩,
 some ⟨true,4,40,[.int .i64 0,.int .i64 0,.str ByteArray.empty,.int .i64 0],.struct [(0,1,false),(1,1,false),(2,2,true)],true⟩,
 none,
 none,
 none,
 none,
 some ⟨false,1,24,[.own 4 0 []],.slice 60 4 40 [.int .i64 0,.int .i64 0,.str ByteArray.empty,.int .i64 0],false⟩,
 none,
 none,
 none,
 none,
 none,
 some ⟨false,1,24,[.own 2 0 []],.slice 121 2 16 [.int .i64 0,.int .i64 0],false⟩,
 none,
 none,
 none,
 none,
 none,
 none,
 none,
 none,
 none,
 none,
 none,
 none,
 none,
 none,
 none,
 none,
 none,
 none,
 none,
 none,
 none,
 none,
 none,
 none,
 none,
 none,
 none,
 none,
 none,
 none,
 some ⟨true,2,16,[.int .i64 0,.int .i64 0],.struct [(0,1,false),(1,1,false)],false⟩,
 some ⟨true,2,16,[.int .i64 0,.int .i64 0],.struct [(0,1,false),(1,1,false)],true⟩,
 none,
 none,
 none,
 none,
 none,
 none,
 none,
 none,
 none,
 none,
 none,
 none,
 none,
 none,
 none,
 none,
 some ⟨true,2,16,[.int .i64 0,.int .i64 0],.struct [(0,1,false),(1,1,false)],false⟩,
 some ⟨true,2,16,[.int .i64 0,.int .i64 0],.struct [(0,1,false),(1,1,false)],true⟩,
 none,
 none,
 none,
 none,
 none,
 none,
 none,
 none,
 some ⟨false,1,8,[.int .u64 0],.int .u64,false⟩,
 none,
 none,
 none,
 none,
 none,
 none,
 none,
 none,
 none,
 none,
 none,
 none,
 some ⟨false,1,24,[.own 1 0 []],.slice 5 1 1 [.int .u8 0],false⟩,
 some ⟨false,1,24,[.own 1 0 []],.slice 5 1 1 [.int .u8 0],false⟩,
 none,
 none,
 none,
 none,
 none,
 none,
 none,
 none,
 none,
 some ⟨false,1,8,[.nilp],.ptr,false⟩,
 none,
 some ⟨false,1,24,[.own 1 0 []],.slice 4 1 1 [.bool false],false⟩,
 none,
 none,
 none,
 none,
 none,
 none,
 none,
 none,
 none,
 none,
 none,
 none,
 none,
 none,
 some ⟨false,1,8,[.nilp],.ptr,false⟩,
 none,
 none,
 none,
 none,
 none,
 none,
 none,
 none,
 none,
 none,
 none,
 none,
 none,
 none,
 none,
 none,
 none,
 none,
 none,
 none,
 none,
 none,
 none,
 none,
 none,
 none,
 none,
 none,
 none,
 none,
 none,
 none,
 none,
 none,
 none,
 none,
 none,
 none,
 none,
 none,
 none,
 none,
 none,
 none,
 none,
 none,
 none,
 none,
 none,
 none,
 none,
 none,
 none,
 some ⟨false,1,8,[.nilp],.ptr,false⟩,
 none,
 none,
 none,
 none,
 none,
 none,
 some ⟨true,2,32,[.own 1 0 [],.int .i64 0],.struct [(0,1,false),(1,1,false)],false⟩,
 some ⟨true,2,32,[.own 1 0 [],.int .i64 0],.struct [(0,1,false),(1,1,false)],false⟩,
 none,
 none,
 some ⟨true,16,16,[.bool false,.bool false,.bool false,.bool false,.bool false,.bool false,.bool false,.bool false,.bool false,.bool false,.bool false,.bool false,.bool false,.bool false,.bool false,.bool false],.array 16 4 1,false⟩,
 none,
 none,
 none,
 some ⟨false,1,8,[.nilp],.ptr,false⟩,
 none,
 none,
 none,
 none,
 none,
 none,
 none,
 none,
 none,
 none,
 none,
 none,
 some ⟨false,1,8,[.nilp],.ptr,false⟩,
 some ⟨true,4,40,[.str ByteArray.empty,.int .i64 0,.int .i64 0,.bool false],.struct [(0,2,true),(2,1,false),(3,1,false)],false⟩,
 some ⟨true,4,40,[.str ByteArray.empty,.int .i64 0,.int .i64 0,.bool false],.struct [(0,2,true),(2,1,false),(3,1,false)],true⟩,
 none,
 none,
 none,
 none,
 some ⟨false,1,4,[.int .u32 0],.int .u32,false⟩,
 none,
 some ⟨false,1,8,[.int .u64 0],.int .u64,false⟩,
 none,
 none,
 none,
 none,
 none,
 some ⟨false,1,8,[.int .i64 0],.int .i64,false⟩,
 none,
 none,
 none,
 none,
 none,
 none,
 none,
 none,
 none,
 some ⟨false,1,8,[.int .u64 0],.int .u64,false⟩,
 none,
 none,
 none,
 some ⟨false,1,8,[.nilp],.ptr,false⟩,
 none,
 some ⟨false,1,8,[.nilp],.ptr,false⟩,
 none,
 none,
 some ⟨true,4,40,[.nilp,.nilp,.nilp,.str ByteArray.empty],.struct [(0,1,false),(1,1,false),(2,1,false),(3,1,false)],false⟩,
 some ⟨true,4,40,[.nilp,.nilp,.nilp,.str ByteArray.empty],.struct [(0,1,false),(1,1,false),(2,1,false),(3,1,false)],false⟩,
 some ⟨true,0,0,[],.array 0 16 1,false⟩,
 none,
 none,
 some ⟨false,1,1,[.int .u8 0],.int .u8,false⟩,
 some ⟨false,1,1,[.int .u8 0],.int .u8,false⟩,
 none,
 some ⟨false,1,8,[.nilp],.ptr,false⟩,
 some ⟨false,1,4,[.int .i32 0],.int .i32,false⟩,
 some ⟨false,1,4,[.int .i32 0],.int .i32,false⟩,
 none,
 none,
 some ⟨true,3,24,[.int .i64 0,.int .i64 0,.int .i64 0],.struct [(0,1,false),(1,1,false),(2,1,false)],false⟩,
 some ⟨true,3,24,[.int .i64 0,.int .i64 0,.int .i64 0],.struct [(0,1,false),(1,1,false),(2,1,false)],true⟩,
 none
]
def tT (t:Nat):Option TI:=match tL[t]? with|some x=>x|none=>none
noncomputable abbrev pg:Program:=Go.Proofs.Tryz.prog
theorem Z6:((List.range 303).all fun t=>match tT t with|some i=>T3 pg t i|none=>true)=true:=by kernel_rfl
theorem tk:Bx pg tT:=fun t i h=>by
 have hl:t<303:=by
  rcases Nat.lt_or_ge t 303 with h1|h1
  .exact h1
  .have h2:tL[t]?=none:=List.getElem?_eq_none h1
   simp[tT,h2] at h
 have:=List.all_eq_true.1 Z6 t (List.mem_range.2 hl)
 rw[h] at this;exact this
@[simp] theorem dI:tT 2=some ⟨false,1,8,[.int .i64 0],.int .i64,false⟩:=rfl
@[simp] theorem dJ:An tT 2= .int .i64:=rfl
@[simp] theorem dK:tT 3=some ⟨false,1,8,[.int .i64 0],.int .i64,false⟩:=rfl
@[simp] theorem dL:An tT 3= .int .i64:=rfl
@[simp] theorem dM:tT 4=some ⟨false,1,1,[.bool false],.bool,false⟩:=rfl
@[simp] theorem dN:An tT 4= .bool:=rfl
@[simp] theorem dO:tT 5=some ⟨false,1,1,[.int .u8 0],.int .u8,false⟩:=rfl
@[simp] theorem dP:An tT 5= .int .u8:=rfl
@[simp] theorem dQ:tT 6=some ⟨false,1,1,[.int .u8 0],.int .u8,false⟩:=rfl
@[simp] theorem dR:An tT 6= .int .u8:=rfl
@[simp] theorem dS:tT 7=some ⟨true,4,24,[.int .i64 0,.int .i64 0,.bool false,.int .u8 0],.struct [(0,1,false),(1,1,false),(2,1,false),(3,1,false)],false⟩:=rfl
@[simp] theorem dT:An tT 7= .struct [(0,1,false),(1,1,false),(2,1,false),(3,1,false)]:=rfl
@[simp] theorem dU:tT 8=some ⟨true,4,24,[.int .i64 0,.int .i64 0,.bool false,.int .u8 0],.struct [(0,1,false),(1,1,false),(2,1,false),(3,1,false)],false⟩:=rfl
@[simp] theorem dV:An tT 8= .struct [(0,1,false),(1,1,false),(2,1,false),(3,1,false)]:=rfl
@[simp] theorem dW:tT 9=some ⟨false,1,16,[.str ByteArray.empty],.str,false⟩:=rfl
@[simp] theorem dX:An tT 9= .str:=rfl
@[simp] theorem bP:tT 10=some ⟨false,1,16,[.str ByteArray.empty],.str,false⟩:=rfl
@[simp] theorem bQ:An tT 10= .str:=rfl
@[simp] theorem bR:tT 11=some ⟨false,1,16,[.str ByteArray.empty],.str,false⟩:=rfl
@[simp] theorem bS:An tT 11= .str:=rfl
@[simp] theorem bT:tT 12=some ⟨false,1,8,[.int .u64 0],.int .u64,false⟩:=rfl
@[simp] theorem bU:An tT 12= .int .u64:=rfl
@[simp] theorem bV:tT 13=some ⟨true,2,24,[.str ByteArray.empty,.int .u64 0],.struct [(0,1,false),(1,1,false)],false⟩:=rfl
@[simp] theorem bW:An tT 13= .struct [(0,1,false),(1,1,false)]:=rfl
@[simp] theorem bX:tT 14=some ⟨true,2,24,[.str ByteArray.empty,.int .u64 0],.struct [(0,1,false),(1,1,false)],false⟩:=rfl
@[simp] theorem bY:An tT 14= .struct [(0,1,false),(1,1,false)]:=rfl
@[simp] theorem bZ:tT 15=some ⟨false,1,8,[.nilp],.ptr,false⟩:=rfl
@[simp] theorem b7:An tT 15= .ptr:=rfl
@[simp] theorem b9:tT 16=some ⟨false,1,8,[.nilp],.ptr,false⟩:=rfl
@[simp] theorem cb:An tT 16= .ptr:=rfl
@[simp] theorem cc:tT 17=some ⟨false,1,8,[.nilp],.ptr,false⟩:=rfl
@[simp] theorem cd:An tT 17= .ptr:=rfl
@[simp] theorem ce:tT 18=some ⟨true,1,8,[.nilp],.struct [(0,1,false)],false⟩:=rfl
@[simp] theorem cf:An tT 18= .struct [(0,1,false)]:=rfl
@[simp] theorem cj:tT 19=some ⟨true,1,8,[.nilp],.struct [(0,1,false)],false⟩:=rfl
@[simp] theorem ck:An tT 19= .struct [(0,1,false)]:=rfl
@[simp] theorem cm:tT 21=some ⟨false,1,4,[.int .i32 0],.int .i32,false⟩:=rfl
@[simp] theorem cn:An tT 21= .int .i32:=rfl
@[simp] theorem co:tT 22=some ⟨false,1,24,[.own 4 0 []],.slice 38 4 64 [.int .i64 0,.int .i64 0,.own 8 0 [],.own 12 0 []],false⟩:=rfl
@[simp] theorem cp:An tT 22= .slice 38 4 64 [.int .i64 0,.int .i64 0,.own 8 0 [],.own 12 0 []]:=rfl
@[simp] theorem cq:tT 23=some ⟨false,1,24,[.own 1 0 []],.slice 65 1 24 [.own 4 0 []],false⟩:=rfl
@[simp] theorem cr:An tT 23= .slice 65 1 24 [.own 4 0 []]:=rfl
@[simp] theorem ct:tT 24=some ⟨false,1,24,[.own 2 0 []],.slice 51 2 32 [.int .i64 0,.own 1 0 []],false⟩:=rfl
@[simp] theorem cu:An tT 24= .slice 51 2 32 [.int .i64 0,.own 1 0 []]:=rfl
@[simp] theorem cx:tT 25=some ⟨false,1,24,[.own 3 0 []],.slice 301 3 24 [.int .i64 0,.int .i64 0,.int .i64 0],false⟩:=rfl
@[simp] theorem cy:An tT 25= .slice 301 3 24 [.int .i64 0,.int .i64 0,.int .i64 0]:=rfl
@[simp] theorem cz:tT 26=some ⟨true,2,48,[.own 2 0 [],.own 3 0 []],.struct [(0,1,false),(1,1,false)],false⟩:=rfl
@[simp] theorem cA:An tT 26= .struct [(0,1,false),(1,1,false)]:=rfl
@[simp] theorem cB:tT 27=some ⟨true,2,48,[.own 2 0 [],.own 3 0 []],.struct [(0,1,false),(1,1,false)],false⟩:=rfl
@[simp] theorem cC:An tT 27= .struct [(0,1,false),(1,1,false)]:=rfl
@[simp] theorem cD:tT 28=some ⟨false,1,24,[.own 1 0 []],.slice 3 1 8 [.int .i64 0],false⟩:=rfl
@[simp] theorem cE:An tT 28= .slice 3 1 8 [.int .i64 0]:=rfl
@[simp] theorem cF:tT 29=some ⟨true,4,96,[.own 1 0 [],.own 2 0 [],.own 3 0 [],.own 1 0 []],.struct [(0,1,false),(1,2,true),(3,1,false)],false⟩:=rfl
@[simp] theorem cG:An tT 29= .struct [(0,1,false),(1,2,true),(3,1,false)]:=rfl
@[simp] theorem cH:tT 30=some ⟨true,4,96,[.own 1 0 [],.own 2 0 [],.own 3 0 [],.own 1 0 []],.struct [(0,1,false),(1,2,true),(3,1,false)],false⟩:=rfl
@[simp] theorem cI:An tT 30= .struct [(0,1,false),(1,2,true),(3,1,false)]:=rfl
@[simp] theorem cJ:tT 31=some ⟨true,5,120,[.own 4 0 [],.own 1 0 [],.own 2 0 [],.own 3 0 [],.own 1 0 []],.struct [(0,1,false),(1,4,true)],false⟩:=rfl
@[simp] theorem cK:An tT 31= .struct [(0,1,false),(1,4,true)]:=rfl
@[simp] theorem cL:tT 32=some ⟨true,5,120,[.own 4 0 [],.own 1 0 [],.own 2 0 [],.own 3 0 [],.own 1 0 []],.struct [(0,1,false),(1,4,true)],false⟩:=rfl
@[simp] theorem cN:An tT 32= .struct [(0,1,false),(1,4,true)]:=rfl
@[simp] theorem cO:tT 35=some ⟨false,1,24,[.own 8 0 []],.slice 42 8 64 [.int .i64 0,.int .i64 0,.int .i64 0,.str ByteArray.empty,.int .i64 0,.int .i64 0,.bool false,.bool false],false⟩:=rfl
@[simp] theorem cP:An tT 35= .slice 42 8 64 [.int .i64 0,.int .i64 0,.int .i64 0,.str ByteArray.empty,.int .i64 0,.int .i64 0,.bool false,.bool false]:=rfl
@[simp] theorem cQ:tT 36=some ⟨false,1,24,[.own 12 0 []],.slice 55 12 144 [.bool false,.int .i64 0,.bool false,.int .i64 0,.int .i64 0,.own 1 0 [],.int .i64 0,.int .i64 0,.int .i64 0,.bool false,.own 1 0 [],.own 1 0 []],false⟩:=rfl
@[simp] theorem cR:An tT 36= .slice 55 12 144 [.bool false,.int .i64 0,.bool false,.int .i64 0,.int .i64 0,.own 1 0 [],.int .i64 0,.int .i64 0,.int .i64 0,.bool false,.own 1 0 [],.own 1 0 []]:=rfl
@[simp] theorem cS:tT 37=some ⟨true,4,64,[.int .i64 0,.int .i64 0,.own 8 0 [],.own 12 0 []],.struct [(0,1,false),(1,1,false),(2,1,false),(3,1,false)],false⟩:=rfl
@[simp] theorem cT:An tT 37= .struct [(0,1,false),(1,1,false),(2,1,false),(3,1,false)]:=rfl
@[simp] theorem cU:tT 38=some ⟨true,4,64,[.int .i64 0,.int .i64 0,.own 8 0 [],.own 12 0 []],.struct [(0,1,false),(1,1,false),(2,1,false),(3,1,false)],false⟩:=rfl
@[simp] theorem cV:An tT 38= .struct [(0,1,false),(1,1,false),(2,1,false),(3,1,false)]:=rfl
@[simp] theorem cW:tT 39=some ⟨true,2,24,[.str ByteArray.empty,.int .i64 0],.struct [(0,1,false),(1,1,false)],false⟩:=rfl
@[simp] theorem cY:An tT 39= .struct [(0,1,false),(1,1,false)]:=rfl
@[simp] theorem cZ:tT 40=some ⟨true,2,24,[.str ByteArray.empty,.int .i64 0],.struct [(0,1,false),(1,1,false)],true⟩:=rfl
@[simp] theorem c8:An tT 40= .struct [(0,1,false),(1,1,false)]:=rfl
@[simp] theorem da:tT 41=some ⟨true,8,64,[.int .i64 0,.int .i64 0,.int .i64 0,.str ByteArray.empty,.int .i64 0,.int .i64 0,.bool false,.bool false],.struct [(0,1,false),(1,1,false),(2,1,false),(3,2,true),(5,1,false),(6,1,false),(7,1,false)],false⟩:=rfl
@[simp] theorem db:An tT 41= .struct [(0,1,false),(1,1,false),(2,1,false),(3,2,true),(5,1,false),(6,1,false),(7,1,false)]:=rfl
@[simp] theorem dc:tT 42=some ⟨true,8,64,[.int .i64 0,.int .i64 0,.int .i64 0,.str ByteArray.empty,.int .i64 0,.int .i64 0,.bool false,.bool false],.struct [(0,1,false),(1,1,false),(2,1,false),(3,2,true),(5,1,false),(6,1,false),(7,1,false)],true⟩:=rfl
@[simp] theorem de:An tT 42= .struct [(0,1,false),(1,1,false),(2,1,false),(3,2,true),(5,1,false),(6,1,false),(7,1,false)]:=rfl
@[simp] theorem dg:tT 44=some ⟨false,1,8,[.int .i64 0],.int .i64,false⟩:=rfl
@[simp] theorem dh:An tT 44= .int .i64:=rfl
@[simp] theorem di:tT 49=some ⟨false,1,24,[.own 1 0 []],.slice 28 1 24 [.own 1 0 []],false⟩:=rfl
@[simp] theorem dj:An tT 49= .slice 28 1 24 [.own 1 0 []]:=rfl
@[simp] theorem dk:tT 50=some ⟨true,2,32,[.int .i64 0,.own 1 0 []],.struct [(0,1,false),(1,1,false)],false⟩:=rfl
@[simp] theorem dl:An tT 50= .struct [(0,1,false),(1,1,false)]:=rfl
@[simp] theorem dm:tT 51=some ⟨true,2,32,[.int .i64 0,.own 1 0 []],.struct [(0,1,false),(1,1,false)],false⟩:=rfl
@[simp] theorem dp:An tT 51= .struct [(0,1,false),(1,1,false)]:=rfl
@[simp] theorem dq:tT 52=some ⟨true,6,80,[.int .i64 0,.int .i64 0,.int .i64 0,.bool false,.own 1 0 [],.own 1 0 []],.struct [(0,1,false),(1,1,false),(2,1,false),(3,1,false),(4,1,false),(5,1,false)],false⟩:=rfl
@[simp] theorem dr:An tT 52= .struct [(0,1,false),(1,1,false),(2,1,false),(3,1,false),(4,1,false),(5,1,false)]:=rfl
@[simp] theorem dt:tT 53=some ⟨true,6,80,[.int .i64 0,.int .i64 0,.int .i64 0,.bool false,.own 1 0 [],.own 1 0 []],.struct [(0,1,false),(1,1,false),(2,1,false),(3,1,false),(4,1,false),(5,1,false)],false⟩:=rfl
@[simp] theorem du:An tT 53= .struct [(0,1,false),(1,1,false),(2,1,false),(3,1,false),(4,1,false),(5,1,false)]:=rfl
@[simp] theorem dv:tT 54=some ⟨true,12,144,[.bool false,.int .i64 0,.bool false,.int .i64 0,.int .i64 0,.own 1 0 [],.int .i64 0,.int .i64 0,.int .i64 0,.bool false,.own 1 0 [],.own 1 0 []],.struct [(0,1,false),(1,1,false),(2,1,false),(3,1,false),(4,2,true),(6,6,true)],false⟩:=rfl
@[simp] theorem dw:An tT 54= .struct [(0,1,false),(1,1,false),(2,1,false),(3,1,false),(4,2,true),(6,6,true)]:=rfl
@[simp] theorem dx:tT 55=some ⟨true,12,144,[.bool false,.int .i64 0,.bool false,.int .i64 0,.int .i64 0,.own 1 0 [],.int .i64 0,.int .i64 0,.int .i64 0,.bool false,.own 1 0 [],.own 1 0 []],.struct [(0,1,false),(1,1,false),(2,1,false),(3,1,false),(4,2,true),(6,6,true)],false⟩:=rfl
@[simp] theorem dy:An tT 55= .struct [(0,1,false),(1,1,false),(2,1,false),(3,1,false),(4,2,true),(6,6,true)]:=rfl
@[simp] theorem dz:tT 59=some ⟨true,4,40,[.int .i64 0,.int .i64 0,.str ByteArray.empty,.int .i64 0],.struct [(0,1,false),(1,1,false),(2,2,true)],false⟩:=rfl
@[simp] theorem dA:An tT 59= .struct [(0,1,false),(1,1,false),(2,2,true)]:=rfl
@[simp] theorem dB:tT 60=some ⟨true,4,40,[.int .i64 0,.int .i64 0,.str ByteArray.empty,.int .i64 0],.struct [(0,1,false),(1,1,false),(2,2,true)],true⟩:=rfl
@[simp] theorem dC:An tT 60= .struct [(0,1,false),(1,1,false),(2,2,true)]:=rfl
@[simp] theorem dD:tT 65=some ⟨false,1,24,[.own 4 0 []],.slice 60 4 40 [.int .i64 0,.int .i64 0,.str ByteArray.empty,.int .i64 0],false⟩:=rfl
@[simp] theorem dE:An tT 65= .slice 60 4 40 [.int .i64 0,.int .i64 0,.str ByteArray.empty,.int .i64 0]:=rfl
@[simp] theorem dF:tT 71=some ⟨false,1,24,[.own 2 0 []],.slice 121 2 16 [.int .i64 0,.int .i64 0],false⟩:=rfl
@[simp] theorem dG:An tT 71= .slice 121 2 16 [.int .i64 0,.int .i64 0]:=rfl
@[simp] theorem aj:tT 102=some ⟨true,2,16,[.int .i64 0,.int .i64 0],.struct [(0,1,false),(1,1,false)],false⟩:=rfl
@[simp] theorem ak:An tT 102= .struct [(0,1,false),(1,1,false)]:=rfl
@[simp] theorem al:tT 103=some ⟨true,2,16,[.int .i64 0,.int .i64 0],.struct [(0,1,false),(1,1,false)],true⟩:=rfl
@[simp] theorem am:An tT 103= .struct [(0,1,false),(1,1,false)]:=rfl
@[simp] theorem ar:tT 120=some ⟨true,2,16,[.int .i64 0,.int .i64 0],.struct [(0,1,false),(1,1,false)],false⟩:=rfl
@[simp] theorem au:An tT 120= .struct [(0,1,false),(1,1,false)]:=rfl
@[simp] theorem aw:tT 121=some ⟨true,2,16,[.int .i64 0,.int .i64 0],.struct [(0,1,false),(1,1,false)],true⟩:=rfl
@[simp] theorem ax:An tT 121= .struct [(0,1,false),(1,1,false)]:=rfl
@[simp] theorem ay:tT 130=some ⟨false,1,8,[.int .u64 0],.int .u64,false⟩:=rfl
@[simp] theorem az:An tT 130= .int .u64:=rfl
@[simp] theorem aA:tT 143=some ⟨false,1,24,[.own 1 0 []],.slice 5 1 1 [.int .u8 0],false⟩:=rfl
@[simp] theorem aB:An tT 143= .slice 5 1 1 [.int .u8 0]:=rfl
@[simp] theorem aC:tT 144=some ⟨false,1,24,[.own 1 0 []],.slice 5 1 1 [.int .u8 0],false⟩:=rfl
@[simp] theorem aD:An tT 144= .slice 5 1 1 [.int .u8 0]:=rfl
@[simp] theorem aE:tT 154=some ⟨false,1,8,[.nilp],.ptr,false⟩:=rfl
@[simp] theorem aF:An tT 154= .ptr:=rfl
@[simp] theorem aG:tT 156=some ⟨false,1,24,[.own 1 0 []],.slice 4 1 1 [.bool false],false⟩:=rfl
@[simp] theorem aH:An tT 156= .slice 4 1 1 [.bool false]:=rfl
@[simp] theorem aI:tT 171=some ⟨false,1,8,[.nilp],.ptr,false⟩:=rfl
@[simp] theorem aJ:An tT 171= .ptr:=rfl
@[simp] theorem aK:tT 225=some ⟨false,1,8,[.nilp],.ptr,false⟩:=rfl
@[simp] theorem aL:An tT 225= .ptr:=rfl
@[simp] theorem aM:tT 232=some ⟨true,2,32,[.own 1 0 [],.int .i64 0],.struct [(0,1,false),(1,1,false)],false⟩:=rfl
@[simp] theorem aN:An tT 232= .struct [(0,1,false),(1,1,false)]:=rfl
@[simp] theorem aO:tT 233=some ⟨true,2,32,[.own 1 0 [],.int .i64 0],.struct [(0,1,false),(1,1,false)],false⟩:=rfl
@[simp] theorem aP:An tT 233= .struct [(0,1,false),(1,1,false)]:=rfl
@[simp] theorem aQ:tT 236=some ⟨true,16,16,[.bool false,.bool false,.bool false,.bool false,.bool false,.bool false,.bool false,.bool false,.bool false,.bool false,.bool false,.bool false,.bool false,.bool false,.bool false,.bool false],.array 16 4 1,false⟩:=rfl
@[simp] theorem aR:An tT 236= .array 16 4 1:=rfl
@[simp] theorem aS:tT 240=some ⟨false,1,8,[.nilp],.ptr,false⟩:=rfl
@[simp] theorem aT:An tT 240= .ptr:=rfl
@[simp] theorem aU:tT 253=some ⟨false,1,8,[.nilp],.ptr,false⟩:=rfl
@[simp] theorem aV:An tT 253= .ptr:=rfl
@[simp] theorem aW:tT 254=some ⟨true,4,40,[.str ByteArray.empty,.int .i64 0,.int .i64 0,.bool false],.struct [(0,2,true),(2,1,false),(3,1,false)],false⟩:=rfl
@[simp] theorem aX:An tT 254= .struct [(0,2,true),(2,1,false),(3,1,false)]:=rfl
@[simp] theorem aY:tT 255=some ⟨true,4,40,[.str ByteArray.empty,.int .i64 0,.int .i64 0,.bool false],.struct [(0,2,true),(2,1,false),(3,1,false)],true⟩:=rfl
@[simp] theorem aZ:An tT 255= .struct [(0,2,true),(2,1,false),(3,1,false)]:=rfl
@[simp] theorem a8:tT 260=some ⟨false,1,4,[.int .u32 0],.int .u32,false⟩:=rfl
@[simp] theorem ba:An tT 260= .int .u32:=rfl
@[simp] theorem bb:tT 262=some ⟨false,1,8,[.int .u64 0],.int .u64,false⟩:=rfl
@[simp] theorem bc:An tT 262= .int .u64:=rfl
@[simp] theorem be:tT 268=some ⟨false,1,8,[.int .i64 0],.int .i64,false⟩:=rfl
@[simp] theorem bf:An tT 268= .int .i64:=rfl
@[simp] theorem bg:tT 278=some ⟨false,1,8,[.int .u64 0],.int .u64,false⟩:=rfl
@[simp] theorem bh:An tT 278= .int .u64:=rfl
@[simp] theorem bj:tT 282=some ⟨false,1,8,[.nilp],.ptr,false⟩:=rfl
@[simp] theorem bk:An tT 282= .ptr:=rfl
@[simp] theorem bm:tT 284=some ⟨false,1,8,[.nilp],.ptr,false⟩:=rfl
@[simp] theorem bn:An tT 284= .ptr:=rfl
@[simp] theorem bo:tT 287=some ⟨true,4,40,[.nilp,.nilp,.nilp,.str ByteArray.empty],.struct [(0,1,false),(1,1,false),(2,1,false),(3,1,false)],false⟩:=rfl
@[simp] theorem bp:An tT 287= .struct [(0,1,false),(1,1,false),(2,1,false),(3,1,false)]:=rfl
@[simp] theorem bq:tT 288=some ⟨true,4,40,[.nilp,.nilp,.nilp,.str ByteArray.empty],.struct [(0,1,false),(1,1,false),(2,1,false),(3,1,false)],false⟩:=rfl
@[simp] theorem br:An tT 288= .struct [(0,1,false),(1,1,false),(2,1,false),(3,1,false)]:=rfl
@[simp] theorem bt:tT 289=some ⟨true,0,0,[],.array 0 16 1,false⟩:=rfl
@[simp] theorem bu:An tT 289= .array 0 16 1:=rfl
@[simp] theorem bx:tT 292=some ⟨false,1,1,[.int .u8 0],.int .u8,false⟩:=rfl
@[simp] theorem bz:An tT 292= .int .u8:=rfl
@[simp] theorem bA:tT 293=some ⟨false,1,1,[.int .u8 0],.int .u8,false⟩:=rfl
@[simp] theorem bB:An tT 293= .int .u8:=rfl
@[simp] theorem bC:tT 295=some ⟨false,1,8,[.nilp],.ptr,false⟩:=rfl
@[simp] theorem bD:An tT 295= .ptr:=rfl
@[simp] theorem bE:tT 296=some ⟨false,1,4,[.int .i32 0],.int .i32,false⟩:=rfl
@[simp] theorem bF:An tT 296= .int .i32:=rfl
@[simp] theorem bG:tT 297=some ⟨false,1,4,[.int .i32 0],.int .i32,false⟩:=rfl
@[simp] theorem bH:An tT 297= .int .i32:=rfl
@[simp] theorem bI:tT 300=some ⟨true,3,24,[.int .i64 0,.int .i64 0,.int .i64 0],.struct [(0,1,false),(1,1,false),(2,1,false)],false⟩:=rfl
@[simp] theorem bJ:An tT 300= .struct [(0,1,false),(1,1,false),(2,1,false)]:=rfl
@[simp] theorem bK:tT 301=some ⟨true,3,24,[.int .i64 0,.int .i64 0,.int .i64 0],.struct [(0,1,false),(1,1,false),(2,1,false)],true⟩:=rfl
@[simp] theorem bL:An tT 301= .struct [(0,1,false),(1,1,false),(2,1,false)]:=rfl
end Go.Abs
set_option maxRecDepth 100000
namespace Go.Abs
open Go.Proofs
theorem Cq:pg.follows .mixedOrders=true:=by kernel_rfl
end Go.Abs
namespace Go.Abs
section
variable {G A B H:Prop}
theorem zs (h:A) (e:A→G:=by intro zz;(repeat refine W.seq ?_);refine W.reg 0 rfl fun K hK=>?_;simp -implicitDefEqProofs (maxSteps:=999999) (disch:=omega);(repeat refine⟨by clear zz;first|assumption|omega,?_⟩);refine hK _ _ ?_;clear hK K;exact zz):G:=e h
theorem z0 (h:A) (e:A→G:=by intro zz;(repeat refine W.seq ?_);refine W.reg 0 rfl fun K hK=>?_;simp -implicitDefEqProofs (maxSteps:=999999) (disch:=omega);revert hK;revert K;exact zz):G:=e h
theorem z1 (h:A) (e:A→G:=by intro zz;(repeat refine W.seq ?_);refine W.reg 1 rfl fun K hK=>?_;simp -implicitDefEqProofs (maxSteps:=999999) (disch:=omega);revert hK;revert K;exact zz):G:=e h
theorem z2 (h:A) (e:A→G:=by intro zz;(repeat refine W.seq ?_);refine W.reg 2 rfl fun K hK=>?_;simp -implicitDefEqProofs (maxSteps:=999999) (disch:=omega);revert hK;revert K;exact zz):G:=e h
theorem z3 (h:A) (e:A→G:=by intro zz;(repeat refine W.seq ?_);refine W.reg 3 rfl fun K hK=>?_;simp -implicitDefEqProofs (maxSteps:=999999) (disch:=omega);revert hK;revert K;exact zz):G:=e h
theorem Ae (f:H) (h:A) (e:H→A→G:=by intro zf zz;(repeat refine W.seq ?_);refine W.reg 0 rfl fun K hK=>?_;simp -implicitDefEqProofs (maxSteps:=999999) (disch:=omega) [zf];clear zf;revert hK;revert K;exact zz):G:=e f h
theorem Mk (f:H) (h:A) (e:H→A→G:=by intro zf zz;(repeat refine W.seq ?_);refine W.reg 1 rfl fun K hK=>?_;simp -implicitDefEqProofs (maxSteps:=999999) (disch:=omega) [zf];clear zf;revert hK;revert K;exact zz):G:=e f h
theorem B8 (h:A) (e:A→G:=by intro zz;(repeat refine W.seq ?_);refine W.regd 0 rfl true Cq (by kernel_rfl) fun K hK=>?_;simp -implicitDefEqProofs (maxSteps:=999999) (disch:=omega);revert hK;revert K;exact zz):G:=e h
theorem A5 (f:H) (h:A) (e:H→A→G:=by intro zf zz;(repeat refine W.seq ?_);refine W.regd 0 rfl true Cq (by kernel_rfl) fun K hK=>?_;simp -implicitDefEqProofs (maxSteps:=999999) (disch:=omega) [zf];clear zf;revert hK;revert K;exact zz):G:=e f h
theorem zx (h:A) (e:A→G:=by intro zz;simp only[DQ];simp -implicitDefEqProofs (maxSteps:=999999) (disch:=omega);exact zz):G:=e h
theorem AM (f:H) (h:A) (e:H→A→G:=by intro zf zz;simp only[DQ];simp -implicitDefEqProofs (maxSteps:=999999) (disch:=omega) [zf];clear zf;exact zz):G:=e f h
theorem zk (h:A) (e:A→G:=by intro zz;(repeat refine⟨by clear zz;first|assumption|omega,?_⟩);refine hK _ _ ?_;exact zz):G:=e h
theorem zt (h:A) (e:A→G:=by intro zz;(repeat refine W.seq ?_);refine W.condK fun K1 K2 h1 h2=>?_;simp -implicitDefEqProofs (maxSteps:=999999) (disch:=omega);refine h1 ?_;clear h1 h2 K1 K2;exact zz):G:=e h
theorem zn (h:A) (e:A→G:=by intro zz;(repeat refine W.seq ?_);refine W.condK fun K1 K2 h1 h2=>?_;simp -implicitDefEqProofs (maxSteps:=999999) (disch:=omega);refine h2 ?_;clear h1 h2 K1 K2;exact zz):G:=e h
theorem zc (ha:A) (hb:B) (e:A→B→G:=by intro za zb;(repeat refine W.seq ?_);refine W.condK fun K1 K2 h1 h2=>?_;simp -implicitDefEqProofs (maxSteps:=999999) (disch:=omega) [-and_imp];refine⟨fun h=>h1 ?_,fun h=>h2 ?_⟩<;>clear h1 h2 K1 K2<;>revert h;exact za;exact zb):G:=e ha hb
theorem zr (h:A) (e:A→G:=by intro zz;refine W.ret ?_;simp only[Cb,CT,Cp];refine Cd (d:=0) ?_;simp -implicitDefEqProofs (maxSteps:=999999) (disch:=omega);exact zz):G:=e h
theorem zR (e:G:=by refine W.ret ?_;simp only[Cb,CT,Cp];refine Cd (d:=0) ?_;simp -implicitDefEqProofs (maxSteps:=999999) (disch:=omega)):G:=e
theorem zb (h:A) (e:A→G:=by intro zz;(repeat refine W.seq ?_);refine W.block ?_;exact zz):G:=e h
theorem an (a:A) (b:B):A∧B:=⟨a,b⟩
end
end Go.Abs
set_option maxRecDepth 100000
namespace Go.Abs
open Go.Proofs
theorem B4 (xs ys:List Int) (hx:xs.length<4611686018427387904):Aa pg 33 [.ro xs.length (Ad xs),.ro ys.length (Ad ys)] [] (fun r _=>r= .bool (decide (xs=ys))):=by
 refine Aa.start (fn:=Tryz.f33) [.tmp 4] tk rfl rfl rfl (by kernel_rfl) (Nat.le_of_ble_eq_true rfl) rfl (by kernel_rfl) ?_
 rw[Am]
 refine zs ?_
 refine zs ?_
 refine zc ?_ ?_<;>intro h
 .refine zs ?_
  refine zr ?_
  intro e;exact h (by rw[e])
 .refine W.skip ?_
  have hl:xs.length=ys.length:=by omega
  refine zs ?_
  (repeat refine W.seq ?_);refine W.block (W.loopS (fun k:Nat=> [(0,.ro xs.length (Ad xs)),(1,.ro ys.length (Ad ys)),(5,.int .i64 k)]) (fun _=> []) (fun k=>xs.length-k) (fun k=>k≤xs.length∧xs.take k=ys.take k) 0 (Wk.fr ?_) (by simp) ?_)
  .simp[Ac]
  .rintro k ⟨hk,ht⟩
   refine zs ?_
   refine zc ?_ ?_<;>intro h
   .refine W.skip ?_
    have hlt:k<xs.length:=by omega
    have hlt' :k<ys.length:=by omega
    refine zb ?_
    refine B8 ?_;intro K hK
    simp[hlt,hlt']
    refine zk ?_;clear hK K
    refine zc ?_ ?_<;>intro h
    .refine zs ?_
     refine zr ?_
     intro e;subst e;exact h rfl
    .refine W.skip ?_
     refine zs ?_
     refine⟨k+1,by omega,⟨by omega,?_⟩,Wk.fr ?_⟩
     .rw[List.take_add_one,List.take_add_one,ht];simp[hlt,hlt',h]
     .simp[Ac]
   .refine W.exit ?_
    have hk' :k=xs.length:=by omega
    subst hk'
    refine zs ?_
    refine zr ?_
    rw[List.take_length,hl,List.take_length] at ht
    simp[ht]
end Go.Abs
set_option maxRecDepth 100000
namespace Go.Abs
open Go.Proofs
theorem DR (xs:List Int) (hx:xs.length<1000000000000):Aa pg 187 [.ro xs.length (Ad xs)] [] (fun r _=>r= .own 1 xs.length (Ad xs)):=by
 refine Aa.start (fn:=Tryz.f187) [.tmp 2] tk rfl rfl rfl (by kernel_rfl) (Nat.le_of_ble_eq_true rfl) rfl (by kernel_rfl) ?_
 rw[At]
 refine zs ?_
 refine zs ?_
 refine zs ?_
 (repeat refine W.seq ?_);refine W.block (W.loopS (fun k:Nat=> [(0,.ro xs.length (Ad xs)),(3,.tok 0 k 1 0 k),(4,.int .i64 k)]) (fun k=> [.live k (Ad (xs.take k))]) (fun k=>xs.length-k) (fun k=>k≤xs.length) 0 ((Wk.nil (t:=3) (s:=1) ?_).trans (Wk.fr ?_)) (by simp) ?_)
 .simp
 .simp[Ac]
 .intro k hk
  refine zs ?_
  refine zc ?_ ?_<;>intro h
  .refine W.skip ?_
   have hlt:k<xs.length:=by omega
   refine zb ?_
   refine z1 ?_;intro K hK
   refine⟨hlt,by omega,by omega,?_⟩
   refine zk ?_;clear hK K
   refine zs ?_
   refine⟨k+1,by omega,by omega,Wk.cutM (k:=1) ?_ ?_ ?_ ?_ ?_ ?_⟩<;>simp
   have e:Ad (List.take (k+1) xs)=Ad (List.take k xs)++[AV.int IntKind.i64 xs[k]]:=by rw[List.take_add_one,BE];simp[hlt,Ad]
   exact e.symm
  .refine W.exit ?_
   have hk' :k=xs.length:=by omega
   subst hk'
   refine zs ?_
   exact zR
end Go.Abs
set_option maxRecDepth 100000
namespace Go.Abs
open Go.Proofs
theorem It (xs ys:List (List Int)) (hx:xs.length<1000000000000) (hr:∀r∈xs,r.length<1000000000000):Aa pg 84 [.ro xs.length (Aw false xs),.ro ys.length (Aw false ys)] [] (fun r _=>r= .bool (decide (xs=ys))):=by
 refine Aa.start (fn:=Tryz.f84) [.tmp 4] tk rfl rfl rfl (by kernel_rfl) (Nat.le_of_ble_eq_true rfl) rfl (by kernel_rfl) ?_
 rw[Am]
 refine zs ?_
 refine zs ?_
 refine zc ?_ ?_<;>intro h
 .refine zs ?_
  refine zr ?_
  intro e;exact h (by rw[e])
 .refine W.skip ?_
  have hl:xs.length=ys.length:=by omega
  refine zs ?_
  (repeat refine W.seq ?_);refine W.block (W.loopS (fun k:Nat=> [(0,.ro xs.length (Aw false xs)),(1,.ro ys.length (Aw false ys)),(5,.int .i64 k)]) (fun _=> []) (fun k=>xs.length-k) (fun k=>k≤xs.length∧xs.take k=ys.take k) 0 (Wk.fr ?_) (by simp) ?_)
  .simp[Ac]
  .rintro k ⟨hk,ht⟩
   refine zs ?_
   refine zc ?_ ?_<;>intro h
   .refine W.skip ?_
    have hlt:k<xs.length:=by omega
    have hlt' :k<ys.length:=by omega
    refine zb ?_
    refine B8 ?_;intro K hK
    simp[hlt,hlt']
    refine Ah.eq (B4 xs[k] ys[k] (by have:=hr xs[k] (by simp);omega)) (by simp) (by simp) ?_
    refine zx ?_
    refine zk ?_;clear hK K
    refine zc ?_ ?_<;>intro h
    .refine zs ?_
     refine zr ?_
     intro e;subst e;exact h rfl
    .refine W.skip ?_
     refine zs ?_
     refine⟨k+1,by omega,⟨by omega,?_⟩,Wk.fr ?_⟩
     .rw[List.take_add_one,List.take_add_one,ht];simp[hlt,hlt',h]
     .simp[Ac]
   .refine W.exit ?_
    have hk' :k=xs.length:=by omega
    subst hk'
    refine zs ?_
    refine zr ?_
    rw[List.take_length,hl,List.take_length] at ht
    simp[ht]
end Go.Abs
set_option maxRecDepth 100000
namespace Go.Abs
open Go.Proofs
theorem G1 (xs ys:List Obj) (hx:xs.length<1000000000000):Aa pg 34 [.ro xs.length (Af Av xs),.ro ys.length (Af Av ys)] [] (fun r _=>r= .bool (decide (xs=ys))):=by
 refine Aa.start (fn:=Tryz.f34) [.tmp 4] tk rfl rfl rfl (by kernel_rfl) (Nat.le_of_ble_eq_true rfl) rfl (by kernel_rfl) ?_
 rw[Am]
 refine zs ?_
 refine zs ?_
 refine zc ?_ ?_<;>intro h
 .refine zs ?_
  refine zr ?_
  intro e;exact h (by rw[e])
 .refine W.skip ?_
  have hl:xs.length=ys.length:=by omega
  refine zs ?_
  (repeat refine W.seq ?_);refine W.block (W.loopS (fun k:Nat=> [(0,.ro xs.length (Af Av xs)),(1,.ro ys.length (Af Av ys)),(5,.int .i64 k)]) (fun _=> []) (fun k=>xs.length-k) (fun k=>k≤xs.length∧xs.take k=ys.take k) 0 (Wk.fr ?_) (by simp) ?_)
  .simp[Ac]
  .rintro k ⟨hk,ht⟩
   refine zs ?_
   refine zc ?_ ?_<;>intro h
   .refine W.skip ?_
    have hlt:k<xs.length:=by omega
    have hlt' :k<ys.length:=by omega
    refine zb ?_
    refine B8 ?_;intro K hK
    simp[hlt,hlt',Av]
    refine zk ?_;clear hK K
    refine zc ?_ ?_<;>intro h
    .refine zs ?_
     refine zr ?_
     intro e;subst e;simp at h
    .refine W.skip ?_
     have he:xs[k]=ys[k]:=Obj.ext h.1 h.2.1 (CL.ext h.2.2.1 h.2.2.2)
     refine zs ?_
     refine⟨k+1,by omega,⟨by omega,?_⟩,Wk.fr ?_⟩
     .rw[List.take_add_one,List.take_add_one,ht];simp[hlt,hlt',he]
     .simp[Ac]
   .refine W.exit ?_
    have hk' :k=xs.length:=by omega
    subst hk'
    refine zs ?_
    refine zr ?_
    rw[List.take_length,hl,List.take_length] at ht
    simp[ht]
end Go.Abs
namespace Go.Abs
def Ed (d:ByteArray) (i:Nat):Bool:=decide (CJ d (i/8)/2^(7-i%8)%2=1)
def Ao (b:CL):List Bool:=(List.range b.n.toNat).map (Ed b.data)
def DI (b:CL):Prop:=0≤b.n∧b.n≤6000∧(b.data.size:Int)=(b.n+7)/8∧∀i,i<8*b.data.size→b.n.toNat≤i→Ed b.data i=false
instance (b:CL):Decidable (DI b):=inferInstanceAs (Decidable (_∧_∧_∧_))
def Bn (l:List Bool):Nat:=l.foldl (fun v b=>2*v+b.toNat) 0
def ahead (l:List Bool) (p:Nat):Option Nat:=(l.drop p).findIdx? id
def AH (l:List Bool) (p:Nat):Option (Nat×Nat):=match ahead l p with
 |none=>none
 |some q=>if q≤30∧p+2*q+1≤l.length then(if Bn ((l.drop (p+q)).take (q+1))≤1073741824 then some (Bn ((l.drop (p+q)).take (q+1)),p+2*q+1) else none) else none
def Bv (v w:Nat):List Bool:=(List.range w).map fun i=>decide (v/2^(w-1-i)%2=1)
def Ba (n:Nat):List Bool:=Bv 0 (Nat.log2 n)++Bv n (Nat.log2 n+1)
def Cc (n:Int):Int:=if n%2=1 then-((n+1)/2) else n/2
def D3 (n:Int):Int:=if n<0 then-2*n-1 else 2*n
def AI (l:List Int):Prop:=(∀x∈l,0≤x∧x<16)∧l.Pairwise (·<·)
instance (l:List Int):Decidable (AI l):=inferInstanceAs (Decidable (_∧_))
def B1 (bs:List Bool):Nat→Bool→Nat→Int→Option (List Int×Nat)
 |0,_,p,_=>some ([],p)
 |k+1,f,p,last=>match AH bs p with
  |none=>none
  |some x=>let y:=last+(if f=true then Cc ((x.1:Int)-1) else(x.1:Int))
   if 0≤y∧y<16 then(match B1 bs k false x.2 y with|some r=>some (y::r.1,r.2) |none=>none) else none
def Dx (bs:List Bool) (p:Nat) (v:Int):Option (List Int×Nat):=match AH bs p with
 |none=>none
 |some x=>if x.1≤17 then B1 bs (x.1-1) true x.2 v else none
def CP (bs:List Bool):Nat→Bool→Nat→Int→Option (List Int×Nat)
 |0,_,p,_=>some ([],p)
 |k+1,f,p,last=>match AH bs p with
  |none=>none
  |some x=>match CP bs k false x.2 (last+(if f=true then Cc ((x.1:Int)-1) else(x.1:Int))) with
   |some r=>some ((last+(if f=true then Cc ((x.1:Int)-1) else(x.1:Int)))::r.1,r.2)
   |none=>none
def DF (bs:List Bool) (p:Nat) (v:Int):Option (List Int×Nat):=match AH bs p with
 |none=>none
 |some x=>if x.1≤17 then(match CP bs (x.1-1) true x.2 v with|some r=>if AI r.1 then some r else none|none=>none) else none
def A7:List Int→Nat
 | []=>0
 | [_]=>1
 |x::y::l=>if y=x+1 then A7 (y::l)+1 else 1
theorem FM (x:Int) (l:List Int):0<A7 (x::l):=by cases l<;>simp[A7];split<;>omega
theorem Gu:∀l:List Int,A7 l≤l.length
 | []=>by simp[A7]
 | [_]=>by simp[A7]
 |x::y::l=>by have:=Gu (y::l);simp[A7];split<;>simp at* <;>omega
def As:List Int→List (Int×Int)×List Int
 | []=>([],[])
 |x::l=>let k:=A7 (x::l)
  let q:=As ((x::l).drop k)
  if 3≤k then((x,(k:Int))::q.1,q.2) else(q.1,(x::l).take k++q.2)
termination_by l=>l.length
decreasing_by have:=FM x l;simp;omega
def Cr (bs:List Bool):Nat→Bool→Nat→Int→Option (List (Int×Int)×Nat)
 |0,_,p,_=>some ([],p)
 |k+1,f,p,e=>match AH bs p with
  |none=>none
  |some x=>match AH bs x.2 with
   |none=>none
   |some y=>let a:=e+(if f=true then Cc ((x.1:Int)-1) else(x.1:Int))
    match Cr bs k false y.2 (a+((y.1:Int)-1+3)) with
    |some r=>some ((a,(y.1:Int)-1+3)::r.1,r.2)
    |none=>none
def CU:List (Int×Int)→Int→Option (List Int)
 | [],_=>some []
 | (a,n)::rs,e=>if n<3∨16<n∨a≤e∨¬(0≤a∧a<16)∨¬(0≤a+n-1∧a+n-1<16) then none else
   match CU rs (a+n) with
   |some l=>some ((List.range n.toNat).map (fun i=>a+(i:Nat))++l)
   |none=>none
def BN (l:List Int):List Int:=l.mergeSort fun x y=>decide (x≤y)
def EA (r:List (Int×Int)) (rest:List Int):Option (List Int):=match CU r (-1) with
 |none=>none
 |some l=>if AI rest∧AI (BN (rest++l)) then some (BN (rest++l)) else none
def CV (bs:List Bool) (p:Nat) (v:Int):Option (List Int×Nat):=match AH bs p with
 |none=>none
 |some x=>if x.1≤16 then(match Cr bs (x.1-1) true x.2 v with
  |none=>none
  |some r=>match Dx bs r.2 v with
   |none=>none
   |some g=>match EA r.1 g.1 with
    |none=>none
    |some l=>if As l=(r.1,g.1) then some (l,g.2) else none) else none
def BJ (bs:List Bool):Nat→Bool→Nat→Int→Option (List (Int×Int)×Nat)
 |0,_,p,_=>some ([],p)
 |k+1,f,p,e=>match AH bs p with
  |none=>none
  |some x=>match AH bs x.2 with
   |none=>none
   |some y=>if y.1≤16 then(let a:=e+(if f=true then Cc ((x.1:Int)-1) else(x.1:Int))
    match BJ bs k false y.2 (a+((y.1:Int)-1+3)) with
    |some r=>some ((a,(y.1:Int)-1+3)::r.1,r.2)
    |none=>none) else none
def Dy:List (Int×Int)→Int→Prop
 | [],_=>True
 | (a,n)::rs,e=>0≤a∧a<16∧3≤n∧n≤16-a∧e<a∧Dy rs (a+n)
instance runsOKd:∀(r:List (Int×Int)) (e:Int),Decidable (Dy r e)
 | [],_=>inferInstanceAs (Decidable True)
 | (_,_)::rs,_=>have:=runsOKd rs;inferInstanceAs (Decidable (_∧_∧_∧_∧_∧_))
def Bw (r:List (Int×Int)) (i:Int):Bool:=r.any fun q=>decide (q.1≤i∧i<q.1+q.2)
def Gv (p:Int→Bool):List Int:=((List.range 16).map fun i=>((i:Nat):Int)).filter p
def C6 (r:List (Int×Int)) (rest:List Int):Option (List Int):=
 if AI rest∧Dy r (-1)∧∀x∈rest,Bw r x=false then some (Gv fun i=>Bw r i||rest.contains i) else none
def C7 (v:Int):List Int→Bool→Int→List Bool
 | [],_,_=> []
 |x::l,f,last=>Ba (if f=true then D3 (x-v)+1 else x-last).toNat++C7 v l false x
def DS (v:Int) (l:List Int):List Bool:=Ba (l.length+1)++C7 v l true 0
def CW (v:Int):List (Int×Int)→Bool→Int→List Bool
 | [],_,_=> []
 | (a,n)::l,f,e=>Ba (if f=true then D3 (a-v)+1 else a-e).toNat++Ba (n-3+1).toNat++CW v l false (a+n)
def BL (v:Int) (l:List Int):List Bool:=Ba ((As l).1.length+1)++CW v (As l).1 true 0++DS v (As l).2
def Bo (bs:List Bool) (p:Nat) (v:Int):Option (List Int×Nat):=match AH bs p with
 |none=>none
 |some x=>if x.1≤17 then(match BJ bs (x.1-1) true x.2 v with
  |none=>none
  |some r=>match DF bs r.2 v with
   |none=>none
   |some g=>match C6 r.1 g.1 with
    |none=>none
    |some l=>if (BL v l).length=g.2-p∧(bs.drop p).take (BL v l).length=BL v l then some (l,g.2) else none) else none
def Bc (l:List Int):List Int→Bool→Nat→List Nat
 | [],_,_=> []
 |x::ref,i,n=>if l.contains x=i then Bc l ref i (n+1) else n::Bc l ref (!i) 1
def blocks (ref l:List Int):List Int:=(Bc l ref true 0).map fun n=>((n:Nat):Int)
def Bi (ref l:List Int):List Int:=l.filter fun x=> !ref.contains x
def A0:List Int→List Int→Bool→Option (List Int)
 | [],left,i=>some (if i=true then left else [])
 |n::bs,left,i=>if n<0∨(left.length:Int)<n then none else
  match A0 bs (left.drop n.toNat) (!i) with
  |some l=>some ((if i=true then left.take n.toNat else [])++l)
  |none=>none
def Cs (ref bl rest:List Int):Option (List Int):=match A0 bl ref true with
 |none=>none
 |some l=>if AI (BN (rest++l))∧blocks ref (BN (rest++l))=bl∧Bi ref (BN (rest++l))=rest then some (BN (rest++l)) else none
def Ci (bs:List Bool):Nat→Bool→Nat→Option (List Int×Nat)
 |0,_,p=>some ([],p)
 |k+1,f,p=>match AH bs p with
  |none=>none
  |some x=>match Ci bs k false x.2 with
   |some r=>some ((if f=true then(x.1:Int)-1 else(x.1:Int))::r.1,r.2)
   |none=>none
def CD (bs:List Bool) (p:Nat) (v:Int) (ref:List Int):Option (List Int×Nat):=match AH bs p with
 |none=>none
 |some x=>if x.1≤17 then(match Ci bs (x.1-1) true x.2 with
  |none=>none
  |some q=>match CV bs q.2 v with
   |none=>none
   |some r=>match Cs ref q.1 r.1 with
    |some l=>some (l,r.2)
    |none=>none) else none
def Bj (bs:List Bool):Nat→Bool→Nat→Option (List Int×Nat)
 |0,_,p=>some ([],p)
 |k+1,f,p=>match AH bs p with
  |none=>none
  |some x=>if x.1≤17 then(match Bj bs k false x.2 with
   |some r=>some ((if f=true then(x.1:Int)-1 else(x.1:Int))::r.1,r.2)
   |none=>none) else none
def DT (ref bl rest:List Int):Option (List Int):=
 if¬(AI ref∧AI rest∧bl.length≤16) then none else match A0 bl ref true with
  |none=>none
  |some l=>let m:=Gv fun i=>l.contains i||rest.contains i
   if blocks ref m=bl∧Bi ref m=rest then some m else none
def DJ (bs:List Bool) (p:Nat) (v:Int) (ref:List Int):Option (List Int×Nat):=match AH bs p with
 |none=>none
 |some x=>if x.1≤17 then(match Bj bs (x.1-1) true x.2 with
  |none=>none
  |some q=>match Bo bs q.2 v with
   |none=>none
   |some r=>match DT ref q.1 r.1 with
    |some l=>some (l,r.2)
    |none=>none) else none
end Go.Abs
namespace Go.Abs
def Cl (out:List (List Int)):Nat:=(out.map List.length).sum
def AY (g:Gr):Prop:=0≤g.n∧g.n≤16∧(g.out.length:Int)=g.n∧(∀l∈g.out,AI l∧∀x∈l,x<g.n)∧Cl g.out≤120
instance (g:Gr):Decidable (AY g):=inferInstanceAs (Decidable (_∧_∧_∧_∧_))
def Au:Gr:=⟨0,[]⟩
def B5:BX:=⟨0,0,0,false,[],[]⟩
def Cm:C1:=⟨false,0,false,0,Au,B5⟩
abbrev Rd:=Nat→Int→Option (List Int×Nat)
def A2 (rd:Rd):Nat→Int→Nat→Option (List (List Int)×Nat)
 |0,_,p=>some ([],p)
 |k+1,v,p=>match rd p v with
  |none=>none
  |some r=>match A2 rd k (v+1) r.2 with
   |some q=>some (r.1::q.1,q.2)
   |none=>none
def CA (bs:List Bool) (rd:Rd):Option Gr:=match AH bs 0 with
 |none=>none
 |some x=>if x.1≤17 then(match A2 rd (x.1-1) 0 x.2 with
  |none=>none
  |some r=>if r.2=bs.length∧AY ⟨(x.1:Int)-1,r.1⟩ then some ⟨(x.1:Int)-1,r.1⟩ else none) else none
def AC (g:Gr) (v:Int):List Int:=g.out.getD v.toNat []
def Cj (bs:List Bool):Option Gr:=CA bs (CV bs)
def Ck (a:Gr) (bs:List Bool):Option Gr:=CA bs fun p v=>CD bs p v (AC a v)
def Ee (bs:List Bool):Option Gr:=CA bs (Bo bs)
def Gw (a:Gr) (bs:List Bool):Option Gr:=CA bs fun p v=>DJ bs p v (AC a v)
def C8 (l:List Obj) (id:Int):Option Obj:=l.find? fun o=>decide (o.id=id)
def BM {α:Type} (f:α→Bool) (l:List α):Int:=match l.findIdx? f with|some i=>(i:Int) |none=>-1
def CQ (l:List Obj):Prop:=l.length≤12∧(∀o∈l,1≤o.id∧o.id≤1048576∧DI o.data∧o.base≠o.id∧(o.base=0∨∃q∈l,q.id=o.base))∧l.Pairwise fun a b=>a.id<b.id
instance (l:List Obj):Decidable (CQ l):=inferInstanceAs (Decidable (_∧_∧_))
def Bb (l:List Obj):Nat→Int→List Obj
 |0,_=> []
 |k+1,id=>if id=0 then [] else match C8 l id with
  |some o=>o::Bb l k o.base
  |none=> []
def CI (l:List Obj) (id:Int):Int×Int:=match C8 l id with
 |none=>(0,3)
 |some _=>if 3<(Bb l 4 id).length then(0,2) else(((Bb l 4 id).length:Int),0)
def C9 (rf:List Bool→Option Gr) (rd:Gr→List Bool→Option Gr):List Obj→Option Gr
 | []=>some Au
 |o::w=>if o.base=0 then rf (Ao o.data) else match C9 rf rd w with
  |none=>none
  |some a=>rd a (Ao o.data)
def By (l:List Obj) (id:Int):Gr×Int:=if (CI l id).2≠0 then(Au,(CI l id).2) else match C9 Cj Ck (Bb l 3 id) with
 |some g=>(g,0)
 |none=>(Au,9)
def gi (l:List Int) (i:Int):Int:=l.getD i.toNat 0
def si (l:List Int) (i x:Int):List Int:=l.set i.toNat x
def BO (k:Int):Bool:=decide (k=1∨k=2∨k=4)
def Da (g:Gr) (k a:Int):Int:=if¬(1≤k∧k≤6) then 1 else if BO k=true∧¬(0≤a∧a<g.n) then 3 else 0
def Iu (n:Nat):List Int:=(List.range n).map fun i=>((i:Nat):Int)
def B0 (g:Gr) (k a:Int):BX:=⟨k,if BO k=true then a else 0,0,false,if k=4 then [a] else [],if k=4 then si (List.replicate g.n.toNat (-1)) a 0 else if k=5 then Iu g.n.toNat else []⟩
def Br (g:Gr) (j:BX):Bool:=if j.kind=1 then decide (1≤j.at_) else if j.kind=4 then decide ((j.list.length:Int)≤j.at_) else decide (g.n≤j.at_)
def AU (v:Int) (s:List Int×List Int) (w:Int):List Int×List Int:=if gi s.1 w<0 then(si s.1 w (gi s.1 v+1),s.2++[w]) else s
def A4 (v:Int) (s:List Int×Bool) (w:Int):List Int×Bool:=
 (si (si s.1 v (min (gi s.1 v) (gi s.1 w))) w (min (gi s.1 v) (gi s.1 w)),s.2||!decide (gi s.1 v=gi s.1 w))
def CR (l:List Int) (n:Nat):List Int:=l++List.replicate (n+1-l.length) 0
def AN (g:Gr) (j:BX):BX:=
 if j.kind=1 then{j with at_:=j.at_+1,out:=AC g j.a}
 else if j.kind=2 then{j with at_:=j.at_+1,out:=j.out++if (AC g j.at_).contains j.a=true then [j.at_] else []}
 else if j.kind=3 then{j with at_:=j.at_+1,out:=si (CR j.out (AC g j.at_).length) (AC g j.at_).length (gi (CR j.out (AC g j.at_).length) (AC g j.at_).length+1)}
 else if j.kind=4 then{j with at_:=j.at_+1,out:=((AC g (gi j.list j.at_)).foldl (AU (gi j.list j.at_)) (j.out,j.list)).1,list:=((AC g (gi j.list j.at_)).foldl (AU (gi j.list j.at_)) (j.out,j.list)).2}
 else if j.kind=5 then
  (let q:=(AC g j.at_).foldl (A4 j.at_) (j.out,j.move)
   if j.at_+1=g.n∧q.2=true then{j with at_:=0,move:=false,out:=q.1} else{j with at_:=j.at_+1,move:=q.2,out:=q.1})
 else{j with at_:=j.at_+1,out:=j.out++((AC g j.at_).map fun w=> [j.at_,w]).flatten}
def Fn (g:Gr) (j:BX):Nat→BX→Bool
 |0,_=>false
 |k+1,x=>if x=j then true else if Br g x=true then false else Fn g j k (AN g x)
def Ef (l:List Int):Nat:=(l.map Int.toNat).sum
def EG (g:Gr) (j:BX):Nat:=
 if j.kind=1 then(1-j.at_).toNat
 else if j.kind=5 then Ef j.out*(2*g.n.toNat+2)+(if j.move=true then g.n.toNat else 0)+(g.n-j.at_).toNat
 else(g.n-j.at_).toNat
def CN (g:Gr) (j:BX):Bool:=decide (Da g j.kind j.a=0)&&Fn g j (EG g (B0 g j.kind j.a)+1) (B0 g j.kind j.a)
def Hz (v:Cv):Obj:=⟨v.id,v.base,v.data⟩
def Ar (s:AP):List Obj:=s.vers.map Hz
def HA (b:CL):Int:=(4+(b.data.size:Int)+59)/60
def AE (s:AP):List (Int×Int):=s.vers.map fun v=>(v.at_,HA v.data)
def Ct (l:List Cv):Int:=match l.getLast? with|some v=>v.id|none=>0
def apart (x y:Int×Int):Prop:=¬(y.1<x.1+x.2∧x.1<y.1+y.2)
instance (x y:Int×Int):Decidable (apart x y):=inferInstanceAs (Decidable (¬_))
def CB (l:List (Int×Int)) (n:Int):Prop:=1≤n∧n≤100∧l.length≤13∧(∀x∈l,0≤x.1∧1≤x.2∧x.1+x.2≤n)∧l.Pairwise apart
instance (l:List (Int×Int)) (n:Int):Decidable (CB l n):=inferInstanceAs (Decidable (_∧_∧_∧_∧_))
def AA (s:AP) (l:List Obj) (x:C1):Prop:=
 if x.opn=false then x=Cm else
  (x.pin=0∨∃v∈s.vers,v.id=x.pin)∧(if x.on=true then 0≤x.frm∧x.frm≤Ct s.vers∧AY x.stage else x.frm=0∧x.stage=Au)∧
    (x.job=B5∨(x.pin≠0∧CN (By l x.pin).1 x.job=true∧Br (By l x.pin).1 x.job=false))
instance (s:AP) (l:List Obj) (x:C1):Decidable (AA s l x):=by unfold AA;exact inferInstance
def Gx (v:Cv):Prop:=0≤v.parent∧v.parent<v.id∧¬(v.tag=true∧v.gone=true)
instance (v:Cv):Decidable (Gx v):=inferInstanceAs (Decidable (_∧_∧_))
def Gc (l:List Cv):Bool:=match l.getLast? with|some v=>v.gone|none=>false
def Fk (s:AP):Prop:=1≤s.keep∧s.keep≤8∧1≤s.blocks∧s.blocks≤100∧(∀v∈s.vers,Gx v)∧Gc s.vers=false∧CQ (Ar s)
instance (s:AP):Decidable (Fk s):=inferInstanceAs (Decidable (_∧_∧_∧_∧_∧_∧_))
def Gd (s:AP):Prop:=Fk s∧s.sess.length=3∧(∀o∈Ar s,(By (Ar s) o.id).2=0)∧∀x∈s.sess,AA s (Ar s) x
instance (s:AP):Decidable (Gd s):=inferInstanceAs (Decidable (_∧_∧_∧_))
def Bm (s:AP):Prop:=Gd s∧CB (AE s) s.blocks
instance (s:AP):Decidable (Bm s):=inferInstanceAs (Decidable (_∧_))
end Go.Abs
