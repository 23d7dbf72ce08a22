/- Regions whose order is open up to a place, and which go on in the text's order: the rule; what is called there may be handed own memory. No program. -/
import Derived.Test.YtoklapibcmnaeaaGreatP5
import Derived.WalkKit
import Derived.ProofKit
import Derived.OpenShut
import Derived.SizedLaws
import Derived.ReadAgain
import Derived.Test.YtoklapibcmnaeaaGreatProg
import Derived.KernelRfl
set_option linter.unusedVariables false
set_option linter.unusedSimpArgs false
namespace Go.Abs
section
variable {P:Program} {L:Bool} {T:Nat→Option TI} {ops:Array Oper} {sl:Nat→Nat} {K:Fr→List Ag→Prop}
theorem Ub {C:Bc} {call:DA} (hcall:∀f args M (K K' :AV→List Ag→Prop),(∀r M,K r M→K' r M)→call f args M K→Dl C f args M K') (tk:Bu C.P T) {i:Nat} {o:Oper} (ho:ops[i]?=some o) (hops:∀(k:Nat) (o:Oper),ops[k]?=some o→Bm C.n o=true) {Q' :Exit→Act→World→Prop} {next:Act→World→Prop} {F:Fr} {M:List Ag} {a:Act} {w:World}
 (hN:∀F M a w,K F M→CJ C F M a w→next a w) (h:BP T call ops sl i F M K) (r:CJ C F M a w):wpOpIn (FX C) 0 C.P ops Q' i next a w:=by
 unfold BP at h
 unfold wpOpIn
 simp only[ho] at h ⊢
 have go:∀F,CC T call o (sl i) F M K→CJ C F M a w→o.wpIn (FX C) 0 C.P a w next Q' :=fun F h r=>by
  obtain⟨σ,own,R⟩:=r
  exact GS tk (hops i o ho) (DM (call:=call) (call' :=Dl C) (fun f args M K K' hk hc=>hcall f args M K K' (fun r M h=>hk _ _ h) hc) (fun _ _ h=>h) h) R hN
 unfold Fx at h
 cases hg:o.guard with
 |none=>
  simp only[hg] at h
  rw[if_pos (by simp[Region.wanted,hg])]
  exact go F h r
 |some g=>
  obtain⟨j,want⟩:=g
  simp only[hg] at h
  cases hd:(ops[j]?).bind (·.dst) with
  |none=>simp only[hd] at h
  |some d=>
   simp only[hd] at h
   have hor:(∃b,F d= .bool b)∨F d= .tup []:=by
    cases hFd:F d<;>simp only[hFd] at h
    .exact .inl ⟨_,rfl⟩
    .rename_i xs
     cases xs with
     |nil=>exact .inr rfl
     |cons x xs=>simp at h
   have r' :=r
   obtain⟨σ,own,R⟩:=r'
   obtain⟨oj,hj,hdj⟩:=Option.bind_eq_some_iff.1 hd
   have hdn:d<C.n:=by
    have h1:=hops j oj hj
    simp only[Bm,Bool.and_eq_true,hdj] at h1
    simpa using h1.2
   have hv:=R.tmp d hdn
   rcases hor with⟨b,hFd⟩ |hFd
   rotate_left
   .rw[hFd] at hv
    obtain⟨cs,he,_⟩:=hv
    have hget:a.tmps[d]?=some (.tuple cs):=by
     have hs:=R.size
     have hlt:d<a.tmps.size:=by rw[hs];exact hdn
     simp[Array.getD,hlt] at he
     simp[hlt,he]
    have hy:yielded ops a.tmps j=none:=by simp[yielded,hd,hget]
    rw[if_neg (by simp[Region.wanted,hg,hy])]
    simp only[hFd] at h
    exact⟨fun _ _=>trivial,hN _ _ _ _ h ⟨σ,own,R.put o.dst (v:=undef) ⟨#[],rfl,rfl,fun _=>rfl⟩⟩⟩
   rw[hFd] at hv
   simp only[hFd] at h
   have he:=hv.1
   have hget:a.tmps[d]?=some (.bool b):=by
    have hs:=R.size
    have hlt:d<a.tmps.size:=by rw[hs];exact hdn
    simp[Array.getD,hlt] at he
    simp[hlt,he]
   have hy:yielded ops a.tmps j=some b:=by simp[yielded,hd,hget]
   by_cases hbw:b=want
   .rw[if_pos (by simp[Region.wanted,hg,hy,hbw])]
    simp only[hbw,beq_self_eq_true] at h
    exact go F h r
   .rw[if_neg (by simp[Region.wanted,hg,hy,hbw])]
    have:(b==want)=false:=by simpa using hbw
    simp only[this] at h
    exact⟨fun _ _=>trivial,hN _ _ _ _ h ⟨σ,own,R.put o.dst (v:=undef) ⟨#[],rfl,rfl,fun _=>rfl⟩⟩⟩
end
section
variable {P:Program} {L:Bool} {T:Nat→Option TI} {K:Fr→List Ag→Prop}
theorem JD {call:DA} (hm:∀f args M (K K' :AV→List Ag→Prop),(∀r M,K r M→K' r M)→call f args M K→call f args M K') {K' :Fr→List Ag→Prop} (hK:∀F M,K F M→K' F M) {l tl:List Oper} {base:Nat}:∀(rest pre:List Oper) (F:Fr) (M:List Ag),l=pre++rest++tl→Ak T call l.toArray rest (base+A3 pre) F M K→
 BK T call l.toArray (fun i=>base+A3 (l.take i)) (List.range' pre.length rest.length) F M K'
 | [],pre,F,M,hl,h=>hK _ _ h
 |o::rest,pre,F,M,hl,h=>by
  have hi:l.toArray[pre.length]?=some o:=by rw[hl];simp
  have ht:l.take pre.length=pre:=by rw[hl];simp
  have ih:∀F M,Ak T call l.toArray rest (base+A3 pre+BZ o) F M K→BK T call l.toArray (fun i=>base+A3 (l.take i)) (List.range' (pre.length+1) rest.length) F M K' :=fun F M h=>by
   have:=JD hm hK (l:=l) (tl:=tl) (base:=base) rest (pre++[o]) F M (by rw[hl];simp) (by rw[GE,Ir,←Nat.add_assoc];exact h)
   simpa using this
  simp only[List.length_cons,List.range'_succ,BK]
  unfold BP
  simp only[hi,ht]
  simp only[Ak] at h
  have mono:∀F,CC T call o (base+A3 pre) F M (fun F' M' =>Ak T call l.toArray rest (base+A3 pre+BZ o) F' M' K)→CC T call o (base+A3 pre) F M (fun F' M' =>BK T call l.toArray (fun i=>base+A3 (l.take i)) (List.range' (pre.length+1) rest.length) F' M' K'):=fun F h=>
   DM (call:=call) (call' :=call) (fun f args M K K' hk h=>hm f args M K K' (fun r M h=>hk _ _ h) h) (fun F M h=>ih F M h) h
  unfold Fx
  split at h
  .rename_i hg
   simp only[hg]
   exact mono _ h
  .rename_i j want hg
   simp only[hg]
   split at h
   .rename_i d hd
    simp only[hd]
    unfold gK at h
    split at h
    .rename_i b hF
     simp only[hF]
     by_cases hb:b=want
     .simp only[hb,beq_self_eq_true]
      have:=h.1 hb
      simp only at this
      rw[FS F d _ (by rw[hF,hb])] at this
      exact mono _ this
     .have e:(b==want)=false:=by simpa using hb
      simp only[e]
      have hbn:b= !want:=by cases b<;>cases want<;>simp_all
      have:=h.2 hbn
      simp only at this
      rw[FS F d _ (by rw[hF,hbn])] at this
      exact ih _ _ this
    .rename_i hF
     simp only[hF]
     rw[FS F d _ hF] at h
     exact ih _ _ h
    .exact h.elim
   .exact h.elim
end
section
variable {P:Program} {L:Bool} {T:Nat→Option TI} {sl:Nat→Nat} {K:Fr→List Ag→Prop}
theorem Wr {C:Bc} {m:Nat} (hC:C.P=P) (tk:Bu P T) {l:List Oper} (hops:∀(k:Nat) (o:Oper),l.toArray[k]?=some o→Bm C.n o=true) (hml:m≤l.length) (hd:∀(i k:Nat) (oi ok:Oper),l.toArray[i]?=some oi→l.toArray[k]?=some ok→(∀p∈BG oi,p<i)∧(k<i→(i<m∧DU L l.toArray ok oi=true)∨∀S,HC l.toArray S→(∀p∈BG oi,S p)→S k)) (hc5:∀(k:Nat) (o:Oper),l.toArray[k]?=some o→Ax o.op≤5)
 (hsl:∀(i k:Nat) (oi ok:Oper),l.toArray[i]?=some oi→l.toArray[k]?=some ok→A2 oi.op=true→A2 ok.op=true→i≠k→sl i≠sl k) {Q' :Exit→Act→World→Prop} (hQ:∀F M a w,K F M→CJ C F M a w→Q' .normal a w):
 ∀(fuel:Nat) (listed:Array Bool) (rem:List Nat) (F:Fr) (M:List Ag) (a:Act) (w:World),rem=(List.range m).filter (fun i=> !listed.getD i true)→rem.length+(l.length-m)≤fuel→(∀i,m≤i→listed.getD i false=false)→listed.size=l.length→HC l.toArray (fun i=>listed.getD i false=true)→
 (∀j oj,l.toArray[j]?=some oj→A2 oj.op=true→sl j<M.length)→BK T (Ah P L) l.toArray sl rem F M (fun F M=>BK T (Ab P) l.toArray sl (List.range' m (l.length-m)) F M K)→CJ C F M a w→wpAnyIn (FX C) 0 C.P .any l.toArray Q' fuel listed a w:=by
 intro fuel
 have hready:∀(listed:Array Bool) i,i∈Region.ready .any l.toArray listed→i<l.length∧listed.getD i true=false∧∀o,l.toArray[i]?=some o→∀p∈BG o,listed.getD p false=true:=by
  intro listed i hi
  simp only[Region.ready,List.mem_filter,List.mem_range,Bool.and_eq_true] at hi
  obtain⟨h1,h2,h3⟩:=hi
  refine⟨by simpa using h1,by simpa using h2,fun o ho p hp=>?_⟩
  rw[ho] at h3
  simp only[Option.map_some,Option.getD_some] at h3
  simp only[BG,List.mem_map,List.mem_filter] at hp
  obtain⟨e,⟨he,hb⟩,rfl⟩:=hp
  have h4:=Array.all_eq_true'.1 h3 e (by simpa using he)
  simp only[hb,Bool.not_true,Bool.false_or] at h4
  exact h4
 have hleast:∀(listed:Array Bool) (i:Nat),listed.size=l.length→i<l.length→listed.getD i true=false→(∀p,p<i→listed.getD p false=true)→i∈Region.ready .any l.toArray listed:=by
  intro listed i hsz hlt hi hmin
  have hi2:l.toArray[i]?=some l[i]:=by simp[hlt]
  simp only[Region.ready,List.mem_filter,List.mem_range,Bool.and_eq_true]
  refine⟨by simpa using hlt,by simp[hi],?_⟩
  rw[hi2]
  simp only[Option.map_some,Option.getD_some]
  rw[Array.all_eq_true']
  intro e he
  cases hb:Region.binds .any e with
  |false=>rfl
  |true=>
   simp only[Bool.not_true,Bool.false_or]
   refine hmin _ ((hd i i _ _ hi2 hi2).1 _ ?_)
   simp only[BG,List.mem_map,List.mem_filter]
   exact⟨e,⟨by simpa using he,hb⟩,rfl⟩
 have hstep:∀(listed:Array Bool) (i:Nat),listed.size=l.length→i<l.length→∀t,(listed.setIfInBounds i true).getD t false=true↔t=i∨listed.getD t false=true:=by
  intro listed i hsz hil t
  have hil:i<listed.size:=by rw[hsz];exact hil
  by_cases e:t=i
  .subst e;simp[Array.getD,hil]
  .have:¬i=t:=fun h=>e h.symm
   by_cases htl:t<listed.size
   .simp[Array.getD,htl,e,this,Array.getElem_setIfInBounds]
   .simp[Array.getD,htl,e]
 have hTF:∀(listed:Array Bool) t,listed.size=l.length→t<l.length→(listed.getD t true=false↔¬listed.getD t false=true):=by
  intro listed t hsz ht
  have:t<listed.size:=by omega
  simp[Array.getD,this]
 have chain:∀(fuel:Nat) (listed:Array Bool) (j:Nat) (F:Fr) (M:List Ag) (a:Act) (w:World),m≤j→j≤l.length→l.length-j≤fuel→listed.size=l.length→(∀t,listed.getD t false=true↔t<j)→
  BK T (Ab P) l.toArray sl (List.range' j (l.length-j)) F M K→CJ C F M a w→wpAnyIn (FX C) 0 C.P .any l.toArray Q' fuel listed a w:=by
  intro fuel
  induction fuel with
  |zero=>
   intro listed j F M a w hmj hjl hf hsz hls h r
   have hj:j=l.length:=by omega
   subst hj
   rw[Nat.sub_self] at h
   refine⟨?_,hQ _ _ _ _ h r⟩
   apply Classical.byContradiction
   intro hne
   obtain⟨i,hi⟩:=List.exists_mem_of_ne_nil _ hne
   have h1:=hready listed i hi
   exact((hTF listed i hsz h1.1).1 h1.2.1) ((hls i).2 h1.1)
  |succ fuel ih=>
   intro listed j F M a w hmj hjl hf hsz hls h r
   refine⟨fun hr=>?_,fun i hi=>?_⟩
   .have hj:j=l.length:=by
     apply Classical.byContradiction
     intro hne
     have:=hleast listed j hsz (by omega) ((hTF listed j hsz (by omega)).2 fun e=>by have:=(hls j).1 e;omega) (fun p hp=>(hls p).2 hp)
     rw[hr] at this;simp at this
    subst hj
    rw[Nat.sub_self] at h
    exact hQ _ _ _ _ h r
   .have h1:=hready listed i hi
    have hij:i=j:=by
     have hge:¬i<j:=fun hlt=>((hTF listed i hsz h1.1).1 h1.2.1) ((hls i).2 hlt)
     apply Classical.byContradiction
     intro hne
     have hlt:j<i:=by omega
     have hjm:j<l.length:=by omega
     rcases(hd i j _ _ (show l.toArray[i]?=some (l[i]'h1.1) by simp[h1.1]) (show l.toArray[j]?=some (l[j]'hjm) by simp[hjm])).2 hlt with⟨h,_⟩ |h
     .omega
     .have:=h (fun t=>listed.getD t false=true) (fun t o ho ht p hp=>by
       have ht' :=(hls t).1 ht
       show listed.getD p false=true
       rw[hls]
       have:=(hd t t o o ho ho).1 p hp
       omega) (h1.2.2 _ (by simp[h1.1]))
      have:=(hls j).1 this
      omega
    subst hij
    have hi2:l.toArray[i]?=some (l[i]'h1.1):=by simp[h1.1]
    rw[show l.length-i=(l.length-(i+1))+1 by omega,List.range'_succ] at h
    refine Ub (call:=Ab P) (fun f args M K K' hk hc=>(hc C hC).mono hk) (hC ▸ tk) hi2 hops (fun F' M' a' w' hk r' =>?_) h r
    exact ih _ (i+1) F' M' a' w' (by omega) (by omega) (by omega) (by simpa using hsz) (fun t=>by rw[hstep listed i hsz h1.1 t,hls];omega) hk r'
 induction fuel with
 |zero=>
  intro listed rem F M a w hrem hlen hlt hsz hcl hsm h r
  have hr0:rem=[]:=by
   have:rem.length=0:=by omega
   simpa using this
  subst hr0
  refine chain 0 listed m F M a w (Nat.le_refl _) hml (by simp at hlen;omega) hsz (fun t=>⟨fun ht=>?_,fun ht=>?_⟩) h r
  .apply Classical.byContradiction
   intro hn
   rw[hlt t (by omega)] at ht;simp at ht
  .apply Classical.byContradiction
   intro hn
   have:t∈(List.range m).filter (fun i=> !listed.getD i true):=List.mem_filter.2 ⟨by simpa using ht,by simp[(hTF listed t hsz (by omega)).2 hn]⟩
   rw[←hrem] at this;simp at this
 |succ fuel ih=>
  intro listed rem F M a w hrem hlen hlt hsz hcl hsm h r
  by_cases hr0:rem=[]
  .subst hr0
   refine chain (fuel+1) listed m F M a w (Nat.le_refl _) hml (by simp at hlen;omega) hsz (fun t=>⟨fun ht=>?_,fun ht=>?_⟩) h r
   .apply Classical.byContradiction
    intro hn
    rw[hlt t (by omega)] at ht;simp at ht
   .apply Classical.byContradiction
    intro hn
    have:t∈(List.range m).filter (fun i=> !listed.getD i true):=List.mem_filter.2 ⟨by simpa using ht,by simp[(hTF listed t hsz (by omega)).2 hn]⟩
    rw[←hrem] at this;simp at this
  refine⟨fun hr=>?_,fun i hi=>?_⟩
  .exfalso
   obtain⟨i,rest,hir⟩:=List.exists_cons_of_ne_nil hr0
   have hmem:i∈rem:=by rw[hir];simp
   have hpw:rem.Pairwise (·<·):=by rw[hrem];exact(DZ _).filter _
   have hmem' :=List.mem_filter.1 (hrem ▸ hmem)
   have him:i<m:=by simpa using hmem'.1
   have hmin:∀p,p<i→listed.getD p false=true:=by
    intro p hp
    apply Classical.byContradiction
    intro hno
    have:p∈rem:=by
     rw[hrem]
     exact List.mem_filter.2 ⟨by simp;omega,by simp[(hTF listed p hsz (by omega)).2 hno]⟩
    rw[hir] at this hpw
    rcases List.mem_cons.1 this with h|h
    .omega
    .have:=(List.pairwise_cons.1 hpw).1 p h;omega
   have:=hleast listed i hsz (by omega) (by simpa using hmem'.2) hmin
   rw[hr] at this;simp at this
  .have h1:=hready listed i hi
   have hi2:l.toArray[i]?=some (l[i]'h1.1):=by simp[h1.1]
   have him:i<m:=by
    apply Classical.byContradiction
    intro hge
    obtain⟨k,rest,hkr⟩:=List.exists_cons_of_ne_nil hr0
    have hkm:k∈rem:=by rw[hkr];simp
    have hk' :=List.mem_filter.1 (hrem ▸ hkm)
    have hkm:k<m:=by simpa using hk'.1
    rcases(hd i k _ _ hi2 (show l.toArray[k]?=some (l[k]'(by omega)) by simp)).2 (by omega) with⟨h,_⟩ |h
    .omega
    .have h3:=h _ hcl (h1.2.2 _ hi2)
     exact((hTF listed k hsz (by omega)).1 (by simpa using hk'.2)) h3
   have hmem:i∈rem:=by rw[hrem];exact List.mem_filter.2 ⟨by simpa using him,by simp[h1.2.1]⟩
   obtain⟨pre,post,hpp⟩:=List.append_of_mem hmem
   have hsorted:rem.Pairwise (·<·):=by rw[hrem];exact(DZ _).filter _
   rw[hpp] at hsorted
   have hs1:=List.pairwise_append.1 hsorted
   have hprelt:∀k∈pre,k<i:=fun k hk=>hs1.2.2 k hk i (by simp)
   have hpostgt:∀k∈post,i<k:=(List.pairwise_cons.1 hs1.2.1).1
   have hpull:=TL (n:=C.n) (sl:=sl) (L:=L) (F:=F) (M:=M) tk hops hsl hi2 pre post (fun k hk=>Nat.ne_of_lt (hprelt k hk)) (fun k hk ok hok=>?_) (fun ha=>hsm i _ hi2 ha) ⟨C,a,w,hC,rfl,r⟩ (by rw[←hpp];exact h)
   .refine KC hC (hC ▸ tk) hi2 hops (fun F' M' a' w' hk r' =>?_) (Iq hops hc5 hpull) r
    refine ih _ (pre++post) F' M' a' w' ?_ ?_ ?_ (by simpa using hsz) ?_ (fun j oj hj ha=>Nat.lt_of_lt_of_le (hsm j oj hj ha) hk.2) hk.1 r'
    .have:(List.range m).filter (fun t=> !(listed.setIfInBounds i true).getD t true)=((List.range m).filter (fun t=> !listed.getD t true)).filter (fun t=>t !=i):=by
      rw[List.filter_filter]
      refine List.filter_congr fun t ht=>?_
      have htl:t<listed.size:=by rw[hsz];have:t<m:=by simpa using ht
                                 omega
      by_cases e:t=i
      .subst e;simp[Array.getD,htl]
      .have:¬i=t:=fun h=>e h.symm
       simp[Array.getD,htl,e,this,Array.getElem_setIfInBounds]
     rw[this,←hrem,hpp,List.filter_append,List.filter_cons]
     simp only[bne_self_eq_false,Bool.false_eq_true,if_false]
     rw[List.filter_eq_self.2 (fun k hk=>by simp;exact Nat.ne_of_lt (hprelt k hk)),List.filter_eq_self.2 (fun k hk=>by simp;exact(Nat.ne_of_gt (hpostgt k hk)))]
    .rw[hpp] at hlen
     simp at hlen ⊢
     omega
    .intro t ht
     apply Classical.byContradiction
     intro hn
     have hn' :(listed.setIfInBounds i true).getD t false=true:=by simpa using hn
     rw[hstep listed i hsz h1.1 t] at hn'
     rcases hn' with h|h
     .omega
     .rw[hlt t ht] at h;simp at h
    .intro k o hk hlist p hp
     rw[hstep listed i hsz h1.1] at hlist ⊢
     rcases hlist with rfl|hlist
     .exact .inr (h1.2.2 o hk p hp)
     .exact .inr (hcl k o hk hlist p hp)
   .have hkrem:k∈rem:=by rw[hpp];simp[hk]
    have hkm:=List.mem_filter.1 (hrem ▸ hkrem)
    rcases(hd i k _ ok hi2 hok).2 (hprelt k hk) with h|h
    .exact h.2
    .exfalso
     have h3:=h _ hcl (h1.2.2 _ hi2)
     have hkl:k<l.length:=by have:=hprelt k hk;omega
     exact((hTF listed k hsz hkl).1 (by simpa using hkm.2)) h3
end
def UD (L:Bool) (m:Nat) (l:List Oper):Bool:=HV (fun _ ok i oi=>decide (i<m)&&DU L l.toArray ok oi) l.toArray l [] [] 0&&(decide (m≤l.length)&&l.all fun o=>decide (Ax o.op≤5))
theorem W.regdS {P:Program} {T:Nat→Option TI} {p:Nat} {F:Fr} {M:List Ag} {Q:Cd} {id:Nat} {l:List Oper} (n m:Nat) (hn:A3 l=n) (L:Bool) (hp:P.follows .mixedOrders=true) (hd:UD L m l=true)
 (h:∀K:Fr→List Ag→Prop,(∀F M,Q .normal F M→K F M)→Ak T (Ah P L) l.toArray (l.take m) M.length F (M++List.replicate n .free) fun F' M' =>Ak T (Ab P) l.toArray (l.drop m) (M.length+A3 (l.take m)) F' M' K):W P T p (.region id l.toArray true) F M Q:=by
 intro tk C hC hp' hb a w r
 simp only[UD,Bool.and_eq_true] at hd
 simp only[CD] at hb
 subst hn
 have hops:∀(k:Nat) (o:Oper),l.toArray[k]?=some o→Bm C.n o=true:=fun k o ho=>by
  refine List.all_eq_true.1 hb o ?_
  rw[←Array.getElem?_toList] at ho
  exact List.mem_of_getElem? ho
 have hc5:∀(k:Nat) (o:Oper),l.toArray[k]?=some o→Ax o.op≤5:=fun k o ho=>by
  have:=List.all_eq_true.1 hd.2.2 o (List.mem_of_getElem? (by simpa using ho))
  simpa using this
 have hml:m≤l.length:=by simpa using hd.2.1
 refine wpIn_region_any (hC ▸ hp) ?_
 obtain⟨σ,own,R⟩:=r
 have hm1:∀f args M (K K' :AV→List Ag→Prop),(∀r M,K r M→K' r M)→Ah P L f args M K→Ah P L f args M K' :=fun f args M K K' hk h=>Ah.mono (fun r bs h=>hk _ _ h) h
 have hm2:∀f args M (K K' :AV→List Ag→Prop),(∀r M,K r M→K' r M)→Ab P f args M K→Ab P f args M K' :=fun f args M K K' hk h C hC=>(h C hC).mono hk
 have hlt:(l.take m).length=m:=by simp;omega
 have h' :=JD (call:=Ah P L) hm1 (K' :=fun F' M' =>BK T (Ab P) l.toArray (fun i=>M.length+A3 (l.take i)) (List.range' m (l.length-m)) F' M' (Q .normal)) (fun F' M' hk=>by
  have:=JD (call:=Ab P) hm2 (K' :=Q .normal) (fun _ _ h=>h) (l:=l) (tl:=[]) (base:=M.length) (l.drop m) (l.take m) F' M' (by simp) hk
  rw[hlt,List.length_drop] at this
  exact this) (l:=l) (tl:=l.drop m) (base:=M.length) (l.take m) [] F _ (by simp) (h _ fun _ _ h=>h)
 rw[hlt] at h'
 refine Wr (m:=m) (l:=l) (L:=L) hC tk hops hml (fun i k oi ok hi hk=>?_) hc5 (sl:=fun i=>M.length+A3 (l.take i)) (fun i k oi ok hi hk ha ha' hne=>?_) (K:=Q .normal) (Q' :=aq C Q) (fun F M a w h r=> .inl ⟨F,M,h,r⟩) l.toArray.size (Array.replicate l.toArray.size false) (List.range' 0 m) F _ a w.drew ?_ ?_ ?_ ?_ ?_ ?_ h' ⟨σ,own,(R.grow _).drew⟩
 .have:=GX (ops:=l.toArray) l [] [] [] (by simp) rfl (fun t m h=>by simp at h) (fun k o _ h=>by simp at h) hd.1 i k oi ok hi hk (Nat.zero_le _)
  refine⟨this.1,fun hlt=>?_⟩
  rcases this.2 hlt with h|h
  .simp only[Bool.and_eq_true,decide_eq_true_eq] at h
   exact .inl h
  .exact .inr h
 .have s1:BZ oi=1:=by simp[BZ,ha]
  have s2:BZ ok=1:=by simp[BZ,ha']
  rcases Nat.lt_or_gt_of_ne hne with h|h
  .have:=C7 (l:=l) (by simpa using hi) h
   omega
  .have:=C7 (l:=l) (by simpa using hk) h
   omega
 .rw[←List.range_eq_range']
  symm
  rw[List.filter_eq_self]
  intro t ht
  have:t<l.length:=by have:t<m:=by simpa using ht
                      omega
  simp[Array.getD,this]
 .simp;omega
 .intro i _
  simp[Array.getD]
 .simp
 .intro i o ho hl
  simp[Array.getD] at hl
 .intro j oj hj ha
  have s1:BZ oj=1:=by simp[BZ,ha]
  have hjl:j<l.length:=by
   rcases Nat.lt_or_ge j l.length with h|h
   .exact h
   .rw[show l.toArray[j]?=l[j]? by simp,List.getElem?_eq_none h] at hj;simp at hj
  have:=C7 (l:=l) (by simpa using hj) hjl
  rw[List.take_length] at this
  simp only[List.length_append,List.length_replicate]
  omega
end Go.Abs
namespace Go.Abs
def MQ (M:List Ag):AV→AV
 | .own _ 0 []=> .own 1 0 []
 |x=>vw M x
section
variable {P:Program} {f:Nat} {M:List Ag} {args cargs:List AV} {K:AV→List Ag→Prop} {Q:AV→List Ag→Prop}
theorem XW {w:World} {sh shB:Nat→Prop} {σ:Nat→Nat→Option St} {own:Nat→Option Nat} (m:BS w sh σ own M) (hs:∀g,sh g→shB g) (ho:∀g,own g≠none→g<w.heap.size→shB g) {x:AV} {v:Value} (h:VR w sh σ x v (fun _=>0)):VR w shB σ0 (MQ M x) v (fun _=>0):=by
 unfold MQ
 split
 .simp only[VR] at h ⊢
  rcases h with⟨ha,_⟩ | ⟨hh,b,c,cur,e',fp',_,_,_,_,_,_,_,hff⟩
  .exact .inl ⟨ha,trivial,trivial,fun _=>trivial⟩
  .have:=hff hh
   simp at this
   omega
 .exact Qp m hs ho h
theorem Ab.borN (spec:Aa P f cargs [] Q) (hargs:args.map (MQ M)=cargs) (hk:∀r,Q r []→Fw r=true∧K (DB M.length r).1 (M++(DB M.length r).2)):Ab P f args M K:=by
 intro C hC
 subst hC
 refine⟨spec.1,fun F a w σ own vals R hv=>?_⟩
 have hv' :Ar w (fun g=>C.sh g∨(own g≠none∧g<w.heap.size)) σ0 cargs vals.toList (fun _=>0):=by
  rw[←hargs]
  have:=EQ (w:=w) (sh:=C.sh) (shB:=fun g=>C.sh g∨(own g≠none∧g<w.heap.size)) (σ:=σ) (τ:=σ0) (f:=MQ M) (p:=fun fp=>∀g,fp g=0) (fun a b c hc e=>⟨fun g=>by have:=e g;have:=hc g;omega,fun g=>by have:=e g;have:=hc g;omega⟩) (fun x v fp h hf=>by
   have:fp=fun _=>0:=funext hf
   subst this
   exact XW R.mem (fun g hg=> .inl hg) (fun g hg hlt=> .inr ⟨hg,hlt⟩) h)
  exact this _ _ _ hv (fun _=>rfl)
 refine(spec.2 w _ σ0 (fun _=>none) vals hv' (FR _ _) (fun g hg=>⟨rfl,?_⟩)).mono ?_
 .rcases hg with hg|hg
  .exact(R.shr g hg).2
  .exact hg.2
 .rintro e w' ⟨r,v,M',σ',own',fpr,rfl,hq,hl,hr,hf,hm,_,he,_⟩
  have:M' =[]:=List.eq_nil_of_length_eq_zero (by simpa using hl)
  subst this
  obtain⟨h1,h2⟩:=hk r hq
  have hσ:σ' =σ0:=by funext T u;exact hm.key T u (Nat.zero_le _)
  subst hσ
  obtain⟨σ2,own2,R2,r2⟩:=Js R he (Lq r v fpr h1 hr) hf
  exact⟨_,v,_,σ2,own2,rfl,h2,R2,r2⟩
theorem Ab.eqN {v:AV} (spec:Aa P f cargs [] fun r _=>r=v) (hargs:args.map (MQ M)=cargs) (hr:Fw v=true) (hk:K (DB M.length v).1 (M++(DB M.length v).2)):Ab P f args M K:=
 Ab.borN spec hargs fun r e=>by subst e;exact⟨hr,hk⟩
end
end Go.Abs
namespace Go.Abs
theorem Cz.move {C:Bc} {F F' :Fr} {M:List Ag} {j u t s off n:Nat} {xs:List AV} (hp:C.p≤j) (hj:M[j]?=some (.live u xs)) (ht:F t= .tok j u s off n)
 (hF:∀t',F' t' =F t' ∨F' t' = .any∨(t' =t∧F' t' = .tok M.length 0 s off n)):Cz C F M F' (M.set j .dead++[.live 0 xs]):=by
 rintro a w ⟨σ,own,R⟩
 have hjl:j<M.length:=(List.getElem?_eq_some_iff.1 hj).1
 obtain⟨fpB,hB,hfB⟩:=R.mem.blk j _ hj
 let σ' :Nat→Nat→Option St:=fun T x=>if T=M.length then(if x=0 then σ j u else none) else σ T x
 let own' :Nat→Option Nat:=fun g=>if own g=some j then some M.length else own g
 have keep:∀T x st,σ T x=some st→σ' T x=some st:=fun T x st h=>by
  have:T≠M.length:=fun e=>by rw[R.mem.key T x (by omega)] at h;simp at h
  simp only[σ',this,if_false];exact h
 have L:BX w w C.sh C.sh σ σ' :=⟨fun _ _=>rfl,fun _ h=>h,fun T x st h=> .inl (keep T x st h)⟩
 have hne:∀T x,T≠M.length→σ' T x=σ T x:=fun T x h=>by simp only[σ',h,if_false]
 refine⟨σ',own',R.size,R.dfr,fun t' ht' =>?_,⟨fun T B hT=>?_,fun T x hT=>?_⟩,fun g hg=>?_,?_,R.keyl L⟩
 .rcases hF t' with h|h| ⟨rfl,h⟩
  .rw[h];exact VR.later L _ _ _ (fun _ _=>rfl) (R.tmp t' ht')
  .rw[h];intro g;rfl
  .have h1:=R.tmp t' ht'
   rw[ht] at h1
   rw[h]
   simp only[VR] at h1 ⊢
   obtain⟨h2,h3,st,h4,h5,h6⟩:=h1
   exact⟨h2,h3,st,by simp only[σ',if_true];exact h4,h5,h6⟩
 .by_cases hTl:T<M.length
  .rw[List.getElem?_append_left (by simpa using hTl)] at hT
   by_cases e:j=T
   .subst e
    rw[List.getElem?_set_self hjl] at hT
    simp at hT;subst hT
    exact⟨fun _=>0,fun _=>rfl,fun _=>Nat.zero_le _⟩
   .rw[List.getElem?_set_ne e] at hT
    obtain⟨fp,b1,b2⟩:=R.mem.blk T B hT
    refine⟨fp,Ed L (fun _ _=>rfl) (fun v=>hne T v (by omega)) b1,fun g=>?_⟩
    have:=b2 g
    split at this
    .rename_i eg
     have:own' g=some T:=by
      have:¬own g=some j:=by rw[eg];simp;omega
      simp only[own',this,if_false];exact eg
     rw[if_pos this];assumption
    .omega
  .rw[List.getElem?_append_right (by simpa using Nat.le_of_not_lt hTl)] at hT
   simp only[List.length_set] at hT
   have hTe:T=M.length:=by
    rcases Nat.lt_or_ge (T-M.length) 1 with h|h
    .omega
    .rw[List.getElem?_eq_none (by simpa using h)] at hT;simp at hT
   subst hTe
   simp at hT;subst hT
   refine⟨fpB,?_,fun g=>?_⟩
   .simp only[BR] at hB ⊢
    refine⟨fun v' hv' =>by have:¬v' =0:=by omega
                           simp only[σ',if_true,this,if_false],?_⟩
    rcases hB.2 with⟨h1,h2,h3⟩ | ⟨h,b,cur,e,fp',h1,h2,h3,h4,h5⟩
    .exact .inl ⟨by simp only[σ',if_true];exact h1,h2,h3⟩
    .exact .inr ⟨h,b,cur,e,fp',by simp only[σ',if_true];exact h1,h2,h3,Ar.later L _ _ _ (fun _ _=>rfl) h4,h5⟩
   .have:=hfB g
    split at this
    .rename_i eg
     have:own' g=some M.length:=by simp only[own',eg,if_true]
     rw[if_pos this];assumption
    .omega
 .simp at hT
  have:T≠M.length:=by omega
  rw[hne T x this];exact R.mem.key T x (by omega)
 .have h2:=R.shr g hg
  have:¬own g=some j:=by rw[h2.1];simp
  simp only[own',this,if_false];exact h2
 .refine⟨R.ext.os,R.ext.tape,R.ext.output,R.ext.size,R.ext.block,fun g hg=>R.ext.own g ?_⟩
  simp only[own'] at hg
  split at hg
  .rename_i e;rw[e];simp
  .exact hg
theorem Wk.move {p:Nat} {F:Fr} {M:List Ag} {j u t s off n:Nat} {xs:List AV} {S:List (Nat×AV)} (hj:M[j]?=some (.live u xs)) (ht:F t= .tok j u s off n) (hp:p≤j) (h:Ad F S):
 Wk p F M (Abs.fr ((t,.tok M.length 0 s off n)::S)) (M.set j .dead++[.live 0 xs]):=fun C hC=>Cz.move (by omega) hj ht fun t' =>by
 by_cases e:t' =t
 .subst e;exact .inr (.inr ⟨rfl,by simp[Abs.fr,A5]⟩)
 .have e2:Abs.fr ((t,.tok M.length 0 s off n)::S) t' =Abs.fr S t' :=by simp[Abs.fr,A5,e]
  rw[e2]
  rcases Jy F S h t' with h|h
  .exact .inl h
  .exact .inr (.inl h)
end Go.Abs
namespace Go.Abs
section
variable {C:Bc} {w:World} {σ:Nat→Nat→Option St} {own:Nat→Option Nat} {M:List Ag} {F:Fr} {a:Act} {T:Nat→Option TI}
theorem PP (R:Az C F M a w σ own) {B u h b sz:Nat} {cs:List AV} (hb:Ai M B u=some cs) (hs:σ B u=some (.loc h b sz)):∃cur e,sz=cur.size∧own h=some B∧w.heap[h]?=some (.cells cur e (0,0))∧b+cs.length≤cur.size:=by
 obtain⟨hM,fp,hB,hf⟩:=BT R.mem hb
 simp only[BR] at hB
 rcases hB.2 with⟨h1,_,_⟩ | ⟨h',b',cur,e,fp',h1,h2,h3,h4,h5⟩
 .rw[h1] at hs;simp at hs
 .rw[h1] at hs;simp at hs
  obtain⟨rfl,rfl,rfl⟩:=hs
  refine⟨cur,e,rfl,?_,h2,h3⟩
  have:=hf h';have h6:=h5 h';simp at h6
  split at this
  .assumption
  .omega
theorem Az.rows (R:Az C F M a w σ own) {B u h b:Nat} {cs ys:List AV} {news:List Value} {cur:Array Value} {e:TypeId} (hb:Ai M B u=some cs) (hs:σ B u=some (.loc h b cur.size)) (ho:own h=some B) (hh:w.heap[h]?=some (.cells cur e (0,0))) (hbl:b+cs.length≤cur.size) (off:Nat)
 (hv:Ar w C.sh σ ys news (fun _=>0)) (hle:off+ys.length≤cs.length):Az C F (M.set B (.live u (Cu cs off ys))) a (w.setRow h (cur.toList.take (b+off)++news++cur.toList.drop (b+off+news.length)).toArray) σ own:=by
 have hnl:=Bq hv
 refine Il R hb hs ho hh ?_ (cs' :=Cu cs off ys) (by rw[DK];exact hbl) ?_
 .simp;omega
 .intro fp hv2
  obtain⟨fp',h5,h6⟩:=Hc ys off hv2 hv
  refine⟨fp',?_,h6⟩
  have hlen:((cur.toList.drop b).take cs.length).length=cs.length:=by simp;omega
  rw[JW _ _ _ (by rw[hlen,hnl];omega)] at h5
  rw[DK]
  have:=Ga cur.toList news b off cs.length (by simpa using hbl) (by rw[hnl];exact hle)
  rw[show(cur.toList.take (b+off)++news++cur.toList.drop (b+off+news.length)).toArray.toList=cur.toList.take (b+off)++news++cur.toList.drop (b+off+news.length) from rfl,this]
  exact h5
theorem Ol {ys:List AV} (h:ys.all CV=true):ys.all BL=true:=by
 rw[List.all_eq_true] at h ⊢
 intro c hc
 have:=h c hc
 simp[CV] at this;exact this.2
theorem Az.appRoom (tk:Bu C.P T) (R:Az C F M a w σ own) {t ty e s eb:Nat} {ez:List AV} (htd:An T t= .slice e s eb ez) {B u h b sz n c:Nat} {cs ys:List AV} (hb:Ai M B u=some cs) (hs:σ B u=some (.loc h b sz)) {y:Value} {ya:AV} (hy:VR w C.sh σ ya y (fun _=>0))
 {m:Nat} (hyc:CK M ya=some (m,ys)) (hyl:ys.length=m*s) (hyo:ys.all CV=true) (hroom:n+m≤c) (hle:(n+m)*s≤cs.length):
 ∃w',(Builtin.append_ #[t,t] ty #[.slice (some ⟨h,b,none⟩) n c,y]).run C.P w= .ok (.slice (some ⟨h,b,none⟩) (n+m) c) w' ∧Az C F (M.set B (.live u (Cu cs (n*s) ys))) a w' σ own:=by
 obtain⟨hD,E,z,hE,hs1,_⟩:=B3 tk htd
 obtain⟨cur,e',rfl,ho,hh,hbl⟩:=PP R hb hs
 obtain⟨ad,c2,news,fpy,rfl,hnw,hv⟩:=G5 R.mem hy hyc hyl
 have hv0:=H1 hv hyo
 have hnl:news.length=m*s:=by rw[Bq hv,hyl]
 have hm:n*s+m*s≤cs.length:=by rw[←Nat.add_mul];exact hle
 have hrun:=Jm (P:=C.P) (w:=w) t ty e E hD hE h b n c cur e' hh ad m c2 news (by rw[hs1];exact hnl) hnw (Ep hv0 (Ol hyo)) hroom (by rw[hs1];omega)
 rw[hs1] at hrun
 exact⟨_,hrun,R.rows hb hs ho hh hbl (n*s) hv0 (by omega)⟩
theorem QR (z:Array Value) (n:Nat):(Builtin.zeroCells z n).toList=(List.replicate n z.toList).flatten:=by
 unfold Builtin.zeroCells
 refine List.ext_getElem (by simp) fun i h1 h2=>?_
 have hz:0<z.size:=by
  rcases Nat.eq_zero_or_pos z.size with h|h
  .simp[h] at h1
  .exact h
 have hi:i<n*z.size:=by simpa using h1
 simp only[Array.toList_map,Array.toList_range,List.getElem_map,List.getElem_range]
 induction n generalizing i with
 |zero=>simp at hi
 |succ n ih=>
  simp only[List.replicate_succ,List.flatten_cons]
  by_cases hlt:i<z.size
  .rw[List.getElem_append_left (by simpa using hlt),Nat.mod_eq_of_lt hlt]
   simp[hlt]
  .rw[List.getElem_append_right (by simpa using Nat.le_of_not_lt hlt)]
   have h3:i-z.size<n*z.size:=by rw[Nat.add_mul,Nat.one_mul] at hi;omega
   have:=ih (i-z.size) (by simpa using h3) (by simpa using h3) h3
   have e:(i-z.size)%z.size=i%z.size:=(Nat.mod_eq_sub_mod (Nat.le_of_not_lt hlt)).symm
   rw[e] at this
   simpa using this
theorem Az.clr (tk:Bu C.P T) (R:Az C F M a w σ own) {t ty e s eb:Nat} {ez:List AV} (htd:An T t= .slice e s eb ez) {B u h b sz n c off:Nat} {cs:List AV} (hb:Ai M B u=some cs) (hs:σ B u=some (.loc h b sz)) (hp:ez.all CV=true) (hn:0<n) (hle:off+n*s≤cs.length):
 ∃w',(Builtin.clear_ #[t] ty #[.slice (some ⟨h,b+off,none⟩) n c]).run C.P w= .ok (.tuple #[]) w' ∧Az C F (M.set B (.live u (Cu cs off (Ch n ez)))) a w' σ own:=by
 obtain⟨hD,E,z,hE,hs1,_,hz,hzs,hzb⟩:=B3 tk htd
 obtain⟨cur,e',rfl,ho,hh,hbl⟩:=PP R hb hs
 have hz0:=HE hzb w C.sh σ
 obtain⟨vs,hvs,hv⟩:=JX hz0 n
 have hvl:vs.length=n*s:=by rw[hvs];simp[hzs]
 have hrl:(Ch n ez).length=n*s:=by rw[←Bq hv];exact hvl
 have hpr:(Ch n ez).all BL=true:=by
  unfold Ch
  rw[List.all_eq_true]
  intro x hx
  obtain⟨l,hl,hx⟩:=List.mem_flatten.1 hx
  rw[List.eq_of_mem_replicate hl] at hx
  exact List.all_eq_true.1 (Ol hp) x hx
 have hst:=run_storeCells_at C.P h (b+off) e' vs 0 cur w hh (by omega) (Ep hv hpr)
 simp only[Nat.add_zero] at hst
 obtain⟨m,rfl⟩:∃m,n=m+1:=⟨n-1,by omega⟩
 refine⟨_,?_,R.rows hb hs ho hh hbl off hv (by omega)⟩
 rw[hvs] at hst ⊢
 simp[Builtin.clear_,run_underlying hD,zeroValue,typeInfo,hE,hz,QR,hst]
end
end Go.Abs
namespace Go.Abs
section
variable {C:Bc} {w:World} {σ:Nat→Nat→Option St} {own:Nat→Option Nat} {M:List Ag} {F:Fr} {a:Act} {T:Nat→Option TI}
theorem Sz (R:Az C F M a w σ own) {t B u s off n:Nat} {cs:List AV} (hn:t<C.n) (hF:F t= .tok B u s off n) (hb:Ai M B u=some cs) (h0:0<n):
 ∃h b sz c,σ B u=some (.loc h b sz)∧a.tmps.getD t undef= .slice (some ⟨h,b+off,none⟩) n c∧n≤c∧c≤maxLen∧b+off+c*s≤sz:=by
 have hx:=R.tmp t hn
 rw[hF] at hx
 obtain⟨_,fp,hB,_⟩:=BT R.mem hb
 simp only[VR] at hx
 obtain⟨_,⟨ad,c,hval⟩,st,hst,hnil,hloc⟩:=hx
 simp only[BR] at hB
 rcases hB.2 with⟨h1,_,_⟩ | ⟨g,b,cur,e',fp',h1,_⟩
 .rw[h1] at hst;simp at hst;subst hst
  have:=(hnil rfl).2.2;omega
 .rw[h1] at hst;simp at hst;subst hst
  obtain⟨a2,c2,e2,e3,e4,e5,e6⟩:=hloc _ _ _ rfl
  have:=e3 (by omega)
  subst this
  exact⟨g,b,cur.size,c2,h1,e2,e4,e5,e6⟩
theorem Lv {sh:Nat→Prop} {B u s h b sz off n c:Nat} (hs:σ B u=some (.loc h b sz)) (hn:n≤c) (hc:c≤maxLen) (hz:b+off+c*s≤sz) {ad:Addr} (had:c≠0→ad=⟨h,b+off,none⟩):VR w sh σ (.tok B u s off n) (.slice (some ad) n c) (fun _=>0):=by
 simp only[VR]
 refine⟨by simp,⟨_,_,rfl⟩,_,hs,nofun,fun h' b' sz' e=>?_⟩
 cases e
 exact⟨_,_,rfl,had,hn,hc,hz⟩
theorem UE (tk:Bu C.P T) {t e es eb:Nat} {ez:List AV} (htd:An T t= .slice e es eb ez) {ad:Option Addr} {n c l h:Nat} {lo hi:Option Nat} (h1:hi.getD n=h) (h2:lo.getD 0=l) (hlh:l≤h) (hhc:h≤c) (w:World):
 (Instr.sliceAt t (.slice ad n c) (lo.map fun x:Nat=>Value.int .i64 (x:Int)) (hi.map fun x:Nat=>Value.int .i64 (x:Int)) none).run C.P w= .ok (.slice (if c=l then ad else ad.map (·.add (l*es))) (h-l) (c-l)) w:=by
 obtain⟨hD,E,z,hE,hs,_⟩:=B3 tk htd
 have hb:(Instr.sliceBounds true n c (lo.map fun x:Nat=>Value.int .i64 (x:Int)) (hi.map fun x:Nat=>Value.int .i64 (x:Int)) none).run C.P w= .ok (l,h,c) w:=by
  unfold Instr.sliceBounds
  cases hi with
  |none=>
   simp at h1;subst h1
   cases lo with
   |none=>simp at h2;subst h2;simp
   |some l' =>
    simp at h2;subst h2
    simp[Instr.sliceBound,asIntOf,hlh]
  |some h' =>
   simp at h1;subst h1
   cases lo with
   |none=>simp at h2;subst h2;simp[Instr.sliceBound,asIntOf,hhc]
   |some l' =>
    simp at h2;subst h2
    simp[Instr.sliceBound,asIntOf,hlh,hhc]
 simp only[Instr.sliceAt,Sem.run_bind,run_underlying hD,Result.andThen_ok,Instr.slice,hb,BJ hE,hs,Sem.run_pure]
theorem XX (tk:Bu C.P T) {t e es eb:Nat} {ez:List AV} (htd:An T t= .slice e es eb ez) {ad:Option Addr} {n c l h m:Nat} (hlh:l≤h) (hhc:h≤m) (hmc:m≤c) (w:World):
 ∃v,(Instr.sliceAt t (.slice ad n c) (some (.int .i64 l)) (some (.int .i64 h)) (some (.int .i64 m))).run C.P w= .ok v w:=by
 obtain⟨hD,E,z,hE,hs,_⟩:=B3 tk htd
 have hb:(Instr.sliceBounds true n c (some (.int .i64 l)) (some (.int .i64 h)) (some (.int .i64 m))).run C.P w= .ok (l,h,m) w:=by
  unfold Instr.sliceBounds
  simp[Instr.sliceBound,asIntOf,hlh,hhc,hmc]
 simp only[Instr.sliceAt,Sem.run_bind,run_underlying hD,Result.andThen_ok,Instr.slice,hb,BJ hE,hs,Sem.run_pure]
 exact⟨_,rfl⟩
theorem PQ (hrd:C.rd=none) {K:Act→World→Prop} {ops:Array Oper} {i d fuel:Nat} {listed:Array Bool} {o:Oper} {v:Value} {av:AV} (R:Az C F M a w σ own) (ho:ops[i]?=some o) (hd:o.dst=some d) (hg:o.guard=none) (hs:Region.noSelect ops=true) (hf:Region.free .any ops listed i=true) (hr:(Region.ready .any ops listed).contains i=true) (hdn:d<C.n)
 (hv:VR w C.sh σ av v (fun _=>0)) (hrun:∀w,(execOp a.eval o).run C.P w= .ok (.value v) w) (hab:∀w,o.about C.P w a.eval=none) (next:∀a',Az C (A5 F d av) M a' w σ own→a'.tmps.getD d undef=v→(∀t,t≠d→a'.tmps.getD t undef=a.tmps.getD t undef)→wpAnyIn (FX C) 0 C.P .any ops (fun e a w=>e= .normal∧K a w) fuel (listed.setIfInBounds i true) a' w):wpAnyIn (FX C) 0 C.P .any ops (fun e a w=>e= .normal∧K a w) (fuel+1) listed a w:=by
 refine wpAnyIn_take (i:=i) (v:=v) (by simp[FX,hrd]) ho hs hf hr (fun _ _ _ h=>by cases h.1) ⟨.inl ⟨by simp[Region.wanted,hg],hrun⟩,hab⟩ ?_
 rw[hd]
 refine next _ (R.put (some d) hv) ?_ fun t ht=>?_
 .have:=R.size
  simp[Act.put,Array.getD,this,hdn]
 .have:¬d=t:=fun e=>ht e.symm
  by_cases ht:t<a.tmps.size<;>simp[Act.put,Array.getD,ht,Array.getElem_setIfInBounds,this]
theorem Hh (hrd:C.rd=none) {K:Act→World→Prop} {ops:Array Oper} {i d s ty fuel:Nat} {pos:String} {af:Array Edge} {listed:Array Bool} (R:Az C F M a w σ own) (ho:ops[i]?=some {dst:=some d,op:= .move (.tmp s),type:=ty,pos:=pos,after:=af,guard:=none}) (hs:Region.noSelect ops=true) (hf:Region.free .any ops listed i=true) (hr:(Region.ready .any ops listed).contains i=true) (hdn:d<C.n) (hn:s<C.n)
 (next:∀a',Az C (A5 F d (F s)) M a' w σ own→a'.tmps.getD d undef=a.tmps.getD s undef→(∀t,t≠d→a'.tmps.getD t undef=a.tmps.getD t undef)→wpAnyIn (FX C) 0 C.P .any ops (fun e a w=>e= .normal∧K a w) fuel (listed.setIfInBounds i true) a' w):wpAnyIn (FX C) 0 C.P .any ops (fun e a w=>e= .normal∧K a w) (fuel+1) listed a w:=
 PQ hrd R ho rfl rfl hs hf hr hdn (R.tmp s hn) (fun w=>by simp only[execOp];rfl) (fun _=>rfl) next
theorem Lw (tk:Bu C.P T) (hrd:C.rd=none) {K:Act→World→Prop} {ops:Array Oper} {i d s ty t e es eb fuel B u hp b sz n c l h:Nat} {ez:List AV} {lo hi:Option (Nat×Nat)} {pos:String} {af:Array Edge} {listed:Array Bool} (R:Az C F M a w σ own) (ho:ops[i]?=some {dst:=some d,op:= .slice t (.tmp s) (lo.map fun x=> .tmp x.1) (hi.map fun x=> .tmp x.1) none,type:=ty,pos:=pos,after:=af,guard:=none}) (hs:Region.noSelect ops=true) (hf:Region.free .any ops listed i=true) (hr:(Region.ready .any ops listed).contains i=true) (hdn:d<C.n) (htd:An T t= .slice e es eb ez) (hst:σ B u=some (.loc hp b sz)) (hval:a.tmps.getD s undef= .slice (some ⟨hp,b,none⟩) n c) (hcm:c≤maxLen) (hsz:b+c*es≤sz) (hlo:∀x,lo=some x→a.tmps.getD x.1 undef= .int .i64 x.2) (hhi:∀x,hi=some x→a.tmps.getD x.1 undef= .int .i64 x.2)
 (h1:(hi.map fun x=>x.2).getD n=h) (h2:(lo.map fun x=>x.2).getD 0=l) (hlh:l≤h) (hhc:h≤c)
 (next:∀a',Az C (A5 F d (.tok B u es (l*es) (h-l))) M a' w σ own→a'.tmps.getD d undef= .slice (if c=l then some ⟨hp,b,none⟩ else some ⟨hp,b+l*es,none⟩) (h-l) (c-l)→(∀t,t≠d→a'.tmps.getD t undef=a.tmps.getD t undef)→wpAnyIn (FX C) 0 C.P .any ops (fun e a w=>e= .normal∧K a w) fuel (listed.setIfInBounds i true) a' w):wpAnyIn (FX C) 0 C.P .any ops (fun e a w=>e= .normal∧K a w) (fuel+1) listed a w:=by
 have el:(lo.map fun x=>Operand.tmp x.1).map a.eval=(lo.map fun x=>x.2).map fun x:Nat=>Value.int .i64 (x:Int):=by
  cases lo with
  |none=>rfl
  |some x=>simp only[Option.map_some];exact congrArg some (hlo x rfl)
 have eh:(hi.map fun x=>Operand.tmp x.1).map a.eval=(hi.map fun x=>x.2).map fun x:Nat=>Value.int .i64 (x:Int):=by
  cases hi with
  |none=>rfl
  |some x=>simp only[Option.map_some];exact congrArg some (hhi x rfl)
 have e1:a.eval (.tmp s)= .slice (some ⟨hp,b,none⟩) n c:=hval
 have hrun:=UE tk htd (ad:=some ⟨hp,b,none⟩) h1 h2 hlh hhc
 have hv:VR w C.sh σ (.tok B u es (l*es) (h-l)) (.slice (if c=l then some ⟨hp,b,none⟩ else some ⟨hp,b+l*es,none⟩) (h-l) (c-l)) (fun _=>0):=by
  have hz:b+l*es+(c-l)*es≤sz:=by
   rw[Nat.add_assoc,←Nat.add_mul,Nat.add_sub_cancel' (by omega)];exact hsz
  split
  .exact Lv hst (by omega) (by omega) hz (by omega)
  .exact Lv hst (by omega) (by omega) hz (fun _=>rfl)
 refine PQ hrd R ho rfl rfl hs hf hr hdn hv (fun w=>?_) (fun _=>rfl) next
 have h3:=hrun w
 simp only[execOp,e1,el,eh,Option.map_none,Sem.run_bind]
 rw[h3]
 simp only[Result.andThen_ok,Sem.run_pure]
 split<;>simp[Addr.add]
theorem Y2 (tk:Bu C.P T) (R:Az C F M a w σ own) {t e s eb d tx ty ty' :Nat} {ez:List AV} {pos:String} {af:Array Edge} (htd:An T t= .slice e s eb ez) {B u h b sz n c:Nat} {cs ys:List AV} (hb:Ai M B u=some cs) (hs:σ B u=some (.loc h b sz)) (hx:a.tmps.getD tx undef= .slice (some ⟨h,b,none⟩) n c) (hyn:ty<C.n)
 {m:Nat} (hyc:CK M (F ty)=some (m,ys)) (hyl:ys.length=m*s) (hyo:ys.all CV=true) (hroom:n+m≤c) (hle:(n+m)*s≤cs.length) (hcm:c≤maxLen) (hsz:b+c*s≤sz) {next:Act→World→Prop} {Q:Exit→Act→World→Prop}
 (hdn:d<C.n) (hK:∀a' w',Az C (A5 F d (.tok B u s 0 (n+m))) (M.set B (.live u (Cu cs (n*s) ys))) a' w' σ own→a'.tmps.getD d undef= .slice (some ⟨h,b,none⟩) (n+m) c→next a' w'):
 Oper.wpIn (FX C) 0 C.P {dst:=some d,op:= .call {callee:= .builtin .append,args:= #[.tmp tx,.tmp ty],argTypes:= #[t,t]},type:=ty',pos:=pos,after:=af,guard:=none} a w next Q:=by
 obtain⟨w',hrun,R'⟩:=R.appRoom (ty:=ty') tk htd hb hs (R.tmp ty hyn) hyc hyl hyo hroom hle
 have hv:VR w' C.sh σ (.tok B u s 0 (n+m)) (.slice (some ⟨h,b,none⟩) (n+m) c) (fun _=>0):=Lv hs hroom hcm hsz (fun _=>rfl)
 refine Oper.wp_value (fun _ h=>by cases h) (v:= .slice (some ⟨h,b,none⟩) (n+m) c) (w' :=w') ?_ (hK _ _ (R'.put (some d) hv) (by have:=R'.size;simp[Act.put,Array.getD,this,hdn]))
 have e2:∀t,a.eval (.tmp t)=a.tmps.getD t undef:=fun _=>rfl
 simp only[execOp,resolve,invoke,builtin,e2,hx,List.map_toArray,List.map_cons,List.map_nil,Sem.run_bind,hrun,Result.andThen_ok,Sem.run_pure]
theorem JZ {o:Oper} {d:Nat} (R:Az C F M a w σ own) (hnd:∀c,o.op≠ .defer c) (hd:o.dst=some d) (hdn:d<C.n) {v:Value} {av:AV} (hv:VR w C.sh σ av v (fun _=>0)) (hrun:(execOp a.eval o).run C.P w= .ok (.value v) w) {next:Act→World→Prop} {Q:Exit→Act→World→Prop}
 (hK:∀a',Az C (A5 F d av) M a' w σ own→a'.tmps.getD d undef=v→(∀t,t≠d→a'.tmps.getD t undef=a.tmps.getD t undef)→next a' w):o.wpIn (FX C) 0 C.P a w next Q:=by
 refine Oper.wp_value hnd hrun ?_
 rw[hd]
 refine hK _ (R.put (some d) hv) ?_ fun t ht=>?_
 .have:=R.size
  simp[Act.put,Array.getD,this,hdn]
 .have:¬d=t:=fun e=>ht e.symm
  by_cases ht:t<a.tmps.size<;>simp[Act.put,Array.getD,ht,Array.getElem_setIfInBounds,this]
theorem Y3 (tk:Bu C.P T) (R:Az C F M a w σ own) {t e s eb tx ty' :Nat} {ez:List AV} {pos:String} {af:Array Edge} (htd:An T t= .slice e s eb ez) {B u h b sz n c off:Nat} {cs:List AV} (hb:Ai M B u=some cs) (hs:σ B u=some (.loc h b sz)) (hx:a.tmps.getD tx undef= .slice (some ⟨h,b+off,none⟩) n c) (hp:ez.all CV=true) (hn:0<n) (hle:off+n*s≤cs.length)
 {next:Act→World→Prop} {Q:Exit→Act→World→Prop}
 (hK:∀a' w',Az C F (M.set B (.live u (Cu cs off (Ch n ez)))) a' w' σ own→next a' w'):
 Oper.wpIn (FX C) 0 C.P {dst:=none,op:= .call {callee:= .builtin .clear,args:= #[.tmp tx],argTypes:= #[t]},type:=ty',pos:=pos,after:=af,guard:=none} a w next Q:=by
 obtain⟨w',hrun,R'⟩:=R.clr (ty:=ty') (c:=c) tk htd hb hs hp hn hle
 refine Oper.wp_value (fun _ h=>by cases h) (v:= .tuple #[]) (w' :=w') ?_ (hK _ _ R')
 have e2:∀t,a.eval (.tmp t)=a.tmps.getD t undef:=fun _=>rfl
 simp only[execOp,resolve,invoke,builtin,e2,hx,List.map_toArray,List.map_cons,List.map_nil,Sem.run_bind,hrun,Result.andThen_ok,Sem.run_pure]
end
end Go.Abs
namespace Go.Abs
def sl:Bool→Nat→Nat→List AV→AV
 |true,s,n,xs=> .own s n xs
 |false,_,n,xs=> .ro n xs
@[simp] theorem cU (s n:Nat) (xs:List AV):sl true s n xs= .own s n xs:=rfl
@[simp] theorem aX (s n:Nat) (xs:List AV):sl false s n xs= .ro n xs:=rfl
def Af {α:Type} (f:α→List AV):List α→List AV
 | []=> []
 |x::xs=>f x++Af f xs
section
variable {α:Type} (f:α→List AV)
@[simp] theorem aY:Af f []=[]:=rfl
theorem AK (x:α) (xs:List α):Af f (x::xs)=f x++Af f xs:=rfl
theorem C2 (xs ys:List α):Af f (xs++ys)=Af f xs++Af f ys:=by
 induction xs with
 |nil=>rfl
 |cons x xs ih=>simp[AK,ih]
theorem GY {s:Nat} (h:∀x,(f x).length=s) (xs:List α):(Af f xs).length=xs.length*s:=by
 induction xs with
 |nil=>simp
 |cons x xs ih=>simp[AK,ih,h,Nat.add_mul];omega
theorem Lx {s:Nat} (h:∀x,(f x).length=s):∀(k:Nat) (xs:List α),(Af f xs).drop (k*s)=Af f (xs.drop k)
 |0,xs=>by simp
 |k+1,[]=>by simp
 |k+1,x::xs=>by
  rw[AK,show(k+1)*s=(f x).length+k*s by rw[h];rw[Nat.add_mul];omega,List.drop_append]
  simp only[List.drop_succ_cons]
  rw[←Lx h k xs]
  simp
theorem FA {s:Nat} (h:∀x,(f x).length=s):∀(k:Nat) (xs:List α),(Af f xs).take (k*s)=Af f (xs.take k)
 |0,xs=>by simp
 |k+1,[]=>by simp
 |k+1,x::xs=>by
  rw[AK,show(k+1)*s=(f x).length+k*s by rw[h];rw[Nat.add_mul];omega,List.take_append]
  simp only[List.take_succ_cons,AK]
  rw[←FA h k xs,List.take_of_length_le (by omega)]
  simp
theorem Gm {s:Nat} (h:∀x,(f x).length=s) {k:Nat} {xs:List α} (hk:k<xs.length):(Af f xs).drop (k*s)=f xs[k]++Af f (xs.drop (k+1)):=by
 rw[Lx f h,List.drop_eq_getElem_cons hk,AK]
theorem GZ {p:AV→Bool} (h:∀x,(f x).all p=true) (xs:List α):(Af f xs).all p=true:=by
 induction xs with
 |nil=>rfl
 |cons x xs ih=>rw[AK,List.all_append,h,ih];rfl
theorem G0 {g:AV→AV} {f' :α→List AV} (h:∀x,(f x).map g=f' x) (xs:List α):(Af f xs).map g=Af f' xs:=by
 induction xs with
 |nil=>rfl
 |cons x xs ih=>rw[AK,List.map_append,h,ih,AK]
theorem HW (k:Nat):∀xs,C4 k xs=xs.all (Gx k)
 | []=>by simp[C4]
 |x::xs=>by simp only[C4,List.all_cons,HW k xs]
end
@[ext] structure C0 where
  data:ByteArray
  n:Int
  deriving DecidableEq
@[ext] structure Obj where
  id:Int
  base:Int
  data:C0
  deriving DecidableEq
@[ext] structure Bi where
  id:Int
  parent:Int
  base:Int
  data:C0
  at_:Int
  tag:Bool
  gone:Bool
  deriving DecidableEq
@[ext] structure Gr where
  n:Int
  out:List (List Int)
  deriving DecidableEq
@[ext] structure Cb where
  kind:Int
  a:Int
  at_:Int
  move:Bool
  list:List Int
  out:List Int
  deriving DecidableEq
@[ext] structure CR where
  opn:Bool
  pin:Int
  on:Bool
  frm:Int
  stage:Gr
  job:Cb
  deriving DecidableEq
@[ext] structure AB where
  keep:Int
  blocks:Int
  vers:List Bi
  sess:List CR
  deriving DecidableEq
def FB (m:Bool) (xs:List Int):AV:=sl m 1 xs.length (Ac xs)
def AC (m:Bool) (xs:List (List Int)):List AV:=xs.map (FB m)
def D2 (m:Bool) (xs:List (List Int)):AV:=sl m 1 xs.length (AC m xs)
def Cx (b:C0):List AV:=[.str b.data,.int .i64 b.n]
def At (r:Int×Int):List AV:=[.int .i64 r.1,.int .i64 r.2]
def Y4 (m:Bool) (l:List (Int×Int)):AV:=sl m 2 l.length (Af At l)
def Aw (o:Obj):List AV:=[.int .i64 o.id,.int .i64 o.base,.str o.data.data,.int .i64 o.data.n]
def AN (v:Bi):List AV:=[.int .i64 v.id,.int .i64 v.parent,.int .i64 v.base,.str v.data.data,.int .i64 v.data.n,.int .i64 v.at_,.bool v.tag,.bool v.gone]
def AU (m:Bool) (g:Gr):List AV:=[.int .i64 g.n,D2 m g.out]
def BN (m:Bool) (j:Cb):List AV:=[.int .i64 j.kind,.int .i64 j.a,.int .i64 j.at_,.bool j.move,FB m j.list,FB m j.out]
def AI (m:Bool) (s:CR):List AV:=[.bool s.opn,.int .i64 s.pin,.bool s.on,.int .i64 s.frm,.int .i64 s.stage.n,D2 m s.stage.out,.int .i64 s.job.kind,.int .i64 s.job.a,.int .i64 s.job.at_,.bool s.job.move,FB m s.job.list,FB m s.job.out]
def Y5 (m:Bool) (l:List Obj):AV:=sl m 4 l.length (Af Aw l)
def GF (m:Bool) (l:List Bi):AV:=sl m 8 l.length (Af AN l)
def QS (m:Bool) (l:List CR):AV:=sl m 12 l.length (Af (AI m) l)
def AA (m:Bool) (s:AB):List AV:=[.int .i64 s.keep,.int .i64 s.blocks,GF m s.vers,QS m s.sess]
end Go.Abs
namespace Go.Abs
def SA (w:World) (g:Nat):Prop:=g<w.heap.size
theorem Ws {w:World} {a:Addr} {v:Value} (h:w.cell? a=some v):a.block<w.heap.size:=by
 rcases Nat.lt_or_ge a.block w.heap.size with h1|h1
 .exact h1
 .simp[World.cell?,Array.getElem?_eq_none h1] at h
theorem SB (a:Addr) (i:Nat):(a.add i).block=a.block:=by unfold Addr.add;split<;>rfl
theorem Om {H:Type} {P:Program} {e:TypeId}:∀{l:List (DataW H)} {d:DataW H},d∈l→∀n∈d.weights P e,n∈DataW.weightsAll P e l
 |d' ::r,d,hd,n,hn=>by
  simp only[DataW.weightsAll,List.mem_append]
  rcases List.mem_cons.1 hd with rfl|h
  .exact .inl hn
  .exact .inr (Om h n hn)
section
variable {H:Type} {enc:TypeId×Value→H} {P:Program} {w:World} {t e:TypeId}
def A1 {α:Type} (enc:TypeId×Value→H) (P:Program) (w:World) (t:TypeId) (f:α→List AV) (good:α→Prop):Prop:=
 ∀fuel cs x,DataW.trod enc P w 0 (fun _=>true) true fuel t cs=some x→(∀n∈x.1.weights P t,n≤reachBytes)→∃a,Ar w (SA w) σ0 (f a) cs (fun _=>0)∧good a
theorem XY (ht:P.underlying t=some (.slice e)) (es sp:List (DataW H)):DataW.weights P t (.slice es sp)=(es.length+sp.length)*P.bytesOf e::(DataW.weightsAll P e es++DataW.weightsAll P e sp):=by simp[DataW.weights,ht]
theorem Ly {sh:Nat→Prop} {a:AV} {v:Value} (h:VR w sh σ0 a v (fun _=>0)):Ar w sh σ0 [a] [v] (fun _=>0):=⟨v,[],fun _=>0,fun _=>0,rfl,h,⟨rfl,fun _=>rfl⟩,fun _=>rfl⟩
theorem A1.map {α β:Type} {f:α→List AV} {f' :β→List AV} {good:α→Prop} {good' :β→Prop} (h:A1 enc P w t f good) (g:α→β) (hf:∀a,f a=f' (g a)) (hg:∀a,good a→good' (g a)):A1 enc P w t f' good' :=fun fuel cs x hx hw=>by
 obtain⟨a,h1,h2⟩:=h fuel cs x hx hw
 exact⟨g a,hf a ▸ h1,hg a h2⟩
theorem A1.int {k:IntKind} (ht:P.underlying t=some (.int k)):A1 enc P w t (fun n:Int=> [.int k n]) fun _=>True:=fun fuel cs x hx _=>by
 obtain⟨n,rfl,_,_⟩:=DataW.trod_int ht hx
 exact⟨n,Ly ⟨rfl,fun _=>rfl⟩,trivial⟩
theorem A1.intR {k:IntKind} (ht:P.underlying t=some (.int k)):A1 enc P w t (fun n:Int=> [.int k n]) fun n=>(Lit.int k n).wf=true:=fun fuel cs x hx _=>by
 obtain⟨n,rfl,_,hwf⟩:=DataW.trod_int ht hx
 exact⟨n,Ly ⟨rfl,fun _=>rfl⟩,hwf⟩
theorem A1.bool (ht:P.underlying t=some .bool):A1 enc P w t (fun b:Bool=> [.bool b]) fun _=>True:=fun fuel cs x hx _=>by
 obtain⟨b,rfl,_⟩:=DataW.trod_bool ht hx
 exact⟨b,Ly ⟨rfl,fun _=>rfl⟩,trivial⟩
theorem A1.str (ht:P.underlying t=some .string):A1 enc P w t (fun s:ByteArray=> [.str s]) fun s=>s.size≤reachBytes:=fun fuel cs x hx hw=>by
 obtain⟨s,rfl,rfl,_⟩:=DataW.trod_string ht hx
 refine⟨s,Ly ⟨rfl,fun _=>rfl⟩,?_⟩
 have:=hw s.data.toList.length (by simp[DataW.weights])
 simpa using this
theorem A1.len (ht:P.underlying t=some (.slice e)) (hb:0<P.bytesOf e):A1 enc P w t (fun n:Nat=> [.ro n []]) fun n=>n≤reachBytes:=fun fuel cs x hx hw=>by
 rcases DataW.trod_slice ht hx with⟨rfl,_⟩ | ⟨a,len,cap,elems,rest,n,rfl,rfl,rfl,_,hlc,_,hel,_⟩
 .exact⟨0,Ly ⟨fun _=>rfl,none,0,rfl,Nat.le_refl _,fun _=>rfl,.inl rfl⟩,Nat.zero_le _⟩
 .refine⟨len,Ly ⟨fun _=>rfl,some a,cap,rfl,hlc,(by simp),.inl rfl⟩,?_⟩
  have:=hw ((elems.length+rest.length)*P.bytesOf e) (by simp[DataW.weights,ht])
  rw[hel] at this
  have h2:=Nat.le_mul_of_pos_right (len+rest.length) hb
  omega
theorem A1.slice {α:Type} {f:α→List AV} {good:α→Prop} (h:A1 enc P w e f good) (ht:P.underlying t=some (.slice e)) (hb:0<P.bytesOf e):A1 enc P w t (fun xs:List α=> [.ro xs.length (Af f xs)]) fun xs=>xs.length≤reachBytes∧∀a∈xs,good a:=fun fuel cs x hx hw=>by
 rcases DataW.trod_slice ht hx with⟨rfl,_⟩ | ⟨a,len,cap,elems,rest,n,rfl,rfl,rfl,_,hlc,_,hel,hget,_⟩
 .exact⟨[],Ly ⟨fun _=>rfl,none,0,rfl,Nat.le_refl _,fun _=>rfl,.inl rfl⟩,Nat.zero_le _,by simp⟩
 .have hl:=hw ((elems.length+rest.length)*P.bytesOf e) (by simp[DataW.weights,ht])
  rw[hel] at hl
  have h2:=Nat.le_mul_of_pos_right (len+rest.length) hb
  have key:∀m,m≤len→∃(xs:List α) (vs:List Value),xs.length=m∧vs.length=m*P.cellsOf e∧Ar w (SA w) σ0 (Af f xs) vs (fun _=>0)∧Ea w a vs∧∀a∈xs,good a:=by
   intro m
   induction m with
   |zero=>intro _;exact⟨[],[],rfl,by simp,⟨rfl,fun _=>rfl⟩,by intro i v hv;simp at hv,by simp⟩
   |succ m ih=>
    intro hm
    obtain⟨xs,vs,e1,e2,h3,h4,h5⟩:=ih (by omega)
    have hmlt:m<elems.length:=by omega
    have hg:=hget m (by omega)
    rw[List.getElem?_eq_getElem hmlt] at hg
    obtain⟨cs',hc,hx'⟩:=Option.bind_eq_some_iff.1 hg
    obtain⟨b,hv,hgood⟩:=h n cs' _ hx' (fun k hk=>hw k (by
     rw[XY ht]
     exact List.mem_cons_of_mem _ (List.mem_append_left _ (Om (List.mem_map.2 ⟨_,List.getElem_mem hmlt,rfl⟩) k hk))))
    have hcl:cs'.length=P.cellsOf e:=by
     unfold World.cells? at hc
     rw[if_pos (Nat.zero_le _)] at hc
     simpa using mapM_some_length hc
    refine⟨xs++[b],vs++cs',by simp[e1],by simp[e2,hcl,Nat.add_mul],?_,?_,?_⟩
    .have:Af f (xs++[b])=Af f xs++f b:=by rw[C2];simp[Af]
     rw[this]
     exact Ee h3 hv
    .intro i v hiv
     rcases Nat.lt_or_ge i vs.length with hlt|hge
     .exact h4 i v (by rwa [List.getElem?_append_left hlt] at hiv)
     .rw[List.getElem?_append_right hge] at hiv
      unfold World.cells? at hc
      rw[if_pos (Nat.zero_le _)] at hc
      have hi' :i-vs.length<P.cellsOf e:=by
       rw[←hcl]
       rcases Nat.lt_or_ge (i-vs.length) cs'.length with h9|h9
       .exact h9
       .rw[List.getElem?_eq_none h9] at hiv;simp at hiv
      have:=mapM_some_get hc (i-vs.length) (i-vs.length) (by simp[hi'])
      rw[hiv,Addr.add_assoc] at this
      rw[←this]
      congr 2
      omega
    .intro c hc'
     rcases List.mem_append.1 hc' with h9|h9
     .exact h5 c h9
     .simp at h9;subst h9;exact hgood
  obtain⟨xs,vs,e1,e2,h3,h4,h5⟩:=key len (Nat.le_refl _)
  refine⟨xs,Ly ⟨fun _=>rfl,some a,cap,by rw[e1],by omega,(by simp),?_⟩,by omega,h5⟩
  cases hvs:vs with
  |nil=>
   left
   rw[hvs] at h3
   have:=Bq h3
   exact List.length_eq_zero_iff.1 (by simpa using this.symm)
  |cons v vs' =>
   right
   refine⟨a,vs,rfl,?_,h4,h3⟩
   have:=Ws (h4 0 v (by rw[hvs];rfl))
   rwa [SB] at this
def L5 {α:Type} (enc:TypeId×Value→H) (P:Program) (w:World) (fs:List Field) (off:Nat) (f:α→List AV) (good:α→Prop):Prop:=
 ∀(cs:List Value) (k:Nat) (xs:List (DataW H×List MemPlace)),xs.length=fs.length→(∀(i:Nat) (fd:Field),fs[i]?=some fd→DataW.trod enc P w 0 (fun _=>true) true k fd.type ((cs.drop fd.offset).take (P.cellsOf fd.type))=xs[i]?)→(∀(i:Nat) (fd:Field) (x:DataW H×List MemPlace),fs[i]?=some fd→xs[i]?=some x→∀n∈x.1.weights P fd.type,n≤reachBytes)→
  cs.length=off+(fs.map fun fd=>P.cellsOf fd.type).sum→∃a,Ar w (SA w) σ0 (f a) (cs.drop off) (fun _=>0)∧good a
theorem L5.nil {off:Nat}:L5 enc P w [] off (fun _:Unit=> []) fun _=>True:=fun cs k xs _ _ _ hl=>⟨(),by
 have:cs.drop off=[]:=List.drop_eq_nil_of_le (by simp at hl;omega)
 rw[this];exact⟨rfl,fun _=>rfl⟩,trivial⟩
theorem L5.cons {α β:Type} {fd:Field} {fs:List Field} {off s:Nat} {f:α→List AV} {g:β→List AV} {good:α→Prop} {good' :β→Prop} (h:A1 enc P w fd.type f good) (hsz:P.cellsOf fd.type=s) (ho:fd.offset=off) (hs:L5 enc P w fs (off+s) g good'):L5 enc P w (fd::fs) off (fun x:α×β=>f x.1++g x.2) fun x=>good x.1∧good' x.2:=fun cs k xs hxl hx hw hl=>by
 subst hsz
 cases xs with
 |nil=>simp at hxl
 |cons x xs=>
  have h0:=hx 0 fd rfl
  obtain⟨a,h1,h2⟩:=h k _ x h0 (hw 0 fd x rfl rfl)
  obtain⟨b,h3,h4⟩:=hs cs k xs (by simpa using hxl) (fun i fd' hi=>hx (i+1) fd' (by simpa using hi)) (fun i fd' x' hi hx' =>hw (i+1) fd' x' (by simpa using hi) (by simpa using hx')) (by simp at hl;omega)
  refine⟨(a,b),?_,h2,h4⟩
  have:cs.drop off=(cs.drop fd.offset).take (P.cellsOf fd.type)++cs.drop (off+P.cellsOf fd.type):=by
   rw[ho,←List.drop_drop,List.take_append_drop]
  rw[this]
  exact Ee h1 h3
theorem A1.struct {α:Type} {fs:Array Field} {f:α→List AV} {good:α→Prop} (ht:P.underlying t=some (.struct fs)) (h:L5 enc P w fs.toList 0 f good) (hc:P.cellsOf t=(fs.toList.map fun fd=>P.cellsOf fd.type).sum):A1 enc P w t f good:=fun fuel cs x hx hw=>by
 obtain⟨xs,n,_,rfl,hl,hxl,hget⟩:=DataW.trod_struct ht hx
 obtain⟨a,h1,h2⟩:=h cs n xs (by simpa using hxl) (fun i fd hi=>hget i fd (by simpa using hi)) (fun i fd y hi hy k hk=>hw k (by
  simp only[DataW.weights,ht]
  exact DataW.weights_mem_each (j:=i) (by simp[hi]) (by simp[hy]) k hk)) (by rw[hl,hc];omega)
 exact⟨a,by simpa using h1,h2⟩
end
end Go.Abs
namespace Go.Abs
attribute [simp] FB D2 Y5 GF QS Y4 Cx Aw AN AU BN AI AA
theorem Iu {α:Type} (f:α→List AV) (h:∀x,EF (f x)=true) (xs:List α):EF (Af f xs)=true:=GZ f h xs
theorem Iv {α:Type} (f:α→List AV) (h:∀x,EG (f x)=true) (xs:List α):EG (Af f xs)=true:=GZ f h xs
theorem Iw {α:Type} (f:α→List AV) (h:∀x,DQ (f x)=true) (xs:List α):DQ (Af f xs)=true:=GZ f h xs
theorem Ix {α:Type} (f:α→List AV) (k:Nat) (h:∀x,C4 k (f x)=true) (xs:List α):C4 k (Af f xs)=true:=by
 rw[HW];exact GZ f (fun x=>by rw[←HW];exact h x) xs
theorem Hi {α:Type} (f:α→List AV) (h:∀x,CQ (f x)=true) (xs:List α):CQ (Af f xs)=true:=by
 rw[KA];exact GZ f (fun x=>by rw[←KA];exact h x) xs
theorem Iy {α:Type} (f f' :α→List AV) (h:∀x,ED (f x)=f' x) (xs:List α):ED (Af f xs)=Af f' xs:=by
 rw[Fk];exact G0 f (fun x=>by rw[←Fk];exact h x) xs
@[simp] theorem cV (M:List Ag) (k:Nat):Co M k .any= .any:=by cases k<;>simp
@[simp] theorem aZ (M:List Ag) (k:Nat) (b:Bool):Co M k (.bool b)= .bool b:=by cases k<;>simp
@[simp] theorem cW (M:List Ag) (k:Nat) (q:IntKind) (n:Int):Co M k (.int q n)= .int q n:=by cases k<;>simp
@[simp] theorem cY (M:List Ag) (k:Nat) (b:ByteArray):Co M k (.str b)= .str b:=by cases k<;>simp
@[simp] theorem fc (M:List Ag) (k n:Nat) (xs:List AV):Co M k (.ro n xs)= .ro n xs:=by cases k<;>simp
@[simp] theorem cZ (M:List Ag) (k s n:Nat) (xs:List AV):Co M k (.own s n xs)= .ro n (ED xs):=by cases k<;>simp
@[simp] theorem fe (m:Bool) (s n:Nat) (xs:List AV):D8 (sl m s n xs)=(if m=true then .ro n (ED xs) else .ro n xs):=by cases m<;>simp
@[simp] theorem ff (M:List Ag) (k:Nat) (m:Bool) (s n:Nat) (xs:List AV):Co M k (sl m s n xs)=(if m=true then .ro n (ED xs) else .ro n xs):=by cases m<;>simp
@[simp] theorem a8 (m:Bool) (s n:Nat) (xs:List AV):BL (sl m s n xs)=true:=by cases m<;>simp
@[simp] theorem fw (m:Bool) (s n:Nat) (xs:List AV):tf (sl m s n xs)=true:=by cases m<;>simp
@[simp] theorem fx (m:Bool) (k s n:Nat) (xs:List AV):Gx k (sl m s n xs)=true:=by cases m<;>simp
section
variable (xs ys:List (List Int)) (m:Bool) (M:List Ag) (k:Nat)
@[simp] theorem Zz (i:Nat):(AC m xs)[i]?=(xs[i]?).map (FB m):=by simp[AC]
@[simp] theorem ZA:(AC m xs).length=xs.length:=by simp[AC]
@[simp] theorem ZB:AC m []=[]:=rfl
theorem DF (x:List Int):AC m (x::xs)=FB m x::AC m xs:=rfl
@[simp] theorem Y6:(AC m xs).take k=AC m (xs.take k):=by simp[AC,List.map_take]
@[simp] theorem Y7:(AC m xs).drop k=AC m (xs.drop k):=by simp[AC,List.map_drop]
@[simp] theorem ba:EF (AC false xs)=true:=by induction xs<;>simp_all[DF]
@[simp] theorem bb:EG (AC m xs)=true:=by induction xs<;>simp_all[DF]
@[simp] theorem bc:DQ (AC m xs)=true:=by induction xs<;>simp_all[DF]
@[simp] theorem be:C4 k (AC m xs)=true:=by induction xs<;>simp_all[DF]
@[simp] theorem ZC:CQ (AC true xs)=true:=by induction xs<;>simp_all[DF]
@[simp] theorem SC:ED (AC m xs)=AC false xs:=by induction xs<;>cases m<;>simp_all[DF]
@[simp] theorem ZD:(AC m xs).map D8=AC false xs:=by rw[←Fk];exact SC xs m
@[simp] theorem ZE:(AC m xs).map (Co M k)=AC false xs:=by induction xs<;>cases m<;>simp_all[DF]
end
section
variable (xs ys:List (Int×Int)) (m:Bool) (M:List Ag) (k:Nat)
@[simp] theorem bf:(Af At xs).length=xs.length*2:=GY _ (fun x=>by simp[At]) xs
@[simp] theorem ZF (h:k<xs.length):(Af At xs).drop (k*2)=At xs[k]++Af At (xs.drop (k+1)):=Gm _ (fun x=>by simp[At]) h
@[simp] theorem ZG:(Af At xs).take (k*2)=Af At (xs.take k):=FA _ (fun x=>by simp[At]) k xs
@[simp] theorem c8:EF (Af At xs)=true:=Iu _ (fun x=>by simp[At]) xs
@[simp] theorem da:EG (Af At xs)=true:=Iv _ (fun x=>by simp[At]) xs
@[simp] theorem db:DQ (Af At xs)=true:=Iw _ (fun x=>by simp[At]) xs
@[simp] theorem dc:C4 k (Af At xs)=true:=Ix _ k (fun x=>by simp[At]) xs
@[simp] theorem bg:CQ (Af At xs)=true:=Hi _ (fun x=>by simp[At]) xs
@[simp] theorem Uc:ED (Af At xs)=Af At xs:=Iy _ _ (fun x=>by simp[At]) xs
@[simp] theorem bh:(Af At xs).map D8=Af At xs:=by rw[←Fk];exact Uc xs
@[simp] theorem bj:(Af At xs).map (Co M k)=Af At xs:=G0 _ (fun x=>by simp[At]) xs
end
section
variable (xs ys:List Obj) (m:Bool) (M:List Ag) (k:Nat)
@[simp] theorem bk:(Af Aw xs).length=xs.length*4:=GY _ (fun x=>by simp[Aw]) xs
@[simp] theorem ZH (h:k<xs.length):(Af Aw xs).drop (k*4)=Aw xs[k]++Af Aw (xs.drop (k+1)):=Gm _ (fun x=>by simp[Aw]) h
@[simp] theorem ZI:(Af Aw xs).take (k*4)=Af Aw (xs.take k):=FA _ (fun x=>by simp[Aw]) k xs
@[simp] theorem dg:EF (Af Aw xs)=true:=Iu _ (fun x=>by simp[Aw]) xs
@[simp] theorem dh:EG (Af Aw xs)=true:=Iv _ (fun x=>by simp[Aw]) xs
@[simp] theorem di:DQ (Af Aw xs)=true:=Iw _ (fun x=>by simp[Aw]) xs
@[simp] theorem dj:C4 k (Af Aw xs)=true:=Ix _ k (fun x=>by simp[Aw]) xs
@[simp] theorem bm:CQ (Af Aw xs)=true:=Hi _ (fun x=>by simp[Aw]) xs
@[simp] theorem Ud:ED (Af Aw xs)=Af Aw xs:=Iy _ _ (fun x=>by simp[Aw]) xs
@[simp] theorem bn:(Af Aw xs).map D8=Af Aw xs:=by rw[←Fk];exact Ud xs
@[simp] theorem bo:(Af Aw xs).map (Co M k)=Af Aw xs:=G0 _ (fun x=>by simp[Aw]) xs
end
section
variable (xs ys:List Bi) (m:Bool) (M:List Ag) (k:Nat)
@[simp] theorem bq:(Af AN xs).length=xs.length*8:=GY _ (fun x=>by simp[AN]) xs
@[simp] theorem ZJ (h:k<xs.length):(Af AN xs).drop (k*8)=AN xs[k]++Af AN (xs.drop (k+1)):=Gm _ (fun x=>by simp[AN]) h
@[simp] theorem ZK:(Af AN xs).take (k*8)=Af AN (xs.take k):=FA _ (fun x=>by simp[AN]) k xs
@[simp] theorem Wt:EF (Af AN xs)=true:=Iu _ (fun x=>by simp[AN]) xs
@[simp] theorem dk:EG (Af AN xs)=true:=Iv _ (fun x=>by simp[AN]) xs
@[simp] theorem dl:DQ (Af AN xs)=true:=Iw _ (fun x=>by simp[AN]) xs
@[simp] theorem dm:C4 k (Af AN xs)=true:=Ix _ k (fun x=>by simp[AN]) xs
@[simp] theorem br:CQ (Af AN xs)=true:=Hi _ (fun x=>by simp[AN]) xs
@[simp] theorem Ue:ED (Af AN xs)=Af AN xs:=Iy _ _ (fun x=>by simp[AN]) xs
@[simp] theorem bt:(Af AN xs).map D8=Af AN xs:=by rw[←Fk];exact Ue xs
@[simp] theorem bu:(Af AN xs).map (Co M k)=Af AN xs:=G0 _ (fun x=>by simp[AN]) xs
end
section
variable (xs ys:List CR) (m:Bool) (M:List Ag) (k:Nat)
@[simp] theorem Oo:(Af (AI m) xs).length=xs.length*12:=GY _ (fun x=>by simp[AI]) xs
@[simp] theorem ZL (h:k<xs.length):(Af (AI m) xs).drop (k*12)=(AI m) xs[k]++Af (AI m) (xs.drop (k+1)):=Gm _ (fun x=>by simp[AI]) h
@[simp] theorem ZM:(Af (AI m) xs).take (k*12)=Af (AI m) (xs.take k):=FA _ (fun x=>by simp[AI]) k xs
@[simp] theorem dq:EF (Af (AI false) xs)=true:=Iu _ (fun x=>by simp[AI]) xs
@[simp] theorem dr:EG (Af (AI m) xs)=true:=Iv _ (fun x=>by simp[AI]) xs
@[simp] theorem dt:DQ (Af (AI m) xs)=true:=Iw _ (fun x=>by simp[AI]) xs
@[simp] theorem du:C4 k (Af (AI m) xs)=true:=Ix _ k (fun x=>by simp[AI]) xs
@[simp] theorem bx:CQ (Af (AI true) xs)=true:=Hi _ (fun x=>by simp[AI]) xs
@[simp] theorem Uf:ED (Af (AI m) xs)=Af (AI false) xs:=Iy _ _ (fun x=>by cases m<;>simp[AI]) xs
@[simp] theorem bz:(Af (AI m) xs).map D8=Af (AI false) xs:=by rw[←Fk];exact Uf xs m
@[simp] theorem bA:(Af (AI m) xs).map (Co M k)=Af (AI false) xs:=G0 _ (fun x=>by cases m<;>simp[AI]) xs
end
end Go.Abs
set_option maxRecDepth 100000
namespace Go.Abs
def tL:List (Option TI):=[
 none,
 none,
 some ⟨false,1,8,[.int .i64 0],.int .i64,false⟩,
 some ⟨false,1,8,[.int .i64 0],.int .i64,false⟩,
 some ⟨false,1,1,[.bool false],.bool,false⟩,
 some ⟨false,1,1,[.int .u8 0],.int .u8,false⟩,
 some ⟨false,1,1,[.int .u8 0],.int .u8,false⟩,
 some ⟨true,4,24,[.int .i64 0,.int .i64 0,.bool false,.int .u8 0],.struct [(0,1,false),(1,1,false),(2,1,false),(3,1,false)],false⟩,
 some ⟨true,4,24,[.int .i64 0,.int .i64 0,.bool false,.int .u8 0],.struct [(0,1,false),(1,1,false),(2,1,false),(3,1,false)],false⟩,
 some ⟨false,1,16,[.str ByteArray.empty],.str,false⟩,
 some ⟨false,1,16,[.str ByteArray.empty],.str,false⟩,
 some ⟨false,1,16,[.str ByteArray.empty],.str,false⟩,
 some ⟨false,1,8,[.int .u64 0],.int .u64,false⟩,
 some ⟨true,2,24,[.str ByteArray.empty,.int .u64 0],.struct [(0,1,false),(1,1,false)],false⟩,
 some ⟨true,2,24,[.str ByteArray.empty,.int .u64 0],.struct [(0,1,false),(1,1,false)],false⟩,
 some ⟨false,1,8,[.nilp],.ptr,false⟩,
 some ⟨false,1,8,[.nilp],.ptr,false⟩,
 some ⟨false,1,8,[.nilp],.ptr,false⟩,
 some ⟨true,1,8,[.nilp],.struct [(0,1,false)],false⟩,
 some ⟨true,1,8,[.nilp],.struct [(0,1,false)],false⟩,
 none,
 some ⟨false,1,4,[.int .i32 0],.int .i32,false⟩,
 some ⟨false,1,24,[.own 4 0 []],.slice 38 4 64 [.int .i64 0,.int .i64 0,.own 8 0 [],.own 12 0 []],false⟩,
 some ⟨false,1,24,[.own 1 0 []],.slice 65 1 24 [.own 4 0 []],false⟩,
 some ⟨false,1,24,[.own 2 0 []],.slice 51 2 32 [.int .i64 0,.own 1 0 []],false⟩,
 some ⟨false,1,24,[.own 3 0 []],.slice 301 3 24 [.int .i64 0,.int .i64 0,.int .i64 0],false⟩,
 some ⟨true,2,48,[.own 2 0 [],.own 3 0 []],.struct [(0,1,false),(1,1,false)],false⟩,
 some ⟨true,2,48,[.own 2 0 [],.own 3 0 []],.struct [(0,1,false),(1,1,false)],false⟩,
 some ⟨false,1,24,[.own 1 0 []],.slice 3 1 8 [.int .i64 0],false⟩,
 some ⟨true,4,96,[.own 1 0 [],.own 2 0 [],.own 3 0 [],.own 1 0 []],.struct [(0,1,false),(1,2,true),(3,1,false)],false⟩,
 some ⟨true,4,96,[.own 1 0 [],.own 2 0 [],.own 3 0 [],.own 1 0 []],.struct [(0,1,false),(1,2,true),(3,1,false)],false⟩,
 some ⟨true,5,120,[.own 4 0 [],.own 1 0 [],.own 2 0 [],.own 3 0 [],.own 1 0 []],.struct [(0,1,false),(1,4,true)],false⟩,
 some ⟨true,5,120,[.own 4 0 [],.own 1 0 [],.own 2 0 [],.own 3 0 [],.own 1 0 []],.struct [(0,1,false),(1,4,true)],false⟩,
 none,
 none,
 some ⟨false,1,24,[.own 8 0 []],.slice 42 8 64 [.int .i64 0,.int .i64 0,.int .i64 0,.str ByteArray.empty,.int .i64 0,.int .i64 0,.bool false,.bool false],false⟩,
 some ⟨false,1,24,[.own 12 0 []],.slice 55 12 144 [.bool false,.int .i64 0,.bool false,.int .i64 0,.int .i64 0,.own 1 0 [],.int .i64 0,.int .i64 0,.int .i64 0,.bool false,.own 1 0 [],.own 1 0 []],false⟩,
 some ⟨true,4,64,[.int .i64 0,.int .i64 0,.own 8 0 [],.own 12 0 []],.struct [(0,1,false),(1,1,false),(2,1,false),(3,1,false)],false⟩,
 some ⟨true,4,64,[.int .i64 0,.int .i64 0,.own 8 0 [],.own 12 0 []],.struct [(0,1,false),(1,1,false),(2,1,false),(3,1,false)],false⟩,
 some ⟨true,2,24,[.str ByteArray.empty,.int .i64 0],.struct [(0,1,false),(1,1,false)],false⟩,
 some ⟨true,2,24,[.str ByteArray.empty,.int .i64 0],.struct [(0,1,false),(1,1,false)],true⟩,
 some ⟨true,8,64,[.int .i64 0,.int .i64 0,.int .i64 0,.str ByteArray.empty,.int .i64 0,.int .i64 0,.bool false,.bool false],.struct [(0,1,false),(1,1,false),(2,1,false),(3,2,true),(5,1,false),(6,1,false),(7,1,false)],false⟩,
 some ⟨true,8,64,[.int .i64 0,.int .i64 0,.int .i64 0,.str ByteArray.empty,.int .i64 0,.int .i64 0,.bool false,.bool false],.struct [(0,1,false),(1,1,false),(2,1,false),(3,2,true),(5,1,false),(6,1,false),(7,1,false)],true⟩,
 none,
 some ⟨false,1,8,[.int .i64 0],.int .i64,false⟩,
 none,
 none,
 none,
 none,
 some ⟨false,1,24,[.own 1 0 []],.slice 28 1 24 [.own 1 0 []],false⟩,
 some ⟨true,2,32,[.int .i64 0,.own 1 0 []],.struct [(0,1,false),(1,1,false)],false⟩,
 some ⟨true,2,32,[.int .i64 0,.own 1 0 []],.struct [(0,1,false),(1,1,false)],false⟩,
 some ⟨true,6,80,[.int .i64 0,.int .i64 0,.int .i64 0,.bool false,.own 1 0 [],.own 1 0 []],.struct [(0,1,false),(1,1,false),(2,1,false),(3,1,false),(4,1,false),(5,1,false)],false⟩,
 some ⟨true,6,80,[.int .i64 0,.int .i64 0,.int .i64 0,.bool false,.own 1 0 [],.own 1 0 []],.struct [(0,1,false),(1,1,false),(2,1,false),(3,1,false),(4,1,false),(5,1,false)],false⟩,
 some ⟨true,12,144,[.bool false,.int .i64 0,.bool false,.int .i64 0,.int .i64 0,.own 1 0 [],.int .i64 0,.int .i64 0,.int .i64 0,.bool false,.own 1 0 [],.own 1 0 []],.struct [(0,1,false),(1,1,false),(2,1,false),(3,1,false),(4,2,true),(6,6,true)],false⟩,
 some ⟨true,12,144,[.bool false,.int .i64 0,.bool false,.int .i64 0,.int .i64 0,.own 1 0 [],.int .i64 0,.int .i64 0,.int .i64 0,.bool false,.own 1 0 [],.own 1 0 []],.struct [(0,1,false),(1,1,false),(2,1,false),(3,1,false),(4,2,true),(6,6,true)],false⟩,
 none,
 none,
 none,
 some ⟨true,4,40,[.int .i64 0,.int .i64 0,.str ByteArray.empty,.int .i64 0],.struct [(0,1,false),(1,1,false),(2,2,true)],false⟩,
 some ⟨true,4,40,[.int .i64 0,.int .i64 0,.str ByteArray.empty,.int .i64 0],.struct [(0,1,false),(1,1,false),(2,2,true)],true⟩,
 none,
 none,
 none,
 none,
 some ⟨false,1,24,[.own 4 0 []],.slice 60 4 40 [.int .i64 0,.int .i64 0,.str ByteArray.empty,.int .i64 0],false⟩,
 none,
 none,
 none,
 none,
 none,
 some ⟨false,1,24,[.own 2 0 []],.slice 121 2 16 [.int .i64 0,.int .i64 0],false⟩,
 none,
 none,
 none,
 none,
 none,
 none,
 none,
 none,
 none,
 none,
 none,
 none,
 none,
 none,
 none,
 none,
 none,
 none,
 none,
 none,
 none,
 none,
 none,
 none,
 none,
 none,
 none,
 none,
 none,
 none,
 some ⟨true,2,16,[.int .i64 0,.int .i64 0],.struct [(0,1,false),(1,1,false)],false⟩,
 some ⟨true,2,16,[.int .i64 0,.int .i64 0],.struct [(0,1,false),(1,1,false)],true⟩,
 none,
 none,
 none,
 none,
 none,
 none,
 none,
 none,
 none,
 none,
 none,
 none,
 none,
 none,
 none,
 none,
 some ⟨true,2,16,[.int .i64 0,.int .i64 0],.struct [(0,1,false),(1,1,false)],false⟩,
 some ⟨true,2,16,[.int .i64 0,.int .i64 0],.struct [(0,1,false),(1,1,false)],true⟩,
 none,
 none,
 none,
 none,
 none,
 none,
 none,
 none,
 some ⟨false,1,8,[.int .u64 0],.int .u64,false⟩,
 none,
 none,
 none,
 none,
 none,
 none,
 none,
 none,
 none,
 none,
 none,
 none,
 some ⟨false,1,24,[.own 1 0 []],.slice 5 1 1 [.int .u8 0],false⟩,
 some ⟨false,1,24,[.own 1 0 []],.slice 5 1 1 [.int .u8 0],false⟩,
 none,
 none,
 none,
 none,
 none,
 none,
 none,
 none,
 none,
 some ⟨false,1,8,[.nilp],.ptr,false⟩,
 none,
 some ⟨false,1,24,[.own 1 0 []],.slice 4 1 1 [.bool false],false⟩,
 none,
 none,
 none,
 none,
 none,
 none,
 none,
 none,
 none,
 none,
 none,
 none,
 none,
 none,
 some ⟨false,1,8,[.nilp],.ptr,false⟩,
 none,
 none,
 none,
 none,
 none,
 none,
 none,
 none,
 none,
 none,
 none,
 none,
 none,
 none,
 none,
 none,
 none,
 none,
 none,
 none,
 none,
 none,
 none,
 none,
 none,
 none,
 none,
 none,
 none,
 none,
 none,
 none,
 none,
 none,
 none,
 none,
 none,
 none,
 none,
 none,
 none,
 none,
 none,
 none,
 none,
 none,
 none,
 none,
 none,
 none,
 none,
 none,
 none,
 some ⟨false,1,8,[.nilp],.ptr,false⟩,
 none,
 none,
 none,
 none,
 none,
 none,
 some ⟨true,2,32,[.own 1 0 [],.int .i64 0],.struct [(0,1,false),(1,1,false)],false⟩,
 some ⟨true,2,32,[.own 1 0 [],.int .i64 0],.struct [(0,1,false),(1,1,false)],false⟩,
 none,
 none,
 some ⟨true,16,16,[.bool false,.bool false,.bool false,.bool false,.bool false,.bool false,.bool false,.bool false,.bool false,.bool false,.bool false,.bool false,.bool false,.bool false,.bool false,.bool false],.array 16 4 1,false⟩,
 none,
 none,
 none,
 some ⟨false,1,8,[.nilp],.ptr,false⟩,
 none,
 none,
 none,
 none,
 none,
 none,
 none,
 none,
 none,
 none,
 none,
 none,
 some ⟨false,1,8,[.nilp],.ptr,false⟩,
 some ⟨true,4,40,[.str ByteArray.empty,.int .i64 0,.int .i64 0,.bool false],.struct [(0,2,true),(2,1,false),(3,1,false)],false⟩,
 some ⟨true,4,40,[.str ByteArray.empty,.int .i64 0,.int .i64 0,.bool false],.struct [(0,2,true),(2,1,false),(3,1,false)],true⟩,
 none,
 none,
 none,
 none,
 some ⟨false,1,4,[.int .u32 0],.int .u32,false⟩,
 none,
 some ⟨false,1,8,[.int .u64 0],.int .u64,false⟩,
 none,
 none,
 none,
 none,
 none,
 some ⟨false,1,8,[.int .i64 0],.int .i64,false⟩,
 none,
 none,
 none,
 none,
 none,
 none,
 none,
 none,
 none,
 some ⟨false,1,8,[.int .u64 0],.int .u64,false⟩,
 none,
 none,
 none,
 some ⟨false,1,8,[.nilp],.ptr,false⟩,
 none,
 some ⟨false,1,8,[.nilp],.ptr,false⟩,
 none,
 none,
 some ⟨true,4,40,[.nilp,.nilp,.nilp,.str ByteArray.empty],.struct [(0,1,false),(1,1,false),(2,1,false),(3,1,false)],false⟩,
 some ⟨true,4,40,[.nilp,.nilp,.nilp,.str ByteArray.empty],.struct [(0,1,false),(1,1,false),(2,1,false),(3,1,false)],false⟩,
 some ⟨true,0,0,[],.array 0 16 1,false⟩,
 none,
 none,
 some ⟨false,1,1,[.int .u8 0],.int .u8,false⟩,
 some ⟨false,1,1,[.int .u8 0],.int .u8,false⟩,
 none,
 some ⟨false,1,8,[.nilp],.ptr,false⟩,
 some ⟨false,1,4,[.int .i32 0],.int .i32,false⟩,
 some ⟨false,1,4,[.int .i32 0],.int .i32,false⟩,
 none,
 none,
 some ⟨true,3,24,[.int .i64 0,.int .i64 0,.int .i64 0],.struct [(0,1,false),(1,1,false),(2,1,false)],false⟩,
 some ⟨true,3,24,[.int .i64 0,.int .i64 0,.int .i64 0],.struct [(0,1,false),(1,1,false),(2,1,false)],true⟩,
 none
]
def tT (t:Nat):Option TI:=match tL[t]? with|some x=>x|none=>none
noncomputable abbrev pg:Program:=Go.Proofs.Tryz.prog
theorem fg:((List.range 303).all fun t=>match tT t with|some i=>WR pg t i|none=>true)=true:=by kernel_rfl
theorem tk:Bu pg tT:=fun t i h=>by
 have hl:t<303:=by
  rcases Nat.lt_or_ge t 303 with h1|h1
  .exact h1
  .have h2:tL[t]?=none:=List.getElem?_eq_none h1
   simp[tT,h2] at h
 have:=List.all_eq_true.1 fg t (List.mem_range.2 hl)
 rw[h] at this;exact this
@[simp] theorem jJ:tT 2=some ⟨false,1,8,[.int .i64 0],.int .i64,false⟩:=rfl
@[simp] theorem jK:An tT 2= .int .i64:=rfl
@[simp] theorem jL:tT 3=some ⟨false,1,8,[.int .i64 0],.int .i64,false⟩:=rfl
@[simp] theorem jM:An tT 3= .int .i64:=rfl
@[simp] theorem jN:tT 4=some ⟨false,1,1,[.bool false],.bool,false⟩:=rfl
@[simp] theorem jO:An tT 4= .bool:=rfl
@[simp] theorem jP:tT 5=some ⟨false,1,1,[.int .u8 0],.int .u8,false⟩:=rfl
@[simp] theorem jQ:An tT 5= .int .u8:=rfl
@[simp] theorem jR:tT 6=some ⟨false,1,1,[.int .u8 0],.int .u8,false⟩:=rfl
@[simp] theorem jS:An tT 6= .int .u8:=rfl
@[simp] theorem jT:tT 7=some ⟨true,4,24,[.int .i64 0,.int .i64 0,.bool false,.int .u8 0],.struct [(0,1,false),(1,1,false),(2,1,false),(3,1,false)],false⟩:=rfl
@[simp] theorem jU:An tT 7= .struct [(0,1,false),(1,1,false),(2,1,false),(3,1,false)]:=rfl
@[simp] theorem jV:tT 8=some ⟨true,4,24,[.int .i64 0,.int .i64 0,.bool false,.int .u8 0],.struct [(0,1,false),(1,1,false),(2,1,false),(3,1,false)],false⟩:=rfl
@[simp] theorem jW:An tT 8= .struct [(0,1,false),(1,1,false),(2,1,false),(3,1,false)]:=rfl
@[simp] theorem jX:tT 9=some ⟨false,1,16,[.str ByteArray.empty],.str,false⟩:=rfl
@[simp] theorem jY:An tT 9= .str:=rfl
@[simp] theorem ia:tT 10=some ⟨false,1,16,[.str ByteArray.empty],.str,false⟩:=rfl
@[simp] theorem ib:An tT 10= .str:=rfl
@[simp] theorem ic:tT 11=some ⟨false,1,16,[.str ByteArray.empty],.str,false⟩:=rfl
@[simp] theorem ie:An tT 11= .str:=rfl
@[simp] theorem ig:tT 12=some ⟨false,1,8,[.int .u64 0],.int .u64,false⟩:=rfl
@[simp] theorem ii:An tT 12= .int .u64:=rfl
@[simp] theorem ij:tT 13=some ⟨true,2,24,[.str ByteArray.empty,.int .u64 0],.struct [(0,1,false),(1,1,false)],false⟩:=rfl
@[simp] theorem ik:An tT 13= .struct [(0,1,false),(1,1,false)]:=rfl
@[simp] theorem il:tT 14=some ⟨true,2,24,[.str ByteArray.empty,.int .u64 0],.struct [(0,1,false),(1,1,false)],false⟩:=rfl
@[simp] theorem im:An tT 14= .struct [(0,1,false),(1,1,false)]:=rfl
@[simp] theorem io:tT 15=some ⟨false,1,8,[.nilp],.ptr,false⟩:=rfl
@[simp] theorem ip:An tT 15= .ptr:=rfl
@[simp] theorem iq:tT 16=some ⟨false,1,8,[.nilp],.ptr,false⟩:=rfl
@[simp] theorem ir:An tT 16= .ptr:=rfl
@[simp] theorem it:tT 17=some ⟨false,1,8,[.nilp],.ptr,false⟩:=rfl
@[simp] theorem iu:An tT 17= .ptr:=rfl
@[simp] theorem iv:tT 18=some ⟨true,1,8,[.nilp],.struct [(0,1,false)],false⟩:=rfl
@[simp] theorem iw:An tT 18= .struct [(0,1,false)]:=rfl
@[simp] theorem iy:tT 19=some ⟨true,1,8,[.nilp],.struct [(0,1,false)],false⟩:=rfl
@[simp] theorem iz:An tT 19= .struct [(0,1,false)]:=rfl
@[simp] theorem iA:tT 21=some ⟨false,1,4,[.int .i32 0],.int .i32,false⟩:=rfl
@[simp] theorem iB:An tT 21= .int .i32:=rfl
@[simp] theorem iC:tT 22=some ⟨false,1,24,[.own 4 0 []],.slice 38 4 64 [.int .i64 0,.int .i64 0,.own 8 0 [],.own 12 0 []],false⟩:=rfl
@[simp] theorem iD:An tT 22= .slice 38 4 64 [.int .i64 0,.int .i64 0,.own 8 0 [],.own 12 0 []]:=rfl
@[simp] theorem iE:tT 23=some ⟨false,1,24,[.own 1 0 []],.slice 65 1 24 [.own 4 0 []],false⟩:=rfl
@[simp] theorem iF:An tT 23= .slice 65 1 24 [.own 4 0 []]:=rfl
@[simp] theorem iG:tT 24=some ⟨false,1,24,[.own 2 0 []],.slice 51 2 32 [.int .i64 0,.own 1 0 []],false⟩:=rfl
@[simp] theorem iH:An tT 24= .slice 51 2 32 [.int .i64 0,.own 1 0 []]:=rfl
@[simp] theorem iI:tT 25=some ⟨false,1,24,[.own 3 0 []],.slice 301 3 24 [.int .i64 0,.int .i64 0,.int .i64 0],false⟩:=rfl
@[simp] theorem iJ:An tT 25= .slice 301 3 24 [.int .i64 0,.int .i64 0,.int .i64 0]:=rfl
@[simp] theorem iK:tT 26=some ⟨true,2,48,[.own 2 0 [],.own 3 0 []],.struct [(0,1,false),(1,1,false)],false⟩:=rfl
@[simp] theorem iL:An tT 26= .struct [(0,1,false),(1,1,false)]:=rfl
@[simp] theorem iM:tT 27=some ⟨true,2,48,[.own 2 0 [],.own 3 0 []],.struct [(0,1,false),(1,1,false)],false⟩:=rfl
@[simp] theorem iN:An tT 27= .struct [(0,1,false),(1,1,false)]:=rfl
@[simp] theorem iO:tT 28=some ⟨false,1,24,[.own 1 0 []],.slice 3 1 8 [.int .i64 0],false⟩:=rfl
@[simp] theorem iP:An tT 28= .slice 3 1 8 [.int .i64 0]:=rfl
@[simp] theorem iQ:tT 29=some ⟨true,4,96,[.own 1 0 [],.own 2 0 [],.own 3 0 [],.own 1 0 []],.struct [(0,1,false),(1,2,true),(3,1,false)],false⟩:=rfl
@[simp] theorem iR:An tT 29= .struct [(0,1,false),(1,2,true),(3,1,false)]:=rfl
@[simp] theorem iS:tT 30=some ⟨true,4,96,[.own 1 0 [],.own 2 0 [],.own 3 0 [],.own 1 0 []],.struct [(0,1,false),(1,2,true),(3,1,false)],false⟩:=rfl
@[simp] theorem iT:An tT 30= .struct [(0,1,false),(1,2,true),(3,1,false)]:=rfl
@[simp] theorem iU:tT 31=some ⟨true,5,120,[.own 4 0 [],.own 1 0 [],.own 2 0 [],.own 3 0 [],.own 1 0 []],.struct [(0,1,false),(1,4,true)],false⟩:=rfl
@[simp] theorem iV:An tT 31= .struct [(0,1,false),(1,4,true)]:=rfl
@[simp] theorem iW:tT 32=some ⟨true,5,120,[.own 4 0 [],.own 1 0 [],.own 2 0 [],.own 3 0 [],.own 1 0 []],.struct [(0,1,false),(1,4,true)],false⟩:=rfl
@[simp] theorem iX:An tT 32= .struct [(0,1,false),(1,4,true)]:=rfl
@[simp] theorem iY:tT 35=some ⟨false,1,24,[.own 8 0 []],.slice 42 8 64 [.int .i64 0,.int .i64 0,.int .i64 0,.str ByteArray.empty,.int .i64 0,.int .i64 0,.bool false,.bool false],false⟩:=rfl
@[simp] theorem iZ:An tT 35= .slice 42 8 64 [.int .i64 0,.int .i64 0,.int .i64 0,.str ByteArray.empty,.int .i64 0,.int .i64 0,.bool false,.bool false]:=rfl
@[simp] theorem i0:tT 36=some ⟨false,1,24,[.own 12 0 []],.slice 55 12 144 [.bool false,.int .i64 0,.bool false,.int .i64 0,.int .i64 0,.own 1 0 [],.int .i64 0,.int .i64 0,.int .i64 0,.bool false,.own 1 0 [],.own 1 0 []],false⟩:=rfl
@[simp] theorem i6:An tT 36= .slice 55 12 144 [.bool false,.int .i64 0,.bool false,.int .i64 0,.int .i64 0,.own 1 0 [],.int .i64 0,.int .i64 0,.int .i64 0,.bool false,.own 1 0 [],.own 1 0 []]:=rfl
@[simp] theorem i7:tT 37=some ⟨true,4,64,[.int .i64 0,.int .i64 0,.own 8 0 [],.own 12 0 []],.struct [(0,1,false),(1,1,false),(2,1,false),(3,1,false)],false⟩:=rfl
@[simp] theorem i8:An tT 37= .struct [(0,1,false),(1,1,false),(2,1,false),(3,1,false)]:=rfl
@[simp] theorem i9:tT 38=some ⟨true,4,64,[.int .i64 0,.int .i64 0,.own 8 0 [],.own 12 0 []],.struct [(0,1,false),(1,1,false),(2,1,false),(3,1,false)],false⟩:=rfl
@[simp] theorem ja:An tT 38= .struct [(0,1,false),(1,1,false),(2,1,false),(3,1,false)]:=rfl
@[simp] theorem jb:tT 39=some ⟨true,2,24,[.str ByteArray.empty,.int .i64 0],.struct [(0,1,false),(1,1,false)],false⟩:=rfl
@[simp] theorem jc:An tT 39= .struct [(0,1,false),(1,1,false)]:=rfl
@[simp] theorem jd:tT 40=some ⟨true,2,24,[.str ByteArray.empty,.int .i64 0],.struct [(0,1,false),(1,1,false)],true⟩:=rfl
@[simp] theorem je:An tT 40= .struct [(0,1,false),(1,1,false)]:=rfl
@[simp] theorem jf:tT 41=some ⟨true,8,64,[.int .i64 0,.int .i64 0,.int .i64 0,.str ByteArray.empty,.int .i64 0,.int .i64 0,.bool false,.bool false],.struct [(0,1,false),(1,1,false),(2,1,false),(3,2,true),(5,1,false),(6,1,false),(7,1,false)],false⟩:=rfl
@[simp] theorem jg:An tT 41= .struct [(0,1,false),(1,1,false),(2,1,false),(3,2,true),(5,1,false),(6,1,false),(7,1,false)]:=rfl
@[simp] theorem jh:tT 42=some ⟨true,8,64,[.int .i64 0,.int .i64 0,.int .i64 0,.str ByteArray.empty,.int .i64 0,.int .i64 0,.bool false,.bool false],.struct [(0,1,false),(1,1,false),(2,1,false),(3,2,true),(5,1,false),(6,1,false),(7,1,false)],true⟩:=rfl
@[simp] theorem ji:An tT 42= .struct [(0,1,false),(1,1,false),(2,1,false),(3,2,true),(5,1,false),(6,1,false),(7,1,false)]:=rfl
@[simp] theorem jj:tT 44=some ⟨false,1,8,[.int .i64 0],.int .i64,false⟩:=rfl
@[simp] theorem jk:An tT 44= .int .i64:=rfl
@[simp] theorem jl:tT 49=some ⟨false,1,24,[.own 1 0 []],.slice 28 1 24 [.own 1 0 []],false⟩:=rfl
@[simp] theorem jm:An tT 49= .slice 28 1 24 [.own 1 0 []]:=rfl
@[simp] theorem jn:tT 50=some ⟨true,2,32,[.int .i64 0,.own 1 0 []],.struct [(0,1,false),(1,1,false)],false⟩:=rfl
@[simp] theorem jo:An tT 50= .struct [(0,1,false),(1,1,false)]:=rfl
@[simp] theorem jp:tT 51=some ⟨true,2,32,[.int .i64 0,.own 1 0 []],.struct [(0,1,false),(1,1,false)],false⟩:=rfl
@[simp] theorem jq:An tT 51= .struct [(0,1,false),(1,1,false)]:=rfl
@[simp] theorem jr:tT 52=some ⟨true,6,80,[.int .i64 0,.int .i64 0,.int .i64 0,.bool false,.own 1 0 [],.own 1 0 []],.struct [(0,1,false),(1,1,false),(2,1,false),(3,1,false),(4,1,false),(5,1,false)],false⟩:=rfl
@[simp] theorem js:An tT 52= .struct [(0,1,false),(1,1,false),(2,1,false),(3,1,false),(4,1,false),(5,1,false)]:=rfl
@[simp] theorem jt:tT 53=some ⟨true,6,80,[.int .i64 0,.int .i64 0,.int .i64 0,.bool false,.own 1 0 [],.own 1 0 []],.struct [(0,1,false),(1,1,false),(2,1,false),(3,1,false),(4,1,false),(5,1,false)],false⟩:=rfl
@[simp] theorem ju:An tT 53= .struct [(0,1,false),(1,1,false),(2,1,false),(3,1,false),(4,1,false),(5,1,false)]:=rfl
@[simp] theorem jv:tT 54=some ⟨true,12,144,[.bool false,.int .i64 0,.bool false,.int .i64 0,.int .i64 0,.own 1 0 [],.int .i64 0,.int .i64 0,.int .i64 0,.bool false,.own 1 0 [],.own 1 0 []],.struct [(0,1,false),(1,1,false),(2,1,false),(3,1,false),(4,2,true),(6,6,true)],false⟩:=rfl
@[simp] theorem jw:An tT 54= .struct [(0,1,false),(1,1,false),(2,1,false),(3,1,false),(4,2,true),(6,6,true)]:=rfl
@[simp] theorem jx:tT 55=some ⟨true,12,144,[.bool false,.int .i64 0,.bool false,.int .i64 0,.int .i64 0,.own 1 0 [],.int .i64 0,.int .i64 0,.int .i64 0,.bool false,.own 1 0 [],.own 1 0 []],.struct [(0,1,false),(1,1,false),(2,1,false),(3,1,false),(4,2,true),(6,6,true)],false⟩:=rfl
@[simp] theorem jy:An tT 55= .struct [(0,1,false),(1,1,false),(2,1,false),(3,1,false),(4,2,true),(6,6,true)]:=rfl
@[simp] theorem jz:tT 59=some ⟨true,4,40,[.int .i64 0,.int .i64 0,.str ByteArray.empty,.int .i64 0],.struct [(0,1,false),(1,1,false),(2,2,true)],false⟩:=rfl
@[simp] theorem jA:An tT 59= .struct [(0,1,false),(1,1,false),(2,2,true)]:=rfl
@[simp] theorem jB:tT 60=some ⟨true,4,40,[.int .i64 0,.int .i64 0,.str ByteArray.empty,.int .i64 0],.struct [(0,1,false),(1,1,false),(2,2,true)],true⟩:=rfl
@[simp] theorem jC:An tT 60= .struct [(0,1,false),(1,1,false),(2,2,true)]:=rfl
@[simp] theorem jD:tT 65=some ⟨false,1,24,[.own 4 0 []],.slice 60 4 40 [.int .i64 0,.int .i64 0,.str ByteArray.empty,.int .i64 0],false⟩:=rfl
@[simp] theorem jE:An tT 65= .slice 60 4 40 [.int .i64 0,.int .i64 0,.str ByteArray.empty,.int .i64 0]:=rfl
@[simp] theorem jF:tT 71=some ⟨false,1,24,[.own 2 0 []],.slice 121 2 16 [.int .i64 0,.int .i64 0],false⟩:=rfl
@[simp] theorem jG:An tT 71= .slice 121 2 16 [.int .i64 0,.int .i64 0]:=rfl
@[simp] theorem fz:tT 102=some ⟨true,2,16,[.int .i64 0,.int .i64 0],.struct [(0,1,false),(1,1,false)],false⟩:=rfl
@[simp] theorem fA:An tT 102= .struct [(0,1,false),(1,1,false)]:=rfl
@[simp] theorem fB:tT 103=some ⟨true,2,16,[.int .i64 0,.int .i64 0],.struct [(0,1,false),(1,1,false)],true⟩:=rfl
@[simp] theorem fC:An tT 103= .struct [(0,1,false),(1,1,false)]:=rfl
@[simp] theorem fD:tT 120=some ⟨true,2,16,[.int .i64 0,.int .i64 0],.struct [(0,1,false),(1,1,false)],false⟩:=rfl
@[simp] theorem fE:An tT 120= .struct [(0,1,false),(1,1,false)]:=rfl
@[simp] theorem fF:tT 121=some ⟨true,2,16,[.int .i64 0,.int .i64 0],.struct [(0,1,false),(1,1,false)],true⟩:=rfl
@[simp] theorem fG:An tT 121= .struct [(0,1,false),(1,1,false)]:=rfl
@[simp] theorem fH:tT 130=some ⟨false,1,8,[.int .u64 0],.int .u64,false⟩:=rfl
@[simp] theorem fI:An tT 130= .int .u64:=rfl
@[simp] theorem fJ:tT 143=some ⟨false,1,24,[.own 1 0 []],.slice 5 1 1 [.int .u8 0],false⟩:=rfl
@[simp] theorem fK:An tT 143= .slice 5 1 1 [.int .u8 0]:=rfl
@[simp] theorem fL:tT 144=some ⟨false,1,24,[.own 1 0 []],.slice 5 1 1 [.int .u8 0],false⟩:=rfl
@[simp] theorem fM:An tT 144= .slice 5 1 1 [.int .u8 0]:=rfl
@[simp] theorem fN:tT 154=some ⟨false,1,8,[.nilp],.ptr,false⟩:=rfl
@[simp] theorem fO:An tT 154= .ptr:=rfl
@[simp] theorem fP:tT 156=some ⟨false,1,24,[.own 1 0 []],.slice 4 1 1 [.bool false],false⟩:=rfl
@[simp] theorem fQ:An tT 156= .slice 4 1 1 [.bool false]:=rfl
@[simp] theorem fR:tT 171=some ⟨false,1,8,[.nilp],.ptr,false⟩:=rfl
@[simp] theorem fS:An tT 171= .ptr:=rfl
@[simp] theorem fT:tT 225=some ⟨false,1,8,[.nilp],.ptr,false⟩:=rfl
@[simp] theorem fU:An tT 225= .ptr:=rfl
@[simp] theorem fV:tT 232=some ⟨true,2,32,[.own 1 0 [],.int .i64 0],.struct [(0,1,false),(1,1,false)],false⟩:=rfl
@[simp] theorem fW:An tT 232= .struct [(0,1,false),(1,1,false)]:=rfl
@[simp] theorem fX:tT 233=some ⟨true,2,32,[.own 1 0 [],.int .i64 0],.struct [(0,1,false),(1,1,false)],false⟩:=rfl
@[simp] theorem fY:An tT 233= .struct [(0,1,false),(1,1,false)]:=rfl
@[simp] theorem fZ:tT 236=some ⟨true,16,16,[.bool false,.bool false,.bool false,.bool false,.bool false,.bool false,.bool false,.bool false,.bool false,.bool false,.bool false,.bool false,.bool false,.bool false,.bool false,.bool false],.array 16 4 1,false⟩:=rfl
@[simp] theorem f9:An tT 236= .array 16 4 1:=rfl
@[simp] theorem ga:tT 240=some ⟨false,1,8,[.nilp],.ptr,false⟩:=rfl
@[simp] theorem gb:An tT 240= .ptr:=rfl
@[simp] theorem gc:tT 253=some ⟨false,1,8,[.nilp],.ptr,false⟩:=rfl
@[simp] theorem gd:An tT 253= .ptr:=rfl
@[simp] theorem gg:tT 254=some ⟨true,4,40,[.str ByteArray.empty,.int .i64 0,.int .i64 0,.bool false],.struct [(0,2,true),(2,1,false),(3,1,false)],false⟩:=rfl
@[simp] theorem gh:An tT 254= .struct [(0,2,true),(2,1,false),(3,1,false)]:=rfl
@[simp] theorem gj:tT 255=some ⟨true,4,40,[.str ByteArray.empty,.int .i64 0,.int .i64 0,.bool false],.struct [(0,2,true),(2,1,false),(3,1,false)],true⟩:=rfl
@[simp] theorem gk:An tT 255= .struct [(0,2,true),(2,1,false),(3,1,false)]:=rfl
@[simp] theorem gl:tT 260=some ⟨false,1,4,[.int .u32 0],.int .u32,false⟩:=rfl
@[simp] theorem gn:An tT 260= .int .u32:=rfl
@[simp] theorem gp:tT 262=some ⟨false,1,8,[.int .u64 0],.int .u64,false⟩:=rfl
@[simp] theorem gq:An tT 262= .int .u64:=rfl
@[simp] theorem gr:tT 268=some ⟨false,1,8,[.int .i64 0],.int .i64,false⟩:=rfl
@[simp] theorem gu:An tT 268= .int .i64:=rfl
@[simp] theorem gv:tT 278=some ⟨false,1,8,[.int .u64 0],.int .u64,false⟩:=rfl
@[simp] theorem gw:An tT 278= .int .u64:=rfl
@[simp] theorem gx:tT 282=some ⟨false,1,8,[.nilp],.ptr,false⟩:=rfl
@[simp] theorem gy:An tT 282= .ptr:=rfl
@[simp] theorem gz:tT 284=some ⟨false,1,8,[.nilp],.ptr,false⟩:=rfl
@[simp] theorem gA:An tT 284= .ptr:=rfl
@[simp] theorem gB:tT 287=some ⟨true,4,40,[.nilp,.nilp,.nilp,.str ByteArray.empty],.struct [(0,1,false),(1,1,false),(2,1,false),(3,1,false)],false⟩:=rfl
@[simp] theorem gC:An tT 287= .struct [(0,1,false),(1,1,false),(2,1,false),(3,1,false)]:=rfl
@[simp] theorem gE:tT 288=some ⟨true,4,40,[.nilp,.nilp,.nilp,.str ByteArray.empty],.struct [(0,1,false),(1,1,false),(2,1,false),(3,1,false)],false⟩:=rfl
@[simp] theorem gF:An tT 288= .struct [(0,1,false),(1,1,false),(2,1,false),(3,1,false)]:=rfl
@[simp] theorem gG:tT 289=some ⟨true,0,0,[],.array 0 16 1,false⟩:=rfl
@[simp] theorem gH:An tT 289= .array 0 16 1:=rfl
@[simp] theorem gI:tT 292=some ⟨false,1,1,[.int .u8 0],.int .u8,false⟩:=rfl
@[simp] theorem gJ:An tT 292= .int .u8:=rfl
@[simp] theorem gL:tT 293=some ⟨false,1,1,[.int .u8 0],.int .u8,false⟩:=rfl
@[simp] theorem gM:An tT 293= .int .u8:=rfl
@[simp] theorem gN:tT 295=some ⟨false,1,8,[.nilp],.ptr,false⟩:=rfl
@[simp] theorem gO:An tT 295= .ptr:=rfl
@[simp] theorem gP:tT 296=some ⟨false,1,4,[.int .i32 0],.int .i32,false⟩:=rfl
@[simp] theorem gQ:An tT 296= .int .i32:=rfl
@[simp] theorem gR:tT 297=some ⟨false,1,4,[.int .i32 0],.int .i32,false⟩:=rfl
@[simp] theorem gS:An tT 297= .int .i32:=rfl
@[simp] theorem gT:tT 300=some ⟨true,3,24,[.int .i64 0,.int .i64 0,.int .i64 0],.struct [(0,1,false),(1,1,false),(2,1,false)],false⟩:=rfl
@[simp] theorem gU:An tT 300= .struct [(0,1,false),(1,1,false),(2,1,false)]:=rfl
@[simp] theorem gV:tT 301=some ⟨true,3,24,[.int .i64 0,.int .i64 0,.int .i64 0],.struct [(0,1,false),(1,1,false),(2,1,false)],true⟩:=rfl
@[simp] theorem gW:An tT 301= .struct [(0,1,false),(1,1,false),(2,1,false)]:=rfl
end Go.Abs
set_option maxRecDepth 100000
namespace Go.Abs
open Go.Proofs
theorem Ce:pg.follows .mixedOrders=true:=by kernel_rfl
end Go.Abs
namespace Go.Abs
section
variable {G A B H:Prop}
theorem zs (h:A) (e:A→G:=by intro zz;(repeat refine W.seq ?_);refine W.reg 0 rfl fun K hK=>?_;simp -implicitDefEqProofs (maxSteps:=999999) (disch:=omega);(repeat refine⟨by clear zz;first|assumption|omega,?_⟩);refine hK _ _ ?_;clear hK K;exact zz):G:=e h
theorem z0 (h:A) (e:A→G:=by intro zz;(repeat refine W.seq ?_);refine W.reg 0 rfl fun K hK=>?_;simp -implicitDefEqProofs (maxSteps:=999999) (disch:=omega);revert hK;revert K;exact zz):G:=e h
theorem z1 (h:A) (e:A→G:=by intro zz;(repeat refine W.seq ?_);refine W.reg 1 rfl fun K hK=>?_;simp -implicitDefEqProofs (maxSteps:=999999) (disch:=omega);revert hK;revert K;exact zz):G:=e h
theorem z2 (h:A) (e:A→G:=by intro zz;(repeat refine W.seq ?_);refine W.reg 2 rfl fun K hK=>?_;simp -implicitDefEqProofs (maxSteps:=999999) (disch:=omega);revert hK;revert K;exact zz):G:=e h
theorem z3 (h:A) (e:A→G:=by intro zz;(repeat refine W.seq ?_);refine W.reg 3 rfl fun K hK=>?_;simp -implicitDefEqProofs (maxSteps:=999999) (disch:=omega);revert hK;revert K;exact zz):G:=e h
theorem Ae (f:H) (h:A) (e:H→A→G:=by intro zf zz;(repeat refine W.seq ?_);refine W.reg 0 rfl fun K hK=>?_;simp -implicitDefEqProofs (maxSteps:=999999) (disch:=omega) [zf];clear zf;revert hK;revert K;exact zz):G:=e f h
theorem Lz (f:H) (h:A) (e:H→A→G:=by intro zf zz;(repeat refine W.seq ?_);refine W.reg 1 rfl fun K hK=>?_;simp -implicitDefEqProofs (maxSteps:=999999) (disch:=omega) [zf];clear zf;revert hK;revert K;exact zz):G:=e f h
theorem B8 (h:A) (e:A→G:=by intro zz;(repeat refine W.seq ?_);refine W.regd 0 rfl true Ce (by kernel_rfl) fun K hK=>?_;simp -implicitDefEqProofs (maxSteps:=999999) (disch:=omega);revert hK;revert K;exact zz):G:=e h
theorem Bw (f:H) (h:A) (e:H→A→G:=by intro zf zz;(repeat refine W.seq ?_);refine W.regd 0 rfl true Ce (by kernel_rfl) fun K hK=>?_;simp -implicitDefEqProofs (maxSteps:=999999) (disch:=omega) [zf];clear zf;revert hK;revert K;exact zz):G:=e f h
theorem zx (h:A) (e:A→G:=by intro zz;simp only[DO];simp -implicitDefEqProofs (maxSteps:=999999) (disch:=omega);exact zz):G:=e h
theorem AR (f:H) (h:A) (e:H→A→G:=by intro zf zz;simp only[DO];simp -implicitDefEqProofs (maxSteps:=999999) (disch:=omega) [zf];clear zf;exact zz):G:=e f h
theorem zk (h:A) (e:A→G:=by intro zz;(repeat refine⟨by clear zz;first|assumption|omega,?_⟩);refine hK _ _ ?_;exact zz):G:=e h
theorem zt (h:A) (e:A→G:=by intro zz;(repeat refine W.seq ?_);refine W.condK fun K1 K2 h1 h2=>?_;simp -implicitDefEqProofs (maxSteps:=999999) (disch:=omega);refine h1 ?_;clear h1 h2 K1 K2;exact zz):G:=e h
theorem zn (h:A) (e:A→G:=by intro zz;(repeat refine W.seq ?_);refine W.condK fun K1 K2 h1 h2=>?_;simp -implicitDefEqProofs (maxSteps:=999999) (disch:=omega);refine h2 ?_;clear h1 h2 K1 K2;exact zz):G:=e h
theorem zc (ha:A) (hb:B) (e:A→B→G:=by intro za zb;(repeat refine W.seq ?_);refine W.condK fun K1 K2 h1 h2=>?_;simp -implicitDefEqProofs (maxSteps:=999999) (disch:=omega) [-and_imp];refine⟨fun h=>h1 ?_,fun h=>h2 ?_⟩<;>clear h1 h2 K1 K2<;>revert h;exact za;exact zb):G:=e ha hb
theorem zr (h:A) (e:A→G:=by intro zz;refine W.ret ?_;simp only[Cp,C1,CH];refine Cw (d:=0) ?_;simp -implicitDefEqProofs (maxSteps:=999999) (disch:=omega);exact zz):G:=e h
theorem zR (e:G:=by refine W.ret ?_;simp only[Cp,C1,CH];refine Cw (d:=0) ?_;simp -implicitDefEqProofs (maxSteps:=999999) (disch:=omega)):G:=e
theorem zb (h:A) (e:A→G:=by intro zz;(repeat refine W.seq ?_);refine W.block ?_;exact zz):G:=e h
theorem an (a:A) (b:B):A∧B:=⟨a,b⟩
end
end Go.Abs
set_option maxRecDepth 100000
namespace Go.Abs
open Go.Proofs
theorem D3 (xs ys:List Int) (hx:xs.length<4611686018427387904):Aa pg 33 [.ro xs.length (Ac xs),.ro ys.length (Ac ys)] [] (fun r _=>r= .bool (decide (xs=ys))):=by
 refine Aa.start (fn:=Tryz.f33) [.tmp 4] tk rfl rfl rfl (by kernel_rfl) (Nat.le_of_ble_eq_true rfl) rfl (by kernel_rfl) ?_
 rw[Aq]
 refine zs ?_
 refine zs ?_
 refine zc ?_ ?_<;>intro h
 .refine zs ?_
  refine zr ?_
  intro e;exact h (by rw[e])
 .refine W.skip ?_
  have hl:xs.length=ys.length:=by omega
  refine zs ?_
  (repeat refine W.seq ?_);refine W.block (W.loopS (fun k:Nat=> [(0,.ro xs.length (Ac xs)),(1,.ro ys.length (Ac ys)),(5,.int .i64 k)]) (fun _=> []) (fun k=>xs.length-k) (fun k=>k≤xs.length∧xs.take k=ys.take k) 0 (Wk.fr ?_) (by simp) ?_)
  .simp[Ad]
  .rintro k ⟨hk,ht⟩
   refine zs ?_
   refine zc ?_ ?_<;>intro h
   .refine W.skip ?_
    have hlt:k<xs.length:=by omega
    have hlt' :k<ys.length:=by omega
    refine zb ?_
    refine B8 ?_;intro K hK
    simp[hlt,hlt']
    refine zk ?_;clear hK K
    refine zc ?_ ?_<;>intro h
    .refine zs ?_
     refine zr ?_
     intro e;subst e;exact h rfl
    .refine W.skip ?_
     refine zs ?_
     refine⟨k+1,by omega,⟨by omega,?_⟩,Wk.fr ?_⟩
     .rw[List.take_add_one,List.take_add_one,ht];simp[hlt,hlt',h]
     .simp[Ad]
   .refine W.exit ?_
    have hk' :k=xs.length:=by omega
    subst hk'
    refine zs ?_
    refine zr ?_
    rw[List.take_length,hl,List.take_length] at ht
    simp[ht]
end Go.Abs
set_option maxRecDepth 100000
namespace Go.Abs
open Go.Proofs
theorem E8 (xs:List Int) (hx:xs.length<1000000000000):Aa pg 187 [.ro xs.length (Ac xs)] [] (fun r _=>r= .own 1 xs.length (Ac xs)):=by
 refine Aa.start (fn:=Tryz.f187) [.tmp 2] tk rfl rfl rfl (by kernel_rfl) (Nat.le_of_ble_eq_true rfl) rfl (by kernel_rfl) ?_
 rw[Au]
 refine zs ?_
 refine zs ?_
 refine zs ?_
 (repeat refine W.seq ?_);refine W.block (W.loopS (fun k:Nat=> [(0,.ro xs.length (Ac xs)),(3,.tok 0 k 1 0 k),(4,.int .i64 k)]) (fun k=> [.live k (Ac (xs.take k))]) (fun k=>xs.length-k) (fun k=>k≤xs.length) 0 ((Wk.nil (t:=3) (s:=1) ?_).trans (Wk.fr ?_)) (by simp) ?_)
 .simp
 .simp[Ad]
 .intro k hk
  refine zs ?_
  refine zc ?_ ?_<;>intro h
  .refine W.skip ?_
   have hlt:k<xs.length:=by omega
   refine zb ?_
   refine z1 ?_;intro K hK
   refine⟨hlt,by omega,by omega,?_⟩
   refine zk ?_;clear hK K
   refine zs ?_
   refine⟨k+1,by omega,by omega,Wk.cutM (k:=1) ?_ ?_ ?_ ?_ ?_ ?_⟩<;>simp
   have e:Ac (List.take (k+1) xs)=Ac (List.take k xs)++[AV.int IntKind.i64 xs[k]]:=by rw[List.take_add_one,B5];simp[hlt,Ac]
   exact e.symm
  .refine W.exit ?_
   have hk' :k=xs.length:=by omega
   subst hk'
   refine zs ?_
   exact zR
end Go.Abs
set_option maxRecDepth 100000
namespace Go.Abs
open Go.Proofs
theorem JE (xs ys:List (List Int)) (hx:xs.length<1000000000000) (hr:∀r∈xs,r.length<1000000000000):Aa pg 84 [.ro xs.length (AC false xs),.ro ys.length (AC false ys)] [] (fun r _=>r= .bool (decide (xs=ys))):=by
 refine Aa.start (fn:=Tryz.f84) [.tmp 4] tk rfl rfl rfl (by kernel_rfl) (Nat.le_of_ble_eq_true rfl) rfl (by kernel_rfl) ?_
 rw[Aq]
 refine zs ?_
 refine zs ?_
 refine zc ?_ ?_<;>intro h
 .refine zs ?_
  refine zr ?_
  intro e;exact h (by rw[e])
 .refine W.skip ?_
  have hl:xs.length=ys.length:=by omega
  refine zs ?_
  (repeat refine W.seq ?_);refine W.block (W.loopS (fun k:Nat=> [(0,.ro xs.length (AC false xs)),(1,.ro ys.length (AC false ys)),(5,.int .i64 k)]) (fun _=> []) (fun k=>xs.length-k) (fun k=>k≤xs.length∧xs.take k=ys.take k) 0 (Wk.fr ?_) (by simp) ?_)
  .simp[Ad]
  .rintro k ⟨hk,ht⟩
   refine zs ?_
   refine zc ?_ ?_<;>intro h
   .refine W.skip ?_
    have hlt:k<xs.length:=by omega
    have hlt' :k<ys.length:=by omega
    refine zb ?_
    refine B8 ?_;intro K hK
    simp[hlt,hlt']
    refine Ah.eq (D3 xs[k] ys[k] (by have:=hr xs[k] (by simp);omega)) (by simp) (by simp) ?_
    refine zx ?_
    refine zk ?_;clear hK K
    refine zc ?_ ?_<;>intro h
    .refine zs ?_
     refine zr ?_
     intro e;subst e;exact h rfl
    .refine W.skip ?_
     refine zs ?_
     refine⟨k+1,by omega,⟨by omega,?_⟩,Wk.fr ?_⟩
     .rw[List.take_add_one,List.take_add_one,ht];simp[hlt,hlt',h]
     .simp[Ad]
   .refine W.exit ?_
    have hk' :k=xs.length:=by omega
    subst hk'
    refine zs ?_
    refine zr ?_
    rw[List.take_length,hl,List.take_length] at ht
    simp[ht]
end Go.Abs
set_option maxRecDepth 100000
namespace Go.Abs
open Go.Proofs
end Go.Abs
