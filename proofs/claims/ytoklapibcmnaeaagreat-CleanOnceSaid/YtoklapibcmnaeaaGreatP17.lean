/- Cleaning: the states, one by one. -/
import Derived.Test.YtoklapibcmnaeaaGreatP16
set_option linter.unusedVariables false
set_option linter.unusedSimpArgs false
set_option maxRecDepth 100000
namespace Go.Abs
open Go.Proofs
def Bh (a b:Nat) (c:Au):List AV:=[.int .i64 c.keep,.int .i64 c.blocks,.tok a 0 8 0 c.vers.length,.tok b 0 12 0 c.sess.length]
section
variable (xs:List Au) (m:Bool) (M:List Ag) (k:Nat)
@[simp] theorem bA:(Ac (An m) xs).length=xs.length*4:=Fq _ (fun x=>by simp[An]) xs
@[simp] theorem Z6:(Ac (An m) xs).take (k*4)=Ac (An m) (xs.take k):=E7 _ (fun x=>by simp[An]) k xs
@[simp] theorem dw:EH (Ac (An m) xs)=true:=Hh _ (fun x=>by simp[An]) xs
@[simp] theorem dx:DJ (Ac (An m) xs)=true:=Hi _ (fun x=>by simp[An]) xs
@[simp] theorem dy:C1 k (Ac (An m) xs)=true:=Gj _ k (fun x=>by simp[An]) xs
@[simp] theorem bB:CP (Ac (An true) xs)=true:=GG _ (fun x=>by simp[An]) xs
@[simp] theorem Ul:EF (Ac (An m) xs)=Ac (An false) xs:=Hj _ _ (fun x=>by cases m<;>simp[An]) xs
@[simp] theorem bC:(Ac (An m) xs).map Ec=Ac (An false) xs:=by rw[←E3];exact Ul xs m
end
theorem SM (L:List Au) (a b:Nat) (c:Au) (Z:List AV):(Ac (An true) L++(Bh a b c++Z))[L.length*4+2]?=some (.tok a 0 8 0 c.vers.length):=by
 rw[List.getElem?_append_right (by simp)];simp[Bh]
theorem SN (L:List Au) (a b:Nat) (c:Au) (Z:List AV) (x:AV):((Ac (An true) L++(Bh a b c++Z)).set (L.length*4+2) x)[L.length*4+3]?=some (.tok b 0 12 0 c.sess.length):=by
 rw[List.getElem?_set_ne (by omega),List.getElem?_append_right (by simp)];simp[Bh]
theorem Um (L:List Au) (a b:Nat) (c:Au) (Z:List AV):((Ac (An true) L++(Bh a b c++Z)).set (L.length*4+2) (.own 8 c.vers.length (((Ac Ay c.vers).drop 0).take (c.vers.length*8)))).set (L.length*4+3) (.own 12 c.sess.length (((Ac (AB true) c.sess).drop 0).take (c.sess.length*12)))=Ac (An true) (L++[c])++Z:=by
 rw[List.set_append_right _ _ (by simp),List.set_append_right _ _ (by simp),Cr]
 simp[Bh,Az]
theorem Wk.last {p:Nat} {F:Fr} {M:List Ag} {v:Nat} (L:List Au) (c:Au) (Z:List AV) (h1:Ai M 1 v=some (Ac (An true) L++(Bh 2 3 c++Z))) (h2:M[2]?=some (.live 0 (Ac Ay c.vers))) (h3:M[3]?=some (.live 0 (Ac (AB true) c.sess))):
 Wk p F M F (((M.set 1 (.live v (Ac (An true) (L++[c])++Z))).set 2 .dead).set 3 .dead):=by
 obtain⟨a0,a1,a2,a3,M',rfl⟩:∃a0 a1 a2 a3 M',M=a0::a1::a2::a3::M' :=by
  match M,h3 with
  |a0::a1::a2::a3::M',_=>exact⟨a0,a1,a2,a3,M',rfl⟩
 simp only[List.getElem?_cons_succ,List.getElem?_cons_zero,Option.some.injEq] at h2 h3
 subst h2 h3
 have w1:=Wk.intern (p:=p) (F:=F) (B:=1) (v:=v) (j:=L.length*4+2) (T:=2) (u:=0) (s:=8) (off:=0) (n:=c.vers.length) (xs:=Ac Ay c.vers) h1 (SM L 2 3 c Z) (by rfl) (by decide) (by simp) (by simp)
 have w2:=fun M h=>Wk.intern (p:=p) (F:=F) (M:=M) (B:=1) (v:=v) (j:=L.length*4+3) (T:=3) (u:=0) (s:=12) (off:=0) (n:=c.sess.length) (xs:=Ac (AB true) c.sess) (cs:=(Ac (An true) L++(Bh 2 3 c++Z)).set (L.length*4+2) (.own 8 c.vers.length (((Ac Ay c.vers).drop 0).take (c.vers.length*8)))) h (SN L 2 3 c Z _)
 refine w1.trans ?_
 refine(w2 _ ?_ ?_ (by decide) (by simp) (by simp)).trans ?_
 .simp[Ai]
 .simp[Ai]
 have hp:=Um L 2 3 c Z
 simp only[List.set_cons_succ,List.set_cons_zero]
 rw[hp]
 exact Wk.refl
theorem OD {c:Au} {m:Nat} (h:(Ba c).1≠0):BN c (m+1)=(Co c (Ba c).1 (Ba c).2).1::BN (Co c (Ba c).1 (Ba c).2).1 m:=by rw[BN,if_neg h]
theorem Qj {c:Au} (m:Nat) (h:(Ba c).1=0):BN c m=[]:=by cases m<;>simp[BN,h]
set_option maxHeartbeats 4000000 in
theorem Zo (hR:BC) (s:Au) (n:Nat) (hs:A5 s) (hx:BM s) (hok:Bk s) (hn:n≤1000):Aa pg 96 [.agg (An false s),.int .i64 n] [] (fun r _=>r= .own 4 (BN s n).length (Ac (An true) (BN s n))):=by
 refine Aa.start (fn:=Tryz.f96) [.tmp 4] tk rfl rfl rfl (by kernel_rfl) (Nat.le_of_ble_eq_true rfl) rfl (by kernel_rfl) ?_
 rw[Ar]
 refine z1 ?_;intro K hK;refine zk ?_;clear hK K
 refine zs ?_
 (repeat refine W.seq ?_);refine W.block (W.loopS (fun z:Nat×List Au×Au=> [(2,.ptr 0 0 0),(4,if z.1=0 then .own 4 0 [] else .tok 1 0 4 0 z.1),(6,.int .i64 n),(7,.int .i64 z.1)]) (fun z=>if z.1=0 then [.live 0 (An false s)] else [.live 0 (Bh 2 3 z.2.2),.live 0 (Ac (An true) z.2.1++Bh 2 3 z.2.2),.live 0 (Ac Ay z.2.2.vers),.live 0 (Ac (AB true) z.2.2.sess)]) (fun z=>n-z.1) (fun z=>z.1≤n∧Bk z.2.2∧A5 z.2.2∧BM z.2.2∧(z.1=0→z.2.2=s)∧(0<z.1→z.2.1.length+1=z.1∧z.2.1++z.2.2::BN z.2.2 (n-z.1)=BN s n)) (0,[],s) (Wk.fr (by simp[Ad])) ⟨by omega,hok,hs,hx,fun _=>rfl,fun h=>by simp at h⟩ ?_)
 have rnV:=fun(K:List (Nat×Nat)) (y:Au)=>Ih K (xs:=Ac Ay y.vers) (by simp)
 have rnS:=fun(K:List (Nat×Nat)) (y:Au)=>Ih K (xs:=Ac (AB true) y.sess) (by simp)
 have rnA:=fun(K:List (Nat×Nat)) (L:List Au)=>Ih K (xs:=Ac (An true) L) (by simp)
 rintro⟨k,L,c⟩ ⟨hk,hcok,hcs,hcx,hc0,hcL⟩
 simp only at hk hcok hcs hcx hc0 hcL ⊢
 have spF:=KA hR c hcs hcx hcok
 obtain⟨a,ha⟩:∃a,a=Ba c:=⟨_,rfl⟩
 rw[←ha] at spF
 have spD:=OC hR c a.1 a.2 hcs hcx hcok
 have hyin:=Mq (k:=a.1) (id:=a.2) hcs hcx hcok
 have hyok:=fun h:a.1≠0=>OB (k:=a.1) (id:=a.2) hcok (by rw[ha] at h ⊢;exact HA h)
 obtain⟨y,hy⟩:∃y,y=(Co c a.1 a.2).1:=⟨_,rfl⟩
 obtain⟨e,he⟩:∃e,e=(Co c a.1 a.2).2:=⟨_,rfl⟩
 rw[←hy,←he] at spD
 rw[←hy] at hyin
 simp only[←hy] at hyok
 by_cases k0:k=0
 .have hcs0:=hc0 k0
  subst hcs0
  subst k0
  simp only[if_true]
  by_cases c1:0<n
  rotate_left
  .have hn0:n=0:=by omega
   subst hn0
   refine z0 ?_;intro K hK
   refine zk ?_;clear hK K
   refine zn ?_
   refine W.exit ?_
   refine z0 ?_;intro K hK
   refine zk ?_;clear hK K
   refine zr ?_
   simp[BN]
  refine Af c1 ?_;intro K hK
  refine zk ?_;clear hK K
  refine zt ?_
  refine W.skip ?_
  refine zb ?_
  refine z1 ?_;intro K hK
  refine Ab.eq spF (by simp) (by simp) ?_
  refine zx ?_
  refine zk ?_;clear hK K
  by_cases c2:a.1=0
  .refine Af c2 ?_;intro K hK
   refine zk ?_;clear hK K
   refine zt ?_
   refine W.exit ?_
   refine z0 ?_;intro K hK
   refine zk ?_;clear hK K
   refine zr ?_
   rw[Qj n (by rw[←ha];exact c2)];simp
  have hrow:BN c n=y::BN y (n-1):=by
   obtain⟨m,rfl⟩:∃m,n=m+1:=⟨n-1,by omega⟩
   rw[OD (by rw[←ha];exact c2),←ha,←hy];simp
  refine Af c2 ?_;intro K hK
  refine zk ?_;clear hK K
  refine zn ?_
  refine W.skip ?_
  refine z0 ?_;intro K hK
  refine Ab.eq spD (by simp) (by simp) ?_
  refine zx ?_
  refine zk ?_;clear hK K
  refine W.weak (Wk.nil (t:=4) (s:=4) (by simp)) ?_
  refine z1 ?_;intro K hK
  refine zk ?_;clear hK K
  refine zs ?_
  have hyk:=hyok c2
  refine⟨(1,[],y),by simp only;omega,⟨by simp only;omega,hyk.1,hyin.1,hyin.2,by simp,fun _=>⟨rfl,by simp only[List.nil_append];rw[hrow]⟩⟩,?_⟩
  refine Wk.perm [(0,0),(4,1),(2,0),(3,0)] [Bh 2 3 y,Bh 2 3 y,Ac Ay y.vers,Ac (AB true) y.sess] (by decide) ?_ ?_ ?_
  .simp[Ns,Ai,Bh]
  .simp[K6,rn,E6,List.findIdx?_cons]
  .simp[F6,rn,E6,Bh,List.findIdx?_cons,rnV,rnS]
 simp only[if_neg k0]
 obtain⟨hL,hLr⟩:=hcL (by omega)
 by_cases c1:k<n
 rotate_left
 .have hkn:k=n:=by omega
  subst hkn
  have hfin:BN s k=L++[c]:=by rw[←hLr,Nat.sub_self];simp[BN]
  refine Af c1 ?_;intro K hK
  refine zk ?_;clear hK K
  refine zn ?_
  refine W.exit ?_
  refine W.weak (Wk.last (v:=0) L c [] (by simp[Ai,Bh]) rfl rfl) ?_
  simp only[List.set_cons_succ,List.set_cons_zero,List.append_nil]
  rw[←hfin]
  have hlen:(BN s k).length=k:=by rw[hfin];simp;omega
  refine z0 ?_;intro K hK
  refine zk ?_;clear hK K
  refine zr ?_
  rw[List.take_of_length_le (by omega),hlen];exact⟨rfl,rfl⟩
 simp only[Bh]
 refine Af c1 ?_;intro K hK
 refine zk ?_;clear hK K
 refine zt ?_
 refine W.skip ?_
 refine zb ?_
 refine z1 ?_;intro K hK
 refine Ab.eq spF (by simp) (by simp) ?_
 refine zx ?_
 refine zk ?_;clear hK K
 by_cases c2:a.1=0
 .refine Af c2 ?_;intro K hK
  refine zk ?_;clear hK K
  refine zt ?_
  refine W.exit ?_
  have hfin:BN s n=L++[c]:=by rw[←hLr,Qj (n-k) (by rw[←ha];exact c2)]
  refine W.weak (Wk.last (v:=0) L c [] (by simp[Ai,Bh]) rfl rfl) ?_
  simp only[List.set_cons_succ,List.set_cons_zero,List.append_nil]
  rw[←hfin]
  have hlen:(BN s n).length=k:=by rw[hfin];simp;omega
  refine z0 ?_;intro K hK
  refine zk ?_;clear hK K
  refine zr ?_
  rw[List.take_of_length_le (by omega),hlen];exact⟨rfl,rfl⟩
 refine Af c2 ?_;intro K hK
 refine zk ?_;clear hK K
 refine zn ?_
 refine W.skip ?_
 refine z0 ?_;intro K hK
 refine Ab.eq spD (by simp) (by simp) ?_
 refine zx ?_
 refine zk ?_;clear hK K
 refine z1 ?_;intro K hK
 refine zk ?_;clear hK K
 refine zs ?_
 have hyk:=hyok c2
 have hrow:BN c (n-k)=y::BN y (n-(k+1)):=by
  obtain⟨m,hm⟩:∃m,n-k=m+1:=⟨n-k-1,by omega⟩
  rw[hm,OD (by rw[←ha];exact c2),←ha,←hy,show n-(k+1)=m by omega]
 refine⟨(k+1,L++[c],y),by simp only;omega,⟨by simp only;omega,hyk.1,hyin.1,hyin.2,by simp,fun _=>⟨by simp only[List.length_append,List.length_singleton];omega,by simp only;rw[←hLr,hrow];simp⟩⟩,?_⟩
 refine(Wk.last (v:=1) L c (Bh 5 6 y) (by simp[Ai,Bh]) rfl rfl).trans ?_
 simp only[List.set_cons_succ,List.set_cons_zero]
 refine Wk.perm [(0,0),(1,1),(5,0),(6,0)] [Bh 5 6 y,Ac (An true) (L++[c])++Bh 5 6 y,Ac Ay y.vers,Ac (AB true) y.sess] (by decide) ?_ ?_ ?_
 .simp[Ns,Ai,Bh]
 .simp[K6,rn,E6,List.findIdx?_cons]
 .simp[F6,rn,E6,Bh,List.findIdx?_cons,rnV,rnS,rnA,Xt]
end Go.Abs
set_option maxRecDepth 100000
namespace Go.Abs
open Go.Proofs
theorem Mr (hR:BC) (s:Au) (hs:A5 s) (hx:BM s):Aa pg 58 [.agg (An false s)] [] (fun r _=>r= .tup [.agg (QY (if Bk s then Ba s else(0,0))),.int .i64 (if Bk s then 0 else 1)]):=by
 have spM:=KP hR s hs hx
 refine Aa.start (fn:=Tryz.f58) [.cell 2 103,.tmp 3] tk rfl rfl rfl (by kernel_rfl) (Nat.le_of_ble_eq_true rfl) rfl (by kernel_rfl) ?_
 rw[Av]
 refine z2 ?_;intro K hK;refine zk ?_;clear hK K
 by_cases h:Bk s
 .rw[decide_eq_true h] at spM
  have spF:=KA hR s hs hx h
  simp only[if_pos h]
  refine z0 ?_;intro K hK
  refine Ab.eq spM (by simp) (by simp) ?_
  refine zx ?_
  refine zk ?_;clear hK K
  refine zn ?_
  refine W.skip ?_
  refine z0 ?_;intro K hK
  refine Ab.eq spF (by simp) (by simp) ?_
  refine zx ?_
  refine zk ?_;clear hK K
  exact zR
 .rw[decide_eq_false h] at spM
  simp only[if_neg h]
  refine z0 ?_;intro K hK
  refine Ab.eq spM (by simp) (by simp) ?_
  refine zx ?_
  refine zk ?_;clear hK K
  refine zt ?_
  refine z0 ?_;intro K hK
  refine zk ?_;clear hK K
  exact zR
theorem Wj (hR:BC) (s:Au) (hs:A5 s) (hx:BM s):Aa pg 56 [.agg (An false s)] [] (fun r _=>r= .tup [.bool (decide (Bk s∧(Ba s).1=0)),.int .i64 (if Bk s then 0 else 1)]):=by
 have spN:=Mr hR s hs hx
 refine Aa.start (fn:=Tryz.f56) [.tmp 2,.tmp 3] tk rfl rfl rfl (by kernel_rfl) (Nat.le_of_ble_eq_true rfl) rfl (by kernel_rfl) ?_
 rw[Av]
 refine z1 ?_;intro K hK;refine zk ?_;clear hK K
 by_cases h:Bk s
 .simp only[if_pos h] at spN ⊢
  refine z1 ?_;intro K hK
  refine Ab.eq spN (by simp) (by simp) ?_
  refine zx ?_
  refine zk ?_;clear hK K
  refine z0 ?_;intro K hK
  refine zk ?_;clear hK K
  refine zr ?_
  simp[h]
 .simp only[if_neg h] at spN ⊢
  refine z1 ?_;intro K hK
  refine Ab.eq spN (by simp) (by simp) ?_
  refine zx ?_
  refine zk ?_;clear hK K
  refine z0 ?_;intro K hK
  refine zk ?_;clear hK K
  refine zr ?_
  simp[h]
theorem Zp (hR:BC) (s:Au) (k id:Int) (hs:A5 s) (hx:BM s):Aa pg 59 [.agg (An false s),.agg [.int .i64 k,.int .i64 id]] [] (fun r _=>r= .tup [.agg (An true (if Bk s then(Co s k id).1 else AQ)),.int .i64 (if Bk s then(Co s k id).2 else 1)]):=by
 have spM:=KP hR s hs hx
 refine Aa.start (fn:=Tryz.f59) [.cell 4 38,.tmp 5] tk rfl rfl rfl (by kernel_rfl) (Nat.le_of_ble_eq_true rfl) rfl (by kernel_rfl) ?_
 rw[Ar]
 refine z3 ?_;intro K hK;refine zk ?_;clear hK K
 by_cases h:Bk s
 .rw[decide_eq_true h] at spM
  have spD:=OC hR s k id hs hx h
  simp only[if_pos h]
  refine z0 ?_;intro K hK
  refine Ab.eq spM (by simp) (by simp) ?_
  refine zx ?_
  refine zk ?_;clear hK K
  refine zn ?_
  refine W.skip ?_
  refine z0 ?_;intro K hK
  refine Ab.eq spD (by simp) (by simp) ?_
  refine zx ?_
  refine zk ?_;clear hK K
  exact zR
 .rw[decide_eq_false h] at spM
  simp only[if_neg h]
  refine z0 ?_;intro K hK
  refine Ab.eq spM (by simp) (by simp) ?_
  refine zx ?_
  refine zk ?_;clear hK K
  refine zt ?_
  refine z0 ?_;intro K hK
  refine zk ?_;clear hK K
  refine W.weak ((Wk.thaw (B:=2) (v:=0) (j:=2) (s:=8) (n:=0) (xs:=[]) rfl rfl).trans (Wk.thaw (B:=2) (v:=0) (j:=3) (s:=12) (n:=0) (xs:=[]) rfl rfl)) ?_
  refine zr ?_
  simp[AQ]
end Go.Abs
set_option maxRecDepth 100000
namespace Go.Abs
open Go.Proofs
def FL (s:Au) (n:Int):Au×Int×Int:=if Bk s∧0≤n∧n≤1000 then((BN s n.toNat).getLast?.getD s,((BN s n.toNat).length:Int),0) else(AQ,0,1)
theorem SO:∀(n:Nat) (s:Au),A5 s→BM s→Bk s→∀y∈BN s n,A5 y∧BM y
 |0,s,_,_,_,y,hy=>by simp[BN] at hy
 |n+1,s,hs,hx,h,y,hy=>by
  rw[BN] at hy
  split at hy
  .simp at hy
  .rename_i c
   have ha:=OB h (HA c)
   have hi:=Mq (k:=(Ba s).1) (id:=(Ba s).2) hs hx h
   rw[List.mem_cons] at hy
   rcases hy with rfl|hy
   .exact hi
   .exact SO n _ hi.1 hi.2 ha.1 y hy
def FM (s:Au):List AV:=[.int .i64 s.keep,.int .i64 s.blocks,.ro s.vers.length [],.ro s.sess.length []]
theorem Nb:∀L:List Au,loose (Ac (An true) L) (Ac FM L)
 | []=>trivial
 |s::L=>by
  rw[Az,Az]
  exact JW ⟨.inl rfl,.inl rfl,.inr (.inr ⟨_,_,_,rfl,rfl⟩),.inr (.inr ⟨_,_,_,rfl,rfl⟩),trivial⟩ (Nb L)
section
variable (xs:List Au) (k:Nat)
@[simp] theorem dz:(Ac FM xs).length=xs.length*4:=Fq _ (fun x=>by simp[FM]) xs
theorem Ys:(Ac FM xs).all CV=true:=Gi _ (fun x=>by simp[FM,CV,Lb,BG]) xs
@[simp] theorem fQ:C1 k (Ac FM xs)=true:=Gj _ k (fun x=>by simp[FM]) xs
end
theorem OE (L:List Au) (c:Au) (x:AV):(Ac (An true) (L++[c]))[L.length*4+2]?=some (.own 8 c.vers.length (Ac Ay c.vers))∧((Ac (An true) (L++[c])).set (L.length*4+2) x)[L.length*4+3]?=some (.own 12 c.sess.length (Ac (AB true) c.sess)):=by
 refine⟨?_,?_⟩
 .rw[Cr,List.getElem?_append_right (by simp)];simp[Az]
 .rw[List.getElem?_set_ne (by omega),Cr,List.getElem?_append_right (by simp)];simp[Az]
theorem Wk.lastT {p:Nat} {F:Fr} (a0 a1 a2 a3 a4:Ag) (L:List Au) (c:Au):Wk p F [a0,a1,a2,a3,a4,.live 0 (Ac (An true) (L++[c]))] F [a0,a1,a2,a3,a4,.live 0 (Ac FM L++Bh 6 7 c),.live 0 (Ac Ay c.vers),.live 0 (Ac (AB true) c.sess)]:=by
 have w1:=Wk.thaw (p:=p) (F:=F) (M:=[a0,a1,a2,a3,a4,.live 0 (Ac (An true) (L++[c]))]) (B:=5) (v:=0) (j:=L.length*4+2) (s:=8) (n:=c.vers.length) (xs:=Ac Ay c.vers) (by simp[Ai]) (OE L c .any).1
 have w2:=Wk.thaw (p:=p) (F:=F) (M:=[a0,a1,a2,a3,a4,.live 0 ((Ac (An true) (L++[c])).set (L.length*4+2) (.tok 6 0 8 0 c.vers.length)),.live 0 (Ac Ay c.vers)]) (B:=5) (v:=0) (j:=L.length*4+3) (s:=12) (n:=c.sess.length) (xs:=Ac (AB true) c.sess) (by simp[Ai]) (OE L c (.tok 6 0 8 0 c.vers.length)).2
 have hc:((Ac (An true) (L++[c])).set (L.length*4+2) (.tok 6 0 8 0 c.vers.length)).set (L.length*4+3) (.tok 7 0 12 0 c.sess.length)=Ac (An true) L++Bh 6 7 c:=by
  rw[Cr,List.set_append_right _ _ (by simp),List.set_append_right _ _ (by simp)]
  simp[Az,Bh]
 have w3:=Wk.loose (p:=p) (F:=F) (M:=[a0,a1,a2,a3,a4,.live 0 (Ac (An true) L++Bh 6 7 c),.live 0 (Ac Ay c.vers),.live 0 (Ac (AB true) c.sess)]) (B:=5) (v:=0) (cs' :=Ac FM L++Bh 6 7 c) (by simp[Ai]) (JW (Nb L) (LW _))
 refine w1.trans (Wk.trans ?_ (w2.trans (Wk.trans ?_ w3)))
 .exact Wk.refl
 .simp only[List.set_cons_succ,List.set_cons_zero,List.length_cons,List.length_nil]
  rw[hc]
  exact Wk.refl
set_option maxHeartbeats 4000000 in
theorem Wl (hR:BC) (s:Au) (n:Int) (hs:A5 s) (hx:BM s):Aa pg 52 [.agg (An false s),.int .i64 n] [] (fun r _=>r= .tup [.agg (An true (FL s n).1),.int .i64 (FL s n).2.1,.int .i64 (FL s n).2.2]):=by
 have spM:=KP hR s hs hx
 have h1:=hs.1
 have h2:=hs.2.1
 refine Aa.start (fn:=Tryz.f52) [.cell 4 38,.tmp 5,.tmp 6] tk rfl rfl rfl (by kernel_rfl) (Nat.le_of_ble_eq_true rfl) rfl (by kernel_rfl) ?_
 rw[Ar]
 refine z2 ?_;intro K hK;refine zk ?_;clear hK K
 by_cases h:Bk s
 rotate_left
 .rw[decide_eq_false h] at spM
  have e:FL s n=(AQ,0,1):=by unfold FL;rw[if_neg (fun g=>h g.1)]
  rw[e]
  refine z0 ?_;intro K hK
  refine Ab.eq spM (by simp) (by simp) ?_
  refine zx ?_
  refine zk ?_;clear hK K
  refine zt ?_
  refine z0 ?_;intro K hK
  refine zk ?_;clear hK K
  refine W.weak ((Wk.thaw (B:=1) (v:=0) (j:=2) (s:=8) (n:=0) (xs:=[]) rfl rfl).trans (Wk.thaw (B:=1) (v:=0) (j:=3) (s:=12) (n:=0) (xs:=[]) rfl rfl)) ?_
  refine zr ?_
  simp[AQ]
 rw[decide_eq_true h] at spM
 by_cases hn:0≤n∧n≤1000
 rotate_left
 .have e:FL s n=(AQ,0,1):=by unfold FL;rw[if_neg (fun g=>hn g.2)]
  rw[e]
  by_cases g:n<0
  .refine z0 ?_;intro K hK
   refine Ab.eq spM (by simp) (by simp) ?_
   refine AO g ?_
   refine zk ?_;clear hK K
   refine zt ?_
   refine z0 ?_;intro K hK
   refine zk ?_;clear hK K
   refine W.weak ((Wk.thaw (B:=1) (v:=0) (j:=2) (s:=8) (n:=0) (xs:=[]) rfl rfl).trans (Wk.thaw (B:=1) (v:=0) (j:=3) (s:=12) (n:=0) (xs:=[]) rfl rfl)) ?_
   refine zr ?_
   simp[AQ]
  .have g2:1000<n:=by omega
   refine z0 ?_;intro K hK
   refine Ab.eq spM (by simp) (by simp) ?_
   refine AO (an g g2) ?_
   refine zk ?_;clear hK K
   refine zt ?_
   refine z0 ?_;intro K hK
   refine zk ?_;clear hK K
   refine W.weak ((Wk.thaw (B:=1) (v:=0) (j:=2) (s:=8) (n:=0) (xs:=[]) rfl rfl).trans (Wk.thaw (B:=1) (v:=0) (j:=3) (s:=12) (n:=0) (xs:=[]) rfl rfl)) ?_
   refine zr ?_
   simp[AQ]
 obtain⟨m,rfl⟩:=Int.eq_ofNat_of_zero_le hn.1
 have g1:¬(m:Int)<0:=by omega
 have g2:¬1000<(m:Int):=by omega
 have e:FL s m=((BN s m).getLast?.getD s,((BN s m).length:Int),0):=by unfold FL;rw[if_pos ⟨h,hn⟩];rfl
 rw[e]
 have hrl:=Mp m s
 have spO:=Oo s hs hx
 have spR:=Zo hR s m hs hx h (by omega)
 refine z0 ?_;intro K hK
 refine Ab.eq spM (by simp) (by simp) ?_
 refine AO (an g1 g2) ?_
 refine zk ?_;clear hK K
 refine zn ?_
 refine W.skip ?_
 obtain⟨R,hRd⟩:∃R,R=BN s m:=⟨_,rfl⟩
 rw[←hRd] at spR hrl ⊢
 rcases List.eq_nil_or_concat R with hR0| ⟨L,c,hRc⟩
 .subst hR0
  (repeat refine W.seq ?_);refine W.regdT 1 6 rfl false Ck (by kernel_rfl) fun K hK=>?_;simp -implicitDefEqProofs (maxSteps:=999999) (disch:=omega)
  refine Ah.eqr spO (by simp) ?_
  refine zx ?_
  refine Ah.eqr spR (by simp) ?_
  refine zx ?_
  refine⟨_,_,Wk.refl,?_⟩
  simp -implicitDefEqProofs (maxSteps:=999999) (disch:=omega)
  refine zk ?_;clear hK K
  refine z0 ?_;intro K hK
  refine zk ?_;clear hK K
  exact zR
 .rw[List.concat_eq_append] at hRc
  subst hRc
  (repeat refine W.seq ?_);refine W.regdT 1 6 rfl false Ck (by kernel_rfl) fun K hK=>?_;simp -implicitDefEqProofs (maxSteps:=999999) (disch:=omega)
  refine Ah.eqr spO (by simp) ?_
  refine zx ?_
  refine Ah.eqr spR (by simp) ?_
  refine zx ?_
  have hLl:L.length+1≤1000:=by simp at hrl;omega
  have lt4:(Bh 6 7 c).length=4:=rfl
  have htk:List.take ((L.length+1)*4) (Ac FM L++Bh 6 7 c)=Ac FM L++Bh 6 7 c:=List.take_of_length_le (by simp[lt4];omega)
  have hpl:EG (Ac FM L++Bh 6 7 c)=true:=by rw[←Ie,List.all_append,Ys];simp[Bh,CV,Lb,BG]
  refine⟨_,_,Wk.lastT _ _ _ _ _ L c,?_⟩
  simp -implicitDefEqProofs (maxSteps:=999999) (disch:=omega) [lt4,htk,hpl]
  refine zk ?_;clear hK K
  obtain⟨N,hN⟩:∃N,N=L.length+1:=⟨_,rfl⟩
  obtain⟨X,hX⟩:∃X,X=AV.int .i64 s.keep::AV.int .i64 s.blocks::AV.tok 3 0 8 0 s.vers.length::AV.tok 4 0 12 0 s.sess.length::(Ac FM L++Bh 6 7 c):=⟨_,rfl⟩
  rw[←hX,←hN]
  have hXf:X=[AV.int .i64 s.keep,AV.int .i64 s.blocks,AV.tok 3 0 8 0 s.vers.length,AV.tok 4 0 12 0 s.sess.length]++(Ac FM L++Bh 6 7 c):=by rw[hX];rfl
  have hXl:X.length=(1+N)*4:=by rw[hXf];simp[lt4];omega
  have hXi:∀j,j<4→X[N*4+j]?=(Bh 6 7 c)[j]?:=fun j hj=>by
   rw[hXf,List.getElem?_append_right (by simp;omega),List.getElem?_append_right (by simp;omega)]
   congr 1;simp;omega
  have x0:X[N*4]?=some (.int .i64 c.keep):=hXi 0 (by omega)
  have x1:X[N*4+1]?=some (.int .i64 c.blocks):=hXi 1 (by omega)
  have x2:X[N*4+1+1]?=some (.tok 6 0 8 0 c.vers.length):=hXi 2 (by omega)
  have x3:X[N*4+1+1+1]?=some (.tok 7 0 12 0 c.sess.length):=hXi 3 (by omega)
  obtain⟨N2,hN2⟩:∃N2,N2=1+N:=⟨_,rfl⟩
  rw[←hN2] at hXl ⊢
  have hN1:(N2:Int)-1=(N:Int):=by omega
  have hNl:N<N2:=by omega
  clear hXl
  refine Af (an hN1 (an hNl (an x0 (an x1 (an x2 x3))))) ?_;intro K hK
  refine zk ?_;clear hK K
  refine zr ?_
  simp[hN]
end Go.Abs
set_option maxRecDepth 100000
namespace Go.Abs
open Go.Proofs
@[simp] theorem dA (n:Nat):CP (List.replicate n (AV.own 1 0 []))=true:=by
  induction n with
  |zero=>rfl
  |succ n ih=>rw[List.replicate_succ,CP,ih];rfl
@[simp] theorem fR (k n:Nat):C1 k (List.replicate n (AV.own 1 0 []))=true:=by rw[Ii];simp[GP]
@[simp] theorem fS (n:Nat):DJ (List.replicate n (AV.own 1 0 []))=true:=by simp[DJ,-If]
def Vp (i:Nat) (xs:List (List Int)):List AV:=List.replicate i (.own 1 0 [])++AE true (xs.drop i)
@[simp] theorem bD (i n:Nat) (xs:List (List Int)):C1 n (Vp i xs)=true:=by
  rw[Vp,Qp]
  have:C1 n (List.replicate i (AV.own 1 0 []))=true:=by rw[Ii];simp[GP]
  simp[this]
end Go.Abs
set_option maxRecDepth 100000
namespace Go.Abs
open Go.Proofs
def jo (b k:Int):Au×Int:=if (1≤b∧b≤100)∧(1≤k∧k≤8) then(CZ b k,0) else(AQ,1)
theorem Wm (b k:Int):A5 (CZ b k)∧BM (CZ b k):=by
 refine⟨⟨by simp[CZ],by simp[CZ],by simp[CZ]⟩,?_⟩
 intro x hx
 have:x=EI:=by simpa[CZ] using hx
 subst this
 simp[EJ,FW,Mc,EI,AJ,CS]
theorem Yt {y:Au} (h:A5 y∧BM y):y.vers.length<1000000000000∧y.sess.length<1000000000000∧∀r∈y.sess,EJ r:=⟨by have:=h.1.1;omega,by have:=h.1.2.1;omega,h.2⟩
end Go.Abs
set_option maxRecDepth 100000
namespace Go.Abs
open Go.Proofs
theorem Ms (e:Int):Aa pg 53 [.int .i64 e] [] (fun r _=>r= .int .i64 e):=by
 refine Aa.start (fn:=Tryz.f53) [.tmp 2] tk rfl rfl rfl (by kernel_rfl) (Nat.le_of_ble_eq_true rfl) rfl (by kernel_rfl) ?_
 rw[Av]
 refine zs ?_
 refine zs ?_
 exact zR
theorem NQ:Bk (CZ 5 1):=by
 rw[MP]
 refine⟨by simp[CZ],by simp[CZ],by simp[CZ],by simp[CZ],⟨by simp[CZ,Aj],by simp[CZ,Aj],by simp[CZ,Aj]⟩,⟨by simp[CZ],by simp[CZ],by simp[CZ,Ax],by simp[CZ,Ax],by simp[CZ,Ax]⟩,fun i h=>by simp[CZ] at h,fun x hx=>?_⟩
 have:x=EI:=by simpa[CZ] using hx
 subst this
 simp[AD,EI]
theorem SP (hR:BC):Aa pg 54 [] [] (fun r _=>r= .bool true):=by
 obtain⟨hs,hx⟩:=Wm 5 1
 have spN:=Yo 5 1
 have sp1:=Mr hR (CZ 5 1) hs hx
 have sp2:=Wj hR (CZ 5 1) hs hx
 have hf:Ba (CZ 5 1)=(0,0):=by simp[Ba,DN,DM,CZ]
 rw[if_pos NQ,if_pos NQ,hf] at sp1
 rw[if_pos NQ,hf,decide_eq_true ⟨NQ,rfl⟩] at sp2
 obtain⟨s,hsd⟩:∃s,s=CZ 5 1:=⟨_,rfl⟩
 rw[←hsd] at spN sp1 sp2
 refine Aa.start (fn:=Tryz.f54) [.tmp 0] tk rfl rfl rfl (by kernel_rfl) (Nat.le_of_ble_eq_true rfl) rfl (by kernel_rfl) ?_
 rw[Yb]
 refine zs ?_
 refine z1 ?_;intro K hK
 refine Ab.eq spN (by simp) (by simp) ?_
 refine zx ?_
 refine Ab.eq sp1 (by simp) (by simp) ?_
 refine zx ?_
 refine zk ?_;clear hK K
 refine z0 ?_;intro K hK
 refine Ab.eq spN (by simp) (by simp) ?_
 refine zx ?_
 refine Ab.eq sp2 (by simp) (by simp) ?_
 refine zx ?_
 refine zk ?_;clear hK K
 refine z0 ?_;intro K hK
 refine Ab.eq (Ms 0) (by simp) (by simp) ?_
 refine zx ?_
 refine Ab.eq (Ms 0) (by simp) (by simp) ?_
 refine zx ?_
 refine zk ?_;clear hK K
 exact zR
end Go.Abs
set_option maxRecDepth 100000
namespace Go.Abs
open Go.Proofs
def bE:Bj:=⟨-9,0,0,⟨ByteArray.empty,0⟩,0,false,false⟩
def bF:CT:=⟨false,-9,false,0,⟨0,[]⟩,⟨0,0,0,false,[],[]⟩⟩
def kW (k:Nat) (l:List Bj):List Bj:=List.replicate k bE++l.drop k
def kX (k:Nat) (l:List CT):List CT:=List.replicate k bF++l.drop k
end Go.Abs
set_option maxRecDepth 100000
namespace Go.Abs
open Go.Proofs
def jp (o:Obj):Prop:=o.data.data.size<1000000000∧Vm o.id
end Go.Abs
