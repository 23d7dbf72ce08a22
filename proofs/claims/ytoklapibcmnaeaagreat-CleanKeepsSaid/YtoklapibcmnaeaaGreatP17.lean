/- Cleaning: the action for a version; the one that follows. -/
import Derived.Test.YtoklapibcmnaeaaGreatP16
set_option linter.unusedVariables false
set_option linter.unusedSimpArgs false
set_option maxRecDepth 100000
namespace Go.Abs
open Go.Proofs
theorem Nc {s:An} {k id:Int} (hs:AS s) (hx:Br s) (hok:A2 s):AS (BJ s k id).1/\Br (BJ s k id).1:=by
 unfold BJ
 split
 .exact Fm
 split
 .exact Fm
 split
 .exact TG hs hx
 split
 .exact Fm
 .rename_i v hv
  split
  .exact Fm
  .rename_i hb
   obtain⟨hi,e⟩:=List.getElem?_eq_some_iff.1 hv
   subst e
   rw[<-(I4 hok hi hb).1]
   exact Vu hs hx (TN _) (by have:=hok.1.1.2.2.2.2.2.2.1;simp[Ai] at this;omega)
theorem TP (v:AM) (id:Int):Aa pg 171 ([.agg (Au v)]++[.rptr [.int .i64 id]]) [] (fun r _=>r= .bool (decide (v.base=id))):=by
 refine Aa.start (fn:=Tryz.f171) [.tmp 3] tk rfl rfl rfl (by kernel_rfl) (Nat.le_of_ble_eq_true rfl) rfl (by kernel_rfl) ?_
 simp only[List.cons_append,List.nil_append]
 rw[At]
 refine z1 ?_;intro K hK;refine zk ?_;clear hK K
 refine zs ?_
 exact zR
def Rc (s:An) (id:Int):Bool:=decide ((BJ s (B2 s id).1 (B2 s id).2).2=0)
set_option maxHeartbeats 2000000 in
theorem VA (hR:BT) (s:An) (id:Int) (hs:AS s) (hx:Br s) (hok:A2 s):Aa pg 138 [.agg (Ao false s),.int .i64 id] [] (fun r _=>r= .tup [.agg (Sb (B2 s id)),.bool (Rc s id)]):=by
 have h1:=hs.1
 have spI:=Jp s.vers 171 [.rptr [.int .i64 id]] (fun v=>decide (v.base=id)) (by omega) (fun v _=>TP v id) (by simp)
 obtain⟨z,hz⟩:∃z,z=AL (fun v=>decide (v.base=id)) s.vers:=⟨_,rfl⟩
 rw[<-hz] at spI
 obtain⟨a,ha⟩:∃a,a=B2 s id:=⟨_,rfl⟩
 have spD:=TO hR s a.1 a.2 hs hx hok
 have hin:=Nc (k:=a.1) (id:=a.2) hs hx hok
 unfold Rc
 rw[<-ha]
 obtain⟨y,hy⟩:∃y,y=(BJ s a.1 a.2).1:=⟨_,rfl⟩
 obtain⟨e,he⟩:∃e,e=(BJ s a.1 a.2).2:=⟨_,rfl⟩
 rw[<-hy,<-he] at spD
 rw[<-he]
 refine Aa.start (fn:=Tryz.f138) [.cell 4 103,.tmp 5] tk rfl rfl rfl (by kernel_rfl) (Nat.le_of_ble_eq_true rfl) rfl (by kernel_rfl) ?_
 rw[At]
 refine z3 ?_;intro K hK;refine zk ?_;clear hK K
 refine z0 ?_;intro K hK
 refine Ab.eq spI (by simp) (by simp) ?_
 refine zx ?_
 refine zk ?_;clear hK K
 refine z1 ?_;intro K hK
 refine zk ?_;clear hK K
 refine zs ?_
 refine W.midS (fun _:Unit=> [(2,.ptr 0 0 0),(4,.ptr 2 0 0),(7,.ptr 3 0 0)]) (fun _=> [.live 0 (Ao false s),.live 0 [.int .i64 id],.live 0 [.int .i64 0,.int .i64 0],.live 0 (Sb a)]) (fun _=>True) ?_ ?_
 .refine zc ?_ ?_<;>intro h
  .obtain⟨k,hk⟩:=Int.eq_ofNat_of_zero_le h
   subst hk
   have hkk:∃hk:k<s.vers.length,a=(2,s.vers[k].id):=by
    unfold AL at hz
    cases e:s.vers.findIdx? (fun v=>decide (v.base=id)) with
    |none=>rw[e] at hz;simp at hz
    |some j=>
     rw[e] at hz
     have:j=k:=by simp at hz;omega
     subst this
     obtain⟨q1,q2,q3⟩:=List.findIdx?_eq_some_iff_getElem.1 e
     refine⟨q1,?_⟩
     have hf:s.vers.find? (fun v=>decide (v.base=id))=some s.vers[j]:=Ly q1 (fun x hx=>by
      obtain⟨m,hm,rfl⟩:=List.mem_iff_getElem.1 hx
      simp only[List.length_take] at hm
      have:=q3 m (by omega)
      simpa using this) q2
     rw[ha,B2,hf]
   obtain⟨hk,hak⟩:=hkk
   have v0:(Ac Au s.vers)[k*8]?=some (.int .i64 s.vers[k].id):=Bk (f:=Au) (s:=8) (fun _=>rfl) hk (i:=0) (by omega)
   refine Af (an hk v0) ?_;intro K hK
   refine zk ?_;clear hK K
   subst hak
   exact⟨(),trivial,Wk.fr (by simp[Ad])⟩
  .have hak:a=(1,id):=by
    have hf:s.vers.find? (fun v=>decide (v.base=id))=none:=by
     rw[List.find?_eq_none]
     intro v hv c
     have:0<=z:=by rw[hz];exact CM.2 ⟨v,hv,c⟩
     omega
    rw[ha,B2,hf]
   refine W.skip ?_
   subst hak
   exact⟨(),trivial,Wk.fr (by simp[Ad])⟩
 rintro _ _
 refine z1 ?_;intro K hK
 refine Ab.eq spD (by simp) (by simp) ?_
 refine zx ?_
 refine zk ?_;clear hK K
 refine z0 ?_;intro K hK
 refine zk ?_;clear hK K
 exact zR
set_option maxHeartbeats 2000000 in
theorem Lb (hR:BT) (s:An) (hs:AS s) (hx:Br s) (hok:A2 s):Aa pg 98 [.agg (Ao false s)] [] (fun r _=>r= .agg (Sb (AB s))):=by
 have h1:=hs.1
 have hkp:0<=s.keep/\s.keep<=1000000:=⟨by have:=hok.1.1.1;omega,by have:=hok.1.1.2.1;omega⟩
 have spW:=XF s hs hkp
 have hwl:(A4 s false).length<=s.vers.length:=Ij ..
 obtain⟨a,ha⟩:∃a,a=AB s:=⟨_,rfl⟩
 have hfo:a=match (A4 s false).find? (Rc s) with|some id=>B2 s id|none=>(0,0):=by rw[ha];rfl
 rw[<-ha]
 obtain⟨w,hw⟩:∃w,w=A4 s false:=⟨_,rfl⟩
 rw[<-hw] at spW hwl hfo
 refine Aa.start (fn:=Tryz.f98) [.cell 2 103] tk rfl rfl rfl (by kernel_rfl) (Nat.le_of_ble_eq_true rfl) rfl (by kernel_rfl) ?_
 rw[Ay]
 refine z2 ?_;intro K hK;refine zk ?_;clear hK K
 refine z0 ?_;intro K hK
 refine Ab.eq spW (by simp) (by simp) ?_
 refine zx ?_
 refine zk ?_;clear hK K
 (repeat refine W.seq ?_);refine W.block (W.loopS (fun k:Nat=> [(1,.ptr 0 0 0),(2,.ptr 1 0 0),(8,.tok 2 0 1 0 w.length),(9,.int .i64 w.length),(10,.int .i64 k)]) (fun _=> [.live 0 (Ao false s),.live 0 [.int .i64 0,.int .i64 0],.live 0 (Ae w)]) (fun k=>w.length-k) (fun k=>k<=w.length/\∀x∈w.take k,Rc s x=false) 0 (Wk.fr (by simp[Ad])) ⟨by omega,by simp⟩ ?_)
 rintro k ⟨hk,hno⟩
 by_cases c1:k<w.length
 rotate_left
 .have hke:k=w.length:=by omega
  have hf:w.find? (Rc s)=none:=by
   rw[List.find?_eq_none]
   intro x hx
   rw[List.take_of_length_le (by omega)] at hno
   simpa using hno x hx
  rw[hf] at hfo
  subst hfo
  refine Af c1 ?_;intro K hK
  refine zk ?_;clear hK K
  refine zn ?_
  refine W.exit ?_
  refine z0 ?_;intro K hK
  refine zk ?_;clear hK K
  exact zR
 have spA:=VA hR s w[k] hs hx hok
 obtain⟨id,Bw⟩:∃id,id=w[k]:=⟨_,rfl⟩
 rw[<-Bw] at spA
 have g1:(Ae w)[k]?=some (.int .i64 id):=by rw[Bw];simp[c1,Ae]
 refine Af c1 ?_;intro K hK
 refine zk ?_;clear hK K
 refine zt ?_
 refine W.skip ?_
 refine zb ?_
 refine Af (an c1 g1) ?_;intro K hK
 refine zk ?_;clear hK K
 cases hoa:Rc s id
 .rw[hoa] at spA
  refine z1 ?_;intro K hK
  refine Ab.eq spA (by simp) (by simp) ?_
  refine zx ?_
  refine zk ?_;clear hK K
  refine zs ?_
  refine zn ?_
  refine W.skip ?_
  refine zs ?_
  exact⟨k+1,by omega,⟨by omega,NE c1 hno (by rw[<-Bw];exact hoa)⟩,Wk.cutM (k:=3) (by simp[Ad]) (by simp) (by simp) (by simp) (by simp) (by simp)⟩
 .rw[hoa] at spA
  have hf:=Ly c1 hno (by rw[<-Bw];exact hoa)
  rw[hf] at hfo
  simp only[<-Bw] at hfo
  subst hfo
  refine z1 ?_;intro K hK
  refine Ab.eq spA (by simp) (by simp) ?_
  refine zx ?_
  refine zk ?_;clear hK K
  refine zs ?_
  refine zt ?_
  refine z0 ?_;intro K hK
  refine zk ?_;clear hK K
  exact zR
def BP (a b:Nat) (c:An):List AV:=[.int .i64 c.keep,.int .i64 c.blocks,.tok a 0 8 0 c.vers.length,.tok b 0 12 0 c.sess.length]
section
variable (xs:List An) (m:Bool) (M:List Ag) (k:Nat)
@[simp] theorem dw:(Ac (Ao m) xs).length=xs.length*4:=FJ _ (fun x=>by simp[Ao]) xs
@[simp] theorem bU:(Ac (Ao m) xs).take (k*4)=Ac (Ao m) (xs.take k):=Fs _ (fun x=>by simp[Ao]) k xs
@[simp] theorem fM:EZ (Ac (Ao m) xs)=true:=HD _ (fun x=>by simp[Ao]) xs
@[simp] theorem fN:DX (Ac (Ao m) xs)=true:=HE _ (fun x=>by simp[Ao]) xs
@[simp] theorem fO:Dg k (Ac (Ao m) xs)=true:=GB _ k (fun x=>by simp[Ao]) xs
@[simp] theorem dx:C4 (Ac (Ao true) xs)=true:=GZ _ (fun x=>by simp[Ao]) xs
@[simp] theorem VB:EX (Ac (Ao m) xs)=Ac (Ao false) xs:=HF _ _ (fun x=>by cases m<;>simp[Ao]) xs
@[simp] theorem dy:(Ac (Ao m) xs).map Et=Ac (Ao false) xs:=by rw[<-Fo];exact VB xs m
end
theorem TQ (L:List An) (a b:Nat) (c:An) (Z:List AV):(Ac (Ao true) L++(BP a b c++Z))[L.length*4+2]?=some (.tok a 0 8 0 c.vers.length):=by
 rw[List.getElem?_append_right (by simp)];simp[BP]
theorem TR (L:List An) (a b:Nat) (c:An) (Z:List AV) (x:AV):((Ac (Ao true) L++(BP a b c++Z)).set (L.length*4+2) x)[L.length*4+3]?=some (.tok b 0 12 0 c.sess.length):=by
 rw[List.getElem?_set_ne (by omega),List.getElem?_append_right (by simp)];simp[BP]
theorem VC (L:List An) (a b:Nat) (c:An) (Z:List AV):((Ac (Ao true) L++(BP a b c++Z)).set (L.length*4+2) (.own 8 c.vers.length (((Ac Au c.vers).drop 0).take (c.vers.length*8)))).set (L.length*4+3) (.own 12 c.sess.length (((Ac (Az true) c.sess).drop 0).take (c.sess.length*12)))=Ac (Ao true) (L++[c])++Z:=by
 rw[List.set_append_right _ _ (by simp),List.set_append_right _ _ (by simp),Ck]
 simp[BP,Ax]
theorem Wk.last {p:Nat} {F:Fr} {M:List Ag} {v:Nat} (L:List An) (c:An) (Z:List AV) (h1:Aj M 1 v=some (Ac (Ao true) L++(BP 2 3 c++Z))) (h2:M[2]?=some (.live 0 (Ac Au c.vers))) (h3:M[3]?=some (.live 0 (Ac (Az true) c.sess))):
 Wk p F M F (((M.set 1 (.live v (Ac (Ao true) (L++[c])++Z))).set 2 .dead).set 3 .dead):=by
 obtain⟨a0,a1,a2,a3,M',rfl⟩:∃a0 a1 a2 a3 M',M=a0::a1::a2::a3::M' :=by
  match M,h3 with
  |a0::a1::a2::a3::M',_=>exact⟨a0,a1,a2,a3,M',rfl⟩
 simp only[List.getElem?_cons_succ,List.getElem?_cons_zero,Option.some.injEq] at h2 h3
 subst h2 h3
 have w1:=Wk.intern (p:=p) (F:=F) (B:=1) (v:=v) (j:=L.length*4+2) (T:=2) (u:=0) (s:=8) (off:=0) (n:=c.vers.length) (xs:=Ac Au c.vers) h1 (TQ L 2 3 c Z) (by rfl) (by decide) (by simp) (by simp)
 have w2:=fun M h=>Wk.intern (p:=p) (F:=F) (M:=M) (B:=1) (v:=v) (j:=L.length*4+3) (T:=3) (u:=0) (s:=12) (off:=0) (n:=c.sess.length) (xs:=Ac (Az true) c.sess) (cs:=(Ac (Ao true) L++(BP 2 3 c++Z)).set (L.length*4+2) (.own 8 c.vers.length (((Ac Au c.vers).drop 0).take (c.vers.length*8)))) h (TR L 2 3 c Z _)
 refine w1.trans ?_
 refine(w2 _ ?_ ?_ (by decide) (by simp) (by simp)).trans ?_
 .simp[Aj]
 .simp[Aj]
 have hp:=VC L 2 3 c Z
 simp only[List.set_cons_succ,List.set_cons_zero]
 rw[hp]
 exact Wk.refl
theorem Pl {c:An} {m:Nat} (h:(AB c).1≠0):B0 c (m+1)=(BJ c (AB c).1 (AB c).2).1::B0 (BJ c (AB c).1 (AB c).2).1 m:=by rw[B0,if_neg h]
theorem Re {c:An} (m:Nat) (h:(AB c).1=0):B0 c m=[]:=by cases m<;>simp[B0,h]
set_option maxHeartbeats 4000000 in
theorem aX (hR:BT) (s:An) (n:Nat) (hs:AS s) (hx:Br s) (hok:A2 s) (hn:n<=1000):Aa pg 96 [.agg (Ao false s),.int .i64 n] [] (fun r _=>r= .own 4 (B0 s n).length (Ac (Ao true) (B0 s n))):=by
 refine Aa.start (fn:=Tryz.f96) [.tmp 4] tk rfl rfl rfl (by kernel_rfl) (Nat.le_of_ble_eq_true rfl) rfl (by kernel_rfl) ?_
 rw[At]
 refine z1 ?_;intro K hK;refine zk ?_;clear hK K
 refine zs ?_
 (repeat refine W.seq ?_);refine W.block (W.loopS (fun z:Nat×List An×An=> [(2,.ptr 0 0 0),(4,if z.1=0 then .own 4 0 [] else .tok 1 0 4 0 z.1),(6,.int .i64 n),(7,.int .i64 z.1)]) (fun z=>if z.1=0 then [.live 0 (Ao false s)] else [.live 0 (BP 2 3 z.2.2),.live 0 (Ac (Ao true) z.2.1++BP 2 3 z.2.2),.live 0 (Ac Au z.2.2.vers),.live 0 (Ac (Az true) z.2.2.sess)]) (fun z=>n-z.1) (fun z=>z.1<=n/\A2 z.2.2/\AS z.2.2/\Br z.2.2/\(z.1=0->z.2.2=s)/\(0<z.1->z.2.1.length+1=z.1/\z.2.1++z.2.2::B0 z.2.2 (n-z.1)=B0 s n)) (0,[],s) (Wk.fr (by simp[Ad])) ⟨by omega,hok,hs,hx,fun _=>rfl,fun h=>by simp at h⟩ ?_)
 have rnV:=fun(K:List (Nat×Nat)) (y:An)=>PW K (xs:=Ac Au y.vers) (by simp)
 have rnS:=fun(K:List (Nat×Nat)) (y:An)=>PW K (xs:=Ac (Az true) y.sess) (by simp)
 have rnA:=fun(K:List (Nat×Nat)) (L:List An)=>PW K (xs:=Ac (Ao true) L) (by simp)
 rintro⟨k,L,c⟩ ⟨hk,hcok,hcs,hcx,hc0,hcL⟩
 simp only at hk hcok hcs hcx hc0 hcL |-
 have spF:=Lb hR c hcs hcx hcok
 obtain⟨a,ha⟩:∃a,a=AB c:=⟨_,rfl⟩
 rw[<-ha] at spF
 have spD:=TO hR c a.1 a.2 hcs hcx hcok
 have hyin:=Nc (k:=a.1) (id:=a.2) hcs hcx hcok
 have hyok:=fun h:a.1≠0=>Pk (k:=a.1) (id:=a.2) hcok (by rw[ha] at h |-;exact J4 h)
 obtain⟨y,hy⟩:∃y,y=(BJ c a.1 a.2).1:=⟨_,rfl⟩
 obtain⟨e,he⟩:∃e,e=(BJ c a.1 a.2).2:=⟨_,rfl⟩
 rw[<-hy,<-he] at spD
 rw[<-hy] at hyin
 simp only[<-hy] at hyok
 by_cases k0:k=0
 .have hcs0:=hc0 k0
  subst hcs0
  subst k0
  simp only[if_true]
  by_cases c1:0<n
  rotate_left
  .have hn0:n=0:=by omega
   subst hn0
   refine z0 ?_;intro K hK
   refine zk ?_;clear hK K
   refine zn ?_
   refine W.exit ?_
   refine z0 ?_;intro K hK
   refine zk ?_;clear hK K
   refine zr ?_
   simp[B0]
  refine Af c1 ?_;intro K hK
  refine zk ?_;clear hK K
  refine zt ?_
  refine W.skip ?_
  refine zb ?_
  refine z1 ?_;intro K hK
  refine Ab.eq spF (by simp) (by simp) ?_
  refine zx ?_
  refine zk ?_;clear hK K
  by_cases c2:a.1=0
  .refine Af c2 ?_;intro K hK
   refine zk ?_;clear hK K
   refine zt ?_
   refine W.exit ?_
   refine z0 ?_;intro K hK
   refine zk ?_;clear hK K
   refine zr ?_
   rw[Re n (by rw[<-ha];exact c2)];simp
  have hrow:B0 c n=y::B0 y (n-1):=by
   obtain⟨m,rfl⟩:∃m,n=m+1:=⟨n-1,by omega⟩
   rw[Pl (by rw[<-ha];exact c2),<-ha,<-hy];simp
  refine Af c2 ?_;intro K hK
  refine zk ?_;clear hK K
  refine zn ?_
  refine W.skip ?_
  refine z0 ?_;intro K hK
  refine Ab.eq spD (by simp) (by simp) ?_
  refine zx ?_
  refine zk ?_;clear hK K
  refine W.weak (Wk.nil (t:=4) (s:=4) (by simp)) ?_
  refine z1 ?_;intro K hK
  refine zk ?_;clear hK K
  refine zs ?_
  have hyk:=hyok c2
  refine⟨(1,[],y),by simp only;omega,⟨by simp only;omega,hyk.1,hyin.1,hyin.2,by simp,fun _=>⟨rfl,by simp only[List.nil_append];rw[hrow]⟩⟩,?_⟩
  refine Wk.perm [(0,0),(4,1),(2,0),(3,0)] [BP 2 3 y,BP 2 3 y,Ac Au y.vers,Ac (Az true) y.sess] (by decide) ?_ ?_ ?_
  .simp[Rw,Aj,BP]
  .simp[PX,rn,Hf,List.findIdx?_cons]
  .simp[G6,rn,Hf,BP,List.findIdx?_cons,rnV,rnS]
 simp only[if_neg k0]
 obtain⟨hL,hLr⟩:=hcL (by omega)
 by_cases c1:k<n
 rotate_left
 .have hkn:k=n:=by omega
  subst hkn
  have hfin:B0 s k=L++[c]:=by rw[<-hLr,Nat.sub_self];simp[B0]
  refine Af c1 ?_;intro K hK
  refine zk ?_;clear hK K
  refine zn ?_
  refine W.exit ?_
  refine W.weak (Wk.last (v:=0) L c [] (by simp[Aj,BP]) rfl rfl) ?_
  simp only[List.set_cons_succ,List.set_cons_zero,List.append_nil]
  rw[<-hfin]
  have hlen:(B0 s k).length=k:=by rw[hfin];simp;omega
  refine z0 ?_;intro K hK
  refine zk ?_;clear hK K
  refine zr ?_
  rw[List.take_of_length_le (by omega),hlen];exact⟨rfl,rfl⟩
 simp only[BP]
 refine Af c1 ?_;intro K hK
 refine zk ?_;clear hK K
 refine zt ?_
 refine W.skip ?_
 refine zb ?_
 refine z1 ?_;intro K hK
 refine Ab.eq spF (by simp) (by simp) ?_
 refine zx ?_
 refine zk ?_;clear hK K
 by_cases c2:a.1=0
 .refine Af c2 ?_;intro K hK
  refine zk ?_;clear hK K
  refine zt ?_
  refine W.exit ?_
  have hfin:B0 s n=L++[c]:=by rw[<-hLr,Re (n-k) (by rw[<-ha];exact c2)]
  refine W.weak (Wk.last (v:=0) L c [] (by simp[Aj,BP]) rfl rfl) ?_
  simp only[List.set_cons_succ,List.set_cons_zero,List.append_nil]
  rw[<-hfin]
  have hlen:(B0 s n).length=k:=by rw[hfin];simp;omega
  refine z0 ?_;intro K hK
  refine zk ?_;clear hK K
  refine zr ?_
  rw[List.take_of_length_le (by omega),hlen];exact⟨rfl,rfl⟩
 refine Af c2 ?_;intro K hK
 refine zk ?_;clear hK K
 refine zn ?_
 refine W.skip ?_
 refine z0 ?_;intro K hK
 refine Ab.eq spD (by simp) (by simp) ?_
 refine zx ?_
 refine zk ?_;clear hK K
 refine z1 ?_;intro K hK
 refine zk ?_;clear hK K
 refine zs ?_
 have hyk:=hyok c2
 have hrow:B0 c (n-k)=y::B0 y (n-(k+1)):=by
  obtain⟨m,hm⟩:∃m,n-k=m+1:=⟨n-k-1,by omega⟩
  rw[hm,Pl (by rw[<-ha];exact c2),<-ha,<-hy,show n-(k+1)=m by omega]
 refine⟨(k+1,L++[c],y),by simp only;omega,⟨by simp only;omega,hyk.1,hyin.1,hyin.2,by simp,fun _=>⟨by simp only[List.length_append,List.length_singleton];omega,by simp only;rw[<-hLr,hrow];simp⟩⟩,?_⟩
 refine(Wk.last (v:=1) L c (BP 5 6 y) (by simp[Aj,BP]) rfl rfl).trans ?_
 simp only[List.set_cons_succ,List.set_cons_zero]
 refine Wk.perm [(0,0),(1,1),(5,0),(6,0)] [BP 5 6 y,Ac (Ao true) (L++[c])++BP 5 6 y,Ac Au y.vers,Ac (Az true) y.sess] (by decide) ?_ ?_ ?_
 .simp[Rw,Aj,BP]
 .simp[PX,rn,Hf,List.findIdx?_cons]
 .simp[G6,rn,Hf,BP,List.findIdx?_cons,rnV,rnS,rnA,YQ]
theorem Rf (hR:BT) (s:An) (hs:AS s) (hx:Br s):Aa pg 58 [.agg (Ao false s)] [] (fun r _=>r= .tup [.agg (Sb (if A2 s then AB s else(0,0))),.int .i64 (if A2 s then 0 else 1)]):=by
 have spM:=O3 hR s hs hx
 refine Aa.start (fn:=Tryz.f58) [.cell 2 103,.tmp 3] tk rfl rfl rfl (by kernel_rfl) (Nat.le_of_ble_eq_true rfl) rfl (by kernel_rfl) ?_
 rw[Ay]
 refine z2 ?_;intro K hK;refine zk ?_;clear hK K
 by_cases h:A2 s
 .rw[decide_eq_true h] at spM
  have spF:=Lb hR s hs hx h
  simp only[if_pos h]
  refine z0 ?_;intro K hK
  refine Ab.eq spM (by simp) (by simp) ?_
  refine zx ?_
  refine zk ?_;clear hK K
  refine zn ?_
  refine W.skip ?_
  refine z0 ?_;intro K hK
  refine Ab.eq spF (by simp) (by simp) ?_
  refine zx ?_
  refine zk ?_;clear hK K
  exact zR
 .rw[decide_eq_false h] at spM
  simp only[if_neg h]
  refine z0 ?_;intro K hK
  refine Ab.eq spM (by simp) (by simp) ?_
  refine zx ?_
  refine zk ?_;clear hK K
  refine zt ?_
  refine z0 ?_;intro K hK
  refine zk ?_;clear hK K
  exact zR
theorem XM (hR:BT) (s:An) (hs:AS s) (hx:Br s):Aa pg 56 [.agg (Ao false s)] [] (fun r _=>r= .tup [.bool (decide (A2 s/\(AB s).1=0)),.int .i64 (if A2 s then 0 else 1)]):=by
 have spN:=Rf hR s hs hx
 refine Aa.start (fn:=Tryz.f56) [.tmp 2,.tmp 3] tk rfl rfl rfl (by kernel_rfl) (Nat.le_of_ble_eq_true rfl) rfl (by kernel_rfl) ?_
 rw[Ay]
 refine z1 ?_;intro K hK;refine zk ?_;clear hK K
 by_cases h:A2 s
 .simp only[if_pos h] at spN |-
  refine z1 ?_;intro K hK
  refine Ab.eq spN (by simp) (by simp) ?_
  refine zx ?_
  refine zk ?_;clear hK K
  refine z0 ?_;intro K hK
  refine zk ?_;clear hK K
  refine zr ?_
  simp[h]
 .simp only[if_neg h] at spN |-
  refine z1 ?_;intro K hK
  refine Ab.eq spN (by simp) (by simp) ?_
  refine zx ?_
  refine zk ?_;clear hK K
  refine z0 ?_;intro K hK
  refine zk ?_;clear hK K
  refine zr ?_
  simp[h]
def Fn (s:An) (n:Int):An×Int×Int:=if A2 s/\0<=n/\n<=1000 then((B0 s n.toNat).getLast?.getD s,((B0 s n.toNat).length:Int),0) else(A6,0,1)
theorem TS:∀(n:Nat) (s:An),AS s->Br s->A2 s->∀y∈B0 s n,AS y/\Br y
 |0,s,_,_,_,y,hy=>by simp[B0] at hy
 |n+1,s,hs,hx,h,y,hy=>by
  rw[B0] at hy
  split at hy
  .simp at hy
  .rename_i c
   have ha:=Pk h (J4 c)
   have hi:=Nc (k:=(AB s).1) (id:=(AB s).2) hs hx h
   rw[List.mem_cons] at hy
   rcases hy with rfl|hy
   .exact hi
   .exact TS n _ hi.1 hi.2 ha.1 y hy
def Ga (s:An):List AV:=[.int .i64 s.keep,.int .i64 s.blocks,.ro s.vers.length [],.ro s.sess.length []]
theorem NS:∀L:List An,loose (Ac (Ao true) L) (Ac Ga L)
 | []=>trivial
 |s::L=>by
  rw[Ax,Ax]
  exact Kq ⟨.inl rfl,.inl rfl,.inr (.inr ⟨_,_,_,rfl,rfl⟩),.inr (.inr ⟨_,_,_,rfl,rfl⟩),trivial⟩ (NS L)
section
variable (xs:List An) (k:Nat)
@[simp] theorem fP:(Ac Ga xs).length=xs.length*4:=FJ _ (fun x=>by simp[Ga]) xs
theorem ZR:(Ac Ga xs).all Da=true:=Gz _ (fun x=>by simp[Ga,Da,LN,BO]) xs
@[simp] theorem iI:Dg k (Ac Ga xs)=true:=GB _ k (fun x=>by simp[Ga]) xs
end
theorem Pm (L:List An) (c:An) (x:AV):(Ac (Ao true) (L++[c]))[L.length*4+2]?=some (.own 8 c.vers.length (Ac Au c.vers))/\((Ac (Ao true) (L++[c])).set (L.length*4+2) x)[L.length*4+3]?=some (.own 12 c.sess.length (Ac (Az true) c.sess)):=by
 refine⟨?_,?_⟩
 .rw[Ck,List.getElem?_append_right (by simp)];simp[Ax]
 .rw[List.getElem?_set_ne (by omega),Ck,List.getElem?_append_right (by simp)];simp[Ax]
theorem Wk.lastT {p:Nat} {F:Fr} (a0 a1 a2 a3 a4:Ag) (L:List An) (c:An):Wk p F [a0,a1,a2,a3,a4,.live 0 (Ac (Ao true) (L++[c]))] F [a0,a1,a2,a3,a4,.live 0 (Ac Ga L++BP 6 7 c),.live 0 (Ac Au c.vers),.live 0 (Ac (Az true) c.sess)]:=by
 have w1:=Wk.thaw (p:=p) (F:=F) (M:=[a0,a1,a2,a3,a4,.live 0 (Ac (Ao true) (L++[c]))]) (B:=5) (v:=0) (j:=L.length*4+2) (s:=8) (n:=c.vers.length) (xs:=Ac Au c.vers) (by simp[Aj]) (Pm L c .any).1
 have w2:=Wk.thaw (p:=p) (F:=F) (M:=[a0,a1,a2,a3,a4,.live 0 ((Ac (Ao true) (L++[c])).set (L.length*4+2) (.tok 6 0 8 0 c.vers.length)),.live 0 (Ac Au c.vers)]) (B:=5) (v:=0) (j:=L.length*4+3) (s:=12) (n:=c.sess.length) (xs:=Ac (Az true) c.sess) (by simp[Aj]) (Pm L c (.tok 6 0 8 0 c.vers.length)).2
 have hc:((Ac (Ao true) (L++[c])).set (L.length*4+2) (.tok 6 0 8 0 c.vers.length)).set (L.length*4+3) (.tok 7 0 12 0 c.sess.length)=Ac (Ao true) L++BP 6 7 c:=by
  rw[Ck,List.set_append_right _ _ (by simp),List.set_append_right _ _ (by simp)]
  simp[Ax,BP]
 have w3:=Wk.loose (p:=p) (F:=F) (M:=[a0,a1,a2,a3,a4,.live 0 (Ac (Ao true) L++BP 6 7 c),.live 0 (Ac Au c.vers),.live 0 (Ac (Az true) c.sess)]) (B:=5) (v:=0) (cs' :=Ac Ga L++BP 6 7 c) (by simp[Aj]) (Kq (NS L) (MD _))
 refine w1.trans (Wk.trans ?_ (w2.trans (Wk.trans ?_ w3)))
 .exact Wk.refl
 .simp only[List.set_cons_succ,List.set_cons_zero,List.length_cons,List.length_nil]
  rw[hc]
  exact Wk.refl
set_option maxHeartbeats 4000000 in
theorem Rg (hR:BT) (s:An) (n:Int) (hs:AS s) (hx:Br s):Aa pg 52 [.agg (Ao false s),.int .i64 n] [] (fun r _=>r= .tup [.agg (Ao true (Fn s n).1),.int .i64 (Fn s n).2.1,.int .i64 (Fn s n).2.2]):=by
 have spM:=O3 hR s hs hx
 have h1:=hs.1
 have h2:=hs.2.1
 refine Aa.start (fn:=Tryz.f52) [.cell 4 38,.tmp 5,.tmp 6] tk rfl rfl rfl (by kernel_rfl) (Nat.le_of_ble_eq_true rfl) rfl (by kernel_rfl) ?_
 rw[At]
 refine z2 ?_;intro K hK;refine zk ?_;clear hK K
 by_cases h:A2 s
 rotate_left
 .rw[decide_eq_false h] at spM
  have e:Fn s n=(A6,0,1):=by unfold Fn;rw[if_neg (fun g=>h g.1)]
  rw[e]
  refine z0 ?_;intro K hK
  refine Ab.eq spM (by simp) (by simp) ?_
  refine zx ?_
  refine zk ?_;clear hK K
  refine zt ?_
  refine z0 ?_;intro K hK
  refine zk ?_;clear hK K
  refine W.weak ((Wk.thaw (B:=1) (v:=0) (j:=2) (s:=8) (n:=0) (xs:=[]) rfl rfl).trans (Wk.thaw (B:=1) (v:=0) (j:=3) (s:=12) (n:=0) (xs:=[]) rfl rfl)) ?_
  refine zr ?_
  simp[A6]
 rw[decide_eq_true h] at spM
 by_cases hn:0<=n/\n<=1000
 rotate_left
 .have e:Fn s n=(A6,0,1):=by unfold Fn;rw[if_neg (fun g=>hn g.2)]
  rw[e]
  by_cases g:n<0
  .refine z0 ?_;intro K hK
   refine Ab.eq spM (by simp) (by simp) ?_
   refine AX g ?_
   refine zk ?_;clear hK K
   refine zt ?_
   refine z0 ?_;intro K hK
   refine zk ?_;clear hK K
   refine W.weak ((Wk.thaw (B:=1) (v:=0) (j:=2) (s:=8) (n:=0) (xs:=[]) rfl rfl).trans (Wk.thaw (B:=1) (v:=0) (j:=3) (s:=12) (n:=0) (xs:=[]) rfl rfl)) ?_
   refine zr ?_
   simp[A6]
  .have g2:1000<n:=by omega
   refine z0 ?_;intro K hK
   refine Ab.eq spM (by simp) (by simp) ?_
   refine AX (an g g2) ?_
   refine zk ?_;clear hK K
   refine zt ?_
   refine z0 ?_;intro K hK
   refine zk ?_;clear hK K
   refine W.weak ((Wk.thaw (B:=1) (v:=0) (j:=2) (s:=8) (n:=0) (xs:=[]) rfl rfl).trans (Wk.thaw (B:=1) (v:=0) (j:=3) (s:=12) (n:=0) (xs:=[]) rfl rfl)) ?_
   refine zr ?_
   simp[A6]
 obtain⟨m,rfl⟩:=Int.eq_ofNat_of_zero_le hn.1
 have g1:¬(m:Int)<0:=by omega
 have g2:¬1000<(m:Int):=by omega
 have e:Fn s m=((B0 s m).getLast?.getD s,((B0 s m).length:Int),0):=by unfold Fn;rw[if_pos ⟨h,hn⟩];rfl
 rw[e]
 have hrl:=Rb m s
 have spO:=Pb s hs hx
 have spR:=aX hR s m hs hx h (by omega)
 refine z0 ?_;intro K hK
 refine Ab.eq spM (by simp) (by simp) ?_
 refine AX (an g1 g2) ?_
 refine zk ?_;clear hK K
 refine zn ?_
 refine W.skip ?_
 obtain⟨R,hRd⟩:∃R,R=B0 s m:=⟨_,rfl⟩
 rw[<-hRd] at spR hrl |-
 rcases List.eq_nil_or_concat R with hR0| ⟨L,c,hRc⟩
 .subst hR0
  (repeat refine W.seq ?_);refine W.regdT 1 6 rfl false Cz (by kernel_rfl) fun K hK=>?_;simp -implicitDefEqProofs (maxSteps:=999999) (disch:=omega)
  refine Ah.eqr spO (by simp) ?_
  refine zx ?_
  refine Ah.eqr spR (by simp) ?_
  refine zx ?_
  refine⟨_,_,Wk.refl,?_⟩
  simp -implicitDefEqProofs (maxSteps:=999999) (disch:=omega)
  refine zk ?_;clear hK K
  refine z0 ?_;intro K hK
  refine zk ?_;clear hK K
  exact zR
 .rw[List.concat_eq_append] at hRc
  subst hRc
  (repeat refine W.seq ?_);refine W.regdT 1 6 rfl false Cz (by kernel_rfl) fun K hK=>?_;simp -implicitDefEqProofs (maxSteps:=999999) (disch:=omega)
  refine Ah.eqr spO (by simp) ?_
  refine zx ?_
  refine Ah.eqr spR (by simp) ?_
  refine zx ?_
  have hLl:L.length+1<=1000:=by simp at hrl;omega
  have lt4:(BP 6 7 c).length=4:=rfl
  have htk:List.take ((L.length+1)*4) (Ac Ga L++BP 6 7 c)=Ac Ga L++BP 6 7 c:=List.take_of_length_le (by simp[lt4];omega)
  have hpl:EY (Ac Ga L++BP 6 7 c)=true:=by rw[<-IB,List.all_append,ZR];simp[BP,Da,LN,BO]
  refine⟨_,_,Wk.lastT _ _ _ _ _ L c,?_⟩
  simp -implicitDefEqProofs (maxSteps:=999999) (disch:=omega) [lt4,htk,hpl]
  refine zk ?_;clear hK K
  obtain⟨N,hN⟩:∃N,N=L.length+1:=⟨_,rfl⟩
  obtain⟨X,hX⟩:∃X,X=AV.int .i64 s.keep::AV.int .i64 s.blocks::AV.tok 3 0 8 0 s.vers.length::AV.tok 4 0 12 0 s.sess.length::(Ac Ga L++BP 6 7 c):=⟨_,rfl⟩
  rw[<-hX,<-hN]
  have hXf:X=[AV.int .i64 s.keep,AV.int .i64 s.blocks,AV.tok 3 0 8 0 s.vers.length,AV.tok 4 0 12 0 s.sess.length]++(Ac Ga L++BP 6 7 c):=by rw[hX];rfl
  have hXl:X.length=(1+N)*4:=by rw[hXf];simp[lt4];omega
  have hXi:∀j,j<4->X[N*4+j]?=(BP 6 7 c)[j]?:=fun j hj=>by
   rw[hXf,List.getElem?_append_right (by simp;omega),List.getElem?_append_right (by simp;omega)]
   congr 1;simp;omega
  have x0:X[N*4]?=some (.int .i64 c.keep):=hXi 0 (by omega)
  have x1:X[N*4+1]?=some (.int .i64 c.blocks):=hXi 1 (by omega)
  have x2:X[N*4+1+1]?=some (.tok 6 0 8 0 c.vers.length):=hXi 2 (by omega)
  have x3:X[N*4+1+1+1]?=some (.tok 7 0 12 0 c.sess.length):=hXi 3 (by omega)
  obtain⟨N2,hN2⟩:∃N2,N2=1+N:=⟨_,rfl⟩
  rw[<-hN2] at hXl |-
  have hN1:(N2:Int)-1=(N:Int):=by omega
  have hNl:N<N2:=by omega
  clear hXl
  refine Af (an hN1 (an hNl (an x0 (an x1 (an x2 x3))))) ?_;intro K hK
  refine zk ?_;clear hK K
  refine zr ?_
  simp[hN]
@[simp] theorem fQ (n:Nat):C4 (List.replicate n (AV.own 1 0 []))=true:=by
  induction n with
  |zero=>rfl
  |succ n ih=>rw[List.replicate_succ,C4,ih];rfl
@[simp] theorem iJ (k n:Nat):Dg k (List.replicate n (AV.own 1 0 []))=true:=by rw[GA];simp[GX]
@[simp] theorem iK (n:Nat):DX (List.replicate n (AV.own 1 0 []))=true:=by simp[DX,-IC]
def WP (i:Nat) (xs:List (List Int)):List AV:=List.replicate i (.own 1 0 [])++AA true (xs.drop i)
@[simp] theorem dz (i n:Nat) (xs:List (List Int)):Dg n (WP i xs)=true:=by
  rw[WP,Rp]
  have:Dg n (List.replicate i (AV.own 1 0 []))=true:=by rw[GA];simp[GX]
  simp[this]
def kY (b k:Int):An×Int:=if (1<=b/\b<=100)/\(1<=k/\k<=8) then(Df b k,0) else(A6,1)
theorem XN (b k:Int):AS (Df b k)/\Br (Df b k):=by
 refine⟨⟨by simp[Df],by simp[Df],by simp[Df]⟩,?_⟩
 intro x hx
 have:x=AR:=by simpa[Df] using hx
 subst this
 simp[Eb,FL,MW,AR,AI,CS]
theorem ZS {y:An} (h:AS y/\Br y):y.vers.length<1000000000000/\y.sess.length<1000000000000/\∀r∈y.sess,Eb r:=⟨by have:=h.1.1;omega,by have:=h.1.2.1;omega,h.2⟩
theorem Nd (e:Int):Aa pg 53 [.int .i64 e] [] (fun r _=>r= .int .i64 e):=by
 refine Aa.start (fn:=Tryz.f53) [.tmp 2] tk rfl rfl rfl (by kernel_rfl) (Nat.le_of_ble_eq_true rfl) rfl (by kernel_rfl) ?_
 rw[Ay]
 refine zs ?_
 refine zs ?_
 exact zR
theorem OF:A2 (Df 5 1):=by
 rw[JV]
 refine⟨by simp[Df],by simp[Df],by simp[Df],by simp[Df],⟨by simp[Df,Ai],by simp[Df,Ai],by simp[Df,Ai]⟩,⟨by simp[Df],by simp[Df],by simp[Df,Av],by simp[Df,Av],by simp[Df,Av]⟩,fun i h=>by simp[Df] at h,fun x hx=>?_⟩
 have:x=AR:=by simpa[Df] using hx
 subst this
 simp[AG,AR]
theorem TT (hR:BT):Aa pg 54 [] [] (fun r _=>r= .bool true):=by
 obtain⟨hs,hx⟩:=XN 5 1
 have spN:=ZN 5 1
 have sp1:=Rf hR (Df 5 1) hs hx
 have sp2:=XM hR (Df 5 1) hs hx
 have hf:AB (Df 5 1)=(0,0):=by simp[AB,A4,CU,Df]
 rw[if_pos OF,if_pos OF,hf] at sp1
 rw[if_pos OF,hf,decide_eq_true ⟨OF,rfl⟩] at sp2
 obtain⟨s,hsd⟩:∃s,s=Df 5 1:=⟨_,rfl⟩
 rw[<-hsd] at spN sp1 sp2
 refine Aa.start (fn:=Tryz.f54) [.tmp 0] tk rfl rfl rfl (by kernel_rfl) (Nat.le_of_ble_eq_true rfl) rfl (by kernel_rfl) ?_
 rw[Zz]
 refine zs ?_
 refine z1 ?_;intro K hK
 refine Ab.eq spN (by simp) (by simp) ?_
 refine zx ?_
 refine Ab.eq sp1 (by simp) (by simp) ?_
 refine zx ?_
 refine zk ?_;clear hK K
 refine z0 ?_;intro K hK
 refine Ab.eq spN (by simp) (by simp) ?_
 refine zx ?_
 refine Ab.eq sp2 (by simp) (by simp) ?_
 refine zx ?_
 refine zk ?_;clear hK K
 refine z0 ?_;intro K hK
 refine Ab.eq (Nd 0) (by simp) (by simp) ?_
 refine zx ?_
 refine Ab.eq (Nd 0) (by simp) (by simp) ?_
 refine zx ?_
 refine zk ?_;clear hK K
 exact zR
def dA:AM:=⟨-9,0,0,⟨ByteArray.empty,0⟩,0,false,false⟩
def dB:CZ:=⟨false,-9,false,0,⟨0,[]⟩,⟨0,0,0,false,[],[]⟩⟩
def mM (k:Nat) (l:List AM):List AM:=List.replicate k dA++l.drop k
def mN (k:Nat) (l:List CZ):List CZ:=List.replicate k dB++l.drop k
def kZ (o:Obj):Prop:=o.data.data.size<1000000000/\WL o.id
end Go.Abs
