/- References: copies joined. -/
import Derived.Test.YtgdmnlibcdajjaaGreatP6
open Bool renaming false_eq_true -> vt, true_eq_false -> we, eq_iff_iff -> wX
open Classical renaming byContradiction -> vv
open Int renaming eq_ofNat_of_zero_le -> uS, toNat_natCast -> vE, le_refl -> wM
open List renaming take_of_length_le -> uM, replicate -> uP, getElem_mem -> uQ, getElem?_eq_getElem -> uT, take_add_one -> uV, take_length -> uW, drop_eq_getElem_cons -> uX, append_assoc -> uZ, length_append -> u0, mem_append -> vd, getElem?_append_right -> vj, getElem?_append_left -> vk, mem_iff_getElem -> vq, eq_nil_of_length_eq_zero -> vr, set_append_right -> vz, length_cons -> vA, pairwise_iff_getElem -> vB, mem_map -> vH, append_nil -> vM, replicate_succ -> vO, set_cons_zero -> vQ, getLast?_eq_getElem? -> vV, mem_of_mem_take -> wh, map_append -> wo, drop_drop -> wr, set_cons_succ -> wu, length_take -> wy, drop_eq_nil_of_le -> wz, mem_singleton -> wA, length_map -> wB, getElem_map -> wE, replicate_succ' -> wJ, take -> wL, find?_eq_none -> wN, take_succ_eq_append_getElem -> wP, length_singleton -> wR, getElem_range -> wW, getElem_cons_succ -> xe, length_drop -> xh, find?_append -> xm, getLast?_map -> xF
open Nat renaming le_refl -> vg, zero_le -> vn, sub_self -> wp, add_mul -> wK, add_sub_cancel -> xa, add_sub_cancel_left -> xk
open Option renaming map_some -> vI
set_option maxHeartbeats 8000000
set_option linter.unusedVariables false
set_option linter.unusedSimpArgs false
set_option maxRecDepth 100000
namespace Go.Abs
open Go.Proofs
def Ew (l:List Int):Int->Bool:=λj=>l.contains j
def Kx (ref bl rest:List Int):List Int×Bool:=
 if¬(AU ref/\AU rest/\bl.length<=16) then([],false) else match BC bl ref true with
  |none=>([],false)
  |some l=>(CS (Ev (Ew l) rest) 16,decide (sS ref (CS (Ev (Ew l) rest) 16)=bl/\Bz ref (CS (Ev (Ew l) rest) 16)=rest))
theorem eR (ref bl rest:List Int):FP ref bl rest=if (Kx ref bl rest).2=true then some (Kx ref bl rest).1 else none:=by
 unfold FP Kx;split
 .simp
 .cases BC bl ref true with
  |none=>simp
  |some l=>
   simp only[decide_eq_true_eq];rfl
theorem H7 (l:List Int):∀(ref:List Int) (b:Bool) (n:Nat),(Bj l ref b n).length<=ref.length
 | [],_,_=>by simp[Bj]
 |x::ref,b,n=>by
  rw[Bj];split
  .have:=H7 l ref b (n+1);simp;omega
  .have:=H7 l ref (!b) 1;simp;omega
theorem W7 (ref l:List Int):(sS ref l).length<=ref.length:=by
 unfold sS;rw[wB];exact H7 l ref true 0
def GY (i:Nat):Bool:=decide (i%2=0)
theorem Lm (i:Nat):GY (i+1)= !GY i:=by
 unfold GY;rw[<-decide_not,decide_eq_decide];omega
theorem SN (l:List Int) (x:Int):Bg (Gv (Ew l) x)=Bg (Ew (l++[x])):=EJ λj _ _=>by
 simp only[Gv,Ew];rw[wX];simp
theorem YN (p:Int->Bool) (l:List Int) (x:Int):Bg (Gv (Ev p l) x)=Bg (Ev p (l++[x])):=EJ λj _ _=>by
 simp only[Gv,Ev,Bool.or_assoc];congr 1;rw[wX];simp
theorem SO (ref bl rest:List Int) (h1:ref.length<1000000) (h2:bl.length<1000000) (h3:rest.length<1000000) (hb:∀x∈bl,-1000000000000<=x/\x<=1000000000000):Ac pg 162 [.ro ref.length (Ab ref),.ro bl.length (Ab bl),.ro rest.length (Ab rest)] [] (λr _=>r= .tup [.own 1 (Kx ref bl rest).1.length (Ab (Kx ref bl rest).1),.bool (Kx ref bl rest).2]):=by
 refine zE (fn:=Tryz.f162) [.tmp 6,.tmp 7] ?_;rw[A6];refine zs ?_;have sp1:=Ik ref zO;have sp2:=Ik rest zO;by_cases c1:AU ref;rotate_left
 .rw[Kx,zP (λh=>c1 h.1)];rw[zV c1] at sp1;refine AL sp1 ?_;exact Ny
 by_cases c2:AU rest;rotate_left
 .rw[Kx,zP (λh=>c2 h.2.1)];rw[zT c1] at sp1;rw[zV c2] at sp2;refine Hm sp1 sp2 ?_;exact Ny
 rw[zT c1] at sp1;rw[zT c2] at sp2;by_cases c3:bl.length<=16;rotate_left
 .have c3' :(16:Int)<(bl.length:Int):=zO;rw[Kx,zP (λh=>c3 h.2.2)];refine z0 ?_;intro K hK;refine zj sp1 ?_;refine sW sp2 (by simp) (by simp) ?_;refine xK c3' ?_;exact Ny
 have c3' :¬(16:Int)<(bl.length:Int):=zO;have hjc:Kx ref bl rest=match BC bl ref true with
  |none=>([],false)
  |some l=>(CS (Ev (Ew l) rest) 16,decide (sS ref (CS (Ev (Ew l) rest) 16)=bl/\Bz ref (CS (Ev (Ew l) rest) 16)=rest)):=by rw[Kx,zM (λh=>h ⟨c1,c2,c3⟩)]
 rw[hjc];clear hjc;have hl1:=Bw c1;have hl2:=Bw c2;refine z0 ?_;intro K hK;refine zj sp1 ?_;refine sW sp2 (by simp) (by simp) ?_;refine x5 c3' ?_;refine z1 ?_;intro K hK;have e0:[AV.bool false,AV.bool false,AV.bool false,AV.bool false,AV.bool false,AV.bool false,AV.bool false,AV.bool false,AV.bool false,AV.bool false,AV.bool false,AV.bool false,AV.bool false,AV.bool false,AV.bool false,AV.bool false]=Ba (Bg (Ew [])):=rfl;rw[e0];refine zk ?_;refine xV ?_;refine sV (λs:Nat×Nat×List Int=> [(0,.ro ref.length (Ab ref)),(1,.ro bl.length (Ab bl)),(2,.ro rest.length (Ab rest)),(8,pt 0),(9,iN s.2.1),(10,iN s.1)]) (λs=> [lv (Ba (Bg (Ew s.2.2)))]) (λs=>bl.length+1-s.1)
  (λs=>s.2.1<=ref.length/\((s.1<=bl.length/\BC bl ref true=(BC (bl.drop s.1) (ref.drop s.2.1) (GY s.1)).map λl=>s.2.2++l)\/(s.1=bl.length+1/\BC bl ref true=some s.2.2))) (0,0,[]) (Wk.fr zK) ⟨zS,.inl ⟨zS,by simp[GY]⟩⟩ ?_
 rintro⟨i,q,acc⟩ ⟨hq,hinv⟩;simp only at hq hinv;by_cases hle:i<=bl.length
 .have hinv:BC bl ref true=(BC (bl.drop i) (ref.drop q) (GY i)).map λl=>acc++l:=by
   rcases hinv with h|h
   .exact h.2
   .omega
  refine y5 ?_;by_cases hlb:i<bl.length
  .have hbi:=hb _ (uQ hlb);have hdl:bl.drop i=bl[i]::bl.drop (i+1):=uX hlb;refine y2 ?_;refine Dx ?_;intro K hK;simp -implicitDefEqProofs (disch:=omega) [hlb];refine zk ?_;by_cases hbad:bl[i]<0\/(ref.length:Int)-q<bl[i]
   .have hnone:BC bl ref true=none:=by
     rw[hinv,hdl,BC,zP (by simp only[xh];omega)];rfl
    rw[hnone];by_cases hneg:bl[i]<0
    .refine zg hneg ?_;exact Ny
    .have hbig:(ref.length:Int)-q<bl[i]:=zO;refine zg (an hneg hbig) ?_;exact Ny
   .obtain⟨N,hz⟩:=uS (show 0<=bl[i] by omega);rw[hz] at hbad;have hNq:q+N<=ref.length:=zO;have f1:¬((N:Int)<0):=zO;have f2:¬((ref.length:Int)-q<N):=zO;rw[hz];refine xL (an f1 f2) ?_;have hmem:∀w∈ref,0<=w/\w<16:=λw hw=>c1.1 w hw;cases hev:GY i
    .have hodd:¬(i:Int)%2=0:=by simp only[GY,decide_eq_false_iff_not] at hev;omega
     refine zb ?_;refine sV (λ_:Unit=> [(0,.ro ref.length (Ab ref)),(1,.ro bl.length (Ab bl)),(2,.ro rest.length (Ab rest)),(8,pt 0),(9,iN q),(10,iN i),(11,iN N),(12,iN 0)]) (λ_=> [lv (Ba (Bg (Ew acc)))]) (λ_=>0) (λ_=>True) () (Wk.fr zK) trivial ?_;rintro _ _;by_cases hN0:0<N
     .refine yr (an hodd hN0) ?_;refine⟨(i+1,q+N,acc),by simp only;omega,⟨by simp only;omega,?_⟩,Wk.fr zK⟩;refine .inl ⟨by simp only;omega,?_⟩;simp only;rw[hinv,hdl,BC,zM (by simp only[xh];omega),hz,vE,wr,Lm,hev];cases BC (bl.drop (i+1)) (ref.drop (q+N)) (!false)<;>simp
     .have hN00:N=0:=zO;refine yr (an hodd (an hN0 hN00)) ?_;refine⟨(i+1,q+N,acc),by simp only;omega,⟨by simp only;omega,?_⟩,Wk.fr (by simp[AA,hN00])⟩;refine .inl ⟨by simp only;omega,?_⟩;simp only;rw[hinv,hdl,BC,zM (by simp only[xh];omega),hz,vE,wr,Lm,hev];cases BC (bl.drop (i+1)) (ref.drop (q+N)) (!false)<;>simp
    .have hevn:(i:Int)%2=0:=by simp only[GY,decide_eq_true_eq] at hev;omega
     rw[show acc=acc++(ref.drop q).take 0 by simp];refine zb ?_;refine sV (λk:Nat=> [(0,.ro ref.length (Ab ref)),(1,.ro bl.length (Ab bl)),(2,.ro rest.length (Ab rest)),(8,pt 0),(9,iN q),(10,iN i),(11,iN N),(12,iN k)]) (λk=> [lv (Ba (Bg (Ew (acc++(ref.drop q).take k))))]) (λk=>N-k) (λk=>k<=N) 0 (Wk.fr zK) (vn _) ?_;intro k hk;by_cases hkN:k<N
     .refine th (an hevn hkN) ?_;have hql:q+k<ref.length:=zO;have hw:=hmem _ (uQ hql);obtain⟨w,hwe⟩:=uS hw.1;have hw16:w<16:=zO;have hti:((q:Int)+k).toNat=q+k:=zO;have hset:∀p:Int->Bool,(Ba (Bg p)).set w (.bool true)=Ba (Bg (Gv p (w:Int))):=λp=>by rw[Gq,Il _ _ hw16]
      have hto:(ref.drop q).take (k+1)=(ref.drop q).take k++[(w:Int)]:=by rw[uV];simp[hql,hwe]
      have e5:Bg (Gv (Ew (acc++(ref.drop q).take k)) (w:Int))=Bg (Ew (acc++(ref.drop q).take (k+1))):=by rw[SN,hto,uZ]
      refine zb ?_;refine BS (an hti (an hwe (an hset (an hql hw16)))) ?_;intro K hK;refine⟨zO,?_⟩;refine xM ?_;rw[e5];exact⟨k+1,zO,zO,Wk.fr zK⟩
     .refine th (an hevn hkN) ?_;have hk' :k=N:=zO;subst hk';refine y2 ?_;refine⟨(i+1,q+k,acc++(ref.drop q).take k),by simp only;omega,⟨by simp only;omega,?_⟩,Wk.fr zK⟩;refine .inl ⟨by simp only;omega,?_⟩;simp only;rw[hinv,hdl,BC,zM (by simp only[xh];omega),hz,vE,wr,Lm,hev];cases BC (bl.drop (i+1)) (ref.drop (q+k)) (!true)<;>simp
  .have hie:i=bl.length:=zO;have hdl:bl.drop i=[]:=wz zO;refine th hlb ?_;obtain⟨N,hz⟩:=uS (show 0<=(ref.length:Int)-q by omega);have hNq:q+N<=ref.length:=zO;have f1:¬((N:Int)<0):=zO;have f2:¬((N:Int)<(N:Int)):=zO;rw[hz];refine xL (an hz (an f1 f2)) ?_;have hmem:∀w∈ref,0<=w/\w<16:=λw hw=>c1.1 w hw;cases hev:GY i
   .have hodd:¬(i:Int)%2=0:=by simp only[GY,decide_eq_false_iff_not] at hev;omega
    refine zb ?_;refine sV (λ_:Unit=> [(0,.ro ref.length (Ab ref)),(1,.ro bl.length (Ab bl)),(2,.ro rest.length (Ab rest)),(8,pt 0),(9,iN q),(10,iN i),(11,iN N),(12,iN 0)]) (λ_=> [lv (Ba (Bg (Ew acc)))]) (λ_=>0) (λ_=>True) () (Wk.fr zK) trivial ?_;rintro _ _;by_cases hN0:0<N
    .refine yr (an hodd hN0) ?_;refine⟨(i+1,q+N,acc),by simp only;omega,⟨by simp only;omega,?_⟩,Wk.fr zK⟩;refine .inr ⟨by simp only;omega,?_⟩;simp only;rw[hinv,hdl,BC,hev];simp
    .have hN00:N=0:=zO;refine yr (an hodd (an hN0 hN00)) ?_;refine⟨(i+1,q+N,acc),by simp only;omega,⟨by simp only;omega,?_⟩,Wk.fr (by simp[AA,hN00])⟩;refine .inr ⟨by simp only;omega,?_⟩;simp only;rw[hinv,hdl,BC,hev];simp
   .have hevn:(i:Int)%2=0:=by simp only[GY,decide_eq_true_eq] at hev;omega
    rw[show acc=acc++(ref.drop q).take 0 by simp];refine zb ?_;refine sV (λk:Nat=> [(0,.ro ref.length (Ab ref)),(1,.ro bl.length (Ab bl)),(2,.ro rest.length (Ab rest)),(8,pt 0),(9,iN q),(10,iN i),(11,iN N),(12,iN k)]) (λk=> [lv (Ba (Bg (Ew (acc++(ref.drop q).take k))))]) (λk=>N-k) (λk=>k<=N) 0 (Wk.fr zK) (vn _) ?_;intro k hk;by_cases hkN:k<N
    .refine th (an hevn hkN) ?_;have hql:q+k<ref.length:=zO;have hw:=hmem _ (uQ hql);obtain⟨w,hwe⟩:=uS hw.1;have hw16:w<16:=zO;have hti:((q:Int)+k).toNat=q+k:=zO;have hset:∀p:Int->Bool,(Ba (Bg p)).set w (.bool true)=Ba (Bg (Gv p (w:Int))):=λp=>by rw[Gq,Il _ _ hw16]
     have hto:(ref.drop q).take (k+1)=(ref.drop q).take k++[(w:Int)]:=by rw[uV];simp[hql,hwe]
     have e5:Bg (Gv (Ew (acc++(ref.drop q).take k)) (w:Int))=Bg (Ew (acc++(ref.drop q).take (k+1))):=by rw[SN,hto,uZ]
     refine zb ?_;refine BS (an hti (an hwe (an hset (an hql hw16)))) ?_;intro K hK;refine⟨zO,?_⟩;refine xM ?_;rw[e5];exact⟨k+1,zO,zO,Wk.fr zK⟩
    .refine th (an hevn hkN) ?_;have hk' :k=N:=zO;subst hk';refine y2 ?_;refine⟨(i+1,q+k,acc++(ref.drop q).take k),by simp only;omega,⟨by simp only;omega,?_⟩,Wk.fr zK⟩;refine .inr ⟨by simp only;omega,?_⟩;simp only;rw[hinv,hdl,BC,hev];simp;rw[uM Ao]
 .have hil:i=bl.length+1:=by
   rcases hinv with h|h<;>omega
  have hcg:BC bl ref true=some acc:=by
   rcases hinv with h|h
   .omega
   .exact h.2
  rw[hcg];simp only;have hgt:¬(i:Int)<=(bl.length:Int):=zO;refine xL hgt ?_;have e4:Bg (Ew acc)=Bg (Ev (Ew acc) (rest.take 0)):=EJ λj _ _=>by simp[Ev]
  rw[e4];refine zb ?_;refine sV (λk:Nat=> [(0,.ro ref.length (Ab ref)),(1,.ro bl.length (Ab bl)),(2,.ro rest.length (Ab rest)),(8,pt 0),(13,iN k)]) (λk=> [lv (Ba (Bg (Ev (Ew acc) (rest.take k))))]) (λk=>rest.length-k) (λk=>k<=rest.length) 0 (Wk.fr zK) (vn _) ?_;intro k hk;refine zs ?_;refine zc ?_ ?_<;>intro h
  .refine W.skip ?_;have hkl:k<rest.length:=zO;have hw:=c2.1 _ (uQ hkl);obtain⟨w,hwe⟩:=uS hw.1;have hw16:w<16:=zO;have hset:∀p:Int->Bool,(Ba (Bg p)).set w (.bool true)=Ba (Bg (Gv p (w:Int))):=λp=>by rw[Gq,Il _ _ hw16]
   have hto2:rest.take (k+1)=rest.take k++[(w:Int)]:=by rw[uV];simp[hkl,hwe]
   have e5:Bg (Gv (Ev (Ew acc) (rest.take k)) (w:Int))=Bg (Ev (Ew acc) (rest.take (k+1))):=by rw[YN,hto2]
   refine zb ?_;refine zg (an hkl (an hwe (an hset hw16))) ?_;refine zs ?_;rw[e5];exact⟨k+1,zO,zO,Wk.fr zK⟩
  .refine s7 ?_;have hk' :k=rest.length:=zO;subst hk';rw[uW];generalize Ev (Ew acc) rest=pr;refine xV ?_;refine sV (λk:Nat=> [(0,.ro ref.length (Ab ref)),(1,.ro bl.length (Ab bl)),(2,.ro rest.length (Ab rest)),(8,pt 0),(14,.tok 1 (CS pr k).length 1 0 (CS pr k).length),(15,iN k)]) (λk=> [lv (Ba (Bg pr)),.live (CS pr k).length (Ab (CS pr k))]) (λk=>16-k) (λk=>k<=16) 0 ((Wk.nil (t:=14) (s:=1) zS).trans (Wk.fr (by simp[AA,CS]))) zS ?_;intro k hk;have htl:=NF pr k;refine zs ?_;refine zc ?_ ?_<;>intro h
   .refine W.skip ?_;have hlt:k<16:=zO;have hget:(Bg pr)[k]?=some (pr (k:Int)):=Ms _ _ hlt;have hsu:=Mu pr k;refine zb ?_;cases hq:pr (k:Int)
    .rw[hq] at hget hsu;refine xL (an hget hlt) ?_;refine⟨k+1,zO,zO,?_⟩;rw[hsu];simp only[vt,if_false,vM];exact Wk.fr zK
    .rw[hq] at hget hsu;refine xP (an hget hlt) ?_;refine z1 ?_;intro K hK;refine⟨zO,zO,?_⟩;refine xM ?_;refine⟨k+1,zO,zO,?_⟩;rw[hsu];simp only[if_true,u0,wR];refine sU (k:=2) zK ?_ zS zS zS zS;simp[Ab]
   .refine s7 ?_;have hk' :k=16:=zO;subst hk';obtain⟨L,hL⟩:∃L,L=CS pr 16:=zX;rw[<-hL] at htl |-;have spC:=SM ref L zO zO;have hbl:(sS ref L).length<4611686018427387904:=by have:=W7 ref L;omega
    have hol:(Bz ref L).length<=L.length:=List.length_filter_le _ _;obtain⟨X,hX⟩:∃X,X=sS ref L:=zX;obtain⟨Y,hY⟩:∃Y,Y=Bz ref L:=zX;rw[<-hX,<-hY] at spC;rw[<-hX] at hbl;rw[<-hY] at hol;rw[<-hX,<-hY];refine AL spC ?_;have sE1:=EM X bl hbl;have sE2:=EM Y rest zO;by_cases d1:X=bl
    .rw[zT d1] at sE1;refine Hm sE1 sE2 ?_;refine zr ?_;simp[d1]
    .rw[zV d1] at sE1;refine yj sE1 ?_;simp[d1]
theorem NG {bs:List Bool} {p:Nat} {v:Int} {r:List Int×Nat} (hv:-100000<=v/\v<=100000) (h:Cw bs p v=some r):AU r.1/\r.1.length<=16/\p<r.2/\r.2<=bs.length:=by
 rw[H6] at h;exact K5 hv h
theorem YO (bs:List Bool) (p:Nat) (v:Int) (ref:List Int) (hb:bs.length<1000000000) (hp:p<=bs.length) (hv:0<=v/\v<=16) (hr:ref.length<1000000):Ac pg 117 [.ro bs.length (Bm bs),iN p,iN v,.ro ref.length (Ab ref)] [] (λr _=>r=El (Fx bs p v ref)):=by
 refine zE (fn:=Tryz.f117) [.tmp 8,.tmp 9,.tmp 10] ?_;rw[I3];refine x8 ?_;intro K hK;have sp:=GG bs p hb hp;cases hg:Bi bs p with
 |none=>
  simp only[hg,Hb] at sp;refine yc sp ?_;simp[Fx,hg,El]
 |some x=>
  simp only[hg,Hb] at sp;obtain⟨hx1,hx2,hx3,hx4,_⟩:=Bl hg;refine xN sp ?_;by_cases hle:x.1<=17;rotate_left
  .have h1:¬(x.1:Int)<1:=zO;have h2:(16:Int)<(x.1:Int)-1:=zO;refine xS (an h1 h2) ?_;simp only[Fx,hg];rw[zM hle];simp[El]
  have h1:¬(x.1:Int)<1:=zO;have h2:¬(16:Int)<(x.1:Int)-1:=zO;refine yr (an h1 h2) ?_;refine zb ?_;refine sV (λs:Nat×List Int×Nat=> [(0,.ro bs.length (Bm bs)),(1,iN s.2.2),(2,iN v),(3,.ro ref.length (Ab ref)),(11,iN x.1),(12,.tok 0 s.1 1 0 s.1),(13,iN s.1)]) (λs=> [.live s.1 (Ab s.2.1)]) (λs=>x.1-1-s.1)
   (λs=>s.1<=x.1-1/\s.2.1.length=s.1/\s.2.2<=bs.length/\(∀q∈s.2.1,-1000000000000<=q/\q<=1000000000000)/\Co bs (x.1-1) true x.2=(Co bs (x.1-1-s.1) (decide (s.1=0)) s.2.2).map λr=>(s.2.1++r.1,r.2)) (0,[],x.2) ((Wk.nil (t:=12) (s:=1) zS).trans (Wk.fr zK)) ⟨zO,rfl,hx4,zS,zS⟩ ?_
  rintro⟨k,acc,q⟩ ⟨hk,hacc,hq,hbnd,hinv⟩;simp only at hk hacc hq hinv hbnd;refine zs ?_;refine zc ?_ ?_<;>intro h
  .refine W.skip ?_;obtain⟨m,hm⟩:∃m,x.1-1-k=m+1:=⟨x.1-1-k-1,zO⟩;have hm' :x.1-1-(k+1)=m:=zO;rw[hm] at hinv;refine zb ?_;have sp2:=GG bs q hb hq;refine z0 ?_;intro K hK;cases hg2:Bi bs q with
   |none=>
    simp only[hg2,Hb] at sp2;refine yc sp2 ?_;simp only[Co,hg2] at hinv;simp[Fx,hg,hinv,El]
   |some y=>
    simp only[hg2,Hb] at sp2;obtain⟨hy1,hy2,hy3,hy4,_⟩:=Bl hg2;refine sW sp2 (by simp) (by simp) ?_;have h3:¬(y.1:Int)<1:=zO;simp only[Co,hg2] at hinv;refine Am ?_;by_cases hy17:y.1<=17;rotate_left
    .have h4:(17:Int)<(y.1:Int):=zO;refine xS (an h3 h4) ?_;rw[zM hy17] at hinv;simp[Fx,hg,hinv,El]
    have h4:¬(17:Int)<(y.1:Int):=zO;rw[zP hy17] at hinv;refine xL (an h3 h4) ?_;by_cases h0:k=0
    .subst h0;have ha:acc=[]:=by simpa using hacc
     subst ha;simp only[if_true,decide_true] at hinv;refine y3 ?_;refine x6 ?_;refine⟨(1,[(y.1:Int)-1],y.2),by simp only;omega,⟨by simp only;omega,zS,by simp only;omega,Ao,?_⟩,sU (k:=1) zK ?_ zS zS zS zS⟩
     .rw[hinv,hm'];simp;cases Co bs m false y.2<;>simp
     .simp[Ab]
    .simp only[h0,if_false,decide_false,vt] at hinv;refine th h0 ?_;refine z1 ?_;intro K hK;refine⟨zO,zO,?_⟩;refine xM ?_;refine⟨(k+1,acc++[(y.1:Int)],y.2),by simp only;omega,⟨by simp only;omega,by simp[hacc],by simp only;omega,?_,?_⟩,sU (k:=1) zK ?_ zS zS zS zS⟩
     .intro w hw;simp only[vd,wA] at hw;rcases hw with hw|rfl
      .exact hbnd w hw
      .omega
     .rw[hinv,hm'];simp;cases Co bs m false y.2<;>simp
     .simp[Ab]
  .refine s7 ?_;have hk' :x.1-1-k=0:=zO;rw[hk'] at hinv;simp only[Co,vI,vM] at hinv;subst hacc;have spG:=OZ bs q v hb hq hv;have htr:Fx bs p v ref=match Cw bs q v with
    |none=>none
    |some r=>match FP ref acc r.1 with
     |some l=>some (l,r.2)
     |none=>none:=by
    unfold Fx;rw[hg];simp only;rw[zP hle,hinv];rfl
   rw[htr];clear htr;cases hgp:Cw bs q v with
   |none=>
    rw[hgp] at spG;simp only[El] at spG;refine AL spG ?_;refine Ck ?_;rfl
   |some g=>
    rw[hgp] at spG;simp only[El] at spG;obtain⟨g1,g2,g3,g4⟩:=NG zO hgp;refine yq spG ?_;have spJ:=SO ref acc g.1 hr zO zO hbnd;simp only;rw[eR];obtain⟨l,hl⟩:∃l,l=(Kx ref acc g.1).1:=zX;rw[<-hl] at spJ |-;cases hj:(Kx ref acc g.1).2
    .rw[hj] at spJ;refine AL spJ ?_;refine Ck ?_;rfl
    .rw[hj] at spJ;refine AL spJ ?_;refine Ue ?_;rfl
def EX (b k:Int):An:=⟨k,b,[],[BU,BU,BU]⟩
theorem Uv (g:Gr) (h1:g.out.length<1000000000) (h2:Br g.out<4611686018427387904):Ac pg 64 [.agg (A1 false g)] [] (λr _=>r=iN (Br g.out)):=by
 refine zE (fn:=Tryz.f64) [.tmp 2] ?_;rw[AC];refine AX ?_;refine xV ?_;refine sV (λk:Nat=> [(1,pt 0),(3,iN (Br (g.out.take k))),(4,iN k)]) (λ_=> [lv (A1 false g)]) (λk=>g.out.length-k) (λk=>k<=g.out.length) 0 (Wk.fr (by simp[AA,Br])) zS ?_;intro k hk;refine zs ?_;refine zc ?_ ?_<;>intro h
 .refine W.skip ?_;have hlt:k<g.out.length:=zO;have hs:=IK hlt;have ht:=IJ g.out (k+1);refine zb ?_;refine Dx ?_;intro K hK;simp -implicitDefEqProofs (disch:=omega) [hlt];refine xM ?_;refine⟨k+1,zO,zO,Wk.fr (by simp[AA,hs])⟩
 .refine s7 ?_;have:k=g.out.length:=zO;subst this;exact DM
theorem Na (g:Gr) (hg:G5 g):Ac pg 27 [.agg (A1 false g)] [] (λr _=>r= .bool (decide (AP g))):=by
 obtain⟨h1,h2⟩:=hg;have spN:=FS g.n 16;refine zE (fn:=Tryz.f27) [.tmp 2] ?_;rw[AC];refine AX ?_;by_cases c1:0<=g.n/\g.n<=16;rotate_left
 .rw[zV c1] at spN;refine AL spN ?_;refine AJ ?_;exact λh=>c1 ⟨h.1,h.2.1⟩
 rw[zT c1] at spN;by_cases c2:(g.out.length:Int)=g.n;rotate_left
 .refine z0 ?_;intro K hK;refine sW spN (by simp) (by simp) ?_;refine x7 c2 ?_;exact λh=>c2 h.2.2.1
 refine z0 ?_;intro K hK;refine sW spN (by simp) (by simp) ?_;refine xK c2 ?_;refine xZ ?_;refine sV (λk:Nat=> [(1,pt 0),(3,iN k)]) (λ_=> [lv (A1 false g)]) (λk=>g.out.length-k) (λk=>k<=g.out.length/\∀l∈g.out.take k,Ho g.n l) 0 (Wk.fr zK) zS ?_;rintro k ⟨hk,hinv⟩;by_cases hlt:k<g.out.length
 .have hlt2:(k:Int)<g.n:=zO;refine th hlt2 ?_;have hl2:=h2 _ (uQ hlt);have hmem:=uQ hlt;refine zb ?_;have hmi:=LC hlt;obtain⟨l,hl⟩:∃l,l=g.out[k]:=zX;rw[<-hl] at hl2 hmem hmi;refine zw ?_;refine s5 (λb:Bool=> [(1,pt 0),(3,iN k),(56,.bool b)]) (λ_=> [lv (A1 false g)]) (λb=>b=false↔Ho g.n l) ?_ ?_
  .by_cases hm:AU l
   .by_cases h0:0<l.length
    .have hla:=Qp (n:=g.n) hm h0;have h0' :(0:Int)<(l.length:Int):=zO;have spM:=Ik l zO;rw[zT hm] at spM;refine E1 ?_;intro K hK;simp -implicitDefEqProofs (disch:=omega) [hlt,<-hl];refine s6 spM (by simp) (by simp) ?_;simp only[Et];simp -implicitDefEqProofs (disch:=omega) [hlt,<-hl,h0];refine⟨zO,?_⟩;refine zk ?_;exact⟨decide (g.n<=l[l.length-1]),by rw[hla];simp,Wk.fr zK⟩
    .have hl0:l=[]:=vr zO;have spM:=Ik l zO;rw[zT hm] at spM;refine E1 ?_;intro K hK;simp -implicitDefEqProofs (disch:=omega) [hlt,<-hl];refine s6 spM (by simp) (by simp) ?_;simp only[Et];simp -implicitDefEqProofs (disch:=omega) [hlt,<-hl,h0];refine zk ?_;exact⟨false,by rw[hl0];simp[Ho,AU],Wk.fr zK⟩
   .have spM:=Ik l zO;rw[zV hm] at spM;refine E1 ?_;intro K hK;simp -implicitDefEqProofs (disch:=omega) [hlt,<-hl];refine xW spM ?_;exact⟨true,by simp[Ho,hm],Wk.fr zK⟩
  .intro b hb;refine zc ?_ ?_<;>intro h
   .refine Bd ?_;intro h';have h3:=h'.2.2.2.1 l hmem;have h4:=hb.2 h3;have h5:b=true:=by assumption
    rw[h4] at h5;cases h5
   .refine y2 ?_;refine⟨k+1,zO,⟨zO,λx hx=>?_⟩,Wk.fr zK⟩;rcases(hmi x).1 hx with h6|h6
    .exact hinv x h6
    .rw[h6];exact hb.1 (by assumption)
 .have:k=g.out.length:=zO;subst this;rw[uW] at hinv;have hge:¬(g.out.length:Int)<g.n:=zO;refine th hge ?_;refine yj (Uv g h1 (by have:=Mi hinv;omega)) ?_;exact⟨λh=>⟨c1.1,c1.2,c2,hinv,zO⟩,λh=>by have:=h.2.2.2.2;omega⟩
theorem W8 (n:Nat) (hn:n<1000000):Ac pg 99 [iN n] [] (λr _=>r= .agg (A1 true ⟨n,uP n []⟩)):=by
 refine zE (fn:=Tryz.f99) [.cell 2 34] ?_;rw[AC];refine AX ?_;refine AX ?_;refine zr ?_;simp[N0]
theorem SP (g:Gr) (v:Nat) (h:v<g.out.length) (h2:(v:Int)<g.n):Ac pg 118 [.agg (A1 false g),iN v] [] (λr _=>r= .ro g.out[v].length (Ab g.out[v])):=by
 refine zE (fn:=Tryz.f118) [.tmp 4] ?_;rw[Aq];refine AX ?_;refine xP h2 ?_;refine Dx ?_;intro K hK;simp -implicitDefEqProofs (disch:=omega) [h];refine zk ?_;exact zR
theorem SQ (g:Gr) (v:Nat) (h2:g.n<=(v:Int)):Ac pg 118 [.agg (A1 false g),iN v] [] (λr _=>r= .own 1 0 []):=by
 have h3:¬(v:Int)<g.n:=zO;refine zE (fn:=Tryz.f118) [.tmp 4] ?_;rw[Aq];refine AX ?_;refine zg h3 ?_;exact Kp
theorem Nb (l:List Obj) (id:Int) (hl:l.length<1000000000):Ac pg 81 [.ro l.length (Aa Ar l),iN id] [] (λr _=>r=iN (AN (λo=>decide (o.id=id)) l)):=by
 refine zE (fn:=Tryz.f81) [.tmp 4] ?_;rw[Aq];refine xV ?_;refine sV (λk:Nat=> [(0,.ro l.length (Aa Ar l)),(1,iN id),(5,iN k)]) (λ_=> []) (λk=>l.length-k) (λk=>k<=l.length/\∀i (h:i<l.length),i<k->l[i].id≠id) 0 (Wk.fr zK) zS ?_;rintro k ⟨hk,ht⟩;refine zs ?_;refine zc ?_ ?_<;>intro h
 .refine W.skip ?_;have hlt:k<l.length:=zO;refine zb ?_;refine Dx ?_;intro K hK;simp -implicitDefEqProofs (disch:=omega) [hlt];refine zk ?_;refine zc ?_ ?_<;>intro h
  .refine Bd ?_;exact(DY hlt (by simp[h]) λi hi hik=>by simpa using ht i hi hik).symm
  .refine y2 ?_;refine⟨k+1,zO,⟨zO,?_⟩,Wk.fr zK⟩;intro i hi hik;by_cases e:i=k
   .subst e;exact λe=>h e
   .exact ht i hi zO
 .refine AJ ?_;exact(Fa λi hi=>by simpa using ht i hi zO).symm
def Hq (o:Option Gr):AV:=match o with|some g=> .tup [.agg (A1 true g),.bool true] |none=> .tup [.agg (A1 true Az),.bool false]
theorem TA (bs:List Bool) (hb:bs.length<1000000000):Ac pg 86 [.ro bs.length (Bm bs)] [] (λr _=>r=Hq (Gm bs)):=by
 refine zE (fn:=Tryz.f86) [.cell 2 34,.tmp 3] ?_;rw[AC];refine yg ?_;intro K hK;have sp:=GG bs 0 hb (vn _);have hbad0:∀c:Prop,c->c:=λ_ h=>h;cases hg:Bi bs 0 with
 |none=>
  simp only[hg,Hb] at sp;refine yd sp ?_;refine W.weak (sX 0 1) ?_;refine zr ?_;simp[Gm,DJ,hg,Hq,Az]
 |some x=>
  simp only[hg,Hb] at sp;obtain⟨hx1,hx2,hx3,hx4,_⟩:=Bl hg;refine xN sp ?_;by_cases hle:x.1<=17;rotate_left
  .have h1:¬(x.1:Int)<1:=zO;have h2:(16:Int)<(x.1:Int)-1:=zO;refine th (an h1 h2) ?_;refine W.weak (sX 0 1) ?_;refine zr ?_;simp only[Gm,DJ,hg];rw[zM hle];simp[Hq,Az]
  have h1:¬(x.1:Int)<1:=zO;have h2:¬(16:Int)<(x.1:Int)-1:=zO;obtain⟨n,hn⟩:∃n,x.1=n+1:=⟨x.1-1,zO⟩;have hxn:(x.1:Int)-1=(n:Int):=zO;have hgr:Gm bs=match BD (Cw bs) n 0 x.2 with
   |none=>none
   |some r=>if r.2=bs.length/\AP ⟨(n:Int),r.1⟩ then some ⟨(n:Int),r.1⟩ else none:=by
   simp only[Gm,DJ,hg];rw[zP hle,hn,xa];simp only[Int.natCast_add,Int.natCast_one,Int.add_sub_cancel];rfl
  rw[hgr];clear hgr;refine th (an h1 h2) ?_;refine z1 ?_;intro K hK;refine sW (W8 n zO) (by simp[hxn]) zS ?_;refine yw ?_;refine sV (λs:Nat×List (List Int)×Nat=> [(0,.ro bs.length (Bm bs)),(2,pt 0),(6,pt 1),(5,iN s.2.2),(7,iN s.1)]) (λs=> [lv [iN 0,.own 1 0 []],lv [iN n,.tok 2 0 1 0 n],lv (Ak true (s.2.1++uP (n-s.1) []))]) (λs=>n-s.1)
   (λs=>s.1<=n/\s.2.1.length=s.1/\s.2.2<=bs.length/\(∀l∈s.2.1,AU l)/\BD (Cw bs) n 0 x.2=(BD (Cw bs) (n-s.1) s.1 s.2.2).map λr=>(s.2.1++r.1,r.2)) (0,[],x.2) (Wk.fr zK) ⟨zS,rfl,hx4,zS,zS⟩ ?_
  rintro⟨k,acc,q⟩ ⟨hk,hacc,hq,hml,hinv⟩;simp only at hk hacc hq hml hinv;refine zs ?_;refine zc ?_ ?_<;>intro h
  .refine W.skip ?_;have hkn:k<n:=zO;obtain⟨m,hm⟩:∃m,n-k=m+1:=⟨n-k-1,zO⟩;have hm' :n-(k+1)=m:=zO;rw[hm] at hinv;refine zb ?_;have spR:=OZ bs q k hb hq zO;cases hr:(Cw bs) q k with
   |none=>
    rw[hr] at spR;simp only[El] at spR;have hnone:BD (Cw bs) n 0 x.2=none:=by rw[hinv,BD,hr];rfl
    rw[hnone];refine yq spR ?_;refine W.weak (sX 0 1) ?_;refine zr ?_;simp[Hq,Az]
   |some g=>
    rw[hr] at spR;simp only[El] at spR;obtain⟨g1,g2,g3,g4⟩:=NG zO hr;simp only[BD,hr] at hinv;refine yq spR ?_;rw[hm];have hkl:k<n:=zO;have hll:(Ak true (acc++uP (m+1) [])).length=n:=by simp[hacc];omega
    refine zg hkl ?_;refine zs ?_;refine⟨(k+1,acc++[g.1],g.2),by simp only;omega,⟨by simp only;omega,by simp[hacc],g4,?_,?_⟩,?_⟩
    .intro w hw;simp only[vd,wA] at hw;rcases hw with hw|rfl
     .exact hml w hw
     .exact g1
    .rw[hinv,hm'];simp only;have:(k:Int)+1=((k+1:Nat):Int):=zO;rw[this];cases BD (Cw bs) m ((k+1:Nat):Int) g.2<;>simp
    .subst hacc;refine Wk.trans (sY (B:=2) (v:=0) (j:=acc.length) (T:=3) (u:=0) (s:=1) (off:=0) (n:=g.1.length) (xs:=Ab g.1) zF zS zF zS zS zS) ?_;refine sU (k:=3) zK ?_ zS zS zS zS;simp only[hm'];simp[vO,Ak]
  .refine s7 ?_;have hkn:k=n:=zO;subst hkn;rw[wp] at hinv |-;simp only[BD,vI,vM] at hinv;rw[hinv];simp only[List.replicate_zero,vM];subst hacc;have hGi:G5 ⟨(acc.length:Int),acc⟩:=⟨by simp only;omega,λl hl=>by have:=Bw (hml l hl);omega⟩;have spG:=Na ⟨(acc.length:Int),acc⟩ hGi;by_cases hqb:q=bs.length;rotate_left
   .have hqb' :¬(q:Int)=(bs.length:Int):=zO;refine th hqb' ?_;refine W.weak (sX 0 1) ?_;refine zr ?_;rw[zM (λh=>hqb h.1)];simp[Hq,Az]
   subst hqb;by_cases hmg:AP ⟨(acc.length:Int),acc⟩
   .rw[zT hmg] at spG;refine AL spG ?_;refine Ck ?_;simp[hmg,Hq]
   .rw[zV hmg] at spG;refine ym spG ?_;refine W.weak (sX 0 1) ?_;refine zr ?_;simp[hmg,Hq,Az]
theorem QC {a:Gr} {bs:List Bool} {p:Nat} {v:Int} {r:List Int×Nat} (ha:AP a) (hv:-100000<=v/\v<=100000) (h:Fx bs p v (AF a v)=some r):AU r.1/\r.1.length<=16/\r.2<=r.2/\r.2<=bs.length:=by
 rw[QB _ _ _ _ (JP ha v)] at h;have:=OH hv h;exact⟨this.1,this.2.1,vg _,this.2.2⟩
theorem TB (a:Gr) (bs:List Bool) (hb:bs.length<1000000000) (ha:AP a):Ac pg 87 [.agg (A1 false a),.ro bs.length (Bm bs)] [] (λr _=>r=Hq (JF a bs)):=by
 refine zE (fn:=Tryz.f87) [.cell 4 34,.tmp 5] ?_;rw[Aq];obtain⟨rd,hrdd⟩:∃rd:Rd,rd=λp v=>Fx bs p v (AF a v):=zX;have hrd:∀q v,rd q v=Fx bs q v (AF a v):=λq v=>by rw[hrdd]
 have htd:JF a bs=DJ bs rd:=by rw[hrdd];rfl
 rw[htd];clear htd hrdd;refine Cx ?_;refine z0 ?_;intro K hK;have sp:=GG bs 0 hb (vn _);have hbad0:∀c:Prop,c->c:=λ_ h=>h;cases hg:Bi bs 0 with
 |none=>
  simp only[hg,Hb] at sp;refine yd sp ?_;refine W.weak (sX 1 1) ?_;refine zr ?_;simp[DJ,DJ,hg,Hq,Az]
 |some x=>
  simp only[hg,Hb] at sp;obtain⟨hx1,hx2,hx3,hx4,_⟩:=Bl hg;refine xN sp ?_;by_cases hle:x.1<=17;rotate_left
  .have h1:¬(x.1:Int)<1:=zO;have h2:(16:Int)<(x.1:Int)-1:=zO;refine th (an h1 h2) ?_;refine W.weak (sX 1 1) ?_;refine zr ?_;simp only[DJ,DJ,hg];rw[zM hle];simp[Hq,Az]
  have h1:¬(x.1:Int)<1:=zO;have h2:¬(16:Int)<(x.1:Int)-1:=zO;obtain⟨n,hn⟩:∃n,x.1=n+1:=⟨x.1-1,zO⟩;have hxn:(x.1:Int)-1=(n:Int):=zO;have hgr:DJ bs rd=match BD rd n 0 x.2 with
   |none=>none
   |some r=>if r.2=bs.length/\AP ⟨(n:Int),r.1⟩ then some ⟨(n:Int),r.1⟩ else none:=by
   simp only[DJ,DJ,hg];rw[zP hle,hn,xa];simp only[Int.natCast_add,Int.natCast_one,Int.add_sub_cancel];rfl
  rw[hgr];clear hgr;refine th (an h1 h2) ?_;refine z1 ?_;intro K hK;refine sW (W8 n zO) (by simp[hxn]) zS ?_;refine yw ?_;refine sV (λs:Nat×List (List Int)×Nat=> [(1,.ro bs.length (Bm bs)),(2,pt 0),(4,pt 1),(8,pt 2),(7,iN s.2.2),(9,iN s.1)]) (λs=> [lv (A1 false a),lv [iN 0,.own 1 0 []],lv [iN n,.tok 3 0 1 0 n],lv (Ak true (s.2.1++uP (n-s.1) []))]) (λs=>n-s.1)
   (λs=>s.1<=n/\s.2.1.length=s.1/\s.2.2<=bs.length/\(∀l∈s.2.1,AU l)/\BD rd n 0 x.2=(BD rd (n-s.1) s.1 s.2.2).map λr=>(s.2.1++r.1,r.2)) (0,[],x.2) (Wk.fr zK) ⟨zS,rfl,hx4,zS,zS⟩ ?_
  rintro⟨k,acc,q⟩ ⟨hk,hacc,hq,hml,hinv⟩;simp only at hk hacc hq hml hinv;refine zs ?_;refine zc ?_ ?_<;>intro h
  .refine W.skip ?_;have hkn:k<n:=zO;obtain⟨m,hm⟩:∃m,n-k=m+1:=⟨n-k-1,zO⟩;have hm' :n-(k+1)=m:=zO;rw[hm] at hinv;refine zb ?_;have hba:(AF a k).length<1000000:=by have:=Dc ha (k:Int);omega
   have spR:=YO bs q k (AF a k) hb hq zO hba;rw[<-hrd] at spR;have spB:(∃_:k<a.out.length,Ac pg 118 [.agg (A1 false a),iN k] [] (λr _=>r= .ro (AF a k).length (Ab (AF a k))))\/(AF a k=[]/\Ac pg 118 [.agg (A1 false a),iN k] [] (λr _=>r= .own 1 0 [])):=by
    have han:=ha.2.2.1;by_cases h:k<a.out.length
    .left;rw[Ce h];exact⟨h,SP a k h zO⟩
    .right;exact⟨by simp[AF,List.getD_eq_getElem?_getD,List.getElem?_eq_none (show a.out.length<=k by omega)],SQ a k zO⟩
   rcases spB with⟨hk3,spB⟩ | ⟨hbe,spB⟩
   .cases hr:rd q k with
    |none=>
     rw[hr] at spR;simp only[El] at spR;have hnone:BD rd n 0 x.2=none:=by rw[hinv,BD,hr];rfl
     rw[hnone];refine z0 ?_;intro K hK;refine tg spB zS ?_;refine zx ?_;refine yd spR ?_;refine W.weak (sX 1 1) ?_;refine zr ?_;simp[Hq,Az]
    |some g=>
     rw[hr] at spR;simp only[El] at spR;obtain⟨g1,g2,g3,g4⟩:=QC ha (show-100000<=(k:Int)/\(k:Int)<=100000 by omega) (hrd q k ▸ hr);simp only[BD,hr] at hinv;refine z0 ?_;intro K hK;refine tg spB zS ?_;refine zx ?_;refine yd spR ?_;rw[hm];have hkl:k<n:=zO;have hll:(Ak true (acc++uP (m+1) [])).length=n:=by simp[hacc];omega
     refine zg hkl ?_;refine zs ?_;refine⟨(k+1,acc++[g.1],g.2),by simp only;omega,⟨by simp only;omega,by simp[hacc],g4,?_,?_⟩,?_⟩
     .intro w hw;simp only[vd,wA] at hw;rcases hw with hw|rfl
      .exact hml w hw
      .exact g1
     .rw[hinv,hm'];simp only;have:(k:Int)+1=((k+1:Nat):Int):=zO;rw[this];cases BD rd m ((k+1:Nat):Int) g.2<;>simp
     .subst hacc;refine Wk.trans (sY (B:=3) (v:=0) (j:=acc.length) (T:=4) (u:=0) (s:=1) (off:=0) (n:=g.1.length) (xs:=Ab g.1) zF zS zF zS zS zS) ?_;refine sU (k:=4) zK ?_ zS zS zS zS;simp only[hm'];simp[vO,Ak]
   .cases hr:rd q k with
    |none=>
     rw[hr] at spR;simp only[El] at spR;have hnone:BD rd n 0 x.2=none:=by rw[hinv,BD,hr];rfl
     rw[hnone];refine z0 ?_;intro K hK;refine zj spB ?_;refine sW spR (by simp[hbe]) zS ?_;refine yu ?_;refine W.weak (sX 1 1) ?_;refine zr ?_;simp[Hq,Az]
    |some g=>
     rw[hr] at spR;simp only[El] at spR;obtain⟨g1,g2,g3,g4⟩:=QC ha (show-100000<=(k:Int)/\(k:Int)<=100000 by omega) (hrd q k ▸ hr);simp only[BD,hr] at hinv;refine z0 ?_;intro K hK;refine zj spB ?_;refine sW spR (by simp[hbe]) zS ?_;refine yu ?_;rw[hm];have hkl:k<n:=zO;have hll:(Ak true (acc++uP (m+1) [])).length=n:=by simp[hacc];omega
     refine zg hkl ?_;refine zs ?_;refine⟨(k+1,acc++[g.1],g.2),by simp only;omega,⟨by simp only;omega,by simp[hacc],g4,?_,?_⟩,?_⟩
     .intro w hw;simp only[vd,wA] at hw;rcases hw with hw|rfl
      .exact hml w hw
      .exact g1
     .rw[hinv,hm'];simp only;have:(k:Int)+1=((k+1:Nat):Int):=zO;rw[this];cases BD rd m ((k+1:Nat):Int) g.2<;>simp
     .subst hacc;refine Wk.trans (sY (B:=3) (v:=0) (j:=acc.length) (T:=5) (u:=0) (s:=1) (off:=0) (n:=g.1.length) (xs:=Ab g.1) zF zS zF zS zS zS) ?_;refine sU (k:=4) zK ?_ zS zS zS zS;simp only[hm'];simp[vO,Ak]
  .refine s7 ?_;have hkn:k=n:=zO;subst hkn;rw[wp] at hinv |-;simp only[BD,vI,vM] at hinv;rw[hinv];simp only[List.replicate_zero,vM];subst hacc;have hGi:G5 ⟨(acc.length:Int),acc⟩:=⟨by simp only;omega,λl hl=>by have:=Bw (hml l hl);omega⟩;have spG:=Na ⟨(acc.length:Int),acc⟩ hGi;by_cases hqb:q=bs.length;rotate_left
   .have hqb' :¬(q:Int)=(bs.length:Int):=zO;refine th hqb' ?_;refine W.weak (sX 1 1) ?_;refine zr ?_;rw[zM (λh=>hqb h.1)];simp[Hq,Az]
   subst hqb;by_cases hmg:AP ⟨(acc.length:Int),acc⟩
   .rw[zT hmg] at spG;refine AL spG ?_;refine Ck ?_;simp[hmg,Hq]
   .rw[zV hmg] at spG;refine ym spG ?_;refine W.weak (sX 1 1) ?_;refine zr ?_;simp[hmg,Hq,Az]
theorem eS (l:List Obj) (id:Int):(0<=AN (λo=>decide (o.id=id)) l)↔∃q∈l,q.id=id:=by
 rw[C9];simp
theorem W9 (l:List Obj) (hl:DZ l):Ac pg 43 [.ro l.length (Aa Ar l)] [] (λr _=>r= .bool (decide (BJ l))):=by
 have hl1:=hl.1;refine zE (fn:=Tryz.f43) [.tmp 2] ?_;rw[AC];refine zs ?_;by_cases c0:l.length<=12;rotate_left
 .have c0' :(12:Int)<(l.length:Int):=zO;refine xS c0' ?_;exact λh=>c0 h.1
 have c0' :¬(12:Int)<(l.length:Int):=zO;have hmi:=K7 l;refine xL c0' ?_;refine zb ?_;refine sV (λk:Nat=> [(0,.ro l.length (Aa Ar l)),(3,iN k)]) (λ_=> []) (λk=>l.length-k) (λk=>k<=l.length/\∀i (h:i<l.length),i<k->OL l l[i]/\(0<i->l[i-1].id<l[i].id)) 0 (Wk.fr zK) ⟨zS,λi h h2=>zO⟩ ?_;rintro k ⟨hk,hok⟩;refine zs ?_;refine zc ?_ ?_<;>intro h
 .refine W.skip ?_;have hlt:k<l.length:=zO;refine x9 ?_;intro K hK;simp -implicitDefEqProofs (disch:=omega) [hlt];refine zk ?_;have hsz:=hl.2 _ (uQ hlt);have spB:=Dn l[k].id 1 1048576;have spA:=Nb l l[k].base zO;have hA:=eS l l[k].base;obtain⟨z,hz⟩:∃z,z=AN (λo=>decide (o.id=l[k].base)) l:=zX;rw[<-hz] at spA hA;have spD:=bE l[k].data hsz;refine zw ?_;refine s5 (λb:Bool=> [(0,.ro l.length (Aa Ar l)),(3,iN k),(61,.bool b)]) (λ_=> []) (λb=>b=false↔OL l l[k]/\(0<k->l[k-1].id<l[k].id)) ?_ ?_
  .by_cases c1:1<=l[k].id/\l[k].id<=1048576;rotate_left
   .rw[zV c1] at spB;refine Ud spB ?_;exact⟨true,by simp only[we,false_iff];exact λh=>c1 ⟨h.1.1,h.1.2.1⟩,sU (k:=0) zK zS zS zS zS zS⟩
   rw[zT c1] at spB;by_cases c2:0<k
   .by_cases c3:l[k].id<=l[k-1].id
    .refine CN ?_;intro K hK;refine s6 spB (by simp) (by simp) ?_;refine AO (an c2 (an c3 hlt)) ?_;refine⟨zO,?_⟩;refine zk ?_;exact⟨true,by simp only[we,false_iff];exact λh=>by have:=h.2 c2;omega,sU (k:=0) zK zS zS zS zS zS⟩
    .by_cases c4:l[k].base=l[k].id
     .refine CN ?_;intro K hK;refine s6 spB (by simp) (by simp) ?_;refine AO (an c2 (an c3 (an hlt c4))) ?_;refine⟨zO,?_⟩;refine zk ?_;exact⟨true,by simp only[we,false_iff];exact λh=>h.1.2.2.2.1 c4,sU (k:=0) zK zS zS zS zS zS⟩
     by_cases c5:l[k].base=0
     .by_cases c7:DI l[k].data
      .rw[zT c7] at spD;refine CN ?_;intro K hK;refine s6 spB (by simp) (by simp) ?_;refine AO (an c2 (an c3 (an hlt (an c4 c5)))) ?_;refine⟨zO,?_⟩;refine xW spD ?_;exact⟨false,by simp only[true_iff];exact⟨⟨c1.1,c1.2,c7,c4,.inl c5⟩,λ_=>zO⟩,sU (k:=0) zK zS zS zS zS zS⟩
      .rw[zV c7] at spD;refine CN ?_;intro K hK;refine s6 spB (by simp) (by simp) ?_;refine AO (an c2 (an c3 (an hlt (an c4 c5)))) ?_;refine⟨zO,?_⟩;refine xW spD ?_;exact⟨true,by simp only[we,false_iff];exact λh=>c7 h.1.2.2.1,sU (k:=0) zK zS zS zS zS zS⟩
     by_cases c6:z<0
     .refine CN ?_;intro K hK;refine s6 spB (by simp) (by simp) ?_;refine AO (an c2 (an c3 (an hlt (an c4 (an c5 hlt))))) ?_;refine⟨zO,?_⟩;refine s6 spA (by simp) (by simp) ?_;refine xK c6 ?_;exact⟨true,by simp only[we,false_iff];exact λh=>by rcases h.1.2.2.2.2 with h|h;exact c5 h;have:=hA.2 h;omega,sU (k:=0) zK zS zS zS zS zS⟩
     by_cases c7:DI l[k].data
     .rw[zT c7] at spD;refine CN ?_;intro K hK;refine s6 spB (by simp) (by simp) ?_;refine AO (an c2 (an c3 (an hlt (an c4 (an c5 hlt))))) ?_;refine⟨zO,?_⟩;refine s6 spA (by simp) (by simp) ?_;refine AO c6 ?_;refine xW spD ?_;exact⟨false,by simp only[true_iff];exact⟨⟨c1.1,c1.2,c7,c4,.inr (hA.1 zO)⟩,λ_=>zO⟩,sU (k:=0) zK zS zS zS zS zS⟩
     .rw[zV c7] at spD;refine CN ?_;intro K hK;refine s6 spB (by simp) (by simp) ?_;refine AO (an c2 (an c3 (an hlt (an c4 (an c5 hlt))))) ?_;refine⟨zO,?_⟩;refine s6 spA (by simp) (by simp) ?_;refine AO c6 ?_;refine xW spD ?_;exact⟨true,by simp only[we,false_iff];exact λh=>c7 h.1.2.2.1,sU (k:=0) zK zS zS zS zS zS⟩
   .by_cases c4:l[k].base=l[k].id
    .refine CN ?_;intro K hK;refine s6 spB (by simp) (by simp) ?_;refine xK (an c2 c4) ?_;exact⟨true,by simp only[we,false_iff];exact λh=>h.1.2.2.2.1 c4,sU (k:=0) zK zS zS zS zS zS⟩
    by_cases c5:l[k].base=0
    .by_cases c7:DI l[k].data
     .rw[zT c7] at spD;refine CN ?_;intro K hK;refine s6 spB (by simp) (by simp) ?_;refine AO (an c2 (an c4 c5)) ?_;refine xW spD ?_;exact⟨false,by simp only[true_iff];exact⟨⟨c1.1,c1.2,c7,c4,.inl c5⟩,λh=>absurd h c2⟩,sU (k:=0) zK zS zS zS zS zS⟩
     .rw[zV c7] at spD;refine CN ?_;intro K hK;refine s6 spB (by simp) (by simp) ?_;refine AO (an c2 (an c4 c5)) ?_;refine xW spD ?_;exact⟨true,by simp only[we,false_iff];exact λh=>c7 h.1.2.2.1,sU (k:=0) zK zS zS zS zS zS⟩
    by_cases c6:z<0
    .refine CN ?_;intro K hK;refine s6 spB (by simp) (by simp) ?_;refine AO (an c2 (an c4 (an c5 hlt))) ?_;refine s6 spA (by simp) (by simp) ?_;refine xK c6 ?_;exact⟨true,by simp only[we,false_iff];exact λh=>by rcases h.1.2.2.2.2 with h|h;exact c5 h;have:=hA.2 h;omega,sU (k:=0) zK zS zS zS zS zS⟩
    by_cases c7:DI l[k].data
    .rw[zT c7] at spD;refine CN ?_;intro K hK;refine s6 spB (by simp) (by simp) ?_;refine AO (an c2 (an c4 (an c5 hlt))) ?_;refine s6 spA (by simp) (by simp) ?_;refine AO c6 ?_;refine xW spD ?_;exact⟨false,by simp only[true_iff];exact⟨⟨c1.1,c1.2,c7,c4,.inr (hA.1 zO)⟩,λh=>absurd h c2⟩,sU (k:=0) zK zS zS zS zS zS⟩
    .rw[zV c7] at spD;refine CN ?_;intro K hK;refine s6 spB (by simp) (by simp) ?_;refine AO (an c2 (an c4 (an c5 hlt))) ?_;refine s6 spA (by simp) (by simp) ?_;refine AO c6 ?_;refine xW spD ?_;exact⟨true,by simp only[we,false_iff];exact λh=>c7 h.1.2.2.1,sU (k:=0) zK zS zS zS zS zS⟩
  .intro b hb;refine zc ?_ ?_<;>intro h
   .refine Bd ?_;intro hM;have h3:=(hmi.1 hM).2 k hlt;have h4:=hb.2 h3;have h5:b=true:=by assumption
    rw[h4] at h5;cases h5
   .refine y2 ?_;refine⟨k+1,zO,⟨zO,λi hi h2=>?_⟩,Wk.fr zK⟩;by_cases e:i=k
    .subst e;exact hb.1 (by assumption)
    .exact hok i hi zO
 .refine AJ ?_;exact hmi.2 ⟨c0,λi h=>hok i h zO⟩
theorem SR (l:List Obj):∀(k:Nat) (id:Int),(A4 l (k+1) id).length<=k->A4 l (k+1) id=A4 l k id
 |0,id,h=>by
  have:A4 l (0+1) id=[]:=vr zO;rw[this];rfl
 |k+1,id,h=>by
  rw[A4] at h |-
  conv=>rhs;rw[A4]
  by_cases h0:id=0
  .rw[zP h0,zP h0]
  .rw[zM h0] at h |-;rw[zM h0];cases hf:A5 l id with
   |none=>rfl
   |some o=>
    rw[hf] at h;simp only at h |-;rw[SR l k o.base (by simpa using h)]
theorem PN (l:List Obj) (id:Int) (hl:DZ l) (hm:BJ l):Ac pg 84 [.ro l.length (Aa Ar l),iN id] [] (λr _=>r= .tup [iN (AY l id).1,iN (AY l id).2]):=by
 have hl12:=hm.1;have spA:=Nb l id zO;refine zE (fn:=Tryz.f84) [.tmp 4,.tmp 5] ?_;rw[Aq];refine zs ?_;cases hf:A5 l id with
 |none=>
  rw[OM hf] at spA;refine AL spA ?_;refine AJ ?_;simp[AY,hf]
 |some o=>
  obtain⟨k,hk,hi,ho,By⟩:=EI hf;rw[hi] at spA;have hde:AY l id=if 3<(A4 l 4 id).length then(0,2) else(((A4 l 4 id).length:Int),0):=by simp only[AY,hf]
  rw[hde];have hneg:¬(k:Int)<0:=zO;refine z0 ?_;intro K hK;refine sW spA (by simp) (by simp) ?_;refine xK hneg ?_;refine xZ ?_;refine sV (λs:Nat×Int=> [(0,.ro l.length (Aa Ar l)),(1,iN s.2),(6,iN s.1)]) (λ_=> []) (λs=>4-s.1) (λs=>s.1<=3/\(A4 l 4 id).length=s.1+(A4 l (4-s.1) s.2).length/\(s.2=0\/∃q∈l,q.id=s.2)) (0,id) (Wk.fr zK) ⟨zS,zS,.inr ⟨o,Fb hf,By⟩⟩ ?_;rintro⟨n,j⟩ ⟨hn,hw,hj⟩;simp only at hn hw hj;by_cases h0:j=0
  .refine th h0 ?_;have hwl:(A4 l 4 id).length=n:=by
    rw[hw];obtain⟨m,hm'⟩:∃m,4-n=m+1:=⟨3-n,zO⟩;rw[hm',A4,zP h0];rfl
   refine Bd ?_;rw[zM zO,hwl];simp
  .obtain⟨p,hp⟩:=K8 (hj.resolve_left h0);obtain⟨z,hz,hiz,hpz,hpid⟩:=EI hp;have hpm:=Fb hp;have spJ:=Nb l j zO;rw[hiz] at spJ;obtain⟨m,hm'⟩:∃m,4-n=m+1:=⟨3-n,zO⟩;have hwj:A4 l (4-n) j=p::A4 l m p.base:=by rw[hm',A4,zM h0,hp]
   rw[hwj,vA] at hw;refine yr h0 ?_;by_cases h3:n=3
   .have h3' :(3:Int)<(n:Int)+1:=zO;refine xS h3' ?_;rw[zP zO];simp
   .have h3' :¬(3:Int)<(n:Int)+1:=zO;refine th h3' ?_;refine z0 ?_;intro K hK;refine sW spJ (by simp) (by simp) ?_;refine xK (an hz hpz) ?_;refine⟨(n+1,p.base),by simp only;omega,⟨by simp only;omega,by simp only;rw[show 4-(n+1)=m by omega];omega,?_⟩,Wk.fr zK⟩;have:=(hm.2.1 p hpm).2.2.2.2;exact this
theorem SS (l:List Obj):∀(k:Nat) (id:Int),(A4 l k id).length<k->A4 l (k+1) id=A4 l k id
 |0,id,h=>by simp[A4] at h
 |k+1,id,h=>by
  rw[A4] at h;rw[A4]
  conv=>rhs;rw[A4]
  by_cases h0:id=0
  .rw[zP h0,zP h0]
  .rw[zM h0] at h |-;rw[zM h0];cases hf:A5 l id with
   |none=>rfl
   |some o=>
    rw[hf] at h;simp only at h |-;rw[SS l k o.base (by simpa using h)]
theorem eU {l:List Obj} (hm:BJ l) {id:Int} {o:Obj} (h:A5 l id=some o):id≠0:=by
 obtain⟨k,hk,_,ho,By⟩:=EI h;have:=(hm.2.1 o (Fb h)).1;omega
theorem YP {l:List Obj} (hm:BJ l) {id:Int} {o:Obj} (h:A5 l id=some o) (hd:(AY l id).2=0):
 (o.base=0->AT l id=match Cs (AH o.data) with|some g=>(g,0) |none=>(Az,9))/\
 (o.base≠0->(A4 l 4 o.base).length<(A4 l 4 id).length/\AT l id=if (AT l o.base).2≠0 then(Az,(AT l o.base).2) else match CF (AT l o.base).1 (AH o.data) with|some g=>(g,0) |none=>(Az,9)):=by
 have By:=eU hm h;have hw:∀k,A4 l (k+1) id=o::A4 l k o.base:=λk=>by rw[A4,zM By,h]
 have hlen:(A4 l 4 id).length<=3:=by
  simp only[AY,h] at hd;split at hd
  .simp at hd
  .omega
 have hof:AT l id=match DN Cs CF (A4 l 3 id) with|some g=>(g,0) |none=>(Az,9):=by
  simp[AT,hd];rfl
 rw[hw] at hlen;simp only[vA] at hlen;constructor
 .intro hb;rw[hof,hw,DN,zP hb]
 .intro hb;obtain⟨q,hq⟩:=K8 ((hm.2.1 o (Fb h)).2.2.2.2.resolve_left hb);have e1:=SS l 3 o.base zO;have e2:=SR l 2 o.base (by show(A4 l 3 o.base).length<=2;omega);refine⟨by rw[e1,hw];simp,?_⟩;have hdb:(AY l o.base).2=0:=by
   simp only[AY,hq];rw[zM (by rw[e1];omega)]
  have hofb:AT l o.base=match DN Cs CF (A4 l 3 o.base) with|some g=>(g,0) |none=>(Az,9):=by
   simp[AT,hdb];rfl
  rw[hof,hw,DN,zM hb,hofb,e2];cases DN Cs CF (A4 l 2 o.base) with
  |none=>simp
  |some a=>simp
theorem Xa (l:List Obj) (hl:DZ l) (hm:BJ l):∀(m:Nat) (id:Int),(A4 l 4 id).length<m->Ac pg 46 [.ro l.length (Aa Ar l),iN id] [] (λr _=>r= .tup [.agg (A1 true (AT l id).1),iN (AT l id).2]):=by
 intro m
 induction m with
 |zero=>
  intro id hw;omega
 |succ m ih=>
  intro id hw;have hl12:=hm.1;have spD:=PN l id hl hm;refine zE (fn:=Tryz.f46) [.cell 4 34,.tmp 5] ?_;rw[Aq];refine AX ?_;by_cases hd:(AY l id).2=0;rotate_left
  .obtain⟨d,hdd⟩:∃d,d=AY l id:=zX;have hof:AT l id=(Az,d.2):=by rw[hdd];simp[AT,hd]
   rw[hof];rw[<-hdd] at spD hd;refine AL spD ?_;refine th hd ?_;refine W.weak (sX 0 1) ?_;refine zr ?_;simp[Az]
  obtain⟨o,hf⟩:∃o,A5 l id=some o:=by
   cases hf:A5 l id with
   |some o=>exact⟨o,rfl⟩
   |none=>simp[AY,hf] at hd
  obtain⟨k,hk,hi,ho,By⟩:=EI hf;have hom:=Fb hf;have hbo:=(hm.2.1 o hom).2.2.1;have hsz:=hl.2 o hom;have spA:=Nb l id zO;rw[hi] at spA;obtain⟨st1,st2⟩:=YP hm hf hd;obtain⟨d1,hd1⟩:∃d1,d1=(AY l id).1:=zX;rw[<-hd1,hd] at spD;have spO:=eI o.data hbo.1 (by have:=hbo.2.2.1;omega) hsz;obtain⟨bs,hbs⟩:∃bs,bs=AH o.data:=zX;rw[<-hbs] at spO st1 st2;have hbl:bs.length<1000000000:=by
   have:=Db o.data;have:=hbo.2.1;rw[hbs];omega
  refine yq spD ?_;refine z1 ?_;intro K hK;refine sW spA (by simp) (by simp) ?_;refine xK (an hk ho) ?_;refine AL spO ?_;refine x6 ?_;by_cases hb:o.base=0
  .refine xP hb ?_;have spF:=TA bs hbl;rw[SE] at spF;rw[st1 hb];cases hfr:Cs bs with
   |none=>
    rw[hfr] at spF;simp only[Hq] at spF;refine z0 ?_;intro K hK;refine sW spF zS (by simp[Az]) ?_;refine yu ?_;refine W.weak (sX 0 1) ?_;refine zr ?_;simp[Az]
   |some g=>
    rw[hfr] at spF;simp only[Hq] at spF;refine AL spF ?_;exact RX
  .obtain⟨st3,st4⟩:=st2 hb;have spR:=ih o.base zO;rw[st4];have hma:=Da l o.base;obtain⟨a,ha⟩:∃a,a=AT l o.base:=zX;rw[<-ha] at spR hma |-;refine xO hb ?_;by_cases he:a.2=0;rotate_left
   .refine EU spR ?_;refine th he ?_;refine W.weak (sX 0 1) ?_;refine zr ?_;simp[Az,he]
   rw[he] at spR;refine EU spR ?_;refine y3 ?_;have spT:=TB a.1 bs hbl hma;rw[SF _ _ hma] at spT;rw[zM (by simp[he])];cases hfr:CF a.1 bs with
   |none=>
    rw[hfr] at spT;simp only[Hq] at spT;refine z0 ?_;intro K hK;refine sW spT zS (by simp[Az]) ?_;refine yu ?_;refine W.weak (sX 0 1) ?_;refine zr ?_;simp[Az]
   |some g=>
    rw[hfr] at spT;simp only[Hq] at spT;refine AL spT ?_;exact RX
theorem FE (l:List Obj) (id:Int) (hl:DZ l) (hm:BJ l):Ac pg 46 [.ro l.length (Aa Ar l),iN id] [] (λr _=>r= .tup [.agg (A1 true (AT l id).1),iN (AT l id).2]):=Xa l hl hm ((A4 l 4 id).length+1) id (Nat.lt_succ_self _)
theorem Xb (g:Gr) (k a:Int) (hn:-1000000000<=g.n/\g.n<=1000000000):Ac pg 21 [.agg (A1 false g),iN k,iN a] [] (λr _=>r=iN (DO g k a)):=by
 have spB:=Dn k 1 6;have spN:=N2 k;have spM:=FS a (g.n-1);refine zE (fn:=Tryz.f21) [.tmp 6] ?_;rw[A6];refine AX ?_;by_cases h1:1<=k/\k<=6;rotate_left
 .rw[zV h1] at spB;refine AL spB ?_;refine AJ ?_;rw[DO,zP h1]
 rw[zT h1] at spB;have e0:DO g k a=if named k=true/\¬(0<=a/\a<g.n) then 3 else 0:=by rw[DO,zM (λh=>h h1)]
 rw[e0];refine ym spB ?_;cases hnm:named k
 .rw[hnm] at spN;refine AL spN ?_;exact Kp
 .rw[hnm] at spN;by_cases h2:0<=a/\a<g.n
  .rw[zT (show 0<=a/\a<=g.n-1 by omega)] at spM;refine Hm spN spM ?_;refine Ck ?_;(try simp[h2]);(try omega)
  .rw[zV (show¬(0<=a/\a<=g.n-1) by omega)] at spM;refine Hm spN spM ?_;refine AJ ?_;(try omega);(try (intro h3;exact vv λh4=>h2 ⟨h3,zO⟩))
theorem ST (g:Gr) (k a:Int) (hm:AP g) (hk:DO g k a=0):Ac pg 119 [.agg (A1 false g),iN k,iN a] [] (λr _=>r= .agg (BY true (B9 g k a))):=by
 obtain⟨n,hn⟩:=uS hm.1;have hn16:n<=16:=by have:=hm.2.1;omega
 have hka:named k=true->0<=a/\a<g.n:=by
  intro hnm;unfold DO at hk;split at hk
  .simp at hk
  .split at hk
   .simp at hk
   .rename_i h;exact vv λg=>h ⟨hnm,g⟩
 have spN:=N2 k;refine zE (fn:=Tryz.f119) [.cell 6 38] ?_;rw[A6];refine Cx ?_;refine AX ?_;cases hnm:named k
 .rw[hnm] at spN;have h4:¬k=4:=λe=>by simp[named,e] at hnm
  refine yq spN ?_;refine W.weak (sX 2 4) ?_;refine W.weak (sX 2 5) ?_;rw[hn];by_cases h5:k=5
  .rw[show(List.nil:List AV)=Ab (Mc 0) from rfl];refine zb ?_;refine sV (λi:Nat=> [(1,iN k),(2,iN a),(3,pt 0),(6,pt 1),(7,pt 2),(8,iN i)]) (λi=> [lv [iN n,DH false g.out],lv [iN 0,iN 0,iN 0,.bool false,.own 1 0 [],.own 1 0 []],lv [iN k,iN 0,iN 0,.bool false,.tok 3 0 1 0 0,.tok 4 i 1 0 i],lv [],.live i (Ab (Mc i))]) (λi=>n-i) (λi=>i<=n) 0 (Wk.fr zK) (vn _) ?_;intro i hi;refine zs ?_;refine zc ?_ ?_<;>intro h
   .refine y4 ?_;refine xO h4 ?_;refine xP h5 ?_;refine z1 ?_;intro K hK;refine⟨zO,zO,?_⟩;refine xM ?_;refine⟨i+1,by omega,by omega,sU (k:=5) (by simp[AA];try omega) ?_ (by simp) (by simp) (by simp) (by simp)⟩;rw[SG];simp[Ab];(try omega)
   .refine s7 ?_;have:i=n:=zO;subst this;refine x3 h4 ?_;simp[B9,hnm,h4,h5,hn];exact⟨by simp[named],by rw[uM zS]⟩
  .rw[show(List.nil:List AV)=Ab ([]) from rfl];refine zb ?_;refine sV (λi:Nat=> [(1,iN k),(2,iN a),(3,pt 0),(6,pt 1),(7,pt 2),(8,iN i)]) (λi=> [lv [iN n,DH false g.out],lv [iN 0,iN 0,iN 0,.bool false,.own 1 0 [],.own 1 0 []],lv [iN k,iN 0,iN 0,.bool false,.tok 3 0 1 0 0,.tok 4 0 1 0 0],lv [],lv (Ab ([]))]) (λi=>n-i) (λi=>i<=n) 0 (Wk.fr zK) (vn _) ?_;intro i hi;refine zs ?_;refine zc ?_ ?_<;>intro h
   .refine y4 ?_;refine xO h4 ?_;refine xL h5 ?_;exact⟨i+1,zO,zO,Wk.fr zK⟩
   .refine s7 ?_;have:i=n:=zO;subst this;refine th h4 ?_;refine Bd ?_;simp[B9,hnm,h4,h5,hn]
 .rw[hnm] at spN;have ha:=hka hnm;obtain⟨b,hb⟩:=uS ha.1;have hbn:b<n:=zO;have h5:¬k=5:=λe=>by simp[named,e] at hnm
  refine yq spN ?_;refine W.weak (sX 2 4) ?_;refine W.weak (sX 2 5) ?_;rw[hn];by_cases h4:k=4
  .rw[show(List.nil:List AV)=Ab (uP 0 (-1)) from rfl];refine zb ?_;refine sV (λi:Nat=> [(1,iN k),(2,iN a),(3,pt 0),(6,pt 1),(7,pt 2),(8,iN i)]) (λi=> [lv [iN n,DH false g.out],lv [iN 0,iN 0,iN 0,.bool false,.own 1 0 [],.own 1 0 []],lv [iN k,iN a,iN 0,.bool false,.tok 3 0 1 0 0,.tok 4 i 1 0 i],lv [],.live i (Ab (uP i (-1)))]) (λi=>n-i) (λi=>i<=n) 0 (Wk.fr zK) (vn _) ?_;intro i hi;refine zs ?_;refine zc ?_ ?_<;>intro h
   .refine y4 ?_;refine xP h4 ?_;refine z1 ?_;intro K hK;refine⟨zO,zO,?_⟩;refine xM ?_;refine⟨i+1,by omega,by omega,sU (k:=5) (by simp[AA];try omega) ?_ (by simp) (by simp) (by simp) (by simp)⟩;rw[wJ];simp[Ab];(try omega)
   .refine s7 ?_;have:i=n:=zO;subst this;refine xP h4 ?_;refine BS (an hbn hb) ?_;intro K hK;refine⟨zO,?_⟩;rw[Eu];refine zk ?_;refine AX ?_;refine Bd ?_;simp[B9,hnm,h4,hn,si,hb];exact⟨by simp[named],by simp[Ab],by rw[uM zS]⟩
  .rw[show(List.nil:List AV)=Ab ([]) from rfl];refine zb ?_;refine sV (λi:Nat=> [(1,iN k),(2,iN a),(3,pt 0),(6,pt 1),(7,pt 2),(8,iN i)]) (λi=> [lv [iN n,DH false g.out],lv [iN 0,iN 0,iN 0,.bool false,.own 1 0 [],.own 1 0 []],lv [iN k,iN a,iN 0,.bool false,.tok 3 0 1 0 0,.tok 4 0 1 0 0],lv [],lv (Ab ([]))]) (λi=>n-i) (λi=>i<=n) 0 (Wk.fr zK) (vn _) ?_;intro i hi;refine zs ?_;refine zc ?_ ?_<;>intro h
   .refine y4 ?_;refine xO h4 ?_;refine xL h5 ?_;exact⟨i+1,zO,zO,Wk.fr zK⟩
   .refine s7 ?_;have:i=n:=zO;subst this;refine x3 h4 ?_;simp[B9,hnm,h4,h5,hn]
theorem bM (g:Gr) (j:B7) (hg:AP g) (h:Gu g j) (ho:BX g j=false) (h1:j.kind=1):Ac pg 120 [.agg (A1 false g),.agg (BY false j)] [] (λr _=>r= .agg (BY true (A8 g j))):=by
 obtain⟨n,hn⟩:=uS hg.1;obtain⟨v,hv⟩:=uS h.a0;have hn16:n<=16:=by have:=hg.2.1;omega
 have hvn:v<=n:=by have:=h.an;omega
 have hout:g.out.length=n:=by have:=hg.2.2.1;omega
 have hsm:=h.small hg;have hwl:∀i (hi:i<g.out.length),g.out[i].length<=16:=λi hi=>by rw[<-Ce hi];exact Dc hg _
 have ha:=h.na (by rw[h1];rfl);obtain⟨a,hae⟩:=uS ha.1;have hal:a<g.out.length:=zO;have hvis:A8 g j={j with at_:=(v:Int)+1,out:=g.out[a]}:=by
  simp[A8,h1,hv,hae,Ce hal]
 rw[hvis];refine zE (fn:=Tryz.f120) [.cell 4 38] ?_;rw[Aq];refine Ig ?_;refine AL (Gs j ⟨by omega,by omega⟩) ?_;refine yf hv hv ?_;refine zg h1 ?_;refine zb ?_;refine xP h1 ?_;refine GL (an hae hal) (Ee g.out[a] (by have:=hwl a hal;omega)) ?_;refine Bd ?_;simp[h1,hae]
theorem bN (g:Gr) (j:B7) (hg:AP g) (h:Gu g j) (ho:BX g j=false) (h2:j.kind=2):Ac pg 120 [.agg (A1 false g),.agg (BY false j)] [] (λr _=>r= .agg (BY true (A8 g j))):=by
 obtain⟨n,hn⟩:=uS hg.1;obtain⟨v,hv⟩:=uS h.a0;have hn16:n<=16:=by have:=hg.2.1;omega
 have hvn:v<=n:=by have:=h.an;omega
 have hout:g.out.length=n:=by have:=hg.2.2.1;omega
 have hsm:=h.small hg;have hwl:∀i (hi:i<g.out.length),g.out[i].length<=16:=λi hi=>by rw[<-Ce hi];exact Dc hg _
 have hvl:v<g.out.length:=by
  unfold BX at ho;simp[h2] at ho;omega
 have hc2:=h.c2 h2;have hvis:A8 g j={j with at_:=(v:Int)+1,out:=j.out++if g.out[v].contains j.a=true then [(v:Int)] else []}:=by
  simp[A8,h2,hv,Ce hvl]
 rw[hvis];have sp:=Lb g.out[v] j.a (by have:=hwl v hvl;omega);have hix:=Ll g.out[v] j.a;obtain⟨z,hz⟩:∃z,z=AN (λy=>decide (y=j.a)) g.out[v]:=zX;rw[<-hz] at sp hix;refine zE (fn:=Tryz.f120) [.cell 4 38] ?_;rw[Aq];refine Ig ?_;refine AL (Gs j ⟨by omega,by omega⟩) ?_;refine yf hv hv ?_;refine zg h2 ?_;refine zb ?_;refine xO h2 ?_;refine xP h2 ?_;refine E1 ?_;intro K hK;simp -implicitDefEqProofs (disch:=omega) [hvl];refine s6 sp (by simp) (by simp) ?_;cases hc:g.out[v].contains j.a
 .have hz0:¬0<=z:=by rw[hix,hc];simp
  have hc' :¬j.a∈g.out[v]:=by simpa using hc
  refine xK hz0 ?_;refine Ck ?_;simp[h2,hc']
 .have hz0:0<=z:=by rw[hix,hc]
  have hc' :j.a∈g.out[v]:=by simpa using hc
  refine xK hz0 ?_;refine zt ?_;refine z1 ?_;intro K hK;refine⟨zO,zO,?_⟩;refine zk ?_;have e:Ab j.out++[AV.int .i64 v]=Ab (j.out++[(v:Int)]):=by simp[Ab]
  rw[e];refine Bd ?_;simp[h2,hc'];rw[uM zS]
theorem bO (g:Gr) (j:B7) (hg:AP g) (h:Gu g j) (ho:BX g j=false) (h3:j.kind=3):Ac pg 120 [.agg (A1 false g),.agg (BY false j)] [] (λr _=>r= .agg (BY true (A8 g j))):=by
 obtain⟨n,hn⟩:=uS hg.1;obtain⟨v,hv⟩:=uS h.a0;have hn16:n<=16:=by have:=hg.2.1;omega
 have hvn:v<=n:=by have:=h.an;omega
 have hout:g.out.length=n:=by have:=hg.2.2.1;omega
 have hsm:=h.small hg;have hwl:∀i (hi:i<g.out.length),g.out[i].length<=16:=λi hi=>by rw[<-Ce hi];exact Dc hg _
 have hvl:v<g.out.length:=by
  unfold BX at ho;simp[h3] at ho;omega
 obtain⟨hc3,hc3b⟩:=h.c3 h3;obtain⟨m,hm⟩:∃m,m=g.out[v].length:=zX;have hm16:m<=16:=by have:=hwl v hvl;omega
 have hvis:A8 g j={j with at_:=(v:Int)+1,out:=si (Ek j.out m) m (gi (Ek j.out m) m+1)}:=by
  simp[A8,h3,hv,Ce hvl,hm]
 rw[hvis];refine zE (fn:=Tryz.f120) [.cell 4 38] ?_;rw[Aq];refine Ig ?_;refine AL (Gs j ⟨by omega,by omega⟩) ?_;refine yf hv hv ?_;refine zg h3 ?_;refine zb ?_;refine yn h3 h3 ?_;refine xP h3 ?_;rw[show Ab j.out=Ab (j.out++uP 0 0) by simp];refine zb ?_;refine sV (λk:Nat=> [(2,pt 0),(3,pt 1),(4,pt 2),(5,iN v)]) (λk=> [lv (A1 false g),lv [iN 3,iN j.a,iN ((v:Int)+1),.bool j.move,.tok 3 0 1 0 j.list.length,.tok 4 k 1 0 (j.out.length+k)],lv [iN 0,iN 0,iN 0,.bool false,.own 1 0 [],.own 1 0 []],lv (Ab j.list),.live k (Ab (j.out++uP k 0))]) (λk=>m+1-(j.out.length+k)) (λk=>k=0\/j.out.length+k<=m+1) 0 (Wk.fr zK) (.inl rfl) ?_;intro k hk;by_cases hle:j.out.length+k<=g.out[v].length
 .refine zh (an hvl hle) ?_;refine y3 ?_;refine z1 ?_;intro K hK;refine⟨zO,zO,?_⟩;refine zk ?_;have e:Ab (j.out++uP k 0)++[AV.int .i64 0]=Ab (j.out++uP (k+1) 0):=by rw[wJ];simp[Ab]
  refine⟨k+1,zO,.inr zO,sU (k:=5) zK ?_ zS zS zS zS⟩;rw[<-e];rfl
 .refine yp (an hvl hle) ?_;have hU:j.out++uP k 0=Ek j.out m:=by rw[Ek,show m+1-j.out.length=k by omega]
  have hUl:(Ek j.out m).length=j.out.length+k:=by rw[<-hU];simp
  have hml:m<(Ek j.out m).length:=zO;have hUb:∀y∈Ek j.out m,0<=y/\y<=j.at_:=λy hy=>by
   rcases N6 hy with hy|rfl
   .exact hc3b y hy
   .exact⟨wM _,h.a0⟩
  have hb:=hUb _ (uQ hml);rw[hU,EC hml,si];simp only[vE];generalize Ek j.out m=U at*;subst hm;refine zh (an hvl hml) ?_;rw[Eu];refine Bd ?_;simp[h3,hUl];rw[uM Ao]
theorem bP (g:Gr) (j:B7) (hg:AP g) (h:Gu g j) (ho:BX g j=false) (h6:j.kind=6):Ac pg 120 [.agg (A1 false g),.agg (BY false j)] [] (λr _=>r= .agg (BY true (A8 g j))):=by
 obtain⟨n,hn⟩:=uS hg.1;obtain⟨v,hv⟩:=uS h.a0;have hn16:n<=16:=by have:=hg.2.1;omega
 have hvn:v<=n:=by have:=h.an;omega
 have hout:g.out.length=n:=by have:=hg.2.2.1;omega
 have hsm:=h.small hg;have hwl:∀i (hi:i<g.out.length),g.out[i].length<=16:=λi hi=>by rw[<-Ce hi];exact Dc hg _
 have hvl:v<g.out.length:=by
  unfold BX at ho;simp[h6] at ho;omega
 have hc6:=h.c6 h6;have hvis:A8 g j={j with at_:=(v:Int)+1,out:=j.out++GM v g.out[v]}:=by
  simp[A8,h6,hv,Ce hvl,GM]
 rw[hvis];have hvv:=hwl v hvl;refine zE (fn:=Tryz.f120) [.cell 4 38] ?_;rw[Aq];refine Ig ?_;refine AL (Gs j ⟨by omega,by omega⟩) ?_;refine yf hv hv ?_;refine zg h6 ?_;refine zb ?_;refine yn h6 h6 ?_;refine xO h6 ?_;refine th h6 ?_;rw[show Ab j.out=Ab (j.out++GM v (g.out[v].take 0)) by simp[GM]];refine zb ?_;refine sV (λk:Nat=> [(2,pt 0),(3,pt 1),(4,pt 2),(5,iN v),(6,iN k)]) (λk=> [lv (A1 false g),lv [iN 6,iN j.a,iN ((v:Int)+1),.bool j.move,.tok 3 0 1 0 j.list.length,.tok 4 k 1 0 (j.out.length+2*k)],lv [iN 0,iN 0,iN 0,.bool false,.own 1 0 [],.own 1 0 []],lv (Ab j.list),.live k (Ab (j.out++GM v (g.out[v].take k)))]) (λk=>g.out[v].length-k) (λk=>k<=g.out[v].length) 0 (Wk.fr zK) zS ?_;intro k hk;refine Dx ?_;intro K hK;simp -implicitDefEqProofs (disch:=omega) [hvl];refine zk ?_;refine zc ?_ ?_<;>intro h
 .refine W.skip ?_;have hlt:k<g.out[v].length:=zO;have hto:g.out[v].take (k+1)=g.out[v].take k++[g.out[v][k]]:=by rw[uV];simp[hlt]
  have hr2:Bv 2 [AV.int .i64 0]=[AV.int .i64 0,AV.int .i64 0]:=rfl;have hpk:(GM v (g.out[v].take k)).length=2*k:=by rw[M8];simp;omega
  refine zb ?_;refine Hw ?_;intro K hK;simp -implicitDefEqProofs (disch:=omega) [hr2,hpk,hvl,hlt];refine⟨zO,zO,?_⟩;refine xM ?_;have e:Ab (j.out++GM v (g.out[v].take k))++[AV.int .i64 v,AV.int .i64 g.out[v][k]]=Ab (j.out++GM v (g.out[v].take (k+1))):=by rw[hto,SJ];simp[Ab]
  refine⟨k+1,zO,zO,sU (k:=5) zK ?_ zS zS zS zS⟩;rw[<-e];rfl
 .refine s7 ?_;have hk' :k=g.out[v].length:=zO;subst hk';rw[uW];have hfl:=M8 (v:Int) g.out[v];refine Bd ?_;refine⟨h6.symm,?_,?_⟩
  .rw[hfl]
  .rw[uM (by rw[u0,hfl];exact vg _)]
theorem bQ (g:Gr) (j:B7) (hg:AP g) (h:Gu g j) (ho:BX g j=false) (h4:j.kind=4):Ac pg 120 [.agg (A1 false g),.agg (BY false j)] [] (λr _=>r= .agg (BY true (A8 g j))):=by
 obtain⟨n,hn⟩:=uS hg.1;obtain⟨v,hv⟩:=uS h.a0;have hn16:n<=16:=by have:=hg.2.1;omega
 have hvn:v<=n:=by have:=h.an;omega
 have hout:g.out.length=n:=by have:=hg.2.2.1;omega
 have hsm:=h.small hg;have hwl:∀i (hi:i<g.out.length),g.out[i].length<=16:=λi hi=>by rw[<-Ce hi];exact Dc hg _
 obtain⟨c1,c2,c3,c4,c5⟩:=h.c4 h4;have hvl:v<j.list.length:=by simp[BX,h4] at ho;omega
 have hm:=c4 _ (uQ hvl);obtain⟨u,hu⟩:=uS hm.1;rw[hu] at hm;have hul:u<g.out.length:=zO;have hul2:=hwl u hul;have hws:∀w∈g.out[u],0<=w/\w<g.n:=λw hw=>Hd hg (v:=(u:Int)) (by rw[Ce hul];exact hw);have hf:=λk=>Lg (n:=g.n) (v:=(u:Int)) ⟨hm.1,hm.2.1⟩ (g.out[u].take k) (j.out,j.list) (λw hw=>hws w (wh hw)) hm.2.2 c1 c2 c4 c5;have hvis:A8 g j={j with at_:=(v:Int)+1,out:=(g.out[u].foldl (BE u) (j.out,j.list)).1,list:=(g.out[u].foldl (BE u) (j.out,j.list)).2}:=by
  have e:gi j.list (v:Int)=(u:Int):=by rw[EC hvl,hu]
  simp[A8,h4,hv,e,Ce hul]
 rw[hvis];refine zE (fn:=Tryz.f120) [.cell 4 38] ?_;rw[Aq];refine Ig ?_;refine AL (Gs j ⟨by omega,by omega⟩) ?_;refine yf hv hv ?_;refine zg h4 ?_;refine zb ?_;refine yn h4 h4 ?_;refine yn h4 h4 ?_;refine xP h4 ?_;refine zg (an hvl hu) ?_;refine zs ?_;rw[show j.out.length=n by omega];refine zb ?_;refine sV (λk:Nat=> [(2,pt 0),(3,pt 1),(4,pt 2),(5,iN u),(7,iN k)]) (λk=> [lv (A1 false g),lv [iN 4,iN j.a,iN ((v:Int)+1),.bool j.move,.tok 3 (((g.out[u].take k).foldl (BE u) (j.out,j.list)).2.length-j.list.length) 1 0 ((g.out[u].take k).foldl (BE u) (j.out,j.list)).2.length,.tok 4 0 1 0 n],lv [iN 0,iN 0,iN 0,.bool false,.own 1 0 [],.own 1 0 []],.live (((g.out[u].take k).foldl (BE u) (j.out,j.list)).2.length-j.list.length) (Ab ((g.out[u].take k).foldl (BE u) (j.out,j.list)).2),lv (Ab ((g.out[u].take k).foldl (BE u) (j.out,j.list)).1)]) (λk=>g.out[u].length-k) (λk=>k<=g.out[u].length) 0 ?_ zS ?_
 .have e:((g.out[u].take 0).foldl (BE u) (j.out,j.list))=(j.out,j.list):=rfl;rw[e];simp only[wp];exact Wk.fr zK
 intro k hk;refine Dx ?_;intro K hK;simp -implicitDefEqProofs (disch:=omega) [hul];refine zk ?_;refine zc ?_ ?_<;>intro h
 .refine W.skip ?_;have hlt:k<g.out[u].length:=zO;have hst:=IM (BE (u:Int)) (j.out,j.list) g.out[u] k hlt;obtain⟨f0,f1,f2,f3,f4,f5⟩:=hf k;have hw:=hws _ (uQ hlt);generalize (g.out[u].take k).foldl (BE u) (j.out,j.list)=s at*;simp only at f5;obtain⟨w,hwe⟩:=uS hw.1;rw[hwe] at hw hst;have hl1:u<s.1.length:=zO;have hl2:w<s.1.length:=zO;rw[EC hl1] at f0;have hub:=f4 _ (uQ hl1);have hs2:s.2.length<=16:=zO;refine zb ?_;refine zg (an hul (an hlt hwe)) ?_;by_cases hneg:s.1[w]<0
  .have hps:BE (u:Int) s w=(s.1.set w (s.1[u]+1),s.2++[(w:Int)]):=by
    simp only[BE,EC hl1,EC hl2,si];rw[zP hneg];rfl
   rw[hps] at hst;refine xP (an hl2 hneg) ?_;refine zh (an hl1 hl2) ?_;rw[Eu];refine z1 ?_;intro K hK;refine⟨zO,zO,?_⟩;refine xM ?_;refine⟨k+1,zO,zO,?_⟩;rw[hst];have hver:(s.2++[(w:Int)]).length-j.list.length=s.2.length-j.list.length+1:=Ao;have e:Ab s.2++[AV.int .i64 w]=Ab (s.2++[(w:Int)]):=by simp[Ab]
   simp only[hver];refine sU (k:=5) zK ?_ zS zS zS zS;rw[e];simp
  .have hps:BE (u:Int) s w=s:=by
    simp only[BE,EC hl2];rw[zM hneg]
   rw[hps] at hst;refine xL (an hl2 hneg) ?_;refine⟨k+1,zO,zO,?_⟩;rw[hst];exact Wk.fr zK
 .refine s7 ?_;have hk' :k=g.out[u].length:=zO;subst hk';rw[uW];obtain⟨f0,f1,f2,f3,f4,f5⟩:=hf g.out[u].length;rw[uW] at f1;generalize g.out[u].foldl (BE u) (j.out,j.list)=s at*;refine Bd ?_;exact⟨h4.symm,zO,by rw[uM zO]⟩
theorem bR (g:Gr) (j:B7) (hg:AP g) (h:Gu g j) (ho:BX g j=false) (h5:j.kind=5):Ac pg 120 [.agg (A1 false g),.agg (BY false j)] [] (λr _=>r= .agg (BY true (A8 g j))):=by
 obtain⟨n,hn⟩:=uS hg.1;obtain⟨v,hv⟩:=uS h.a0;have hn16:n<=16:=by have:=hg.2.1;omega
 have hvn:v<=n:=by have:=h.an;omega
 have hout:g.out.length=n:=by have:=hg.2.2.1;omega
 have hsm:=h.small hg;have hwl:∀i (hi:i<g.out.length),g.out[i].length<=16:=λi hi=>by rw[<-Ce hi];exact Dc hg _
 have hvl:v<g.out.length:=by
  unfold BX at ho;simp[h5] at ho;omega
 obtain⟨c1,c2⟩:=h.c5 h5;have hlo:j.out.length=n:=zO;have hb:AF g j.at_=g.out[v]:=by rw[hv];exact Ce hvl
 have hws:∀w∈g.out[v],0<=w/\w<g.n:=λw hw=>Hd hg (v:=j.at_) (by rw[hb];exact hw);have hwl2:=hwl v hvl;have hf:=λk=>JQ (n:=g.n) (v:=(v:Int)) ⟨zO,zO⟩ (g.out[v].take k) (j.out,j.move) (λw hw=>hws w (wh hw)) c1 c2;refine zE (fn:=Tryz.f120) [.cell 4 38] ?_;rw[Aq];refine Ig ?_;refine AL (Gs j ⟨by omega,by omega⟩) ?_;refine yf hv hv ?_;refine zg h5 ?_;refine zb ?_;refine yn h5 h5 ?_;refine yn h5 h5 ?_;refine th h5 ?_;rw[hlo];refine zb ?_;refine sV (λk:Nat=> [(2,pt 0),(3,pt 1),(4,pt 2),(5,iN v),(9,iN k)]) (λk=> [lv (A1 false g),lv [iN 5,iN j.a,iN ((v:Int)+1),.bool ((g.out[v].take k).foldl (B1 v) (j.out,j.move)).2,.tok 3 0 1 0 j.list.length,.tok 4 0 1 0 n],lv [iN 0,iN 0,iN 0,.bool false,.own 1 0 [],.own 1 0 []],lv (Ab j.list),lv (Ab ((g.out[v].take k).foldl (B1 v) (j.out,j.move)).1)]) (λk=>g.out[v].length-k) (λk=>k<=g.out[v].length) 0 (Wk.fr zK) zS ?_;intro k hk;refine Dx ?_;intro K hK;simp -implicitDefEqProofs (disch:=omega) [hvl];refine zk ?_;refine zc ?_ ?_<;>intro h
 .refine W.skip ?_;have hlt:k<g.out[v].length:=zO;have hst:=IM (B1 (v:Int)) (j.out,j.move) g.out[v] k hlt;obtain⟨f1,f2,_⟩:=hf k;have hw:=hws _ (uQ hlt);generalize (g.out[v].take k).foldl (B1 v) (j.out,j.move)=s at*;obtain⟨w,hwe⟩:=uS hw.1;rw[hwe] at hst hw;have hl1:v<s.1.length:=zO;have hl2:w<s.1.length:=zO;have hmin:min s.1[v] s.1[w]=if s.1[w]<s.1[v] then s.1[w] else s.1[v]:=by split<;>omega
  have hps:B1 (v:Int) s w=((s.1.set v (if s.1[w]<s.1[v] then s.1[w] else s.1[v])).set w (if s.1[w]<s.1[v] then s.1[w] else s.1[v]),s.2||!decide (s.1[v]=s.1[w])):=by
   simp only[B1,EC hl1,EC hl2,si,hmin];rfl
  rw[hps] at hst;refine zb ?_;refine zg (an hvl (an hlt hwe)) ?_;cases hm:s.2
  all_goals (
   rw[hm] at hst;refine zh (an hl1 (an hl2 hm)) ?_;refine zh (an hl1 hl2) ?_;(repeat refine ta ?_);refine tj 0 [(70,75),(70,73)] rfl true Df AK λK hK=>?_;simp -implicitDefEqProofs (disch:=omega) [hl1,hl2];(repeat refine⟨by first|assumption|omega,?_⟩);refine hK _ _ (by simp(disch:=omega)) ?_;clear hK K;rw[Eu,Eu];refine zs ?_;refine⟨k+1,zO,zO,?_⟩;rw[hst];exact Wk.fr zK)
 .refine s7 ?_;have hk' :k=g.out[v].length:=zO;subst hk';rw[uW];have hvis:A8 g j=(if (v:Int)+1=n/\(g.out[v].foldl (B1 v) (j.out,j.move)).2=true then{j with at_:=0,move:=false,out:=(g.out[v].foldl (B1 v) (j.out,j.move)).1} else{j with at_:=(v:Int)+1,move:=(g.out[v].foldl (B1 v) (j.out,j.move)).2,out:=(g.out[v].foldl (B1 v) (j.out,j.move)).1}):=by
   rw[hv] at hb;simp[A8,h5,hb,hv,hn]
  have hfin:=(hf g.out[v].length).1;rw[uW] at hfin;rw[hvis];generalize g.out[v].foldl (B1 v) (j.out,j.move)=s at*;have hsl:s.1.length=n:=zO;by_cases hvn1:(v:Int)+1=n
  .have hge:(n:Int)<=(v:Int)+1:=zO;cases hm:s.2
   .refine x3 (an hge (an hn hm)) ?_
    first|exact⟨h5.symm,hsl.symm,by rw[uM zO]⟩ | (simp[hvn1,h5,hsl];rw[uM zO])
   .refine x3 (an hge (an hn hm)) ?_
    first|exact⟨h5.symm,hsl.symm,by rw[uM zO]⟩ | (simp[hvn1,h5,hsl];rw[uM zO])
  .have hge:¬(n:Int)<=(v:Int)+1:=zO;refine x3 (an hge hn) ?_
   first|exact⟨h5.symm,hsl.symm,by rw[uM zO]⟩ | (simp[hvn1,h5,hsl];rw[uM zO])
theorem SU (g:Gr) (j:B7) (hg:AP g) (h:Gu g j) (ho:BX g j=false):Ac pg 120 [.agg (A1 false g),.agg (BY false j)] [] (λr _=>r= .agg (BY true (A8 g j))):=by
 have hk1:=h.k1;have hk2:=h.k2;have:j.kind=1\/j.kind=2\/j.kind=3\/j.kind=4\/j.kind=5\/j.kind=6:=zO;rcases this with e|e|e|e|e|e
 .exact bM g j hg h ho e
 .exact bN g j hg h ho e
 .exact bO g j hg h ho e
 .exact bQ g j hg h ho e
 .exact bR g j hg h ho e
 .exact bP g j hg h ho e
theorem bS (g:Gr) (j:B7):(A8 g j).a=j.a:=by
 unfold A8;split
 .rfl
 split
 .rfl
 split
 .rfl
 split
 .rfl
 split
 .simp only;split<;>rfl
 .rfl
theorem Uw (g:Gr) (j:B7):∀(k:Nat) (x:B7),x.a≠j.a->HW g j k x=false
 |0,_,_=>rfl
 |k+1,x,h=>by
  simp only[HW];rw[zM (λe=>h (by rw[e]))];split
  .rfl
  .exact Uw g j k _ (by rw[bS];exact h)
theorem Xc (g:Gr) (j:B7) (hg:AP g) (hj:OR j):Ac pg 90 [.agg (A1 false g),.agg (BY false j)] [] (λr _=>r= .bool (Ct g j)):=by
 have hn:=hg.2.1;have hn0:=hg.1;have spM:=Xb g j.kind j.a zO;have spN:=N2 j.kind;obtain⟨hj1,hj2⟩:=hj;refine zE (fn:=Tryz.f90) [.tmp 4] ?_;rw[Aq];refine Cx ?_;by_cases hk:DO g j.kind j.a=0;rotate_left
 .refine z0 ?_;intro K hK;refine sW spM (by simp) (by simp) ?_;refine x7 hk ?_;simp[Ct,hk]
 rw[hk] at spM;by_cases hna:named j.kind=false/\j.a≠0
 .have hfalse:Ct g j=false:=by
   rw[HN,zT hk,Bool.true_and];unfold FU;exact Uw g j _ _ (by simp only[B9,hna.1,vt,if_false];exact λe=>hna.2 e.symm)
  rw[hfalse];rw[hna.1] at spN;have h2:=hna.2;refine z0 ?_;intro K hK;refine zj spM ?_;refine sW spN (by simp) (by simp) ?_;refine xK h2 ?_;exact Ny
 have hb:=Lh hg hk;have hx0:Ct g j=FU g j (B9 g j.kind j.a):=by rw[HN,zT hk,Bool.true_and]
 have spB:=ST g j.kind j.a hg hk;rw[hx0];obtain⟨x0,hxd⟩:∃x0,x0=B9 g j.kind j.a:=zX;rw[<-hxd] at hb spB |-;have hsm:=hb.small hg;refine zw ?_;refine s5 (λ_:Unit=> [(2,pt 0),(3,pt 1),(23,.bool false)]) (λ_=> [lv (A1 false g),lv (BY false j)]) (λ_=>True) ?_ ?_
 .cases hnm:named j.kind
  .rw[hnm] at spN;have h0:(j.a=0)=True:=eq_true (vv λh=>hna ⟨hnm,h⟩);refine z0 ?_;intro K hK;refine zj spM ?_;refine sW spN (by simp) (by simp) ?_;refine xK h0 ?_;exact⟨(),trivial,Wk.fr zK⟩
  .rw[hnm] at spN;refine Hm spM spN ?_;exact⟨(),trivial,Wk.fr zK⟩
 rintro _ _;refine y2 ?_;refine EU spB ?_;refine W.weak (Wk.inn 2 4) ?_;refine W.weak (Wk.inn 2 5) ?_;refine zb ?_;refine sV (λx:B7=> [(2,pt 0),(3,pt 1),(5,pt 2)]) (λx=> [lv (A1 false g),lv (BY false j),lv (BY true x)]) (λx=>GO g x) (λx=>Gu g x/\FU g j x=FU g j x0) x0 (sU (k:=3) zK zS zS zS zS zS) ⟨hb,rfl⟩ ?_;rintro x ⟨hx,hxj⟩;refine W.weak (sX 2 4) ?_;refine W.weak (sX 2 5) ?_;have hsx:=hx.small hg;have spE:=HK x j ⟨zO,zO⟩;by_cases e:x=j
 .rw[zT e] at spE;refine AL spE ?_;refine Ck ?_;rw[<-hxj,IV e]
 .rw[zV e] at spE;refine yq spE ?_;have spO:=Ku g x zO;cases ho:BX g x
  .rw[ho] at spO;refine ym spO ?_;have spV:=SU g x hg hx ho;obtain⟨h1,h2⟩:=HM hg hx ho;have hjx:=Kw hg hx e ho;obtain⟨y,hy⟩:∃y,y=A8 g x:=zX;rw[<-hy] at spV h1 h2 hjx;refine AL spV ?_;refine⟨y,h2,⟨h1,by rw[<-hjx];exact hxj⟩,?_⟩;refine Wk.trans (Wk.inn 2 4) ?_;refine Wk.trans (Wk.inn 2 5) ?_;exact sU (k:=3) zK zS zS zS zS zS
  .rw[ho] at spO;refine AL spO ?_;refine AJ ?_;rw[<-hxj,Mq e ho]
theorem Nc (s:An) (hs:A0 s):Ac pg 42 [.agg (Aj false s)] [] (λr _=>r= .own 4 (Ae s).length (Aa Ar (Ae s))):=by
 have h1:=hs.1;refine zE (fn:=Tryz.f42) [.tmp 2] ?_;rw[AC];refine AX ?_;refine xV ?_;refine sV (λk:Nat=> [(1,pt 0),(3,.tok 1 k 4 0 k),(4,iN k)]) (λk=> [lv (Aj false s),.live k (Aa Ar ((s.sQ.take k).map B2))]) (λk=>s.sQ.length-k) (λk=>k<=s.sQ.length) 0 ((Wk.nil (t:=3) (s:=4) zS).trans (Wk.fr zK)) zS ?_;intro k hk;refine zs ?_;refine zc ?_ ?_<;>intro h
 .refine W.skip ?_;have hlt:k<s.sQ.length:=zO;have hto:s.sQ.take (k+1)=s.sQ.take k++[s.sQ[k]]:=by rw[uV];simp[hlt]
  refine x9 ?_;intro K hK;simp -implicitDefEqProofs (disch:=omega) [hlt];refine zk ?_;refine z1 ?_;intro K hK;refine⟨zO,zO,?_⟩;refine xM ?_;refine⟨k+1,zO,zO,sU (k:=2) zK ?_ zS zS zS zS⟩;rw[hto,wo,BI];simp[AG,B2]
 .refine s7 ?_;have hk' :k=s.sQ.length:=zO;subst hk';refine Bd ?_;refine⟨by simp[Ae],?_⟩;rw[uM zS,uM zS];rfl
theorem Ux (s:An) (hs:A0 s):Ac pg 45 [.agg (Aj false s)] [] (λr _=>r= .own 2 (AD s).length (Aa Al (AD s))):=by
 have h1:=hs.1;refine zE (fn:=Tryz.f45) [.tmp 2] ?_;rw[AC];refine AX ?_;refine xV ?_;refine sV (λk:Nat=> [(1,pt 0),(3,.tok 1 k 2 0 k),(4,iN k)]) (λk=> [lv (Aj false s),.live k (Aa Al ((s.sQ.take k).map λv=>(v.at_,C7 v.data)))]) (λk=>s.sQ.length-k) (λk=>k<=s.sQ.length) 0 ((Wk.nil (t:=3) (s:=2) zS).trans (Wk.fr zK)) zS ?_;intro k hk;refine zs ?_;refine zc ?_ ?_<;>intro h
 .refine W.skip ?_;have hlt:k<s.sQ.length:=zO;have hsz:=hs.2.2 _ (uQ hlt);have hto:s.sQ.take (k+1)=s.sQ.take k++[s.sQ[k]]:=by rw[uV];simp[hlt]
  refine zb ?_;refine Hw ?_;intro K hK;simp -implicitDefEqProofs (disch:=omega) [hlt];refine CQ (Uq s.sQ[k].data hsz) ?_;refine⟨zO,zO,?_⟩;refine xM ?_;refine⟨k+1,zO,zO,sU (k:=2) zK ?_ zS zS zS zS⟩;rw[hto,wo,BI];simp[AG,Al]
 .refine s7 ?_;have hk' :k=s.sQ.length:=zO;subst hk';refine Dx ?_;intro K hK;simp -implicitDefEqProofs (disch:=omega);(repeat refine⟨by first|assumption|omega,?_⟩);refine hK _ _ ?_;clear hK K;refine tq ?_;simp only[B6,C0,CM];refine CA (d:=0) ?_;simp -implicitDefEqProofs (disch:=omega);refine⟨by simp[AD],?_⟩;rw[uM zS,uM zS];rfl
theorem Vz (l:List (Int×Int)) (n:Int) (hl:l.length<1000000000):Ac pg 44 [.ro l.length (Aa Al l),iN n] [] (λr _=>r= .bool (decide (Cl l n))):=by
 have spB:=Dn n 1 100;refine zE (fn:=Tryz.f44) [.tmp 4] ?_;rw[Aq];refine zs ?_;by_cases c1:1<=n/\n<=100;rotate_left
 .rw[zV c1] at spB;refine AL spB ?_;refine AJ ?_;exact λh=>c1 ⟨h.1,h.2.1⟩
 rw[zT c1] at spB;by_cases c2:l.length<=13;rotate_left
 .have c2' :(13:Int)<(l.length:Int):=zO;refine z0 ?_;intro K hK;refine sW spB (by simp) (by simp) ?_;refine x7 c2' ?_;exact λh=>c2 h.2.2.1
 have c2' :¬(13:Int)<(l.length:Int):=zO;refine z0 ?_;intro K hK;refine sW spB (by simp) (by simp) ?_;refine xK c2' ?_;refine xZ ?_;refine sV (λk:Nat=> [(0,.ro l.length (Aa Al l)),(1,iN n),(5,iN k)]) (λ_=> []) (λk=>l.length-k) (λk=>k<=l.length/\∀i (h:i<l.length),i<k->(0<=l[i].1/\1<=l[i].2/\l[i].1+l[i].2<=n)/\∀t (ht:t<i),apart l[t] l[i]) 0 (Wk.fr zK) ⟨zS,λi h h2=>zO⟩ ?_;rintro i ⟨hi,hok⟩;refine zs ?_;(repeat refine ta ?_);refine W.condK λK1 K2 h1 h2=>?_;simp -implicitDefEqProofs (disch:=omega) [-and_imp];refine⟨λh=>h1 ?_,λh=>h2 ?_⟩<;>clear h1 h2 K1 K2
 .refine W.skip ?_;have hlt:i<l.length:=zO;have bad:¬((0<=l[i].1/\1<=l[i].2/\l[i].1+l[i].2<=n)/\∀t (ht:t<i),apart l[t] l[i])->¬Cl l n:=λg w=>g ⟨w.2.2.2.1 _ (uQ hlt),λt ht=>vB.1 w.2.2.2.2 t i zO hlt ht⟩;refine zb ?_;refine zw ?_;refine s5 (λb:Bool=> [(0,.ro l.length (Aa Al l)),(1,iN n),(5,iN i),(58,.bool b)]) (λ_=> []) (λb=>b=false↔(0<=l[i].1/\1<=l[i].2/\l[i].1+l[i].2<=n)) ?_ ?_
  .by_cases d1:l[i].1<0
   .refine E1 ?_;intro K hK;simp -implicitDefEqProofs (disch:=omega) [Al,hlt,d1];refine zk ?_;exact⟨true,Ao,Wk.fr zK⟩
   by_cases d2:l[i].2<1
   .refine E1 ?_;intro K hK;simp -implicitDefEqProofs (disch:=omega) [Al,hlt,d1,d2];refine zk ?_;exact⟨true,Ao,Wk.fr zK⟩
   by_cases d3:n<l[i].1
   .refine E1 ?_;intro K hK;simp -implicitDefEqProofs (disch:=omega) [Al,hlt,d1,d2,d3];refine zk ?_;exact⟨true,Ao,Wk.fr zK⟩
   by_cases d4:n-l[i].1<l[i].2
   .refine E1 ?_;intro K hK;simp -implicitDefEqProofs (disch:=omega) [Al,hlt,d1,d2,d3,d4];refine zk ?_;exact⟨true,Ao,Wk.fr zK⟩
   .refine E1 ?_;intro K hK;simp -implicitDefEqProofs (disch:=omega) [Al,hlt,d1,d2,d3,d4];refine zk ?_;exact⟨false,Ao,Wk.fr zK⟩
  .intro b hb;cases b;rotate_left
   .refine y2 ?_;refine tq ?_;simp only[B6,C0,CM];refine CA (d:=0) ?_;simp -implicitDefEqProofs (disch:=omega);exact bad (λg=>by have:=hb.2 g.1;simp at this)
   .have hr:=hb.1 rfl;refine xZ ?_;refine sV (λk:Nat=> [(0,.ro l.length (Aa Al l)),(1,iN n),(5,iN i),(6,iN k)]) (λ_=> []) (λk=>i-k) (λk=>k<=i/\∀t (ht:t<i),t<k->apart l[t] l[i]) 0 (Wk.fr zK) ⟨zS,λt ht h2=>zO⟩ ?_;rintro k ⟨hk,hap⟩;refine zs ?_;refine zc ?_ ?_<;>intro h
    .refine W.skip ?_;have hki:k<i:=zO;have hkl:k<l.length:=zO;have hrk:=(hok k hkl hki).1;refine zb ?_;by_cases e1:l[i].1<l[k].1+l[k].2
     .by_cases e2:l[k].1<l[i].1+l[i].2
      .refine E1 ?_;intro K hK;simp -implicitDefEqProofs (disch:=omega) [Al,hlt,hkl,e1,e2];refine yi ?_;refine bad (λg=>?_);have:=g.2 k hki;simp only[apart] at this;omega
      .refine E1 ?_;intro K hK;simp -implicitDefEqProofs (disch:=omega) [Al,hlt,hkl,e1,e2];refine zk ?_;refine y3 ?_;refine⟨k+1,zO,⟨zO,λt ht h2=>?_⟩,Wk.fr zK⟩;by_cases e:t=k
       .subst e;simp only[apart];omega
       .exact hap t ht zO
     .refine E1 ?_;intro K hK;simp -implicitDefEqProofs (disch:=omega) [Al,hlt,hkl,e1];refine zk ?_;refine y3 ?_;refine⟨k+1,zO,⟨zO,λt ht h2=>?_⟩,Wk.fr zK⟩;by_cases e:t=k
      .subst e;simp only[apart];omega
      .exact hap t ht zO
    .refine s7 ?_;have hk' :k=i:=zO;subst hk';refine zs ?_;refine⟨k+1,zO,⟨zO,λt ht h2=>?_⟩,Wk.fr zK⟩;by_cases e:t=k
     .subst e;exact⟨hr,λu hu=>hap u hu hu⟩
     .exact hok t ht zO
 .refine AJ ?_;refine⟨c1.1,c1.2,c2,λx hx=>?_,?_⟩
  .obtain⟨t,ht,rfl⟩:=vq.1 hx;exact(hok t ht zO).1
  .rw[vB];intro a b ha hb hab;exact(hok b hb zO).2 a hab
theorem VA (s:An) (l:List Obj) (x:B3) (hs:A0 s) (hlo:DZ l) (hx:FT x) (hm:BJ l) (ho:x.opn=true) (hp:x.pin=0):Ac pg 48 [.agg (Aj false s),.ro l.length (Aa Ar l),.agg (Af false x)] [] (λr _=>r= .bool (decide (AQ s l x))):=by
 refine zE (fn:=Tryz.f48) [.tmp 6] ?_;rw[A6];refine Cx ?_;refine th ho ?_;refine th hp ?_;cases hon:x.on
 .by_cases hf:x.frm=0
  .by_cases hst:x.sT=Az
   .have spE:=Ij x.sT Az hx.1;rw[zT hst] at spE;refine Dy (an hon hf) ?_;intro K hK;refine s6 spE (by simp[Az]) zS ?_;refine xK hon ?_;refine xY ?_;intro K hK;refine sW (HK x.job A3 hx.2) (by simp[A3]) zS ?_;by_cases hj:x.job=A3
    .rw[zT hj];refine xX ?_;simp[AQ,ho,hp,hon,hf,hst,hj]
    .rw[zV hj];refine x4 ?_;refine xS hp ?_;simp[AQ,ho,hp,hon,hf,hst,hj]
   .have spE:=Ij x.sT Az hx.1;rw[zV hst] at spE;refine Dy (an hon hf) ?_;intro K hK;refine s6 spE (by simp[Az]) zS ?_;refine x7 hon ?_;simp[AQ,ho,hp,hon,hf,hst]
    try omega
  .refine zh (an hon hf) ?_;refine AJ ?_;simp[AQ,ho,hp,hon,hf]
   try omega
 .have spL:=HL s hs;have spN:=FS x.frm (At s.sQ);by_cases hf:0<=x.frm/\x.frm<=At s.sQ;rotate_left
  .rw[zV hf] at spN;have hf' :0<=x.frm->¬x.frm<=At s.sQ:=λa b=>hf ⟨a,b⟩;refine je hon spL spN ?_;refine AJ ?_;simp only[AQ,ho,hon,we,if_false,if_true];exact λh=>hf' h.2.1.1 h.2.1.2.1
  rw[zT hf] at spN;have spG:=Na x.sT hx.1;by_cases hst:AP x.sT
  .rw[zT hst] at spG;have hf1:=hf.1;have hf2:=hf.2;refine ZP hon spL spN spG ?_;refine xY ?_;intro K hK;refine sW (HK x.job A3 hx.2) (by simp[A3]) zS ?_;by_cases hj:x.job=A3
   .rw[zT hj];refine xX ?_;simp[AQ,ho,hp,hon,hf1,hf2,hst,hj]
   .rw[zV hj];refine x4 ?_;refine xS hp ?_;simp[AQ,ho,hp,hon,hf1,hf2,hst,hj]
  .rw[zV hst] at spG;refine ZP hon spL spN spG ?_;refine AJ ?_;simp[AQ,ho,hp,hon,hst]
   try omega
theorem VB (s:An) (l:List Obj) (x:B3) (hs:A0 s) (hlo:DZ l) (hx:FT x) (hm:BJ l) (ho:x.opn=true) (hp:¬x.pin=0) (hin:∃v∈s.sQ,v.id=x.pin):Ac pg 48 [.agg (Aj false s),.ro l.length (Aa Ar l),.agg (Af false x)] [] (λr _=>r= .bool (decide (AQ s l x))):=by
 refine zE (fn:=Tryz.f48) [.tmp 6] ?_;rw[A6];refine Cx ?_;have spA:=N3 s x.pin hs;have hix:¬AN (λv:Bn=>decide (v.id=x.pin)) s.sQ<0:=by
  have:=(C9 (f:=λv:Bn=>decide (v.id=x.pin)) (l:=s.sQ)).2 (by simpa using hin);omega
 have hin' :(∃v∈s.sQ,v.id=x.pin)=True:=eq_true hin;refine th ho ?_;refine BS hp ?_;intro K hK;refine sW spA (by simp) (by simp) ?_;refine x5 hix ?_;cases hon:x.on
 .by_cases hf:x.frm=0
  .by_cases hst:x.sT=Az
   .have spE:=Ij x.sT Az hx.1;rw[zT hst] at spE;refine Dy (an hon hf) ?_;intro K hK;refine s6 spE (by simp[Az]) zS ?_;refine xK hon ?_;refine xY ?_;intro K hK;refine sW (HK x.job A3 hx.2) (by simp[A3]) zS ?_;by_cases hj:x.job=A3
    .rw[zT hj];refine xX ?_;simp[AQ,ho,hp,hin',hon,hf,hst,hj]
    .rw[zV hj];refine x4 ?_;refine th hp ?_;have hgm:=Da l x.pin;have hre:AQ s l x↔(Ct (AT l x.pin).1 x.job=true/\BX (AT l x.pin).1 x.job=false):=by simp[AQ,ho,hp,hin',hon,hf,hst,hj]
     have spO:=FE l x.pin hlo hm;obtain⟨g,hg⟩:∃g,g=(AT l x.pin).1:=zX;obtain⟨e,hee⟩:∃e,e=(AT l x.pin).2:=zX;rw[<-hg,<-hee] at spO;rw[<-hg] at hgm hre;have hde:decide (AQ s l x)=(Ct g x.job&&!BX g x.job):=by rw[wX];simp[hre]
     rw[hde];have spJ:=Xc g x.job hgm hx.2;refine z1 ?_;intro K hK;refine zj spO ?_;(repeat refine⟨by first|assumption|omega,?_⟩);refine hK _ _ ?_;clear hK K;cases hjo:Ct g x.job
     .rw[hjo] at spJ;refine AL spJ ?_;refine tq ?_;simp only[B6,C0,CM];refine CA (d:=0) ?_;simp -implicitDefEqProofs (disch:=omega);(try simp[hjo])
     .rw[hjo] at spJ;refine Hm spJ (Ku g x.job (by have:=hx.2.1;omega)) ?_;refine tq ?_;simp only[B6,C0,CM];refine CA (d:=0) ?_;simp -implicitDefEqProofs (disch:=omega);(try simp[hjo])
   .have spE:=Ij x.sT Az hx.1;rw[zV hst] at spE;refine Dy (an hon hf) ?_;intro K hK;refine s6 spE (by simp[Az]) zS ?_;refine x7 hon ?_;simp[AQ,ho,hp,hin',hon,hf,hst]
    try omega
  .refine zh (an hon hf) ?_;refine AJ ?_;simp[AQ,ho,hp,hin',hon,hf]
   try omega
 .have spL:=HL s hs;have spN:=FS x.frm (At s.sQ);by_cases hf:0<=x.frm/\x.frm<=At s.sQ;rotate_left
  .rw[zV hf] at spN;have hf' :0<=x.frm->¬x.frm<=At s.sQ:=λa b=>hf ⟨a,b⟩;refine je hon spL spN ?_;refine AJ ?_;simp only[AQ,ho,hon,we,if_false,if_true];exact λh=>hf' h.2.1.1 h.2.1.2.1
  rw[zT hf] at spN;have spG:=Na x.sT hx.1;by_cases hst:AP x.sT
  .rw[zT hst] at spG;have hf1:=hf.1;have hf2:=hf.2;refine ZP hon spL spN spG ?_;refine xY ?_;intro K hK;refine sW (HK x.job A3 hx.2) (by simp[A3]) zS ?_;by_cases hj:x.job=A3
   .rw[zT hj];refine xX ?_;simp[AQ,ho,hp,hin',hon,hf1,hf2,hst,hj]
   .rw[zV hj];refine x4 ?_;refine th hp ?_;have hgm:=Da l x.pin;have hre:AQ s l x↔(Ct (AT l x.pin).1 x.job=true/\BX (AT l x.pin).1 x.job=false):=by simp[AQ,ho,hp,hin',hon,hf1,hf2,hst,hj]
    have spO:=FE l x.pin hlo hm;obtain⟨g,hg⟩:∃g,g=(AT l x.pin).1:=zX;obtain⟨e,hee⟩:∃e,e=(AT l x.pin).2:=zX;rw[<-hg,<-hee] at spO;rw[<-hg] at hgm hre;have hde:decide (AQ s l x)=(Ct g x.job&&!BX g x.job):=by rw[wX];simp[hre]
    rw[hde];have spJ:=Xc g x.job hgm hx.2;refine z1 ?_;intro K hK;refine zj spO ?_;(repeat refine⟨by first|assumption|omega,?_⟩);refine hK _ _ ?_;clear hK K;cases hjo:Ct g x.job
    .rw[hjo] at spJ;refine AL spJ ?_;refine tq ?_;simp only[B6,C0,CM];refine CA (d:=0) ?_;simp -implicitDefEqProofs (disch:=omega);(try simp[hjo])
    .rw[hjo] at spJ;refine Hm spJ (Ku g x.job (by have:=hx.2.1;omega)) ?_;refine tq ?_;simp only[B6,C0,CM];refine CA (d:=0) ?_;simp -implicitDefEqProofs (disch:=omega);(try simp[hjo])
  .rw[zV hst] at spG;refine ZP hon spL spN spG ?_;refine AJ ?_;simp[AQ,ho,hp,hin',hon,hst]
   try omega
theorem VC (s:An) (l:List Obj) (x:B3) (hs:A0 s) (hlo:DZ l) (hx:FT x) (hm:BJ l):Ac pg 48 [.agg (Aj false s),.ro l.length (Aa Ar l),.agg (Af false x)] [] (λr _=>r= .bool (decide (AQ s l x))):=by
 by_cases ho' :x.opn=false
 .have spE:=NC x BU hx;refine zE (fn:=Tryz.f48) [.tmp 6] ?_;rw[A6];refine Cx ?_;refine yl ho' ?_;intro K hK;refine sW spE (by simp[BU,Az,A3,ho']) zS ?_;refine xU ?_;simp[AQ,ho']
 have ho:x.opn=true:=by cases h:x.opn<;>simp_all
 by_cases hp:x.pin=0
 .exact VA s l x hs hlo hx hm ho hp
 by_cases hin:∃v∈s.sQ,v.id=x.pin
 .exact VB s l x hs hlo hx hm ho hp hin
 have spA:=N3 s x.pin hs;have hix:AN (λv:Bn=>decide (v.id=x.pin)) s.sQ<0:=by
  have:=mt (C9 (f:=λv:Bn=>decide (v.id=x.pin)) (l:=s.sQ)).1 (by simpa using hin);omega
 have hin' :(∃v∈s.sQ,v.id=x.pin)=False:=eq_false hin;refine zE (fn:=Tryz.f48) [.tmp 6] ?_;rw[A6];refine Cx ?_;refine th ho ?_;refine BS hp ?_;intro K hK;refine sW spA (by simp) (by simp) ?_;refine x7 hix ?_;simp only[AQ,ho,hin',hp];simp
def O0 (s:An) (i:Nat) (h:i<s.sQ.length):Prop:=(AT (Ae s) s.sQ[i].id).2=0/\GX s.sQ[i]/\¬(s.sQ[i].gone=true/\i+1=s.sQ.length)
theorem Mv (s:An):A2 s↔(1<=s.keep/\s.keep<=8)/\(1<=s.sS/\s.sS<=100)/\s.sQ.length<=12/\s.sR.length=3/\BJ (Ae s)/\Cl (AD s) s.sS/\(∀i (h:i<s.sQ.length),O0 s i h)/\∀x∈s.sR,AQ s (Ae s) x:=by
 have hlast:DP s.sQ=false↔∀i (h:i<s.sQ.length),¬(s.sQ[i].gone=true/\i+1=s.sQ.length):=by
  unfold DP;rw[vV];by_cases h0:s.sQ.length=0
  .have:s.sQ=[]:=vr h0;rw[this];simp
  .have hl:s.sQ.length-1<s.sQ.length:=zO;rw[uT hl];simp only;constructor
   .intro h i hi hg;have:i=s.sQ.length-1:=zO;subst this;rw[h] at hg;simp at hg
   .intro h;have:=h (s.sQ.length-1) hl;cases hg:(s.sQ[s.sQ.length-1]).gone
    .rfl
    .exact absurd ⟨hg,zO⟩ this
 have hof:(∀o∈Ae s,(AT (Ae s) o.id).2=0)↔∀i (h:i<s.sQ.length),(AT (Ae s) s.sQ[i].id).2=0:=by
  constructor
  .intro h i hi;exact h (B2 s.sQ[i]) (vH.2 ⟨_,uQ hi,rfl⟩)
  .intro h o ho;obtain⟨v,hv,rfl⟩:=vH.1 ho;obtain⟨i,hi,rfl⟩:=vq.1 hv;exact h i hi
 have hver:(∀v∈s.sQ,GX v)↔∀i (h:i<s.sQ.length),GX s.sQ[i]:=by
  constructor
  .intro h i hi;exact h _ (uQ hi)
  .intro h v hv;obtain⟨i,hi,rfl⟩:=vq.1 hv;exact h i hi
 unfold A2 EA HG;rw[hlast,hof,hver];constructor
 .rintro⟨⟨⟨a1,a2,a3,a4,a5,a6,a7⟩,b,c,d⟩,e⟩;exact⟨⟨a1,a2⟩,⟨a3,a4⟩,by have:=a7.1;simpa[Ae] using this,b,a7,e,λi h=>⟨c i h,a5 i h,a6 i h⟩,d⟩
 .rintro⟨⟨a1,a2⟩,⟨a3,a4⟩,_,b,a7,e,f,d⟩;exact⟨⟨⟨a1,a2,a3,a4,λi h=>(f i h).2.1,λi h=>(f i h).2.2,a7⟩,b,λi h=>(f i h).1,d⟩,e⟩
theorem YQ (s:An) (hs:A0 s) (hx:BO s):Ac pg 14 [.agg (Aj false s)] [] (λr _=>r= .bool (decide (A2 s))):=by
 have hi:=Mv s;have h1:=hs.1;have h2:=hs.2.1;have spK:=Dn s.keep 1 8;have spB:=Dn s.sS 1 100;refine zE (fn:=Tryz.f14) [.tmp 2] ?_;rw[AC];refine AX ?_;by_cases c1:1<=s.keep/\s.keep<=8;rotate_left
 .rw[zV c1] at spK;refine AL spK ?_;refine AJ ?_;exact λh=>c1 (hi.1 h).1
 rw[zT c1] at spK;by_cases c2:1<=s.sS/\s.sS<=100;rotate_left
 .rw[zV c2] at spB;refine z0 ?_;intro K hK;refine zj spK ?_;refine sW spB (by simp) (by simp) ?_;simp only[Et];simp -implicitDefEqProofs (disch:=omega) [];refine yi ?_;exact λh=>c2 (hi.1 h).2.1
 rw[zT c2] at spB;by_cases c3:s.sQ.length<=12;rotate_left
 .have c3' :(12:Int)<(s.sQ.length:Int):=zO;refine z0 ?_;intro K hK;refine zj spK ?_;refine sW spB (by simp) (by simp) ?_;refine x7 c3' ?_;exact λh=>c3 (hi.1 h).2.2.1
 have c3' :¬(12:Int)<(s.sQ.length:Int):=zO;by_cases c4:s.sR.length=3;rotate_left
 .have c4' :((s.sR.length:Int)=3)=False:=eq_false zO;refine z0 ?_;intro K hK;refine zj spK ?_;refine sW spB (by simp) (by simp) ?_;refine x7 (an c3' c4') ?_;exact λh=>c4 (hi.1 h).2.2.2.1
 have c4' :((s.sR.length:Int)=3)=True:=eq_true zO;refine z0 ?_;intro K hK;refine zj spK ?_;refine sW spB (by simp) (by simp) ?_;refine x5 (an c3' c4') ?_;have spO:=Nc s hs;have spR:=Ux s hs;have hlo:DZ (Ae s):=hs.objs;have spM:=W9 (Ae s) hlo;have spP:=Vz (AD s) s.sS (by simp[AD];exact hs.1);obtain⟨l,hl⟩:∃l,l=Ae s:=zX;obtain⟨ps,hps⟩:∃ps,ps=AD s:=zX;have hll:l.length=s.sQ.length:=by rw[hl];simp[Ae]
 rw[<-hl] at spO spM hlo;rw[<-hps] at spR spP;refine AL spO ?_;by_cases c5:BJ l;rotate_left
 .rw[zV c5] at spM;refine Ud spM ?_;refine AJ ?_;exact λh=>c5 (by rw[hl];exact(hi.1 h).2.2.2.2.1)
 rw[zT c5] at spM;by_cases c6:Cl ps s.sS;rotate_left
 .rw[zV c6] at spP;refine Wz spM spR spP ?_;refine AJ ?_;exact λh=>c6 (by rw[hps];exact(hi.1 h).2.2.2.2.2.1)
 rw[zT c6] at spP;refine Wz spM spR spP ?_;refine xZ ?_;refine sV (λk:Nat=> [(1,pt 0),(3,.tok 1 0 4 0 l.length),(4,iN k)]) (λ_=> [lv (Aj false s),lv (Aa Ar l)]) (λk=>s.sQ.length-k) (λk=>k<=s.sQ.length/\∀i (h:i<s.sQ.length),i<k->O0 s i h) 0 (sU (k:=2) zK zS zS zS zS zS) ⟨zO,λi h h2=>zO⟩ ?_;rintro k ⟨hk,hok⟩;refine zs ?_;refine zc ?_ ?_<;>intro h
 .refine W.skip ?_;have hlt:k<s.sQ.length:=zO;have bad:¬O0 s k hlt->¬A2 s:=λg w=>g ((hi.1 w).2.2.2.2.2.2.1 k hlt);have spV:=FE l s.sQ[k].id hlo c5;have spN:=FS s.sQ[k].parent (s.sQ[k].id-1);have hidb:1<=s.sQ[k].id/\s.sQ[k].id<=1048576:=by
   have:=c5.2.1 (B2 s.sQ[k]) (by rw[hl];exact vH.2 ⟨_,uQ hlt,rfl⟩);exact⟨this.1,this.2.1⟩
  obtain⟨g,hg⟩:∃g,g=(AT l s.sQ[k].id).1:=zX;obtain⟨e,he⟩:∃e,e=(AT l s.sQ[k].id).2:=zX;rw[<-hg,<-he] at spV;refine x9 ?_;intro K hK;simp -implicitDefEqProofs (disch:=omega) [hlt];refine zk ?_;refine EU spV ?_;refine zw ?_;refine s5 (λb:Bool=> [(1,pt 0),(3,.tok 1 0 4 0 l.length),(4,iN k),(93,.bool b)]) (λ_=> [lv (Aj false s),lv (Aa Ar l)]) (λb=>b=false↔O0 s k hlt) ?_ ?_
  .by_cases d1:e=0;rotate_left
   .refine zg d1 ?_;exact⟨true,by simp only[we,false_iff];exact λh=>d1 (by rw[he,hl];exact h.1),sU (k:=2) zK zS zS zS zS zS⟩
   by_cases d2:0<=s.sQ[k].parent/\s.sQ[k].parent<=s.sQ[k].id-1;rotate_left
   .rw[zV d2] at spN;refine GL d1 spN ?_;exact⟨true,by simp only[we,false_iff];exact λh=>d2 ⟨h.2.1.1,by have:=h.2.1.2.1;omega⟩,sU (k:=2) zK zS zS zS zS zS⟩
   rw[zT d2] at spN;cases d3:s.sQ[k].gone
   .refine BS (an d1 d3) ?_;intro K hK;refine sW spN (by simp) (by simp) ?_;cases d4:s.sQ[k].tag
    all_goals (
     refine AO (an d3 d4) ?_;refine zk ?_;exact⟨false,by simp only[true_iff];exact⟨by rw[<-hl,<-he];exact d1,⟨d2.1,by have:=d2.2;omega,by simp[d3]⟩,by simp[d3]⟩,sU (k:=2) zK zS zS zS zS zS⟩)
   .cases d4:s.sQ[k].tag;rotate_left
    .refine BS (an d1 d3) ?_;intro K hK;refine sW spN (by simp) (by simp) ?_;refine xK (an d3 d4) ?_;exact⟨true,by simp only[we,false_iff];exact λh=>h.2.1.2.2 ⟨d4,d3⟩,sU (k:=2) zK zS zS zS zS zS⟩
    .by_cases d5:k+1=s.sQ.length
     .have d5' :((k:Int)=(s.sQ.length:Int)-1)=True:=eq_true zO;refine BS (an d1 d3) ?_;intro K hK;refine sW spN (by simp) (by simp) ?_;refine xK (an d3 (an d4 d5')) ?_;exact⟨true,by simp only[we,false_iff];exact λh=>h.2.2 ⟨d3,d5⟩,sU (k:=2) zK zS zS zS zS zS⟩
     .have d5' :((k:Int)=(s.sQ.length:Int)-1)=False:=eq_false zO;refine BS (an d1 d3) ?_;intro K hK;refine sW spN (by simp) (by simp) ?_;refine xK (an d3 (an d4 d5')) ?_;exact⟨false,by simp only[true_iff];exact⟨by rw[<-hl,<-he];exact d1,⟨d2.1,by have:=d2.2;omega,by simp[d4]⟩,λh=>d5 h.2⟩,sU (k:=2) zK zS zS zS zS zS⟩
  .intro b hb;cases b
   .refine y3 ?_;refine⟨k+1,zO,⟨zO,λi hi' h2=>?_⟩,Wk.fr zK⟩;by_cases ee:i=k
    .subst ee;exact hb.1 rfl
    .exact hok i hi' zO
   .refine AJ ?_;exact bad (λg=>by have:=hb.2 g;simp at this)
 .refine s7 ?_;have hk' :k=s.sQ.length:=zO;subst hk';have hall:∀i (h:i<s.sQ.length),O0 s i h:=λi h=>hok i h h;refine xR ?_;refine sV (λk:Nat=> [(1,pt 0),(3,.tok 1 0 4 0 l.length),(8,iN k)]) (λ_=> [lv (Aj false s),lv (Aa Ar l)]) (λk=>s.sR.length-k) (λk=>k<=s.sR.length/\∀i (h:i<s.sR.length),i<k->AQ s l s.sR[i]) 0 (Wk.fr zK) ⟨zO,λi h h2=>zO⟩ ?_;rintro k ⟨hk,hso⟩;refine zs ?_;refine zc ?_ ?_<;>intro h
  .refine W.skip ?_;have hlt:k<s.sR.length:=zO;have spS:=VC s l s.sR[k] hs hlo (hx _ (uQ hlt)) c5;refine zb ?_;by_cases d:AQ s l s.sR[k]
   .rw[zT d] at spS;refine E1 ?_;intro K hK;simp -implicitDefEqProofs (disch:=omega) [hlt];refine xW spS ?_;refine y3 ?_;refine⟨k+1,zO,⟨zO,λi hi' h2=>?_⟩,Wk.fr zK⟩;by_cases ee:i=k
    .subst ee;exact d
    .exact hso i hi' zO
   .rw[zV d] at spS;refine E1 ?_;intro K hK;simp -implicitDefEqProofs (disch:=omega) [hlt];refine xW spS ?_;refine AJ ?_;exact λh=>d (by rw[hl];exact(hi.1 h).2.2.2.2.2.2.2 _ (uQ hlt))
  .refine AJ ?_;refine hi.2 ⟨c1,c2,c3,c4,by rw[<-hl];exact c5,by rw[<-hps];exact c6,hall,λx hxm=>?_⟩;obtain⟨i,hi',rfl⟩:=vq.1 hxm;rw[<-hl];exact hso i hi' zO
abbrev Gw:Nat:=281474976710656
def WN (B:Nat) (P:Nat->Prop):AV->List Ag->Prop:=λr _=>∃n:Nat,r=iN n/\n<B/\(n<1048576->P n)
theorem bT (xs:List (List Int)) (h1:xs.length<Gw) (h2:∀l∈xs,l.length<Gw):Ac pg 79 [.ro xs.length (Ak false xs)] [] (WN 562949953421312 λn=>xs.length<=n/\∀l∈xs,l.length<=n):=by
 simp only[Gw] at h1 h2;refine zE (fn:=Tryz.f79) [.tmp 2] ?_;rw[AC];refine xZ ?_;refine sV (λs:Nat×Nat=> [(0,.ro xs.length (Ak false xs)),(3,iN (s.2:Nat)),(4,iN (s.1:Nat))]) (λ_=> []) (λs=>xs.length-s.1) (λs=>s.1<=xs.length/\xs.length<=s.2/\s.2<562949953421312/\∀l∈xs.take s.1,l.length<=s.2) (0,xs.length) (Wk.fr zK) ⟨zS,zS,by simp only;omega,zS⟩ ?_;rintro⟨i,n⟩ ⟨hi,hn,hb,hl⟩;simp only at hi hn hb hl;by_cases c1:i<xs.length
 .by_cases c2:n<1048576
  .have c2' :(n:Int)<1048576:=zO;have hto:xs.take (i+1)=xs.take i++[xs[i]]:=by rw[uV];simp[c1]
   have hli:=h2 _ (uQ c1);refine xL (an c1 c2') ?_;refine Dx ?_;intro K hK;simp -implicitDefEqProofs (disch:=omega) [c1];refine xM ?_;refine⟨(i+1,n+xs[i].length),by simp only;omega,⟨by simp only;omega,by simp only;omega,by simp only;omega,λl hlm=>?_⟩,Wk.fr zK⟩;rw[hto] at hlm;simp only[vd,wA] at hlm;rcases hlm with hlm|rfl
   .have:=hl l hlm;simp only;omega
   .simp only;omega
  .have c2' :¬(n:Int)<1048576:=zO;refine x3 (an c1 c2') ?_;exact⟨n,rfl,zO,λh=>zO⟩
 .refine th c1 ?_;have:i=xs.length:=zO;subst this;rw[uW] at hl;refine Bd ?_;exact⟨n,rfl,zO,λh=>⟨hn,hl⟩⟩
theorem TC (j:B7) (h1:j.list.length<Gw) (h2:j.out.length<Gw):Ac pg 80 [.agg (BY false j)] [] (λr _=>r=iN ((j.list.length:Int)+j.out.length)):=by
 simp only[Gw] at h1 h2;refine zE (fn:=Tryz.f80) [.tmp 2] ?_;rw[AC];refine AX ?_;exact DM
def Xd (n:Nat) (l:List Obj):Prop:=l.length<=n/\∀o∈l,o.data.data.size/4<=n
def nE (g:Gr):Prop:=g.out.length<Gw/\∀l∈g.out,l.length<Gw
def kz (x:B3):Prop:=nE x.sT/\x.job.list.length<Gw/\x.job.out.length<Gw
def Ji (s:An):Prop:=s.sQ.length<Gw/\s.sR.length<Gw/\(∀v∈s.sQ,v.data.data.size<Gw)/\∀x∈s.sR,kz x
def HO (n:Nat) (x:B3):Prop:=x.sT.out.length<=n/\(∀l∈x.sT.out,l.length<=n)/\x.job.list.length<=n/\x.job.out.length<=n
def HP (n:Nat) (s:An):Prop:=s.sQ.length<=n/\s.sR.length<=n/\(∀v∈s.sQ,v.data.data.size/4<=n)/\∀x∈s.sR,HO n x
theorem HO.mono {n m:Nat} (h:n<=m) {x:B3} (k:HO n x):HO m x:=⟨by have:=k.1;omega,λl hl=>by have:=k.2.1 l hl;omega,by have:=k.2.2.1;omega,by have:=k.2.2.2;omega⟩
theorem HP.mono {n m:Nat} (h:n<=m) {s:An} (k:HP n s):HP m s:=⟨by have:=k.1;omega,by have:=k.2.1;omega,λv hv=>by have:=k.2.2.1 v hv;omega,λx hx=>(k.2.2.2 x hx).mono h⟩
def bU (n:Nat) (g:Gr):Prop:=g.out.length<=n/\∀l∈g.out,l.length<=n
theorem Q6 (s:An) (h:Ji s):Ac pg 40 [.agg (Aj false s)] [] (λr _=>∃n:Nat,r=iN n/\n<4503599627370496/\(n<1048576->HP n s)):=by
 obtain⟨h1,h2,h3,h4⟩:=h;simp only[Gw] at h1 h2 h3;refine zE (fn:=Tryz.f40) [.tmp 2] ?_;rw[AC];refine AX ?_;refine xV ?_;refine sV (λz:Nat×Nat=> [(1,pt 0),(3,iN (z.2:Nat)),(4,iN (z.1:Nat))]) (λ_=> [lv (Aj false s)]) (λz=>s.sQ.length-z.1) (λz=>z.1<=s.sQ.length/\s.sQ.length+s.sR.length<=z.2/\z.2<1125899906842624/\∀v∈s.sQ.take z.1,v.data.data.size/4<=z.2) (0,s.sQ.length+s.sR.length) (Wk.fr zK) ⟨zS,zS,by simp only;omega,zS⟩ ?_;rintro⟨i,n⟩ ⟨hi,hn,hb,hl⟩;simp only at hi hn hb hl;by_cases c:i<s.sQ.length/\n<1048576
 .obtain⟨c1,c2⟩:=c;have c2' :(n:Int)<1048576:=zO;have hto:s.sQ.take (i+1)=s.sQ.take i++[s.sQ[i]]:=by rw[uV];simp[c1]
  have hli:=h3 _ (uQ c1);refine xL (an c1 c2') ?_;refine Dx ?_;intro K hK;simp -implicitDefEqProofs (disch:=omega) [c1];refine xM ?_;refine⟨(i+1,n+s.sQ[i].data.data.size/4),by simp only;omega,⟨by simp only;omega,by simp only;omega,by simp only;omega,λv hv=>?_⟩,Wk.fr zK⟩;rw[hto] at hv;simp only[vd,wA] at hv;rcases hv with hv|rfl
  .have:=hl v hv;simp only;omega
  .simp only;omega
 .have hend:n<1048576->∀v∈s.sQ,v.data.data.size/4<=n:=λhh v hv=>hl v (by rw[uM (by omega)];exact hv);refine zw ?_;refine s5 (λ_:Unit=> [(1,pt 0),(3,iN (n:Nat)),(21,.bool false)]) (λ_=> [lv (Aj false s)]) (λ_=>True) ?_ ?_
  .by_cases c1:i<s.sQ.length
   .have c2' :¬(n:Int)<1048576:=zO;refine zg (an c1 c2') ?_;exact⟨(),trivial,Wk.fr zK⟩
   .refine zg c1 ?_;exact⟨(),trivial,Wk.fr zK⟩
  rintro _ _;refine y3 ?_;clear hl;refine zb ?_;refine sV (λz:Nat×Nat=> [(1,pt 0),(3,iN (z.2:Nat)),(5,iN (z.1:Nat))]) (λ_=> [lv (Aj false s)]) (λz=>s.sR.length-z.1) (λz=>z.1<=s.sR.length/\n<=z.2/\z.2<4503599627370496/\∀x∈s.sR.take z.1,z.2<1048576->HO z.2 x) (0,n) (Wk.fr zK) ⟨zS,zS,by simp only;omega,zS⟩ ?_;rintro⟨k,m⟩ ⟨hk,hm,hmb,hsm⟩;simp only at hk hm hmb hsm;by_cases d:k<s.sR.length/\m<1048576
  .obtain⟨d1,d2⟩:=d;have d2' :(m:Int)<1048576:=zO;have hto:s.sR.take (k+1)=s.sR.take k++[s.sR[k]]:=by rw[uV];simp[d1]
   obtain⟨b1,b2,b3⟩:=h4 _ (uQ d1);have spJ:=TC s.sR[k].job b2 b3;have spL:=bT s.sR[k].sT.out b1.1 b1.2;simp only[Gw] at b2 b3;refine xL (an d1 d2') ?_;refine E1 ?_;intro K hK;simp -implicitDefEqProofs (disch:=omega) [d1];refine⟨_,_,spL,(λh=>by cases h),.inl ⟨rfl,⟨[],by simp[By]⟩,?_⟩⟩;rintro r ⟨q,rfl,hq,hqs⟩;refine⟨zS,?_⟩;simp only[Et];simp -implicitDefEqProofs (disch:=omega) [d1];refine CQ spJ ?_;refine xM ?_;refine⟨(k+1,m+q+(s.sR[k].job.list.length+s.sR[k].job.out.length)),by simp only;omega,⟨by simp only;omega,by simp only;omega,by simp only;omega,λx hx=>?_⟩,Wk.fr (by simp[AA];try omega)⟩;rw[hto] at hx;simp only[vd,wA] at hx;rcases hx with hx|rfl
   .intro hlt;exact(hsm x hx (by simp only at hlt;omega)).mono (by simp only;omega)
   .intro hlt;simp only at hlt;obtain⟨q1,q2⟩:=hqs zO;exact⟨by simp only;omega,λl hl=>by have:=q2 l hl;simp only;omega,by simp only;omega,by simp only;omega⟩
  .have hend2:m<1048576->∀x∈s.sR,HO m x:=λhh x hx=>hsm x (by rw[uM zO];exact hx) hh;refine zw ?_;refine s5 (λ_:Unit=> [(1,pt 0),(3,iN (m:Nat)),(43,.bool false)]) (λ_=> [lv (Aj false s)]) (λ_=>True) ?_ ?_
   .by_cases c1:k<s.sR.length
    .have c2' :¬(m:Int)<1048576:=zO;refine zg (an c1 c2') ?_;exact⟨(),trivial,Wk.fr zK⟩
    .refine zg c1 ?_;exact⟨(),trivial,Wk.fr zK⟩
   rintro _ _;refine Ck ?_;exact⟨m,rfl,zO,λhh=>⟨zO,zO,λv hv=>by have:=hend zO v hv;omega,hend2 hh⟩⟩
def gL (L:List (List Obj)):List AV:=L.map λl=>AV.ro l.length (Aa Ar l)
section
variable (xs:List (List Obj)) (k:Nat)
end
def kA (G:List Gr) (na:Nat):List AV:=[.ro G.length (Aa (A1 false) G),.ro na []]
def gM (L:List (List Obj)) (G:List Gr) (na nn:Nat):List AV:= .ro L.length (gL L)::(kA G na++[.ro nn []])
def sk (S:List An) (L:List (List Obj)) (G:List Gr) (na nn:Nat):List AV:= .ro S.length (Aa (Aj false) S)::gM L G na nn
def nF (G:List Gr):Prop:=G.length<=1200/\∀g∈G,bU 1200 g
def nG (L:List (List Obj)):Prop:=L.length<=700/\∀l∈L,Xd 700 l
def qg (P:Prop):AV->List Ag->Prop:=λr _=>∃b:Bool,r= .bool b/\(b=false->P)
theorem eW:Ey []=F0:=by funext t;simp[Ey,F0]
theorem VD:A2 (EX 9 2):=by
 rw[Mv];refine⟨by simp[EX],by simp[EX],by simp[EX],by simp[EX],⟨by simp[EX,Ae],by simp[EX,Ae],by simp[EX,Ae]⟩,⟨by simp[EX],by simp[EX],by simp[EX,AD],by simp[EX,AD],by simp[EX,AD]⟩,λi h=>by simp[EX] at h,λx hx=>?_⟩;have:x=BU:=by simpa[EX] using hx
 subst this;simp[AQ,BU]
def nH (s:An) (keep:Int) (k:Nat) (tag gone:Bool):An:={s with keep:=keep,sQ:=match s.sQ[k]? with|some v=>s.sQ.set k {v with tag:=tag,gone:=gone} |none=>s.sQ}
theorem O1 (l m:List Bn) (h:l.map (λv=>v.id)=m.map λv=>v.id):At l=At m:=by
 have:=congrArg List.getLast? h;rw[xF,xF] at this;unfold At;cases hl:l.getLast?<;>cases hm:m.getLast?<;>simp_all
theorem Ky (l:List Bn) (i:Int):(∃v∈l,v.id=i)↔i∈l.map λv=>v.id:=zS
def BV:List Bool->Int->Int->List (Int×Int)
 | [],i,a=>if a<i then [(a,i-a)] else []
 |false::t,i,a=>BV t (i+1) a
 |true::t,i,a=>(if a<i then [(a,i-a)] else [])++BV t (i+1) (i+1)
theorem He:∀(t:List Bool) (i a:Int),(BV t i a).length<=t.length+1
 | [],i,a=>by unfold BV;split<;>simp
 |false::t,i,a=>by have:=He t (i+1) a;unfold BV;simp;omega
 |true::t,i,a=>by
  have:=He t (i+1) (i+1);unfold BV;split<;>simp<;>omega
theorem QD {t:List Bool} {i:Nat} (h:i<t.length) (b:t[i]=true) (a:Int):BV (t.drop i) i a=(if a<i then [(a,(i:Int)-a)] else [])++BV (t.drop (i+1)) ((i:Int)+1) ((i:Int)+1):=by
 rw[uX h,b,BV]
theorem O2 {t:List Bool} {i:Nat} (h:i<t.length) (b:t[i]=false) (a:Int):BV (t.drop i) i a=BV (t.drop (i+1)) ((i:Int)+1) a:=by
 rw[uX h,b,BV]
theorem Mw {t:List Bool} {i:Nat} (h:t.length<=i) (i' a:Int):BV (t.drop i) i' a=if a<i' then [(a,i' -a)] else []:=by
 rw[wz h,BV]
theorem eZ (t:List Bool) (ht:t.length<1000000000):Ac pg 260 [.ro t.length (Ba t)] [] (λr _=>r= .own 2 (BV t 0 0).length (Aa Al (BV t 0 0))):=by
 refine zE (fn:=Tryz.f260) [.tmp 2] ?_;rw[AC];refine y2 ?_;obtain⟨g,hg⟩:∃g,g=BV t 0 0:=zX;have hgl:g.length<=t.length+1:=by rw[hg];exact He ..
 rw[<-hg];refine zb ?_;refine sV (λx:Nat×Nat=> [(0,.ro t.length (Ba t)),(2,.tok 0 x.2 2 0 x.2),(3,iN x.1)]) (λx=> [.live x.2 (Aa Al (g.take x.2))]) (λx=>t.length+1-x.1) (λx=>x.1<=t.length+1/\x.2<=x.1/\x.2<=g.length/\g.drop x.2=BV (t.drop x.1) x.1 x.1) (0,0) ((Wk.nil (t:=2) (s:=2) zS).trans (Wk.fr zK)) ⟨zO,zO,zO,by simp[hg]⟩ ?_;rintro⟨i,k⟩ ⟨hi,hki,hkg,hk⟩;simp only at hi hki hkg hk |-;by_cases c1:i<t.length;rotate_left
 .refine th c1 ?_;have:k=g.length:=by
   rw[Mw zO,zM zO] at hk;have:=congrArg List.length hk;simp at this;omega
  subst this;rw[uW];exact DM
 refine yr c1 ?_;refine zb ?_;refine sV (λj:Nat=> [(0,.ro t.length (Ba t)),(2,.tok 0 k 2 0 k),(3,iN j),(4,iN i)]) (λ_=> [.live k (Aa Al (g.take k))]) (λj=>t.length-j) (λj=>i<=j/\j<=t.length/\g.drop k=BV (t.drop j) j i) i (Wk.fr zK) ⟨zO,zO,hk⟩ ?_;rintro j ⟨hij,hjl,hj⟩;by_cases c2:∃h:j<t.length,t[j]=false
 .obtain⟨c2,c3⟩:=c2;refine yr (an c2 c3) ?_;exact⟨j+1,zO,⟨zO,zO,by rw[hj,O2 c2 c3];simp⟩,Wk.fr zK⟩
 have hrest:∃l,g.drop k=(if i<j then [((i:Int),(j:Int)-i)] else [])++l/\l=BV (t.drop (j+1)) ((j:Int)+1) ((j:Int)+1):=by
  refine⟨_,?_,rfl⟩;rw[hj];by_cases c3:j<t.length
  .have c4:t[j]=true:=by
    cases e:t[j]
    .exact absurd ⟨c3,e⟩ c2
    .rfl
   rw[QD c3 c4];by_cases e:i<j<;>simp[e]
  .rw[Mw zO,Mw zO,zM (show¬((j:Int)+1<(j:Int)+1) by omega),vM];by_cases e:i<j<;>simp[e]
 obtain⟨l,hl,hle⟩:=hrest;refine zw ?_;refine s5 (λ_:Unit=> [(0,.ro t.length (Ba t)),(2,.tok 0 k 2 0 k),(3,iN j),(4,iN i),(22,.bool false)]) (λ_=> [.live k (Aa Al (g.take k))]) (λ_=>True) ?_ ?_
 .by_cases c3:j<t.length
  .have c4:t[j]=true:=by
    cases e:t[j]
    .exact absurd ⟨c3,e⟩ c2
    .rfl
   refine zg (an c3 c4) ?_;exact⟨(),trivial,Wk.fr zK⟩
  .refine zg c3 ?_;exact⟨(),trivial,Wk.fr zK⟩
 rintro _ _;refine y2 ?_;by_cases c5:i<j
 .have c5' :(i:Int)<(j:Int):=zO;rw[zP c5] at hl;have hkl:k<g.length:=by
   have:=congrArg List.length hl;simp at this;omega
  have hgk:g[k]=((i:Int),(j:Int)-i):=by
   have:=uX hkl;rw[hl] at this;simpa using (List.cons.inj this).1.symm
  have hdl:g.drop (k+1)=l:=by
   have:=uX hkl;rw[hl] at this;simpa using (List.cons.inj this).2.symm
  have hto:g.take (k+1)=g.take k++[((i:Int),(j:Int)-i)]:=by
   rw[uV];simp[hkl,hgk]
  refine xP c5' ?_;refine GQ hkl ?_;intro K hK;refine⟨zO,zO,?_⟩;refine xM ?_;refine⟨(j+1,k+1),by simp only;omega,⟨by simp only;omega,by simp only;omega,by simp only;omega,by simp only;rw[hdl,hle];simp⟩,sU (k:=1) zK ?_ zS zS zS zS⟩;rw[hto];simp[BI,AG,Al]
 .have c5' :¬(i:Int)<(j:Int):=zO;rw[zM c5,List.nil_append] at hl;refine xL c5' ?_;refine⟨(j+1,k),by simp only;omega,⟨by simp only;omega,by simp only;omega,hkg,by simp only;rw[hl,hle];simp⟩,Wk.fr zK⟩
def Eh (l:List (Int×Int)) (sS n:Int):Int×Int:=
 if Cl l sS/\(1<=n/\n<=100) then match (BV (B0 l sS.toNat) 0 0).find? λx=>decide (n<=x.2) with
  |some x=>(x.1,0)
  |none=>(0,5)
 else(0,1)
theorem Jj {α:Type} {p:α->Bool} {g:List α} {k:Nat} (hk:k<g.length) (h:∀x∈g.take k,p x=false) (hp:p g[k]=true):g.find? p=some g[k]:=by
 have e:g=g.take k++g[k]::g.drop (k+1):=by rw[<-uX hk,List.take_append_drop]
 have e2:(g.take k++g[k]::g.drop (k+1)).find? p=some g[k]:=by
  rw[xm,wN.2 (by intro x hx;simpa using h x hx)];simp only[Option.none_or,List.find?_cons,hp]
 exact(congrArg (List.find? p) e).trans e2
theorem JR {α:Type} {p:α->Bool} {g:List α} {k:Nat} (hk:k<g.length) (h:∀x∈g.take k,p x=false) (hp:p g[k]=false):∀x∈g.take (k+1),p x=false:=by
 intro x hx;rw[wP hk,vd] at hx;rcases hx with hx|hx
 .exact h x hx
 .simp at hx;subst hx;exact hp
theorem fa (l:List (Int×Int)) (sS n:Int) (hl:l.length<1000000000):Ac pg 222 [.ro l.length (Aa Al l),iN sS,iN n] [] (λr _=>r= .tup [iN (Eh l sS n).1,iN (Eh l sS n).2]):=by
 have sp:=Up l sS hl;refine zE (fn:=Tryz.f222) [.tmp 6,.tmp 7] ?_;rw[A6];refine zs ?_;by_cases c1:Cl l sS;rotate_left
 .rw[Jd,zM c1] at sp;refine AL sp ?_;refine Ck ?_;simp[Eh,c1]
 rw[Jd,zP c1] at sp;have hn:sS.toNat<=100:=by have:=c1.2.1;omega
 refine AL sp ?_;refine z0 ?_;intro K hK;refine sW (Sr n) (by simp) (by simp) ?_;by_cases c2:1<=n/\n<=100;rotate_left
 .rw[zV c2];refine xX ?_;simp[Eh,c2]
 rw[zT c2];refine x4 ?_;have spg:=eZ (B0 l sS.toNat) Ao;rw[OO] at spg;obtain⟨g,hg⟩:∃g,g=BV (B0 l sS.toNat) 0 0:=zX;have hgl:g.length<=sS.toNat+1:=by have:=He (B0 l sS.toNat) 0 0;rw[hg];simpa using this
 have hfs:Eh l sS n=match g.find? λx=>decide (n<=x.2) with|some x=>(x.1,0) |none=>(0,5):=by
  unfold Eh;rw[zP ⟨c1,c2⟩,hg]
 rw[<-hg] at spg;refine AL spg ?_;refine zb ?_;refine sV (λk:Nat=> [(2,iN n),(26,.tok 1 0 2 0 g.length),(27,iN g.length),(28,iN k)]) (λ_=> [lv (Ba (B0 l sS.toNat)),lv (Aa Al g)]) (λk=>g.length-k) (λk=>k<=g.length/\∀x∈g.take k,decide (n<=x.2)=false) 0 (Wk.fr zK) ⟨zO,zS⟩ ?_;rintro k ⟨hk,hm⟩;by_cases c3:k<g.length;rotate_left
 .have c3' :¬(k:Int)<(g.length:Int):=zO;refine th c3' ?_;rw[uM zO] at hm;rw[wN.2 (by intro x hx;simpa using hm x hx)] at hfs;refine Bd ?_;simp[hfs]
 have c3' :(k:Int)<(g.length:Int):=zO;refine xL c3' ?_;have k0:(Aa Al g)[k*2]?=some (iN g[k].1):=Au (f:=Al) (s:=2) zL c3 (i:=0) zO;have k1:(Aa Al g)[k*2+1]?=some (iN g[k].2):=Au (f:=Al) (s:=2) zL c3 (i:=1) zO;refine GQ (an c3 (an k0 k1)) ?_;intro K hK;refine zk ?_;by_cases c4:n<=g[k].2
 .rw[Jj (p:=λx=>decide (n<=x.2)) c3 hm (by simpa using c4)] at hfs;refine xS c4 ?_;simp[hfs]
 .refine xL c4 ?_;refine⟨k+1,zO,⟨zO,JR c3 hm (by simpa using c4)⟩,sU (k:=2) zK zS zS zS zS zS⟩
def Nd (l:List (Int×Int)) (sS:Int):Int×Int:=
 if Cl l sS then(((BV (B0 l sS.toNat) 0 0).map λx=>x.2).sum,0) else(0,1)
theorem YR (xs:List Bn) (hx:xs.length<1000000000):Ac pg 110 [.ro xs.length (Aa As xs)] [] (λr _=>r= .own 8 xs.length (Aa As xs)):=by
 refine zE (fn:=Tryz.f110) [.tmp 2] ?_;rw[AC];refine x8 ?_;intro K hK;refine⟨λh=>?_,λh=>⟨?_,?_⟩⟩
 .refine yh ?_;refine z1 ?_;intro K hK;refine⟨zO,zO,?_⟩;refine zk ?_;exact zR
 .refine yh ?_;subst h;refine AX ?_;exact zR
 .refine yi ?_;simp[h]
theorem YS (xs:List B3) (hx:xs.length<1000000000):Ac pg 111 [.ro xs.length (Aa (Af false) xs)] [] (λr _=>r= .own 12 xs.length (Aa (Af false) xs)):=by
 refine zE (fn:=Tryz.f111) [.tmp 2] ?_;rw[AC];refine x8 ?_;intro K hK;refine⟨λh=>?_,λh=>⟨?_,?_⟩⟩
 .refine yh ?_;refine z1 ?_;intro K hK;refine⟨zO,zO,?_⟩;refine zk ?_;exact zR
 .refine yh ?_;subst h;refine AX ?_;exact zR
 .refine yi ?_;simp[h]
theorem YT (xs:List (List Int)) (hx:xs.length<1000000000):Ac pg 151 [.ro xs.length (Ak false xs)] [] (λr _=>r= .own 1 xs.length (Ak false xs)):=by
 refine zE (fn:=Tryz.f151) [.tmp 2] ?_;rw[AC];refine x8 ?_;intro K hK;refine⟨λh=>?_,λh=>⟨?_,?_⟩⟩
 .refine yh ?_;refine z1 ?_;intro K hK;refine⟨zO,zO,?_⟩;refine zk ?_;exact zR
 .refine yh ?_;subst h;refine AX ?_;exact zR
 .refine yi ?_;simp[h]
def IC (k:Nat) (xs:List (List Int)):List AV:=Ak true (xs.take k)++Ak false (xs.drop k)
theorem bV (k:Nat) (xs:List (List Int)):(IC k xs).length=xs.length:=by simp[IC];omega
theorem NH (m:Bool) {k:Nat} {xs:List (List Int)} (h:k<=xs.length):(Ak m (xs.take k)).length=k:=by simp[Ak];omega
theorem bW {k:Nat} {xs:List (List Int)} (h:k<xs.length):(IC k xs)[k]?=some (.ro xs[k].length (Ab xs[k])):=by
 have hl:=NH true (Nat.le_of_lt h);unfold IC;rw[vj zO,hl,wp,uX h];rfl
theorem bX {k:Nat} {xs:List (List Int)} (h:k<xs.length):(IC k xs).set k (.own 1 xs[k].length (Ab xs[k]))=IC (k+1) xs:=by
 have hl:=NH true (Nat.le_of_lt h);have e:Ak true (xs.take (k+1))=Ak true (xs.take k)++[.own 1 xs[k].length (Ab xs[k])]:=by
  rw[wP h];simp only[Ak,wo];rfl
 unfold IC;rw[vz _ _ zO,hl,wp,uX h,e,uZ];rfl
theorem My (k n:Nat) (xs:List (List Int)):D5 n (IC k xs)=true:=by simp[IC]
theorem gN (xs:List (List Int)):Ak false xs=IC 0 xs:=by simp[IC]
theorem bY {k:Nat} {xs:List (List Int)} (h:xs.length<=k):IC k xs=Ak true xs:=by
 unfold IC;rw[uM h,wz h];simp
theorem O3 (g:Gr) (hg:G5 g):Ac pg 112 [.agg (A1 false g)] [] (λr _=>r= .agg (A1 true g)):=by
 have h1:=hg.1;refine zE (fn:=Tryz.f112) [.cell 2 34] ?_;rw[AC];refine Cx ?_;refine z0 ?_;intro K hK;refine tg (YT g.out zO) zS ?_;refine ye ?_;rw[gN g.out];refine zb ?_;refine sV (λk:Nat=> [(1,pt 0),(2,pt 1),(10,iN g.out.length),(11,iN k)]) (λk=> [lv [iN g.n,.tok 2 0 1 0 g.out.length],lv [iN 0,.own 1 0 []],lv (IC k g.out)]) (λk=>g.out.length-k) (λk=>k<=g.out.length) 0 (Wk.fr zK) zS ?_;intro k hk;by_cases c1:k<g.out.length;rotate_left
 .have c1' :¬(k:Int)<(g.out.length:Int):=zO;refine th c1' ?_;rw[bY zO];exact DM
 have c1' :(k:Int)<(g.out.length:Int):=zO;refine yr c1' ?_;have hg0:=bW c1;have hml:=bV k g.out;have hg1:(IC k g.out)[k]'zO= .ro g.out[k].length (Ab g.out[k]):=by
  rw[uT zO] at hg0;simpa using hg0
 refine Dy (an c1 (an hg1 hml)) ?_;intro K hK;refine tu (IU g.out[k] (by have:=hg.2 _ (uQ c1);omega)) zS ?_;refine xK (an c1 hml) ?_;have hnm:=My k 3 g.out;refine zs ?_;refine⟨k+1,zO,zO,(sY (B:=2) (v:=0) (j:=k) (T:=3) (u:=0) (s:=1) (off:=0) (n:=g.out[k].length) (cs:=(IC k g.out).set k (AV.tok 3 0 1 0 g.out[k].length)) (xs:=Ab g.out[k]) zS (by rw[List.getElem?_set_self zO]) zS zS zS zS).trans (sU (k:=3) zK ?_ (by simp[My]) (by simp[My]) (by simp[My]) (by simp[My]))⟩;rw[<-bX c1];simp
theorem Xe (j:B7) (h:j.list.length<1000000000/\j.out.length<1000000000):Ac pg 113 [.agg (BY false j)] [] (λr _=>r= .agg (BY true j)):=by
 obtain⟨h1,h2⟩:=h;refine zE (fn:=Tryz.f113) [.cell 2 38] ?_;rw[AC];refine Cx ?_;refine CN ?_;intro K hK;refine tu (IU j.list zO) zS ?_;refine zx ?_;refine tu (IU j.out zO) zS ?_;refine Am ?_;exact DM
def HQ (k:Nat) (xs:List B3):List AV:=Aa (Af true) (xs.take k)++Aa (Af false) (xs.drop k)
theorem SV (k:Nat) (xs:List B3):(HQ k xs).length=xs.length*12:=by
 unfold HQ;rw[u0,RV,RV,<-wK,wy,xh];congr 1;omega
theorem Hf {k i:Nat} {xs:List B3} (h:k<xs.length) (hi:i<12):(HQ k xs)[k*12+i]?=(Af false xs[k])[i]?:=by
 have hl:(Aa (Af true) (xs.take k)).length=k*12:=Ao;unfold HQ;rw[vj zO,hl,xk,uX h,AG,vk (by simpa[Af] using hi)]
theorem Fy {A X B:List AV} {a j:Nat} {v:AV} (hA:A.length=a) (hj:j<X.length):(A++(X++B)).set (a+j) v=A++(X.set j v++B):=by
 rw[vz _ _ zO,hA,xk,List.set_append_left _ _ hj]
theorem PO {A X B:List AV} {a j:Nat} (hA:A.length=a) (hj:j<X.length):(A++(X++B))[a+j]?=X[j]?:=by
 rw[vj zO,hA,xk,vk hj]
theorem bZ {k:Nat} {xs:List B3} (h:k<xs.length):HQ k xs=Aa (Af true) (xs.take k)++(Af false xs[k]++Aa (Af false) (xs.drop (k+1))):=by
 unfold HQ;rw[uX h,AG]
theorem Xf {k:Nat} {xs:List B3} (h:k<xs.length):HQ (k+1) xs=Aa (Af true) (xs.take k)++(Af true xs[k]++Aa (Af false) (xs.drop (k+1))):=by
 unfold HQ;rw[wP h,BI,AG];simp[Aa]
theorem fc (xs:List B3):Aa (Af false) xs=HQ 0 xs:=by simp[HQ,Aa]
theorem YU {k:Nat} {xs:List B3} (h:xs.length<=k):HQ k xs=Aa (Af true) xs:=by
 unfold HQ;rw[uM h,wz h];simp[Aa]
theorem SW (s:An) (hs:A0 s) (hx:BO s):Ac pg 78 [.agg (Aj false s)] [] (λr _=>r= .agg (Aj true s)):=by
 have h1:=hs.1;have h2:=hs.2.1;refine zE (fn:=Tryz.f78) [.cell 2 25] ?_;rw[AC];refine Cx ?_;refine CN ?_;intro K hK;refine tu (YR s.sQ zO) zS ?_;refine zx ?_;refine tu (YS s.sR zO) zS ?_;refine ye ?_;rw[fc s.sR];refine zb ?_;refine sV (λk:Nat=> [(1,pt 0),(2,pt 1),(15,iN s.sR.length),(16,iN k)]) (λk=> [lv [iN s.keep,iN s.sS,.tok 2 0 8 0 s.sQ.length,.tok 3 0 12 0 s.sR.length],lv [iN 0,iN 0,.own 8 0 [],.own 12 0 []],lv (Aa As s.sQ),lv (HQ k s.sR)]) (λk=>s.sR.length-k) (λk=>k<=s.sR.length) 0 (Wk.fr zK) zS ?_;intro k hk;by_cases c1:k<s.sR.length;rotate_left
 .have c1' :¬(k:Int)<(s.sR.length:Int):=zO;refine th c1' ?_;rw[YU zO];exact DM
 have c1' :(k:Int)<(s.sR.length:Int):=zO;refine yr c1' ?_;refine zg c1 ?_;obtain⟨hsg,hsj⟩:=hx _ (uQ c1);have m4:=Hf c1 (i:=4) zO;have m5:=Hf c1 (i:=5) zO;have m6:=Hf c1 (i:=6) zO;have m7:=Hf c1 (i:=7) zO;have m8:=Hf c1 (i:=8) zO;have m9:=Hf c1 (i:=9) zO;have m10:=Hf c1 (i:=10) zO;have m11:=Hf c1 (i:=11) zO;simp only[Af,List.getElem?_cons_succ,List.getElem?_cons_zero] at m4 m5 m6 m7 m8 m9 m10 m11;refine Dy (an c1 (an m4 (an m5 (an m6 (an m7 (an m8 (an m9 (an m10 m11)))))))) ?_;intro K hK;refine tu (O3 s.sR[k].sT hsg) zS ?_;refine AO (an m6 (an m7 (an m8 (an m9 (an m10 m11))))) ?_;refine tu (Xe s.sR[k].job hsj) zS ?_;refine zx ?_;refine⟨by rw[SV];omega,by rw[SV];omega,?_⟩;refine xM ?_;refine⟨k+1,zO,zO,?_⟩;have hA:(Aa (Af true) (s.sR.take k)).length=k*12:=Ao;have hAn:∀n,D5 n (Aa (Af true) (s.sR.take k))=true:=λn=>zS;have hBn:∀n,D5 n (Aa (Af false) (s.sR.drop (k+1)))=true:=λn=>zS;rw[bZ c1,Xf c1];generalize Aa (Af true) (s.sR.take k)=A at*;generalize Aa (Af false) (s.sR.drop (k+1))=B at*;generalize s.sR[k]=x at*;simp only[Nat.add_assoc,Nat.reduceAdd];rw[Fy hA (by simp[Af]),Fy hA (by simp[Af]),Fy hA (by simp[Af]),Fy hA (by simp[Af]),Fy hA (by simp[Af]),Fy hA (by simp[Af]),Fy hA (by simp[Af]),Fy hA (by simp[Af])];simp only[Af,wu,vQ];refine Wk.trans (Wk.fr (S:=[(1,pt 0),(2,pt 1),(15,iN s.sR.length),(16,iN ((k+1:Nat):Int))]) zK) ?_;refine Wk.trans (sY (B:=3) (v:=0) (j:=k*12+5) (T:=4) (u:=0) (s:=1) (off:=0) (n:=x.sT.out.length) (xs:=Ak true x.sT.out) rfl (by rw[PO hA zS];rfl) rfl zD zS zS) ?_;rw[Fy hA zS];simp only[wu,vQ];refine Wk.trans (sY (B:=3) (v:=0) (j:=k*12+10) (T:=5) (u:=0) (s:=1) (off:=0) (n:=x.job.list.length) (xs:=Ab x.job.list) rfl (by rw[PO hA zS];rfl) rfl zD zS zS) ?_;rw[Fy hA zS];simp only[wu,vQ];refine Wk.trans (sY (B:=3) (v:=0) (j:=k*12+11) (T:=6) (u:=0) (s:=1) (off:=0) (n:=x.job.out.length) (xs:=Ab x.job.out) rfl (by rw[PO hA zS];rfl) rfl zD zS zS) ?_;rw[Fy hA zS];simp only[wu,vQ];exact sU (k:=4) zK (by simp[DH,DB]) (by simp[hAn,hBn]) (by simp[hAn,hBn]) (by simp[hAn,hBn]) (by simp[hAn,hBn])
def Av:An:=⟨0,0,[],[]⟩
def Fk (id parent:Int):Bn:=⟨id,parent,0,⟨ByteArray.empty,0⟩,0,false,false⟩
def D0 (l:List Bn) (i:Nat) (o:Obj):List Bn:=match l[i]? with|some v=>l.set i {v with base:=o.base,data:=o.data} |none=>l
def Jk (l:List Bn) (i:Nat) (a:Int):List Bn:=match l[i]? with|some v=>l.set i {v with at_:=a} |none=>l
def Fq (s:An) (o:Obj) (parent:Int):Option (List Bn×Nat):=
 if AN (λv=>decide (v.id=o.id)) s.sQ<0 then(if o.id<=At s.sQ\/parent<0\/o.id<=parent then none else some (s.sQ++[Fk o.id parent],s.sQ.length))
 else some (s.sQ,(AN (λv=>decide (v.id=o.id)) s.sQ).toNat)
def Du (s:An) (o:Obj) (parent:Int):An×Int:=match Fq s o parent with
 |none=>(Av,1)
 |some (l,i)=>
  if DI o.data/\EA {s with sQ:=D0 l i o} then
   (if (Eh (AD s) s.sS (C7 o.data)).2=0 then({s with sQ:=Jk (D0 l i o) i (Eh (AD s) s.sS (C7 o.data)).1},0) else(Av,5))
  else(Av,1)
theorem IW {α:Type} {f:α->Bool} {l:List α} (h:0<=AN f l):(AN f l).toNat<l.length:=by
 unfold AN at h |-;cases e:l.findIdx? f with
 |none=>rw[e] at h;simp at h
 |some i=>simpa using (List.findIdx?_eq_some_iff_getElem.1 e).1
theorem PP (o:Obj):∀(l:List Bn) (k:Nat) (h:k<l.length),(((Aa As l).set (k*8+2) (iN o.base)).set (k*8+3) (.str o.data.data)).set (k*8+3+1) (iN o.data.n)=Aa As (l.set k {l[k] with base:=o.base,data:=o.data})
 | [],k,h=>by simp at h
 |v::t,0,h=>by simp[AG,As]
 |v::t,k+1,h=>by
  have ih:=PP o t k (by simpa using h);have hl:(As v).length=8:=rfl;rw[AG,vz _ _ zO,vz _ _ zO,vz _ _ zO];rw[show(k+1)*8+2-(As v).length=k*8+2 by omega,show(k+1)*8+3-(As v).length=k*8+3 by omega,show(k+1)*8+3+1-(As v).length=k*8+3+1 by omega,ih];simp[AG]
theorem SX (a:Int):∀(l:List Bn) (k:Nat) (h:k<l.length),(Aa As l).set (k*8+5) (iN a)=Aa As (l.set k {l[k] with at_:=a})
 | [],k,h=>by simp at h
 |v::t,0,h=>by simp[AG,As]
 |v::t,k+1,h=>by
  have ih:=SX a t k (by simpa using h);have hl:(As v).length=8:=rfl;rw[AG,vz _ _ zO,show(k+1)*8+5-(As v).length=k*8+5 by omega,ih];simp[AG]
theorem IX {l:List Bn} {i:Nat} {o:Obj} (h:i<l.length):D0 l i o=l.set i {l[i] with base:=o.base,data:=o.data}:=by
 simp[D0,uT h]
theorem N7 (l:List Bn) (i:Nat) (o:Obj):(D0 l i o).length=l.length:=by
 unfold D0;split<;>simp
theorem O4 {l:List Bn} {i:Nat} {a:Int} (h:i<l.length):Jk l i a=l.set i {l[i] with at_:=a}:=by
 simp[Jk,uT h]
theorem Kz (l:List Bn) (i:Nat) (a:Int):(Jk l i a).length=l.length:=by
 unfold Jk;split<;>simp
theorem SY {l:List Bn} {i:Nat} {o:Obj} {n:Nat} (h:∀v∈l,v.data.data.size<n) (ho:o.data.data.size<n):∀v∈D0 l i o,v.data.data.size<n:=by
 intro v hv;unfold D0 at hv;split at hv
 .rcases List.mem_or_eq_of_mem_set hv with hv|hv
  .exact h v hv
  .subst hv;exact ho
 .exact h v hv
theorem Xg (hR:BK) (s:An) (o:Obj) (parent:Int) (hs:A0 s) (hx:BO s) (ho:o.data.data.size<1000000000) (hn:s.sQ.length<999999999):Ac pg 182 [.agg (Aj false s),.agg (Ar o),iN parent] [] (λr _=>r= .tup [.agg (Aj true (Du s o parent).1),iN (Du s o parent).2]):=by
 have h1:=hs.1;have h2:=hs.2.1;refine zE (fn:=Tryz.f182) [.cell 6 25,.tmp 7] ?_;rw[A6];refine Ig ?_;refine z1 ?_;intro K hK;refine tg (SW s hs hx) zS ?_;refine Am ?_;refine AL (HJ s o.id hs) ?_;obtain⟨q,hq⟩:∃q,q=AN (λv=>decide (v.id=o.id)) s.sQ:=zX;rw[<-hq];have hqi:q<0\/∃h:q.toNat<s.sQ.length,q=(q.toNat:Int):=by
  rcases(show q<0\/0<=q by omega) with h|h
  .exact .inl h
  .exact .inr ⟨by rw[hq] at h |-;exact IW h,zO⟩
 refine zs ?_;refine s5 (λx:Nat×List Bn×Nat=> [(2,iN parent),(3,pt 0),(4,pt 1),(6,pt 2),(7,iN 0),(8,pt 3),(9,iN x.2.2)]) (λx=> [lv (Aj false s),lv (Ar o),lv [iN 0,iN 0,.own 8 0 [],.own 12 0 []],lv [iN s.keep,iN s.sS,.tok 4 x.1 8 0 x.2.1.length,.tok 5 0 12 0 s.sR.length],.live x.1 (Aa As x.2.1),lv (Aa (Af true) s.sR)]) (λx=>Fq s o parent=some (x.2.1,x.2.2)/\x.2.2<x.2.1.length/\x.2.1.length<1000000000/\∀v∈x.2.1,v.data.data.size<1000000000) ?_ ?_
 .by_cases c1:q<0
  .have eV:Fq s o parent=if o.id<=At s.sQ\/parent<0\/o.id<=parent then none else some (s.sQ++[Fk o.id parent],s.sQ.length):=by unfold Fq;rw[<-hq,zP c1]
   rw[zT c1];refine zt ?_;by_cases d1:o.id<=At s.sQ
   .rw[zP (.inl d1)] at eV;refine CN ?_;intro K hK;refine s6 (EV s hs) (by simp) (by simp) ?_;refine x5 d1 ?_;refine W.weak ((sX 2 2).trans (sX 2 3)) ?_;refine zr ?_;simp[Du,eV,Av]
   by_cases d2:parent<0
   .rw[zP (.inr (.inl d2))] at eV;refine CN ?_;intro K hK;refine s6 (EV s hs) (by simp) (by simp) ?_;refine x5 (an d1 d2) ?_;refine W.weak ((sX 2 2).trans (sX 2 3)) ?_;refine zr ?_;simp[Du,eV,Av]
   by_cases d3:o.id<=parent
   .rw[zP (.inr (.inr d3))] at eV;refine CN ?_;intro K hK;refine s6 (EV s hs) (by simp) (by simp) ?_;refine x5 (an d1 (an d2 d3)) ?_;refine W.weak ((sX 2 2).trans (sX 2 3)) ?_;refine zr ?_;simp[Du,eV,Av]
   rw[zM zO] at eV;refine CN ?_;intro K hK;refine s6 (EV s hs) (by simp) (by simp) ?_;refine AO (an d1 (an d2 d3)) ?_;refine zk ?_;refine y3 ?_;refine z1 ?_;intro K hK;refine⟨zO,zO,?_⟩;refine zk ?_;exact⟨(1,s.sQ++[Fk o.id parent],s.sQ.length),⟨eV,zS,Ao,λv hv=>by
    rcases vd.1 hv with h|h
    .exact hs.2.2 v h
    .simp at h;subst h;exact Nat.zero_lt_succ _⟩,sU (k:=6) zK (by simp[BI,AG,As,Fk]) zS zS zS zS⟩
  .obtain⟨h,hqn⟩:=hqi.resolve_left c1;have eV:Fq s o parent=some (s.sQ,q.toNat):=by unfold Fq;rw[<-hq,zM c1]
   rw[zV c1];refine y2 ?_;exact⟨(0,s.sQ,q.toNat),⟨eV,h,h1,hs.2.2⟩,Wk.fr (by simp[AA];omega)⟩
 rintro⟨u,l,i⟩ ⟨eV,hil,hl,hld⟩;simp only at eV hil hl hld |-;refine zg hil ?_;have b1:i*8+2<(Aa As l).length:=Ao;have b2:i*8+3<(Aa As l).length:=Ao;(repeat refine ta ?_);refine tj 0 [(57,60),(57,56)] rfl true Df AK λK hK=>?_;simp -implicitDefEqProofs (disch:=omega) [hil];refine⟨zO,zO,?_⟩;(repeat refine⟨by first|assumption|omega,?_⟩);refine hK _ _ (by simp(disch:=omega)) ?_;clear hK K;rw[PP o l i hil,<-IX hil];obtain⟨l1,hl1⟩:∃l1,l1=D0 l i o:=zX;have len1:l1.length=l.length:=by rw[hl1,N7]
 have hl1d:∀v∈l1,v.data.data.size<1000000000:=by rw[hl1];exact SY hld ho
 obtain⟨y,hy⟩:∃y:An,y={s with sQ:=l1}:=zX;have eL:Du s o parent=if DI o.data/\EA y then(if (Eh (AD s) s.sS (C7 o.data)).2=0 then({s with sQ:=Jk l1 i (Eh (AD s) s.sS (C7 o.data)).1},0) else(Av,5)) else(Av,1):=by
  unfold Du;rw[eV,hy,hl1]
 rw[<-hl1];have spB:=WH o.data ho;by_cases d4:DI o.data;rotate_left
 .rw[zM (λh=>d4 h.1)] at eL;rw[zV d4] at spB;refine ym spB ?_;refine W.weak ((sX 2 2).trans (sX 2 3)) ?_;refine zr ?_;simp[eL,Av]
 rw[zT d4] at spB;have yv:y.sQ=l1:=by rw[hy]
 have ys:y.sR=s.sR:=by rw[hy]
 have yk:y.keep=s.keep:=by rw[hy]
 have yb:y.sS=s.sS:=by rw[hy]
 have spM:=SK hR y ⟨by rw[yv,len1];exact hl,by rw[ys];exact h2,by rw[yv];exact hl1d⟩ (by intro x hx';rw[ys] at hx';exact hx x hx');have tk1:wL l.length l1=l1:=uM zO;by_cases d5:EA y;rotate_left
 .rw[zM (λh=>d5 h.2)] at eL;rw[zV d5] at spM;refine z0 ?_;intro K hK;refine zj spB ?_;refine sW spM (by simp[yv,ys,yk,yb,len1,tk1]) zS ?_;refine x4 ?_;refine W.weak ((sX 2 2).trans (sX 2 3)) ?_;refine zr ?_;simp[eL,Av]
 rw[zP ⟨d4,d5⟩] at eL;rw[zT d5] at spM;refine z0 ?_;intro K hK;refine zj spB ?_;refine sW spM (by simp[yv,ys,yk,yb,len1,tk1]) zS ?_;refine x4 ?_;have hpl:(AD s).length<1000000000:=by simp[AD];omega
 obtain⟨f,hf⟩:∃f,f=Eh (AD s) s.sS (C7 o.data):=zX;have spF:=fa (AD s) s.sS (C7 o.data) hpl;rw[<-hf] at spF eL;refine Wz (Su s hs) (Sq o.data ho) spF ?_;by_cases d6:f.2=0;rotate_left
 .rw[zM d6] at eL;refine th d6 ?_;refine W.weak ((sX 2 2).trans (sX 2 3)) ?_;refine zr ?_;simp[eL,Av]
 rw[zP d6] at eL;have hil1:i<l1.length:=zO;refine th d6 ?_;refine BS hil1 ?_;intro K hK;refine⟨zO,?_⟩;refine zk ?_;rw[SX f.1 l1 i hil1,<-O4 hil1];refine Bd ?_;have tk2:wL l.length (Jk l1 i f.1)=Jk l1 i f.1:=uM (by rw[Kz];omega);simp[eL,Kz,len1,tk2]
def N8 (s:An) (o:Obj) (parent:Int):An×Int:=if A2 s then Du s o parent else(Av,1)
def Re:List Bn->Int->List Bn
 | [],_=> []
 |v::t,a=>{v with at_:=a}::Re t (a+C7 v.data)
def gO:List Bn->Int
 | []=>0
 |v::t=>C7 v.data+gO t
def sm (l:List Bn) (a:Int):List (Int×Int):=(Re l a).map λv=>(v.at_,C7 v.data)
theorem JS {l m:List Obj} (P:Int->Prop) (h:∀id,P id->id≠0->A5 l id=A5 m id) (hb:∀id o,P id->id≠0->A5 l id=some o->P o.base):∀(k:Nat) (id:Int),P id->A4 l k id=A4 m k id
 |0,_,_=>rfl
 |k+1,id,hp=>by
  simp only[A4];by_cases h0:id=0
  .simp[h0]
  .rw[zM h0,zM h0,<-h id hp h0];cases e:A5 l id with
   |none=>rfl
   |some o=>simp only;rw[JS P h hb k o.base (hb id o hp h0 e)]
theorem QE {l m:List Obj} (P:Int->Prop) (h:∀id,P id->id≠0->A5 l id=A5 m id) (hb:∀id o,P id->id≠0->A5 l id=some o->P o.base) {id:Int} (hp:P id) (h0:id≠0):AT l id=AT m id:=by
 unfold AT AY;rw[JS P h hb 4 id hp,JS P h hb 3 id hp,h id hp h0]
def BL (l:List Obj) (id:Int):Prop:=∃q∈l,q.id=id
theorem EK {l:List Obj} {id:Int} {o:Obj} (h:A5 l id=some o):o∈l/\o.id=id:=⟨List.mem_of_find?_eq_some h,by simpa using List.find?_some h⟩
theorem C3 {l:List Obj} {id:Int}:BL l id↔∃o,A5 l id=some o:=by
 constructor
 .rintro⟨q,hq,e⟩;cases h:A5 l id with
  |none=>have:=wN.1 h q hq;simp[e] at this
  |some o=>exact⟨o,rfl⟩
 .rintro⟨o,h⟩;exact⟨o,EK h⟩
theorem Mz {l:List Obj} {id:Int} (o:Obj) (h:BL l id):A5 (l++[o]) id=A5 l id:=by
 obtain⟨q,hq⟩:=C3.1 h;unfold A5 at hq |-;rw[xm,hq];rfl
theorem MA {l:List Obj} {o:Obj} (h:¬BL l o.id):A5 (l++[o]) o.id=some o:=by
 have:l.find? (λq=>decide (q.id=o.id))=none:=wN.2 λq hq=>by simpa using λe=>h ⟨q,hq,e⟩
 unfold A5;rw[xm,this];simp
def Nf (l:List Obj):Prop:=∀o∈l,o.base=0\/BL l o.base
theorem BJ.closed {l:List Obj} (h:BJ l):Nf l:=λo ho=>(h.2.1 o ho).2.2.2.2
theorem b9 {l:List Obj} (o:Obj) (hc:Nf l) (k:Nat) {id:Int} (h:id=0\/BL l id):A4 (l++[o]) k id=A4 l k id:=
 (JS (λid=>id=0\/BL l id) (λid hp h0=>(Mz o (hp.resolve_left h0)).symm) (λid q hp h0 e=>hc q (EK e).1) k id h).symm
theorem PQ {l:List Obj} (o:Obj) (hc:Nf l) {id:Int} (h:BL l id) (h0:id≠0):AT (l++[o]) id=AT l id:=
 (QE (λid=>id=0\/BL l id) (λid hp h0=>(Mz o (hp.resolve_left h0)).symm) (λid q hp h0 e=>hc q (EK e).1) (.inr h) h0).symm
theorem SZ {s y:An} {x:B3} (hi:∀id,id∈s.sQ.map (λv=>v.id)->id∈y.sQ.map λv=>v.id) (hl:At s.sQ<=At y.sQ)
 (hg:∀id,id≠0->id∈s.sQ.map (λv=>v.id)->AT (Ae y) id=AT (Ae s) id) (h:AQ s (Ae s) x):AQ y (Ae y) x:=by
 unfold AQ at h |-;split at h
 .rw[zP (by assumption)];exact h
 .rename_i ho;rw[zM ho];obtain⟨h1,h2,h3⟩:=h;rw[Ky] at h1;rw[Ky];refine⟨h1.imp id (hi _),?_,?_⟩
  .split at h2
   .rw[zP (by assumption)];exact⟨h2.1,zO,h2.2.2⟩
   .rw[zM (by assumption)];exact h2
  .rcases h3 with h3| ⟨h3,h4,h5⟩
   .exact .inl h3
   .rw[hg _ h3 (h1.resolve_left h3)];exact .inr ⟨h3,h4,h5⟩
theorem HR (s:An):(Ae s).map (λo=>o.id)=s.sQ.map λv=>v.id:=by simp[Ae,B2]
theorem Gx (s:An) (id:Int):BL (Ae s) id↔id∈s.sQ.map λv=>v.id:=by
 rw[<-HR];simp[BL]
theorem O5 (l:List Bn) (v:Bn):At (l++[v])=v.id:=by simp[At]
theorem MB {l:List Bn} (h:(l.map λv=>v.id).Pairwise (·<·)):∀v∈l,v.id<=At l:=by
 intro v hv;obtain⟨i,hi,rfl⟩:=vq.1 hv;have hl:At l=l[l.length-1].id:=by unfold At;rw[vV,uT zO]
 rw[hl];by_cases e:i=l.length-1
 .subst e;exact wM _
 .have:=vB.1 h i (l.length-1) (by simpa using hi) Ao zO;simp at this;omega
theorem YV {s y:An} {o:Obj} {v:Bn} (h:EA s) (hn:s.sQ.length<12) (hv:y.sQ=s.sQ++[v]) (hvo:B2 v=o) (hs:y.sR=s.sR) (hk:y.keep=s.keep) (hb:1<=y.sS/\y.sS<=100)
 (hp:GX v) (hg:v.gone=false) (hi:At s.sQ<o.id/\1<=o.id/\o.id<=1048576) (hd:DI o.data) (ho:o.base=0\/BL (Ae s) o.base) (hr:(AT (Ae s++[o]) o.id).2=0):EA y:=by
 obtain⟨⟨a1,a2,a3,a4,a5,a6,a7⟩,b,c,d⟩:=h;have ey:Ae y=Ae s++[o]:=by simp[Ae,hv,<-hvo]
 have up:(s.sQ.map λv=>v.id).Pairwise (·<·):=by
  rw[<-HR,List.pairwise_map];exact a7.2.2
 have lt:∀q∈Ae s,q.id<o.id:=λq hq=>by
  obtain⟨u,hu,rfl⟩:=vH.1 hq;have:=MB up u hu;show u.id<o.id;omega
 have hnh:¬BL (Ae s) o.id:=λ⟨q,hq,e⟩=>by have:=lt q hq;omega
 have hvi:v.id=o.id:=by rw[<-hvo];rfl
 have pos:∀id,BL (Ae s) id->id≠0:=λid ⟨q,hq,e⟩=>by have:=(a7.2.1 q hq).1;omega
 refine⟨⟨zO,zO,hb.1,hb.2,?_,?_,?_⟩,by rw[hs];exact b,?_,?_⟩
 .intro u hu;rw[hv,vd] at hu;rcases hu with hu|hu
  .exact a5 u hu
  .simp at hu;subst hu;exact hp
 .rw[hv];simp[DP,hg]
 .rw[ey];refine⟨by simp[Ae];omega,λq hq=>?_,?_⟩
  .rw[vd] at hq;rcases hq with hq|hq
   .obtain⟨k1,k2,k3,k4,k5⟩:=a7.2.1 q hq;exact⟨k1,k2,k3,k4,k5.imp id λ⟨x,hx,e⟩=>⟨x,List.mem_append_left _ hx,e⟩⟩
   .simp at hq;subst hq;refine⟨hi.2.1,hi.2.2,hd,λe=>?_,ho.imp id λ⟨x,hx,e⟩=>⟨x,List.mem_append_left _ hx,e⟩⟩;rcases ho with h0|h0
    .omega
    .rw[e] at h0;exact hnh h0
  .rw[List.pairwise_append];exact⟨a7.2.2,zS,λq hq x hx=>by simp at hx;subst hx;exact lt q hq⟩
 .rw[ey];intro q hq;rw[vd] at hq;rcases hq with hq|hq
  .have hh:BL (Ae s) q.id:=⟨q,hq,rfl⟩;rw[PQ o a7.closed hh (pos _ hh)];exact c q hq
  .simp at hq;subst hq;exact hr
 .rw[hs];intro x hx;refine SZ (λid h=>by rw[hv];simp at h |-;exact .inl h) (by rw[hv,O5,hvi];omega) (λid h0 h=>?_) (d x hx);rw[ey,PQ o a7.closed ((Gx s id).2 h) h0]
theorem Xh {s y:An} (h:EA s) (hv:y.sQ.map B2=s.sQ.map B2) (hm:∀v∈y.sQ,∃u∈s.sQ,u.id=v.id/\u.parent=v.parent/\u.tag=v.tag/\u.gone=v.gone) (hl:DP y.sQ=false) (hs:y.sR=s.sR) (hk:y.keep=s.keep) (hb:1<=y.sS/\y.sS<=100):EA y:=by
 obtain⟨⟨a1,a2,a3,a4,a5,a6,a7⟩,b,c,d⟩:=h;have ey:Ae y=Ae s:=hv;have ei:y.sQ.map (λv=>v.id)=s.sQ.map λv=>v.id:=by rw[<-HR,ey,HR]
 refine⟨⟨zO,zO,hb.1,hb.2,?_,hl,by rw[ey];exact a7⟩,by rw[hs];exact b,by rw[ey];exact c,?_⟩
 .intro v hv;obtain⟨u,hu,e1,e2,e3,e4⟩:=hm v hv;obtain⟨k1,k2,k3⟩:=a5 u hu;exact⟨zO,zO,by rw[<-e3,<-e4];exact k3⟩
 .rw[hs];intro x hx;exact SZ (λid h=>by rw[ei];exact h) (by rw[O1 _ _ ei];exact wM _) (λid _ _=>by rw[ey]) (d x hx)
def nI (s:An) (n:Int):An:={s with sS:=n,sQ:=Re s.sQ 0}
def sn (s:An) (v:Bn):Obj:=⟨At s.sQ+1,v.base,v.data⟩
def so (l:List Bn) (k:Nat):List Bn:=Re (l.take k) 0++l.drop k
def Ge (c:List Bool):Nat:=Cg c*2^(8-c.length)
def Fn (m:Nat) (l:List Bool):List Nat:=(List.range m).map λk=>Ge ((l.drop (8*k)).take 8)
def pk (l:List Bool):List Nat:=Fn ((l.length+7)/8) l
def ID (n:Nat):AV:= .int .u8 (n:Int)
def CW (ns:List Nat):List AV:=ns.map ID
def Eb (l:List Bool):DX:=⟨E5 (CW (pk l)),l.length⟩
@[simp] theorem Uy (m:Nat) (l:List Bool):(Fn m l).length=m:=by simp[Fn]
@[simp] theorem mP (ns:List Nat):(CW ns).length=ns.length:=by simp[CW]
theorem Ng (ns:List Nat) (i n:Nat):(CW ns).set i (.int .u8 (n:Int))=CW (ns.set i n):=by simp[CW,ID]
theorem YW {c:List Bool} (h:c.length<=8):Ge c<256:=by
 have h1:=HH c;have h2:2^c.length*2^(8-c.length)=256:=by rw[<-Nat.pow_add,show c.length+(8-c.length)=8 by omega]
 unfold Ge;have h3:0<2^(8-c.length):=Nat.pow_pos zO;exact Nat.lt_of_lt_of_eq (Nat.mul_lt_mul_of_pos_right h1 h3) h2
theorem VE (c:List Bool) (b:Bool) (h:c.length<8):Ge (c++[b])=Ge c+b.toNat*2^(7-c.length):=by
 have e:8-c.length=(7-c.length)+1:=zO;unfold Ge;rw[Qd,u0,wR,e,show 8-(c.length+1)=7-c.length by omega,Nat.pow_succ,wK];congr 1;rw[Nat.mul_comm 2,Nat.mul_assoc,Nat.mul_comm 2]
theorem gP (m:Nat):Fn m []=uP m 0:=by
 unfold Fn;refine List.ext_getElem zS λj h1 h2=>?_;simp[Ge]
theorem S0 {m:Nat} {l:List Bool} {k:Nat} (h:k<m):(Fn m l)[k]'(by simpa using h)<256:=by
 simp only[Fn,wE,wW];exact YW Ao
theorem VF (l:List Bool) (b:Bool) (k:Nat):((l++[b]).drop (8*k)).take 8=if l.length/8=k then(l.drop (8*k)).take 8++[b] else(l.drop (8*k)).take 8:=by
 split
 .rename_i e;rw[List.drop_append_of_le_length zO,List.take_append,xh];have:(8-(l.length-8*k))=(7-(l.length-8*k))+1:=zO;rw[this];simp
 .rename_i e;by_cases h:l.length<8*k
  .rw[wz Ao,wz zO]
  .rw[List.drop_append_of_le_length zO,List.take_append_of_le_length Ao]
theorem S1 (m:Nat) (l:List Bool) (b:Bool) (h:l.length/8<m):Fn m (l++[b])=(Fn m l).set (l.length/8) ((Fn m l)[l.length/8]'(by simpa using h)+b.toNat*2^(7-l.length%8)):=by
 refine List.ext_getElem zS λj h1 h2=>?_;rw[List.getElem_set];simp only[Fn,wE,wW,VF];split
 .rename_i e;subst e;have hl:((l.drop (8*(l.length/8))).take 8).length=l.length%8:=Ao;rw[VE _ _ zO,hl]
 .rfl
theorem Uz (m:Nat) (l:List Bool) (k:Nat) (h:k<m) (hk:l.length/8=k):2^(8-l.length%8)∣(Fn m l)[k]'(by simpa using h):=by
 subst hk;simp only[Fn,wE,wW];have hl:((l.drop (8*(l.length/8))).take 8).length=l.length%8:=Ao;unfold Ge;rw[hl];exact Nat.dvd_mul_left _ _
theorem YX {m:Nat} {l:List Bool} (h:l.length<=8*m):Fn (m+1) l=Fn m l++[0]:=by
 unfold Fn;rw[List.range_succ,wo];congr 1;simp only[List.map_cons,List.map_nil,List.cons.injEq,and_true];rw[wz zO];rfl
theorem PR:∀y:Fin 256,IntKind.wrap .u8 ((y.val:Nat):Int)=((y.val:Nat):Int):=by decide+kernel
theorem nJ {a x r:Nat} (h:2^r∣a) (hx:x<2^r) (ha:a+x<256):IntKind.wrap .u8 ((BitVec.ofInt 8 (a:Int) |||BitVec.ofInt 8 (x:Int)).toNat:Int)=((a+x:Nat):Int):=by
 obtain⟨q,rfl⟩:=h;have e:2^r*q|||x=2^r*q+x:=(Nat.two_pow_add_eq_or_of_lt hx q).symm
 have e1:(BitVec.ofInt 8 ((2^r*q:Nat):Int)).toNat=2^r*q:=by
  rw[BitVec.ofInt_natCast,BitVec.toNat_ofNat];exact Nat.mod_eq_of_lt zO
 have e2:(BitVec.ofInt 8 (x:Int)).toNat=x:=by
  rw[BitVec.ofInt_natCast,BitVec.toNat_ofNat];exact Nat.mod_eq_of_lt zO
 rw[BitVec.toNat_or,e1,e2,e];exact PR ⟨_,ha⟩
def EG:List Int->Bool->List Bool
 | [],_=> []
 |n::l,f=>AM (if f=true then n+1 else n).toNat++EG l false
def Do (v:Int) (ref l:List Int):List Bool:=AM ((sS ref l).length+1)++EG (sS ref l) true++A9 v (Bz ref l)
def CX (f:Int->List Int->List Bool):Int->List (List Int)->List Bool
 |_,[]=> []
 |v,l::ls=>f v l++CX f (v+1) ls
def BG (g:Gr):List Bool:=AM (g.n.toNat+1)++CX A9 0 g.out
def BH (a g:Gr):List Bool:=AM (g.n.toNat+1)++CX (λv l=>Do v (AF a v) l) 0 g.out
theorem O6 (f:Int->List Int->List Bool) (l:List Int):∀(ls:List (List Int)) (v:Int),CX f v (ls++[l])=CX f v ls++f (v+ls.length) l
 | [],v=>by simp[CX]
 |x::ls,v=>by
  simp only[List.cons_append,CX,O6 f l ls,uZ,vA];congr 3;omega
theorem IN (f:Int->List Int->List Bool) {ls:List (List Int)} {i:Nat} (h:i<ls.length):CX f 0 (ls.take (i+1))=CX f 0 (ls.take i)++f i ls[i]:=by
 rw[wP h,O6];simp[Nat.min_eq_left (Nat.le_of_lt h)]
theorem Ln:∀(l:List Int) (i:Nat) (f:Bool) (h:i<l.length),EG (l.take (i+1)) f=EG (l.take i) f++AM (if i=0/\f=true then l[i]+1 else l[i]).toNat
 | [],i,f,h=>by simp at h
 |x::t,0,f,h=>by simp[EG]
 |x::t,i+1,f,h=>by
  have ih:=Ln t i false (by simpa using h);simp only[List.take_succ_cons,EG,xe] at ih |-;rw[ih,uZ];simp
def GZ:Obj:=⟨0,0,⟨ByteArray.empty,0⟩⟩
def C8 (l:List Obj):Int:=match l.getLast? with|some o=>o.id+1|none=>1
def Ed (l:List Obj) (base:Int) (g:Gr):DX:=Eb (if base=0 then BG g else BH (AT l base).1 g)
def BP (l:List Obj) (parent:Int) (g:Gr):Obj×Int:=
 if 12<=l.length\/1048576<C8 l then(GZ,2) else
 if parent=0 then(⟨C8 l,0,Ed l 0 g⟩,0) else
 if (AT l parent).2≠0 then(GZ,(AT l parent).2) else
 if (AY l parent).1<3/\(BH (AT l parent).1 g).length<(BG g).length then(⟨C8 l,parent,Ed l parent g⟩,0) else(⟨C8 l,0,Ed l 0 g⟩,0)
theorem KA {n:Nat} (h:n<32):(AM n).length<=9:=by
 have:=E9 n;by_cases h0:n=0
 .subst h0;simp[AM,Bq]
 .have:=(Nat.log2_lt (n:=n) (k:=5) h0).2 zO;omega
theorem fe {n:Nat} (h:n<64):(AM n).length<=11:=by
 have:=E9 n;by_cases h0:n=0
 .subst h0;simp[AM,Bq]
 .have:=(Nat.log2_lt (n:=n) (k:=6) h0).2 zO;omega
theorem QF {v:Int} (hv:0<=v/\v<=16):∀(l:List Int) (f:Bool) (e:Int),(∀x∈l,0<=x/\x<16)->(f=false->0<=e)->(Dg v l f e).length<=9*l.length+(if f=true then 2 else 0)
 | [],f,e,_,_=>by simp[Dg]
 |x::l,f,e,h,he=>by
  have hx:=h x zS;have ih:=QF hv l false x (λy hy=>h y (by simp[hy])) (λ_=>hx.1);rw[Dg,u0];cases f
  .have:=KA (n:=(x-e).toNat) (by have:=he rfl;omega);simp at ih |-;omega
  .have:=fe (n:=(CR (x-v)+1).toNat) (by unfold CR;split<;>omega);simp at ih |-;omega
theorem QG {v:Int} (hv:0<=v/\v<=16):∀(l:List (Int×Int)) (f:Bool) (e:Int),(∀x∈l,0<=x.1/\x.1<16/\0<=x.2/\x.2<=16)->(f=false->0<=e)->(C2 v l f e).length<=18*l.length+(if f=true then 2 else 0)
 | [],f,e,_,_=>by simp[C2]
 | (a,n)::l,f,e,h,he=>by
   have hx:=h (a,n) zS;simp only at hx;have ih:=QG hv l false (a+n) (λy hy=>h y (by simp[hy])) (λ_=>zO);rw[C2,u0,u0];have h2:=KA (n:=(n-3+1).toNat) zO;cases f
   .have:=KA (n:=(a-e).toNat) (by have:=he rfl;omega);simp at ih |-;omega
   .have:=fe (n:=(CR (a-v)+1).toNat) (by unfold CR;split<;>omega);simp at ih |-;omega
theorem QH:∀(n:Nat) (l:List Int),l.length<=n->3*(Ay l).1.length+(Ay l).2.length<=l.length
 |_,[],_=>by simp[Ay]
 |0,x::l,h=>by simp at h
 |n+1,x::l,h=>by
  have h1:=FO x l;have h2:=Gl (x::l);have h3:((x::l).drop (Bc (x::l))).length=(x::l).length-Bc (x::l):=zS;have ih:=QH n ((x::l).drop (Bc (x::l))) zO;rw[Ay];split
  .simp only[vA] at*;omega
  .simp only[u0,wy] at*;omega
theorem Hr {v:Int} {l:List Int} (hv:0<=v/\v<=16) (hl:AU l):(A9 v l).length<=166:=by
 have hll:=Bw hl;obtain⟨p1,p2,p3,p4⟩:=FD l.length l true 0 (vg _) hl.2 (.inl rfl);have pin:=Jh l.length l (vg _);have ps:=QH l.length l (vg _);have hpos:=M9 (Ay l).1 true 0 p1;have a1:=KA (n:=(Ay l).1.length+1) zO;have a2:=QG hv (Ay l).1 true 0 (λq hq=>by
  have h1:=pin q hq;have h2:=hl.1 _ h1.1;obtain⟨i,hi,rfl⟩:=vq.1 hq;have h3:=(hpos i hi).1;omega) zS
 have a3:=KA (n:=(Ay l).2.length+1) zO;have a4:=QF hv (Ay l).2 true 0 (λx hx=>hl.1 x (p4 x hx)) zS;unfold A9 Dz;simp only[u0];simp at a2 a4;omega
theorem KB (l:List Int):∀(ref:List Int) (b:Bool) (n:Nat) (h:0<(Bj l ref b n).length),n<=(Bj l ref b n)[0]
 | [],b,n,h=>by simp[Bj] at h
 |x::ref,b,n,h=>by
  simp only[Bj] at h |-;split at h
  .rename_i e;simp only[zP e];have:=KB l ref b (n+1) h;omega
  .rename_i e;simp only[zM e,List.getElem_cons_zero];exact vg _
theorem Kd (l:List Int):∀(ref:List Int) (b:Bool) (n j:Nat) (h:j<(Bj l ref b n).length),(Bj l ref b n)[j]<=n+ref.length/\(0<j->1<=(Bj l ref b n)[j])
 | [],b,n,j,h=>by simp[Bj] at h
 |x::ref,b,n,j,h=>by
  simp only[Bj] at h |-;split at h
  .rename_i e;have ih:=Kd l ref b (n+1) j h;simp only[zP e];refine⟨by have:=ih.1;simp only[vA];omega,ih.2⟩
  .rename_i e;simp only[zM e];cases j with
   |zero=>exact⟨by simp only[List.getElem_cons_zero,vA];omega,λh=>zO⟩
   |succ j=>
    have ih:=Kd l ref (!b) 1 j (by simpa using h);simp only[xe,vA];refine⟨by have:=ih.1;omega,λ_=>?_⟩;cases j with
    |zero=>exact KB l ref (!b) 1 (by simpa using h)
    |succ j=>exact ih.2 zO
theorem IP (ref l:List Int):(sS ref l).length<=ref.length:=by
 simp only[sS,wB];exact H7 l ref true 0
theorem JT (ref l:List Int) (j:Nat) (h:j<(sS ref l).length):0<=(sS ref l)[j]/\(sS ref l)[j]<=ref.length/\(0<j->1<=(sS ref l)[j]):=by
 have h' :j<(Bj l ref true 0).length:=by simpa[sS] using h
 have:=Kd l ref true 0 j h';simp only[sS,wE];refine⟨zO,zO,λhj=>by have:=this.2 hj;omega⟩
theorem QI:∀(l:List Int) (f:Bool),(∀x∈l,x<=30)->(EG l f).length<=9*l.length
 | [],f,_=>by simp[EG]
 |n::l,f,h=>by
  have ih:=QI l false λx hx=>h x (by simp[hx]);have h1:=h n zS;have:=KA (n:=(if f=true then n+1 else n).toNat) (by split<;>omega);rw[EG,u0,vA];omega
theorem IQ {ref l:List Int} (h:AU l):AU (Bz ref l):=⟨λx hx=>h.1 x (List.mem_filter.1 hx).1,h.2.filter _⟩
theorem Lo {v:Int} {ref l:List Int} (hv:0<=v/\v<=16) (hr:ref.length<=16) (hl:AU l):(Do v ref l).length<=330:=by
 have a1:=IP ref l;have a2:=KA (n:=(sS ref l).length+1) zO;have a3:=QI (sS ref l) true (λx hx=>by
  obtain⟨i,hi,rfl⟩:=vq.1 hx;have:=JT ref l i hi;omega)
 have a4:=Hr hv (IQ (ref:=ref) hl);unfold Do;simp only[u0];omega
theorem MC {f:Int->List Int->List Bool} {c:Nat}:∀(ls:List (List Int)) (v:Int),(∀(i:Nat) (h:i<ls.length),(f (v+i) ls[i]).length<=c)->(CX f v ls).length<=c*ls.length
 | [],v,_=>by simp[CX]
 |l::ls,v,h=>by
  have ih:=MC (c:=c) ls (v+1) λi hi=>by
   have:=h (i+1) (by simpa using hi);simp only[xe] at this;rw[show v+1+(i:Int)=v+((i+1:Nat):Int) by omega];exact this
  have h0:=h 0 zS;simp at h0;rw[CX,u0,vA,Nat.mul_add];omega
theorem Ix {g:Gr} (hg:AP g):(BG g).length<=6000:=by
 have h1:=KA (n:=g.n.toNat+1) (by have:=hg.2.1;omega);have h2:=MC (f:=A9) (c:=166) g.out 0 (λi hi=>Hr ⟨zO,by have:=hg.2.1;have:=hg.2.2.1;omega⟩ (hg.2.2.2.1 _ (uQ hi)).1);have h3:=hg.2.1;have h4:=hg.2.2.1;unfold BG;rw[u0];have:166*g.out.length<=166*16:=Nat.mul_le_mul_left _ zO;omega
theorem Iy {a g:Gr} (ha:AP a) (hg:AP g):(BH a g).length<=6000:=by
 have h1:=KA (n:=g.n.toNat+1) (by have:=hg.2.1;omega);have h2:=MC (f:=λv l=>Do v (AF a v) l) (c:=330) g.out 0 (λi hi=>Lo ⟨zO,by have:=hg.2.1;have:=hg.2.2.1;omega⟩ (Dc ha _) (hg.2.2.2.1 _ (uQ hi)).1);have h3:=hg.2.1;have h4:=hg.2.2.1;unfold BH;rw[u0];have:330*g.out.length<=330*16:=Nat.mul_le_mul_left _ zO;omega
end Go.Abs
