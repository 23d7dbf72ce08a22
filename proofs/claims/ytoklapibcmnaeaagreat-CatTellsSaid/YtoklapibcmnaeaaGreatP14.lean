/- References: what is free, as runs; where there is room. -/
import Derived.Test.YtoklapibcmnaeaaGreatP13
set_option linter.unusedVariables false
set_option linter.unusedSimpArgs false
set_option maxRecDepth 100000
namespace Go.Abs
open Go.Proofs
def C4 (y:List (Int×Int)) (a:Nat) (k:Nat):List (Int×Int):=y++if a<k then [((a:Int),(k:Int)-a)] else []
theorem Qs {x:List (Int×Int)} {i:Nat} {p:Int×Int} (h:i<x.length) (n:Int) (hp:p=(x[i].1,n)):(Af Al x).set (i*2+1) (.int .i64 n)=Af Al (x.set i p):=by
 subst hp
 induction x generalizing i with
 |nil=>simp at h
 |cons a t ih=>
  cases i with
  |zero=>simp[AL,Al]
  |succ i=>
   have e:=ih (i:=i) (by simpa using h)
   have hl:(Al a).length=2:=rfl
   rw[AL,List.set_append_right _ _ (by omega),show(i+1)*2+1-(Al a).length=i*2+1 by omega,e]
   simp[AL]
set_option maxHeartbeats 2000000 in
theorem Sv (l:List (Int×Int)) (blocks:Int) (hl:l.length<1000000000) (hp:CB l blocks):Aa pg 81 [.ro l.length (Af Al l),.int .i64 blocks] [] (fun r _=>r= .own 2 (Bz (BF l blocks.toNat) 0 0).length (Af Al (Bz (BF l blocks.toNat) 0 0))):=by
 obtain⟨n,hn⟩:=Int.eq_ofNat_of_zero_le (show 0≤blocks by have:=hp.1;omega)
 have hn1:=hp.1
 have hn2:=hp.2.1
 subst hn
 rw[Int.toNat_natCast]
 refine Aa.start (fn:=Tryz.f81) [.tmp 4] tk rfl rfl rfl (by kernel_rfl) (Nat.le_of_ble_eq_true rfl) rfl (by kernel_rfl) ?_
 rw[Am]
 refine zs ?_
 refine z1 ?_;intro K hK
 refine⟨by omega,by omega,?_⟩
 rw[J3]
 refine zk ?_;clear hK K
 refine zs ?_
 (repeat refine W.seq ?_);refine W.block (W.loopS (fun k:Nat=> [(0,.ro l.length (Af Al l)),(1,.int .i64 n),(5,.tok 0 0 1 0 n),(6,.int .i64 k)]) (fun k=> [.live 0 (Az (BF (l.take k) n))]) (fun k=>l.length-k) (fun k=>k≤l.length) 0 (Wk.cutM (k:=1) (by simp[Ac]) (by simp[BF,DY,List.map_const']) (by simp) (by simp) (by simp) (by simp)) (by simp) ?_)
 .intro i hi
  by_cases c1:i<l.length
  rotate_left
  .have:i=l.length:=by omega
   subst this
   rw[List.take_length]
   refine Ae c1 ?_;intro K hK
   refine zk ?_;clear hK K
   refine zn ?_
   refine W.exit ?_
   obtain⟨t,ht⟩:∃t,t=BF l n:=⟨_,rfl⟩
   have htl:t.length=n:=by rw[ht,J4]
   rw[←ht]
   obtain⟨g,hg⟩:∃g,g=Bz t 0 0:=⟨_,rfl⟩
   have hgl:g.length≤n+1:=by have:=EN t 0 0;rw[hg];omega
   rw[←hg]
   refine zs ?_
   refine zs ?_
   (repeat refine W.seq ?_);refine W.block (W.loopS (fun x:Nat×List (Int×Int)×Nat=> [(0,.ro l.length (Af Al l)),(1,.int .i64 n),(5,.tok 0 0 1 0 n),(8,.tok 1 (C4 x.2.1 x.2.2 x.1).length 2 0 (C4 x.2.1 x.2.2 x.1).length),(9,.int .i64 x.1)]) (fun x=> [.live 0 (Az t),.live (C4 x.2.1 x.2.2 x.1).length (Af Al (C4 x.2.1 x.2.2 x.1))]) (fun x=>n-x.1) (fun x=>x.1≤n∧x.2.2≤x.1∧g=x.2.1++Bz (t.drop x.1) x.1 x.2.2∧∀z∈x.2.1,0≤z.1∧1≤z.2∧z.1+z.2<x.2.2) (0,[],0) ?_ ?_ ?_)
   .exact(Wk.nil (t:=8) (s:=2) (by simp)).trans (Wk.cutM (k:=2) (by simp[Ac,C4]) (by simp[C4]) (by simp) (by simp) (by simp) (by simp))
   .exact⟨by simp,by simp,by simp[hg],by simp⟩
   rintro⟨k,y,a⟩ ⟨hk,hak,hgy,hy⟩
   simp only at hk hak hgy hy ⊢
   by_cases d1:k<n
   rotate_left
   .have:k=n:=by omega
    subst this
    rw[List.drop_of_length_le (by omega)] at hgy
    have e:C4 y a k=g:=by rw[hgy,C4,Bz];congr 1;split<;>split<;>first|rfl|omega
    rw[e]
    refine Ae d1 ?_;intro K hK
    refine zk ?_;clear hK K
    refine zn ?_
    refine W.exit ?_
    refine zs ?_
    exact zR
   refine Ae d1 ?_;intro K hK
   refine zk ?_;clear hK K
   refine zt ?_
   refine W.skip ?_
   refine zb ?_
   have hkt:k<t.length:=by omega
   cases d2:t[k]
   rotate_left
   .rw[KI hkt d2] at hgy
    refine Ae (an d1 (an d2 hkt)) ?_;intro K hK
    refine zk ?_;clear hK K
    refine zt ?_
    refine W.exit ?_
    refine zs ?_
    refine⟨(k+1,C4 y a k,k+1),by simp only;omega,⟨by simp only;omega,by simp only;omega,by simp only;rw[hgy,C4,List.append_assoc];congr 2;split<;>split<;>first|rfl|omega,?_⟩,?_⟩
    .intro z hz
     simp only[C4,List.mem_append] at hz ⊢
     rcases hz with hz|hz
     .have:=hy z hz;omega
     .split at hz
      .simp at hz;subst hz;simp only;omega
      .simp at hz
    .have e:C4 (C4 y a k) (k+1) (k+1)=C4 y a k:=by rw[C4,if_neg (by omega),List.append_nil]
     simp only[e]
     exact Wk.cutM (k:=2) (by simp[Ac]) (by simp) (by simp) (by simp) (by simp) (by simp)
   rw[Jy hkt d2] at hgy
   refine Ae (an d1 (an d2 hkt)) ?_;intro K hK
   refine zk ?_;clear hK K
   refine zn ?_
   refine W.skip ?_
   have hyl:y.length≤n+1:=by rw[hgy] at hgl;simp at hgl;omega
   by_cases e1:a<k
   .obtain⟨x,hx⟩:∃x,x=C4 y a k:=⟨_,rfl⟩
    have hx2:x=y++[((a:Int),(k:Int)-a)]:=by rw[hx,C4,if_pos e1]
    have hxl:x.length=y.length+1:=by rw[hx2];simp
    have hN:y.length<x.length:=by omega
    have hxN:x[y.length]=((a:Int),(k:Int)-a):=by simp[hx2]
    have em:(x.length:Int)-1=(y.length:Int):=by omega
    have hpos:0<x.length:=by omega
    have f0:(Af Al x)[y.length*2]?=some (.int .i64 a):=by
     have:(Af Al x)[y.length*2]?=some (.int .i64 x[y.length].1):=Bg (f:=Al) (s:=2) (fun _=>rfl) hN (i:=0) (by omega)
     rw[hxN] at this;exact this
    have f1:(Af Al x)[y.length*2+1]?=some (.int .i64 ((k:Int)-a)):=by
     have:(Af Al x)[y.length*2+1]?=some (.int .i64 x[y.length].2):=Bg (f:=Al) (s:=2) (fun _=>rfl) hN (i:=1) (by omega)
     rw[hxN] at this;exact this
    have hcd:((a:Int)+((k:Int)-a)=k)=True:=eq_true (by omega)
    have hset:=Qs (x:=x) (i:=y.length) (p:=((a:Int),(k:Int)-a+1)) hN ((k:Int)-a+1) (by rw[hxN])
    have hxs:x.set y.length ((a:Int),(k:Int)-a+1)=C4 y a (k+1):=by
     rw[hx2,List.set_append_right _ _ (by omega),Nat.sub_self,List.set_cons_zero,C4,if_pos (by omega)]
     congr 2
     simp;omega
    have hxgl:(C4 y a (k+1)).length=x.length:=by rw[←hxs];simp
    rw[←hx]
    refine A5 (an hpos (an em (an hN (an f0 (an f1 hcd))))) ?_;intro K hK
    refine zk ?_;clear hK K
    refine zt ?_
    refine Ae (an em (an hN (an f0 f1))) ?_;intro K hK
    refine⟨by omega,?_⟩
    refine zk ?_;clear hK K
    rw[hset,hxs]
    refine zs ?_
    refine⟨(k+1,y,a),by simp only;omega,⟨by simp only;omega,by simp only;omega,by simp only;rw[hgy];simp,hy⟩,?_⟩
    simp only[hxgl]
    exact Wk.cutM (k:=2) (by simp[Ac]) (by simp) (by simp) (by simp) (by simp) (by simp)
   .have hae:a=k:=by omega
    subst hae
    have hx:C4 y a a=y:=by rw[C4,if_neg (by omega),List.append_nil]
    have hx2:C4 y a (a+1)=y++[((a:Int),1)]:=by rw[C4,if_pos (by omega)];congr 2;simp;omega
    rw[hx]
    (repeat refine W.seq ?_);refine W.midS (fun _:Unit=> [(0,.ro l.length (Af Al l)),(1,.int .i64 n),(5,.tok 0 0 1 0 n),(8,.tok 1 y.length 2 0 y.length),(9,.int .i64 a),(66,.bool false)]) (fun _=> [.live 0 (Az t),.live y.length (Af Al y)]) (fun _=>True) ?_ ?_
    .by_cases e2:y.length=0
     .have e2' :y=[]:=List.eq_nil_of_length_eq_zero e2
      subst e2'
      refine B8 ?_;intro K hK
      refine zk ?_;clear hK K
      exact⟨(),trivial,Wk.fr (by simp[Ac])⟩
     .obtain⟨N,hN⟩:∃N,y.length=N+1:=⟨y.length-1,by omega⟩
      have hNl:N<y.length:=by omega
      have em:(y.length:Int)-1=(N:Int):=by omega
      have hpos:0<y.length:=by omega
      have f0:(Af Al y)[N*2]?=some (.int .i64 y[N].1):=Bg (f:=Al) (s:=2) (fun _=>rfl) hNl (i:=0) (by omega)
      have f1:(Af Al y)[N*2+1]?=some (.int .i64 y[N].2):=Bg (f:=Al) (s:=2) (fun _=>rfl) hNl (i:=1) (by omega)
      have hz:=hy _ (List.getElem_mem hNl)
      have hcd:(y[N].1+y[N].2=(a:Int))=False:=eq_false (by omega)
      refine A5 (an hpos (an em (an hNl (an f0 (an f1 hcd))))) ?_;intro K hK
      refine zk ?_;clear hK K
      exact⟨(),trivial,Wk.fr (by simp[Ac])⟩
    rintro _ _
    refine zn ?_
    refine z1 ?_;intro K hK
    refine⟨by omega,by omega,?_⟩
    refine zk ?_;clear hK K
    refine zs ?_
    refine⟨(a+1,y,a),by simp only;omega,⟨by simp only;omega,by simp only;omega,by simp only;rw[hgy];simp,hy⟩,?_⟩
    simp only[hx2]
    exact Wk.cutM (k:=2) (by simp[Ac]) (by simp[Cz,AL,Al]) (by simp) (by simp) (by simp) (by simp)
  obtain⟨p1,p2,p3⟩:=hp.2.2.2.1 _ (List.getElem_mem c1)
  have hto:l.take (i+1)=l.take i++[l[i]]:=by rw[List.take_add_one];simp[c1]
  refine Ae c1 ?_;intro K hK
  refine zk ?_;clear hK K
  refine zt ?_
  refine W.skip ?_
  refine zb ?_
  refine zs ?_
  obtain⟨a,ha⟩:=Int.eq_ofNat_of_zero_le p1
  obtain⟨m,hm⟩:=Int.eq_ofNat_of_zero_le (show 0≤l[i].2 by omega)
  (repeat refine W.seq ?_);refine W.block (W.loopS (fun k:Nat=> [(0,.ro l.length (Af Al l)),(1,.int .i64 n),(5,.tok 0 0 1 0 n),(6,.int .i64 i),(7,.int .i64 k)]) (fun k=> [.live 0 (Az (Ce (l.take i) n a ((a+k:Nat):Int)))]) (fun k=>m-k) (fun k=>k≤m) 0 (Wk.cutM (k:=1) (by simp[Ac]) (by simp[Lg]) (by simp) (by simp) (by simp) (by simp)) (by simp) ?_)
  intro k hk
  have g0:(Af Al l)[i*2]?=some (.int .i64 a):=by rw[←ha];exact Bg (f:=Al) (s:=2) (fun _=>rfl) c1 (i:=0) (by omega)
  have g1:(Af Al l)[i*2+1]?=some (.int .i64 m):=by rw[←hm];exact Bg (f:=Al) (s:=2) (fun _=>rfl) c1 (i:=1) (by omega)
  by_cases c2:k<m
  .have hidx:a+k<n:=by omega
   have hset:=IW (l.take i) n (a+k) a (by omega) hidx
   refine Ae (an c1 (an g1 c2)) ?_;intro K hK
   refine zk ?_;clear hK K
   refine zt ?_
   refine W.skip ?_
   refine zb ?_
   have ei:(a:Int)+(k:Int)=((a+k:Nat):Int):=by omega
   obtain⟨q,hq⟩:∃q,q=a+k:=⟨_,rfl⟩
   rw[←hq] at ei hset hidx
   rw[ei]
   have hql:q<(Az (Ce (l.take i) n a q)).length:=by simp;exact hidx
   (repeat refine W.seq ?_);refine W.reg 0 rfl fun K hK=>?_;simp -implicitDefEqProofs (maxSteps:=999999) (disch:=omega) [c1,ha,Al,ei,hidx]
   refine⟨by omega,?_⟩
   refine zk ?_;clear hK K
   rw[Ei,hset]
   refine zs ?_
   have eq1:((a+(k+1):Nat):Int)=(q:Int)+1:=by omega
   exact⟨k+1,by omega,by omega,Wk.cutM (k:=1) (by simp[Ac]) (by rw[eq1];simp) (by simp) (by simp) (by simp) (by simp)⟩
  .have:k=m:=by omega
   subst this
   refine Ae (an c1 (an g1 c2)) ?_;intro K hK
   refine zk ?_;clear hK K
   refine zn ?_
   refine W.exit ?_
   refine zs ?_
   exact⟨i+1,by omega,by omega,Wk.cutM (k:=1) (by simp[Ac]) (by rw[hto,←IV,ha,hm];simp) (by simp) (by simp) (by simp) (by simp)⟩
theorem Sw (l:List (Int×Int)) (blocks:Int) (hl:l.length<1000000000) (hp:CB l blocks):Aa pg 29 [.ro l.length (Af Al l),.int .i64 blocks] [] (fun r _=>r= .int .i64 (EE l blocks).1):=by
 have sp:=Sv l blocks hl hp
 obtain⟨g,hg⟩:∃g,g=Bz (BF l blocks.toNat) 0 0:=⟨_,rfl⟩
 have hgl:g.length≤101:=by have:=EN (BF l blocks.toNat) 0 0;have:=hp.2.1;rw[hg];simp at*;omega
 have hgp:∀x∈g,1≤x.2∧x.2≤100:=fun x hx=>by
  rw[hg] at hx
  have:=Gm _ 0 0 (Int.le_refl _) x hx
  have:=hp.2.1
  simp at*;omega
 have hfs:(EE l blocks).1=(g.map fun x=>x.2).sum:=by
  unfold EE;rw[if_pos hp,hg]
 rw[←hg] at sp
 rw[hfs]
 refine Aa.start (fn:=Tryz.f29) [.tmp 4] tk rfl rfl rfl (by kernel_rfl) (Nat.le_of_ble_eq_true rfl) rfl (by kernel_rfl) ?_
 rw[Am]
 refine zs ?_
 refine zs ?_
 refine z0 ?_;intro K hK
 refine Ab.eq sp (by simp) (by simp) ?_
 refine zx ?_
 refine zk ?_;clear hK K
 refine zs ?_
 (repeat refine W.seq ?_);refine W.block (W.loopS (fun k:Nat=> [(5,.int .i64 ((g.take k).map fun x=>x.2).sum),(6,.tok 0 0 2 0 g.length),(7,.int .i64 k)]) (fun _=> [.live 0 (Af Al g)]) (fun k=>g.length-k) (fun k=>k≤g.length∧0≤((g.take k).map fun x=>x.2).sum∧((g.take k).map fun x=>x.2).sum≤100*k) 0 (Wk.fr (by simp[Ac])) (by simp) ?_)
 rintro k ⟨hk,hs0,hs1⟩
 by_cases c3:k<g.length
 .have hst:=LQ c3
  have hb:=hgp _ (List.getElem_mem c3)
  obtain⟨z,hz⟩:∃z,z=((g.take k).map fun x=>x.2).sum:=⟨_,rfl⟩
  rw[←hz] at hst hs0 hs1 ⊢
  have g1:(Af Al g)[k*2+1]?=some (.int .i64 g[k].2):=Bg (f:=Al) (s:=2) (fun _=>rfl) c3 (i:=1) (by omega)
  refine Ae c3 ?_;intro K hK
  refine zk ?_;clear hK K
  refine zt ?_
  refine W.skip ?_
  refine zb ?_
  refine Ae (an c3 g1) ?_;intro K hK
  refine zk ?_;clear hK K
  refine zs ?_
  rw[List.map_take] at hst
  exact⟨k+1,by omega,⟨by omega,by rw[List.map_take];omega,by rw[List.map_take];omega⟩,Wk.fr (by simp[Ac,hst])⟩
 .have:k=g.length:=by omega
  subst this
  refine Ae c3 ?_;intro K hK
  refine zk ?_;clear hK K
  refine zn ?_
  refine W.exit ?_
  refine zs ?_
  exact zR
end Go.Abs
set_option maxRecDepth 100000
namespace Go.Abs
open Go.Proofs
theorem Qt {xs:List Int} {i:Nat} (h:i<xs.length):(List.replicate i (-99)++xs.drop i).set i (-99)=List.replicate (i+1) (-99:Int)++xs.drop (i+1):=by
 rw[List.set_append_right _ _ (by simp),List.length_replicate,Nat.sub_self,List.drop_eq_getElem_cons h,List.set_cons_zero,List.replicate_succ']
 simp
theorem Pe (xs:List Int) (u:Nat) (hx:xs.length<1000000000):Aa pg 85 [.tok 0 u 1 0 xs.length] [.live u (Ad xs)] (fun r M=>r= .tup []∧M=[.live u (Ad (List.replicate xs.length (-99)))]):=by
 refine Aa.start (fn:=Tryz.f85) [] tk rfl rfl rfl (by kernel_rfl) (Nat.le_of_ble_eq_true rfl) rfl (by kernel_rfl) ?_
 rw[At]
 refine zs ?_
 (repeat refine W.seq ?_);refine W.block (W.loopS (fun i:Nat=> [(0,.tok 0 u 1 0 xs.length),(2,.int .i64 i)]) (fun i=> [.live u (Ad (List.replicate i (-99)++xs.drop i))]) (fun i=>xs.length-i) (fun i=>i≤xs.length) 0 (Wk.fr (by simp[Ac])) (by simp) ?_)
 intro i hi
 by_cases c1:i<xs.length
 .have hset:=Qt c1
  obtain⟨l,hl⟩:∃l,l=List.replicate i (-99)++xs.drop i:=⟨_,rfl⟩
  have hll:l.length=xs.length:=by rw[hl];simp;omega
  rw[←hl] at hset ⊢
  refine Ae c1 ?_;intro K hK
  refine zk ?_;clear hK K
  refine zt ?_
  refine W.skip ?_
  refine zb ?_
  refine Ae (an c1 hll) ?_;intro K hK
  refine⟨by omega,?_⟩
  refine zk ?_;clear hK K
  rw[CX,hset]
  refine zs ?_
  exact⟨i+1,by omega,by omega,Wk.fr (by simp[Ac])⟩
 .have:i=xs.length:=by omega
  subst this
  refine Ae c1 ?_;intro K hK
  refine zk ?_;clear hK K
  refine zn ?_
  refine W.exit ?_
  (try simp only[Cn,Co,Df,Dg,if_true]);refine Fg (d:=0) ?_;simp -implicitDefEqProofs (maxSteps:=999999) (disch:=omega)
@[simp] theorem Yp (n:Nat):Cy (List.replicate n (AV.own 1 0 []))=true:=by
  induction n with
  |zero=>rfl
  |succ n ih=>rw[List.replicate_succ,Cy,ih];rfl
@[simp] theorem ZG (k n:Nat):Dd k (List.replicate n (AV.own 1 0 []))=true:=by rw[Fj];simp[Fx]
@[simp] theorem ZH (n:Nat):D2 (List.replicate n (AV.own 1 0 []))=true:=by simp[D2,-GZ]
def DN (i:Nat) (xs:List (List Int)):List AV:=List.replicate i (.own 1 0 [])++Aw true (xs.drop i)
theorem Pf {i:Nat} {xs:List (List Int)} (h:i≤xs.length):(DN i xs).length=xs.length:=by simp[DN,Aw];omega
theorem Qu {i:Nat} {xs:List (List Int)} (h:i<xs.length):(DN i xs)[i]?=some (.own 1 xs[i].length (Ad xs[i])):=by
 rw[DN,List.getElem?_append_right (by simp),List.length_replicate,Nat.sub_self,List.drop_eq_getElem_cons h]
 simp only[Aw,List.map_cons,List.getElem?_cons_zero,E2,TA]
theorem Pg {i:Nat} {xs:List (List Int)} (h:i<xs.length):(DN i xs).set i (.own 1 0 [])=DN (i+1) xs:=by
 rw[DN,DN,List.set_append_right _ _ (by simp),List.length_replicate,Nat.sub_self,List.drop_eq_getElem_cons h,List.replicate_succ']
 simp only[Aw,List.map_cons,List.set_cons_zero,List.append_assoc,List.cons_append,List.nil_append]
theorem Ph (xs:List (List Int)):DN xs.length xs=List.replicate xs.length (.own 1 0 []):=by simp[DN,Aw]
@[simp] theorem Xf (i n:Nat) (xs:List (List Int)):Dd n (DN i xs)=true:=by
  rw[DN,NF]
  have:Dd n (List.replicate i (AV.own 1 0 []))=true:=by rw[Fj];simp[Fx]
  simp[this]
theorem LR (xs:List (List Int)) (g u:Nat) (n:Int) (hx:xs.length<1000000000) (hxs:∀l∈xs,l.length<1000000000):Aa pg 39 [.agg [.int .i64 n,.tok 0 u 1 0 xs.length]] [.live u (Aw true xs)] (fun r M=>r= .tup []∧M=[.live u (List.replicate xs.length (.own 1 0 []))]):=by
 refine Aa.start (fn:=Tryz.f39) [] tk rfl rfl rfl (by kernel_rfl) (Nat.le_of_ble_eq_true rfl) rfl (by kernel_rfl) ?_
 rw[At]
 refine z1 ?_;intro K hK;refine zk ?_;clear hK K
 refine zs ?_
 (repeat refine W.seq ?_);refine W.block (W.loopS (fun i:Nat=> [(1,.ptr 1 0 0),(2,.int .i64 i)]) (fun i=> [.live u (DN i xs),.live 0 [.int .i64 n,.tok 0 u 1 0 xs.length]]) (fun i=>xs.length-i) (fun i=>i≤xs.length) 0 (Wk.cutM (k:=2) (by simp[Ac]) (by simp[DN]) (by simp) (by simp) (by simp) (by simp)) (by simp) ?_)
 intro i hi
 by_cases c1:i<xs.length
 .have hll:=Pf (Nat.le_of_lt c1)
  have hat:=Qu c1
  have hset:=Pg c1
  obtain⟨l,hl⟩:∃l,l=DN i xs:=⟨_,rfl⟩
  rw[←hl] at hset hll hat ⊢
  refine Ae c1 ?_;intro K hK
  refine zk ?_;clear hK K
  refine zt ?_
  refine W.skip ?_
  refine zb ?_
  refine W.weak (Wk.thaw (B:=0) (v:=u) (j:=i) (s:=1) (n:=xs[i].length) (xs:=Ad xs[i]) (by simp[Ai]) hat) ?_
  have hin:=hxs _ (List.getElem_mem c1)
  have hcell:(l.set i (.tok 2 0 1 0 xs[i].length))[i]?=some (.tok 2 0 1 0 xs[i].length):=List.getElem?_set_self (by omega)
  refine Ae (an c1 (an hll hcell)) ?_;intro K hK
  refine Ab.pass [2] (Pe xs[i] 0 hin) (by simp) (by simp) (by simp) (by simp) ?_
  rintro r M ⟨rfl,rfl⟩ _
  refine zx ?_
  refine zk ?_;clear hK K
  refine Ae (an c1 hll) ?_;intro K hK
  refine⟨by omega,?_⟩
  refine zk ?_;clear hK K
  rw[hset]
  refine zs ?_
  exact⟨i+1,by omega,by omega,Wk.cutM (k:=2) (by simp[Ac]) (by simp) (by simp) (by simp) (by simp) (by simp)⟩
 .have:i=xs.length:=by omega
  subst this
  refine Ae c1 ?_;intro K hK
  refine zk ?_;clear hK K
  refine zn ?_
  refine W.exit ?_
  (try simp only[Cn,Co,Df,Dg,if_true]);refine Fg (d:=0) ?_;simp -implicitDefEqProofs (maxSteps:=999999) (disch:=omega)
  rw[Ph]
  exact⟨by simp[D2,-GZ],rfl⟩
end Go.Abs
set_option maxRecDepth 100000
namespace Go.Abs
open Go.Proofs
def FW (b k:Int):AP×Int:=if (1≤b∧b≤100)∧(1≤k∧k≤8) then(AR b k,0) else(Do,1)
theorem Nx {b k:Int}:Bm (AR b k)↔(1≤b∧b≤100)∧(1≤k∧k≤8):=by
 rw[Ia]
 constructor
 .intro h;exact⟨h.2.1,h.1⟩
 .intro h
  refine⟨h.2,h.1,by simp[AR],by simp[AR],?_,?_,?_,?_⟩
  .refine⟨by simp[AR,Ar],fun o ho=>?_,by simp[AR,Ar]⟩
   simp[AR,Ar] at ho
  .exact⟨h.1.1,h.1.2,by simp[AR,AE],by simp[AR,AE],by simp[AR,AE]⟩
  .intro i hi;simp[AR] at hi
  .intro x hx
   have:x=Cm:=by simpa[AR] using hx
   subst this
   rfl
theorem Ny (b k:Int):AZ (AR b k)∧CO (AR b k):=by
 refine⟨⟨by simp[AR],by simp[AR],by simp[AR]⟩,?_⟩
 intro x hx
 have:x=Cm:=by simpa[AR] using hx
 subst this
 simp[Db,Et,HH,Cm,Au,B5]
theorem Uw (hR:Bh) (b k:Int):Aa pg 41 [.int .i64 b,.int .i64 k] [] (fun r _=>r= .tup [.agg (Ay true (FW b k).1),.int .i64 (FW b k).2]):=by
 by_cases h:(1≤b∧b≤100)∧(1≤k∧k≤8)
 .have:=RG hR b k (Nx.2 h)
  rw[FW,if_pos h];exact this
 have hno:¬Bm (AR b k):=fun g=>h (Nx.1 g)
 obtain⟨hs,hx⟩:=Ny b k
 have sp:=BW hR (AR b k) hs hx
 rw[decide_eq_false hno] at sp
 rw[FW,if_neg h]
 refine Aa.start (fn:=Tryz.f41) [.cell 4 38,.tmp 5] tk rfl rfl rfl (by kernel_rfl) (Nat.le_of_ble_eq_true rfl) rfl (by kernel_rfl) ?_
 rw[Am]
 refine z1 ?_;intro K hK;refine zk ?_;clear hK K
 refine z2 ?_;intro K hK
 refine⟨by show(3:Int)≤9223372036854775807;decide,?_⟩
 have e:Dn 3 [AV.bool false,AV.int .i64 0,AV.bool false,AV.int .i64 0,AV.int .i64 0,AV.own 1 0 [],AV.int .i64 0,AV.int .i64 0,AV.int .i64 0,AV.bool false,AV.own 1 0 [],AV.own 1 0 []]=Af (AG true) [Cm,Cm,Cm]:=rfl
 rw[e]
 refine zk ?_;clear hK K
 refine W.weak (Wk.thaw (B:=2) (v:=0) (j:=2) (s:=8) (n:=0) (xs:=[]) (by rfl) (by rfl)) ?_
 refine z0 ?_;intro K hK
 refine Ab.eq sp (by simp[AR];rfl) (by simp) ?_
 refine zx ?_
 refine zk ?_;clear hK K
 refine zt ?_
 refine zs ?_
 refine W.weak ((Wk.thaw (B:=0) (v:=0) (j:=2) (s:=8) (n:=0) (xs:=[]) (by rfl) (by rfl)).trans (Wk.thaw (B:=0) (v:=0) (j:=3) (s:=12) (n:=0) (xs:=[]) (by rfl) (by rfl))) ?_
 refine zr ?_
 simp[Do]
theorem Sy (b k:Int):AZ (FW b k).1∧CO (FW b k).1:=by
 unfold FW
 split
 .exact Ny b k
 .refine⟨⟨by simp[Do],by simp[Do],by simp[Do]⟩,fun x hx=>by simp[Do] at hx⟩
theorem Pi {y:AP} (h:AZ y∧CO y):y.vers.length<1000000000000∧y.sess.length<1000000000000∧∀r∈y.sess,Db r:=⟨by have:=h.1.1;omega,by have:=h.1.2.1;omega,h.2⟩
theorem N5 (s:AP) (id:Int):AY (Dr s id).1:=by
 unfold Dr
 split
 .split
  .show AY Au;decide
  .split
   .show AY Au;decide
   .exact FP _ _
 .show AY Au;decide
set_option maxHeartbeats 8000000 in
theorem N6 (hR:Bh) (S:List AP) (L:List (List Obj)) (G:List Gr) (na nn:Nat) (h0:S.length<AX) (hS:∀s∈S,I9 s) (h1:G.length<AX) (h2:∀g∈G,Ib g) (h3:na<AX) (h4:nn<AX) (h5:L.length<AX) (h6:∀l∈L,l.length<AX∧∀o∈l,o.data.data.size<AX):Aa pg 5 [.agg (Kl S L G na nn)] [] (fun r _=>r= .bool true):=by
 have spH:=Sp S L G na nn h0 hS h1 h2 h3 h4 h5 h6
 have spW:=O9 hR
 simp only[Kl,Hd,Hc,List.cons_append,List.nil_append] at spH ⊢
 obtain⟨ask,hask⟩:∃ask:List AV,ask=[.ro S.length (Af (Ay false) S),.ro L.length (C3 L),.ro G.length (Af (AQ false) G),.ro na [],.ro nn []]:=⟨_,rfl⟩
 refine Aa.start (fn:=Tryz.f5) [.tmp 2] tk rfl rfl rfl (by kernel_rfl) (Nat.le_of_ble_eq_true rfl) rfl (by kernel_rfl) ?_
 rw[At]
 refine z1 ?_;intro K hK;refine zk ?_;clear hK K
 refine z0 ?_;intro K hK
 refine Ab.bor spH (by simp) ?_
 rintro r ⟨b,rfl,hb⟩
 refine⟨by simp,?_⟩
 cases b
 rotate_left
 .refine zx ?_
  refine zk ?_;clear hK K
  refine zt ?_
  refine zs ?_
  exact zR
 obtain⟨hS1,hS2⟩:=hb rfl
 refine zx ?_
 refine zk ?_;clear hK K
 refine zn ?_
 refine W.skip ?_
 refine zs ?_
 (repeat refine W.seq ?_);refine W.block (W.loopS (fun i:Nat=> [(1,.ptr 0 0 0),(3,.int .i64 i)]) (fun _=> [.live 0 [.ro S.length (Af (Ay false) S),.ro L.length (C3 L),.ro G.length (Af (AQ false) G),.ro na [],.ro nn []]]) (fun i=>S.length-i) (fun i=>i≤S.length) 0 (Wk.fr (by simp[Ac])) (by simp) ?_)
 intro i hi
 by_cases c:i<S.length∧i<4
 rotate_left
 . (repeat refine W.seq ?_);refine W.midS (fun _:Unit=> [(46,.bool false)]) (fun _=> []) (fun _=>True) ?_ ?_
   .by_cases d1:i<S.length
    .have d2:¬(i:Int)<4:=by omega
     refine Ae (an d1 d2) ?_;intro K hK
     refine zk ?_;clear hK K
     exact⟨(),trivial,Wk.cutM (k:=0) (by simp[Ac]) (by simp) (by simp) (by simp) (by simp) (by simp)⟩
    .refine Ae d1 ?_;intro K hK
     refine zk ?_;clear hK K
     exact⟨(),trivial,Wk.cutM (k:=0) (by simp[Ac]) (by simp) (by simp) (by simp) (by simp) (by simp)⟩
   rintro _ _
   refine zn ?_
   refine W.exit ?_
   refine zs ?_
   (repeat refine W.seq ?_);refine W.block (W.loopS (fun i:Nat=> [(30,.int .i64 (17*(i:Int)-1))]) (fun _=> []) (fun i=>10-i) (fun i=>i≤7) 0 (Wk.cutM (k:=0) (by simp[Ac]) (by simp) (by simp) (by simp) (by simp) (by simp)) (by simp) ?_)
   intro i hi
   by_cases e1:i≤6
   rotate_left
   .have e1' :¬(17*(i:Int)-1≤101):=by omega
    refine Ae e1' ?_;intro K hK
    refine zk ?_;clear hK K
    refine zn ?_
    refine W.exit ?_
    refine z0 ?_;intro K hK
    refine Ab.eq spW (by simp) (by simp) ?_
    refine zx ?_
    refine zk ?_;clear hK K
    exact zR
   have e1' :17*(i:Int)-1≤101:=by omega
   obtain⟨b,hb⟩:∃b:Int,b=17*(i:Int)-1:=⟨_,rfl⟩
   rw[←hb] at e1' ⊢
   refine Ae e1' ?_;intro K hK
   refine zk ?_;clear hK K
   refine zt ?_
   refine W.skip ?_
   refine zb ?_
   refine zs ?_
   (repeat refine W.seq ?_);refine W.block (W.loopS (fun k:Nat=> [(30,.int .i64 b),(31,.int .i64 ((k:Int)-1))]) (fun _=> []) (fun k=>12-k) (fun k=>k≤11) 0 (Wk.fr (by simp[Ac])) (by simp) ?_)
   intro k hk
   by_cases e2:k≤10
   rotate_left
   .have e2' :¬((k:Int)-1≤9):=by omega
    refine Ae e2' ?_;intro K hK
    refine zk ?_;clear hK K
    refine zn ?_
    refine W.exit ?_
    refine zs ?_
    exact⟨i+1,by omega,by omega,Wk.fr (by simp[Ac];omega)⟩
   have e2' :(k:Int)-1≤9:=by omega
   obtain⟨kp,hkp⟩:∃kp:Int,kp=(k:Int)-1:=⟨_,rfl⟩
   rw[←hkp] at e2' ⊢
   refine Ae e2' ?_;intro K hK
   refine zk ?_;clear hK K
   refine zt ?_
   refine W.skip ?_
   refine zb ?_
   have spN:=Uw hR b kp
   have spB1:=DA b 1 100
   have spB2:=DA kp 1 8
   refine z1 ?_;intro K hK
   refine Ab.eq spN (by simp) (by simp) ?_
   refine zx ?_
   refine zk ?_;clear hK K
   refine zs ?_
   refine z1 ?_;intro K hK
   refine zk ?_;clear hK K
   obtain⟨d,hd⟩:∃d:Bool,d=(decide (1≤b∧b≤100)&&decide (1≤kp∧kp≤8)):=⟨_,rfl⟩
   have hyin:=Sy b kp
   obtain⟨y,hy⟩:∃y,y=(FW b kp).1:=⟨_,rfl⟩
   obtain⟨e,he⟩:∃e,e=(FW b kp).2:=⟨_,rfl⟩
   rw[←hy] at hyin
   rw[←hy,←he]
   have hd1:d=true→y=AR b kp∧e=0:=fun h=>by
    rw[hd] at h
    simp only[Bool.and_eq_true,decide_eq_true_eq] at h
    rw[hy,he,FW,if_pos h];exact⟨rfl,rfl⟩
   have hd2:d=false→y=Do∧e=1:=fun h=>by
    rw[hd] at h
    have h' :¬((1≤b∧b≤100)∧(1≤kp∧kp≤8)):=fun g=>by simp[g] at h
    rw[hy,he,FW,if_neg h'];exact⟨rfl,rfl⟩
   have spQ:=Li y y (Pi hyin)
   rw[decide_eq_true rfl] at spQ
   (repeat refine W.seq ?_);refine W.midS (fun _:Unit=> [(30,.int .i64 b),(31,.int .i64 kp),(32,.ptr 0 0 0),(33,.int .i64 e),(34,.int .i64 1),(35,.ptr 3 0 0),(241,.bool d)]) (fun _=> [.live 0 [.int .i64 y.keep,.int .i64 y.blocks,.tok 1 0 8 0 y.vers.length,.tok 2 0 12 0 y.sess.length],.live 0 (Af A8 y.vers),.live 0 (Af (AG true) y.sess),.live 0 [.int .i64 0,.int .i64 0,.own 8 0 [],.own 12 0 []]]) (fun _=>True) ?_ ?_
   .by_cases c1:1≤b∧b≤100
    .rw[decide_eq_true c1] at spB1 hd
     rw[Bool.true_and] at hd
     refine z0 ?_;intro K hK
     refine Ab.eq spB1 (by simp) (by simp) ?_
     refine zx ?_
     rw[←hd] at spB2
     refine Ab.eq spB2 (by simp) (by simp) ?_
     refine zx ?_
     refine zk ?_;clear hK K
     exact⟨(),trivial,Wk.fr (by simp[Ac])⟩
    .rw[decide_eq_false c1] at spB1 hd
     rw[Bool.false_and] at hd
     refine z0 ?_;intro K hK
     refine Ab.eq spB1 (by simp) (by simp) ?_
     subst hd
     refine zx ?_
     refine zk ?_;clear hK K
     exact⟨(),trivial,Wk.fr (by simp[Ac])⟩
   rintro _ _
   cases d
   .obtain⟨rfl,rfl⟩:=hd2 rfl
    refine zn ?_
    refine W.skip ?_
    refine W.weak ((Wk.thaw (B:=3) (v:=0) (j:=2) (s:=8) (n:=0) (xs:=[]) (by rfl) (by rfl)).trans (Wk.thaw (B:=3) (v:=0) (j:=3) (s:=12) (n:=0) (xs:=[]) (by rfl) (by rfl))) ?_
    refine z0 ?_;intro K hK
    refine Ab.eq (EM 1) (by simp) (by simp) ?_
    refine zx ?_
    refine Ab.eq spQ (by simp[Do]) (by simp) ?_
    refine zx ?_
    refine zk ?_;clear hK K
    refine zn ?_
    refine W.skip ?_
    refine zs ?_
    exact⟨k+1,by omega,by omega,Wk.cutM (k:=0) (by simp[Ac];omega) (by simp) (by simp) (by simp) (by simp) (by simp)⟩
   .obtain⟨rfl,rfl⟩:=hd1 rfl
    refine zt ?_
    refine z0 ?_;intro K hK
    refine Ab.eq (Ut b kp) (by simp) (by simp) ?_
    refine zx ?_
    refine zk ?_;clear hK K
    refine z0 ?_;intro K hK
    refine Ab.eq (EM 0) (by simp) (by simp) ?_
    refine zx ?_
    refine Ab.eq spQ (by simp) (by simp) ?_
    refine zx ?_
    refine zk ?_;clear hK K
    refine zn ?_
    refine W.skip ?_
    refine zs ?_
    exact⟨k+1,by omega,by omega,Wk.cutM (k:=0) (by simp[Ac];omega) (by simp) (by simp) (by simp) (by simp) (by simp)⟩
 obtain⟨d1,d2⟩:=c
 have d2' :(i:Int)<4:=by omega
 have k0:(Af (Ay false) S)[i*4]?=some (.int .i64 S[i].keep):=Bg (f:=Ay false) (s:=4) (fun _=>rfl) d1 (i:=0) (by omega)
 have k1:(Af (Ay false) S)[i*4+1]?=some (.int .i64 S[i].blocks):=Bg (f:=Ay false) (s:=4) (fun _=>rfl) d1 (i:=1) (by omega)
 have k2:(Af (Ay false) S)[i*4+1+1]?=some (.ro S[i].vers.length (Af A8 S[i].vers)):=Bg (f:=Ay false) (s:=4) (fun _=>rfl) d1 (i:=2) (by omega)
 have k3:(Af (Ay false) S)[i*4+1+1+1]?=some (.ro S[i].sess.length (Af (AG false) S[i].sess)):=Bg (f:=Ay false) (s:=4) (fun _=>rfl) d1 (i:=3) (by omega)
 obtain⟨hsi,hsx⟩:=Qm (hS2 _ (List.getElem_mem d1))
 have hsm:=hS2 _ (List.getElem_mem d1)
 obtain⟨s,hsd⟩:∃s,s=S[i]:=⟨_,rfl⟩
 rw[←hsd] at k0 k1 k2 k3 hsi hsx hsm
 have hvl:=hsm.1
 have spS:=Qj s hsi hsx
 have spC:=Nc s hsi hsx
 have spE:=Li s s (Pi ⟨hsi,hsx⟩)
 rw[decide_eq_true rfl] at spE
 have sp1:=Ns hR s hsi hsx
 have sp2:=Vm hR s hsi hsx
 have sp3:=Uj hR s hsi hsx
 have sp4:=Vv hR s hsi hsx
 have sp5:=Su hR s hsi hsx
 have sp6:=Sr hR s hsi hsx
 have sp7:=Qq hR s hsi hsx
 have spG:=fun id=>Qr hR s id hsi hsx
 refine Ae (an d1 d2') ?_;intro K hK
 refine zk ?_;clear hK K
 refine zt ?_
 refine W.skip ?_
 refine zb ?_
 refine Mk (an d1 (an k0 (an k1 (an k2 k3)))) ?_;intro K hK
 refine Ab.eq spC (by simp) (by simp) ?_
 refine zx ?_
 refine zk ?_;clear hK K
 by_cases hok:Bm s
 rotate_left
 .rw[decide_eq_false hok] at spS
  simp only[if_neg hok] at sp1 sp2 sp3 sp4 sp5 sp6 sp7
  have eG:∀id,Dr s id=(Au,1):=fun id=>by rw[Dr,if_neg hok]
  simp only[eG] at spG
  refine Ae (an d1 (an k0 (an k1 (an k2 k3)))) ?_;intro K hK
  refine Ab.eq spS (by simp) (by simp) ?_
  refine zx ?_
  refine zk ?_;clear hK K
  refine z0 ?_;intro K hK
  refine Ab.eq sp1 (by simp) (by simp) ?_
  refine zx ?_
  refine zk ?_;clear hK K
  refine z0 ?_;intro K hK
  refine Ab.eq sp2 (by simp) (by simp) ?_
  refine zx ?_
  refine zk ?_;clear hK K
  refine z0 ?_;intro K hK
  refine Ab.eq sp3 (by simp) (by simp) ?_
  refine zx ?_
  refine zk ?_;clear hK K
  refine z0 ?_;intro K hK
  refine Ab.eq sp4 (by simp) (by simp) ?_
  refine zx ?_
  refine zk ?_;clear hK K
  refine z0 ?_;intro K hK
  refine Ab.eq sp5 (by simp) (by simp) ?_
  refine zx ?_
  refine zk ?_;clear hK K
  refine z0 ?_;intro K hK
  refine Ab.eq sp6 (by simp) (by simp) ?_
  refine zx ?_
  refine zk ?_;clear hK K
  refine zs ?_
  refine zs ?_
  refine zs ?_
  refine zs ?_
  refine zn ?_
  refine W.skip ?_
  refine z0 ?_;intro K hK
  refine Ab.eq sp7 (by simp) (by simp) ?_
  refine zx ?_
  iterate 7 (refine Ab.eq (EM 1) (by simp) (by simp) ?_;refine zx ?_)
  refine zk ?_;clear hK K
  refine zn ?_
  refine W.skip ?_
  have en:=B4 [] [] (by simp)
  have eo:=G1 [] [] (by simp)
  refine z0 ?_;intro K hK
  iterate 3 (refine Ab.eq en (by simp) (by simp) ?_;refine zx ?_)
  refine Ab.eq eo (by simp) (by simp) ?_
  refine zx ?_
  refine zk ?_;clear hK K
  refine zn ?_
  refine W.skip ?_
  refine zs ?_
  (repeat refine W.seq ?_);refine W.block (W.loopS (fun k:Nat=> [(1,.ptr 0 0 0),(3,.int .i64 i),(4,.ptr 1 0 0),(5,.bool false),(25,.int .i64 ((k:Int)-1))]) (fun _=> [.live 0 [.ro S.length (Af (Ay false) S),.ro L.length (C3 L),.ro G.length (Af (AQ false) G),.ro na [],.ro nn []],.live 0 [.int .i64 s.keep,.int .i64 s.blocks,.tok 2 0 8 0 s.vers.length,.tok 3 0 12 0 s.sess.length],.live 0 (Af A8 s.vers),.live 0 (Af (AG true) s.sess)]) (fun k=>20-k) (fun k=>k≤10) 0 (Wk.cutM (k:=4) (by simp[Ac]) (by simp) (by simp) (by simp) (by simp) (by simp)) (by simp) ?_)
  intro k hk
  by_cases e1:k<10
  rotate_left
  .have e1' :¬((k:Int)-1<9):=by omega
   refine Ae e1' ?_;intro K hK
   refine zk ?_;clear hK K
   refine zn ?_
   refine W.exit ?_
   refine A5 (an d1 (an k0 (an k1 (an k2 k3)))) ?_;intro K hK
   refine Ah.eq spE (by simp) (by simp) ?_
   refine zx ?_
   refine zk ?_;clear hK K
   refine zn ?_
   refine W.skip ?_
   refine zs ?_
   exact⟨i+1,by omega,by omega,Wk.cutM (k:=1) (by simp[Ac]) (by simp) (by simp) (by simp) (by simp) (by simp)⟩
  have e1' :(k:Int)-1<9:=by omega
  obtain⟨id,B2⟩:∃id:Int,id=(k:Int)-1:=⟨_,rfl⟩
  rw[←B2] at e1' ⊢
  refine Ae e1' ?_;intro K hK
  refine zk ?_;clear hK K
  refine zt ?_
  refine W.skip ?_
  refine zb ?_
  refine z1 ?_;intro K hK
  refine Ab.eq (spG id) (by simp) (by simp) ?_
  simp only[DQ];simp -implicitDefEqProofs (maxSteps:=999999) (disch:=omega) [Au]
  refine zk ?_;clear hK K
  refine zs ?_
  refine z1 ?_;intro K hK
  refine zk ?_;clear hK K
  refine zs ?_
  refine zn ?_
  refine W.skip ?_
  refine W.weak (Wk.thaw (B:=6) (v:=0) (j:=1) (s:=1) (n:=0) (xs:=[]) (by rfl) (by rfl)) ?_
  have eg:=Ej Au Au ⟨by simp[Au],by simp[Au]⟩
  refine z0 ?_;intro K hK
  refine Ab.eq (EM 1) (by simp) (by simp) ?_
  refine zx ?_
  refine Ab.eq eg (by simp[Au]) (by simp) ?_
  refine zx ?_
  refine zk ?_;clear hK K
  refine zn ?_
  refine W.skip ?_
  refine z0 ?_;intro K hK
  refine Ab.pass [5] (LR [] 0 0 0 (by simp) (by simp)) (by simp) (by simp) (by simp) (by simp) ?_
  rintro r M ⟨rfl,rfl⟩ _
  refine zx ?_
  refine zk ?_;clear hK K
  refine zs ?_
  exact⟨k+1,by omega,by omega,Wk.cutM (k:=4) (by simp[Ac];omega) (by simp) (by simp) (by simp) (by simp) (by simp)⟩
 rw[decide_eq_true hok] at spS
 simp only[if_pos hok] at sp1 sp2 sp3 sp4 sp5 sp6 sp7
 have hkp:0≤s.keep∧s.keep≤1000000:=⟨by have:=hok.1.1.1;omega,by have:=hok.1.1.2.1;omega⟩
 have r1:=KD s hsi
 have r2:=Pd s hsi
 have r3:=Nw s false hsi hkp
 have r4:=Nw s true hsi hkp
 rw[Bool.not_false] at r3
 rw[Bool.not_true] at r4
 have r5:=Nu s hsi
 have r6:=Sw (AE s) s.blocks (by simp[AE];exact hsi.1) hok.2
 have r7:=Ki s hsi
 have rA:=fun id=>Rx s id hsi
 have rG:=fun id=>Qo s id hsi hok.1.1.2.2.2.2.2.2
 have l1:(BY s.vers).length<4611686018427387904:=by have:=FB s.vers;omega
 have l2:(BZ s true).length<4611686018427387904:=by have:=EB s true s.vers;unfold BZ;omega
 have l3:(BZ s false).length<4611686018427387904:=by have:=EB s false s.vers;unfold BZ;omega
 have l4:(Ar s).length<1000000000000:=by simp[Ar];omega
 have e1:=B4 _ (BY s.vers) l1
 have e2:=B4 _ (BZ s true) l2
 have e3:=B4 _ (BZ s false) l3
 have e4:=G1 _ (Ar s) l4
 rw[decide_eq_true rfl] at e1 e2 e3 e4
 generalize BY s.vers=x1 at*
 generalize BZ s true=x2 at*
 generalize BZ s false=x3 at*
 obtain⟨ob,hob⟩:∃ob,ob=Ar s:=⟨_,rfl⟩
 rw[←hob] at sp6 r7 l4 e4
 obtain⟨pl,hpl⟩:∃pl,pl=AE s:=⟨_,rfl⟩
 rw[←hpl] at sp5 r5 r6
 obtain⟨fr,hfr⟩:∃fr,fr=(EE pl s.blocks).1:=⟨_,rfl⟩
 rw[←hfr] at sp5 r6
 refine Ae (an d1 (an k0 (an k1 (an k2 k3)))) ?_;intro K hK
 refine Ab.eq spS (by simp) (by simp) ?_
 refine zx ?_
 refine zk ?_;clear hK K
 refine z0 ?_;intro K hK
 refine Ab.eq sp1 (by simp) (by simp) ?_
 refine zx ?_
 refine zk ?_;clear hK K
 refine z0 ?_;intro K hK
 refine Ab.eq sp2 (by simp) (by simp) ?_
 refine zx ?_
 refine zk ?_;clear hK K
 refine z0 ?_;intro K hK
 refine Ab.eq sp3 (by simp) (by simp) ?_
 refine zx ?_
 refine zk ?_;clear hK K
 refine z0 ?_;intro K hK
 refine Ab.eq sp4 (by simp) (by simp) ?_
 refine zx ?_
 refine zk ?_;clear hK K
 refine z0 ?_;intro K hK
 refine Ab.eq sp5 (by simp) (by simp) ?_
 refine zx ?_
 refine zk ?_;clear hK K
 refine z0 ?_;intro K hK
 refine Ab.eq sp6 (by simp) (by simp) ?_
 refine zx ?_
 refine zk ?_;clear hK K
 refine zs ?_
 refine zs ?_
 refine zs ?_
 refine zs ?_
 refine zt ?_
 refine B8 ?_;intro K hK
 refine Ah.eq r1 (by simp) (by simp) ?_
 refine zx ?_
 refine Ah.eq r2 (by simp) (by simp) ?_
 refine zx ?_
 refine Ah.eq r3 (by simp) (by simp) ?_
 refine zx ?_
 refine Ah.eq r4 (by simp) (by simp) ?_
 refine zx ?_
 refine zk ?_;clear hK K
 refine B8 ?_;intro K hK
 refine Ah.eq r5 (by simp) (by simp) ?_
 refine zx ?_
 refine Ah.eq r6 (by simp) (by simp) ?_
 refine zx ?_
 refine Ah.eq r7 (by simp) (by simp) ?_
 refine zx ?_
 refine zk ?_;clear hK K
 refine z0 ?_;intro K hK
 refine Ab.eq sp7 (by simp) (by simp) ?_
 refine zx ?_
 iterate 7 (refine Ab.eq (EM 0) (by simp) (by simp) ?_;refine zx ?_)
 refine zk ?_;clear hK K
 refine zn ?_
 refine W.skip ?_
 refine z0 ?_;intro K hK
 refine Ab.eq e1 (by simp) (by simp) ?_
 refine zx ?_
 refine Ab.eq e2 (by simp) (by simp) ?_
 refine zx ?_
 refine Ab.eq e3 (by simp) (by simp) ?_
 refine zx ?_
 refine Ab.eq e4 (by simp) (by simp) ?_
 refine zx ?_
 refine zk ?_;clear hK K
 refine zn ?_
 refine W.skip ?_
 refine zs ?_
 (repeat refine W.seq ?_);refine W.block (W.loopS (fun k:Nat=> [(1,.ptr 0 0 0),(3,.int .i64 i),(4,.ptr 1 0 0),(5,.bool true),(25,.int .i64 ((k:Int)-1))]) (fun _=> [.live 0 [.ro S.length (Af (Ay false) S),.ro L.length (C3 L),.ro G.length (Af (AQ false) G),.ro na [],.ro nn []],.live 0 [.int .i64 s.keep,.int .i64 s.blocks,.tok 2 0 8 0 s.vers.length,.tok 3 0 12 0 s.sess.length],.live 0 (Af A8 s.vers),.live 0 (Af (AG true) s.sess)]) (fun k=>20-k) (fun k=>k≤10) 0 (Wk.cutM (k:=4) (by simp[Ac]) (by simp) (by simp) (by simp) (by simp) (by simp)) (by simp) ?_)
 intro k hk
 by_cases f1:k<10
 rotate_left
 .have f1' :¬((k:Int)-1<9):=by omega
  refine Ae f1' ?_;intro K hK
  refine zk ?_;clear hK K
  refine zn ?_
  refine W.exit ?_
  refine A5 (an d1 (an k0 (an k1 (an k2 k3)))) ?_;intro K hK
  refine Ah.eq spE (by simp) (by simp) ?_
  refine zx ?_
  refine zk ?_;clear hK K
  refine zn ?_
  refine W.skip ?_
  refine zs ?_
  exact⟨i+1,by omega,by omega,Wk.cutM (k:=1) (by simp[Ac]) (by simp) (by simp) (by simp) (by simp) (by simp)⟩
 have f1' :(k:Int)-1<9:=by omega
 obtain⟨id,B2⟩:∃id:Int,id=(k:Int)-1:=⟨_,rfl⟩
 rw[←B2] at f1' ⊢
 have hgm:=N5 s id
 have spG' :=spG id
 have rA' :=rA id
 have rG' :=rG id
 clear spG rA rG
 have hgr:Dr s id=if id=0 then(Au,0) else if BM (fun v=>decide (v.id=id)) s.vers<0 then(Au,3) else((By (Ar s) id).1,0):=by rw[Dr,if_pos hok]
 obtain⟨g,hg⟩:∃g,g=(Dr s id).1:=⟨_,rfl⟩
 obtain⟨e,he⟩:∃e,e=(Dr s id).2:=⟨_,rfl⟩
 obtain⟨j,hj⟩:∃j,j=BM (fun v=>decide (v.id=id)) s.vers:=⟨_,rfl⟩
 rw[←hg] at hgm spG'
 rw[←he] at spG'
 rw[←hj] at rA' hgr
 have hgi:=hgm.inn
 have eg:=Ej g g hgi
 rw[decide_eq_true rfl] at eg
 refine Ae f1' ?_;intro K hK
 refine zk ?_;clear hK K
 refine zt ?_
 refine W.skip ?_
 refine zb ?_
 refine z1 ?_;intro K hK
 refine Ab.eq spG' (by simp) (by simp) ?_
 refine zx ?_
 refine zk ?_;clear hK K
 refine zs ?_
 refine z1 ?_;intro K hK
 refine zk ?_;clear hK K
 refine zs ?_
 (repeat refine W.seq ?_);refine W.midS (fun _:Unit=> [(1,.ptr 0 0 0),(3,.int .i64 i),(4,.ptr 1 0 0),(5,.bool true),(25,.int .i64 id),(26,.ptr 4 0 0),(27,.int .i64 e),(28,.int .i64 e),(29,.ptr 6 0 0)]) (fun _=> [.live 0 [.ro S.length (Af (Ay false) S),.ro L.length (C3 L),.ro G.length (Af (AQ false) G),.ro na [],.ro nn []],.live 0 [.int .i64 s.keep,.int .i64 s.blocks,.tok 2 0 8 0 s.vers.length,.tok 3 0 12 0 s.sess.length],.live 0 (Af A8 s.vers),.live 0 (Af (AG true) s.sess),.live 0 [.int .i64 g.n,.tok 5 0 1 0 g.out.length],.live 0 (Aw true g.out),.live 0 [.int .i64 g.n,.tok 7 0 1 0 g.out.length],.live 0 (Aw true g.out)]) (fun _=>True) ?_ ?_
 .by_cases c1:id=0
  .rw[if_pos c1] at hgr rG'
   rw[hgr] at hg he
   simp only at hg he
   rw[←hg] at rG'
   refine zt ?_
   refine zs ?_
   refine Ae c1 ?_;intro K hK
   refine zk ?_;clear hK K
   refine zt ?_
   subst c1
   refine z0 ?_;intro K hK
   refine Ab.eq rG' (by simp) (by simp) ?_
   refine zx ?_
   refine zk ?_;clear hK K
   exact⟨(),trivial,Wk.cutM (k:=8) (by simp[Ac,he]) (by simp) (by simp) (by simp) (by simp) (by simp)⟩
  rw[if_neg c1] at hgr rG'
  by_cases c2:j<0
  .rw[if_pos c2] at hgr
   rw[hgr] at hg he
   simp only at hg he
   have c2' :¬0≤j:=by omega
   refine zt ?_
   refine zs ?_
   refine Ae c1 ?_;intro K hK
   refine Ab.eq rA' (by simp) (by simp) ?_
   refine AM c2' ?_
   refine zk ?_;clear hK K
   refine zn ?_
   refine W.skip ?_
   refine⟨(),trivial,(Wk.thaw (B:=6) (v:=0) (j:=1) (s:=1) (n:=0) (xs:=[]) (by rfl) (by rfl)).trans ?_⟩
   exact Wk.cutM (k:=8) (by simp[Ac,he]) (by simp[hg,Au]) (by simp) (by simp) (by simp) (by simp)
  .rw[if_neg c2] at hgr
   rw[hgr] at hg he
   simp only at hg he
   rw[←hg] at rG'
   have c2' :0≤j:=by omega
   refine zt ?_
   refine zs ?_
   refine Ae c1 ?_;intro K hK
   refine Ab.eq rA' (by simp) (by simp) ?_
   refine AM c2' ?_
   refine zk ?_;clear hK K
   refine zt ?_
   refine z0 ?_;intro K hK
   refine Ab.eq rG' (by simp) (by simp) ?_
   refine zx ?_
   refine zk ?_;clear hK K
   exact⟨(),trivial,Wk.cutM (k:=8) (by simp[Ac,he]) (by simp) (by simp) (by simp) (by simp) (by simp)⟩
 rintro _ _
 refine z0 ?_;intro K hK
 refine Ab.eq (EM e) (by simp) (by simp) ?_
 refine zx ?_
 refine Ab.eq eg (by simp) (by simp) ?_
 refine zx ?_
 refine zk ?_;clear hK K
 refine zn ?_
 refine W.skip ?_
 refine z0 ?_;intro K hK
 refine Ab.pass [5] (LR g.out 0 0 g.n hgi.1 hgi.2) (by simp) (by simp) (by simp) (by simp) ?_
 rintro r M ⟨rfl,rfl⟩ _
 refine zx ?_
 refine zk ?_;clear hK K
 refine zs ?_
 exact⟨k+1,by omega,by omega,Wk.cutM (k:=4) (by simp[Ac];omega) (by simp) (by simp) (by simp) (by simp) (by simp)⟩
end Go.Abs
set_option maxRecDepth 100000
namespace Go.Abs
open Go.Proofs
theorem Sz {C:A3} {T:Nat→Option TI} (tk:Bx C.P T) {t e es eb:Nat} {ez:List AV} (htd:An T t= .slice e es eb ez) {a:Option Addr} {n c l h:Nat} {lo hi:Option (IntKind×Int)} (hnc:n≤c) (h1:EJ (hi.map fun x=> .int x.1 x.2) n n=some h) (h2:EJ (lo.map fun x=> .int x.1 x.2) 0 h=some l) (w:World):
 (Instr.sliceAt t (.slice a n c) (lo.map fun x=> .int x.1 x.2) (hi.map fun x=> .int x.1 x.2) none).run C.P w= .ok (.slice (if c=l then a else a.map (·.add (l*es))) (h-l) (c-l)) w:=by
 obtain⟨hD,E,z,hE,hs,_⟩:=Cx tk htd
 have hh:∀(x:Option (IntKind×Int)) (y:AV),(x.map fun x=>AV.int x.1 x.2)=some y→∃u,(x.map fun x=>Value.int x.1 x.2)=some u∧VR w C.sh (fun _ _=>none) y u (fun _=>0):=by
  intro x y hy
  cases x with
  |none=>simp at hy
  |some x=>simp at hy;subst hy;exact⟨_,rfl,rfl,fun _=>rfl⟩
 have hb:=(EK (P:=C.P) (w:=w) (σ:=fun _ _=>none) (C:=C) true (hh lo) (by cases lo<;>simp) (hh hi) (by cases hi<;>simp) hnc h1 h2).1
 simp only[Instr.sliceAt,Sem.run_bind,run_underlying hD,Result.andThen_ok,Instr.slice,hb,BP hE,hs,Sem.run_pure]
theorem Pj {C:A3} {T:Nat→Option TI} (tk:Bx C.P T) {F:Fr} {M:List Ag} {a:Act} {w:World} {σ:Nat→Nat→Option St} {own:Nat→Option Nat} (R:AF C F M a w σ own) {t e eb:Nat} {ez:List AV} (htd:An T t= .slice e 1 eb ez) {B v off n tx ty d ty' :Nat} {pos:String} {af:Array Edge} {cs ys:List AV} (hb:Ai M B v=some cs) (hx:F tx= .tok B v 1 off n) (hxn:tx<C.n) (hyn:ty<C.n)
 {m:Nat} (hyc:CK M (F ty)=some (m,ys)) (hyl:ys.length=m*1) (hyo:ys.all Dp=true) (hle:off+n≤cs.length) (hn:0<n) (hm:0<m) {next:Act→World→Prop} {Q:Exit→Act→World→Prop}
 (hK:∀a' w',AF C (A6 F d (.int .i64 (min m n:Nat))) (M.set B (.live v (Dl cs off (ys.take (min m n))))) a' w' σ own→(∀t,t≠d→a'.tmps.getD t undef=a.tmps.getD t undef)→next a' w'):
 Oper.wpIn (FX C) 0 C.P {dst:=some d,op:= .call {callee:= .builtin .copy,args:= #[.tmp tx,.tmp ty],argTypes:= #[t,t]},type:=ty',pos:=pos,after:=af,guard:=none} a w next Q:=by
 have e1:=R.tmp tx hxn;rw[hx] at e1
 obtain⟨w',hrun,R'⟩:=R.copy (ty:=ty') tk htd hb e1 (R.tmp ty hyn) hyc hyl hyo hle hn hm
 refine Oper.wp_value (fun _ h=>by cases h) (v:= .int .i64 (min m n:Nat)) (w' :=w') ?_ (hK _ _ (R'.put (some d) (av:= .int .i64 (min m n:Nat)) ⟨rfl,fun _=>rfl⟩) fun t ht=>Bd ht)
 have e2:∀t,a.eval (.tmp t)=a.tmps.getD t undef:=fun _=>rfl
 simp only[execOp,resolve,invoke,builtin,e2,List.map_toArray,List.map_cons,List.map_nil,Sem.run_bind,hrun,Result.andThen_ok,Sem.run_pure]
theorem Pk {C:A3} (hrd:C.rd=none) {K:Act→World→Prop} {ops:Array Oper} {i d fuel:Nat} {listed:Array Bool} {F:Fr} {M:List Ag} {a:Act} {w:World} {σ:Nat→Nat→Option St} {own:Nat→Option Nat} {o:Oper} {v:Value} {av:AV} (R:AF C F M a w σ own) (ho:ops[i]?=some o) (hd:o.dst=some d) (hg:o.guard=none) (hs:Region.noSelect ops=true) (hf:Region.free .any ops listed i=true) (hr:(Region.ready .any ops listed).contains i=true)
 (hv:VR w C.sh σ av v (fun _=>0)) (hrun:∀w,(execOp a.eval o).run C.P w= .ok (.value v) w) (hab:∀w,o.about C.P w a.eval=none) (next:∀a',AF C (A6 F d av) M a' w σ own→wpAnyIn (FX C) 0 C.P .any ops (fun e a w=>e= .normal∧K a w) fuel (listed.setIfInBounds i true) a' w):wpAnyIn (FX C) 0 C.P .any ops (fun e a w=>e= .normal∧K a w) (fuel+1) listed a w:=by
 refine wpAnyIn_take (i:=i) (v:=v) (by simp[FX,hrd]) ho hs hf hr (fun _ _ _ h=>by cases h.1) ⟨.inl ⟨by simp[Region.wanted,hg],hrun⟩,hab⟩ ?_
 rw[hd]
 exact next _ (R.put (some d) hv)
theorem FY {C:A3} (hrd:C.rd=none) {K:Act→World→Prop} {ops:Array Oper} {i d s ty fuel:Nat} {pos:String} {af:Array Edge} {listed:Array Bool} {F:Fr} {M:List Ag} {a:Act} {w:World} {σ:Nat→Nat→Option St} {own:Nat→Option Nat} (R:AF C F M a w σ own) (ho:ops[i]?=some {dst:=some d,op:= .move (.tmp s),type:=ty,pos:=pos,after:=af,guard:=none}) (hs:Region.noSelect ops=true) (hf:Region.free .any ops listed i=true) (hr:(Region.ready .any ops listed).contains i=true) (hn:s<C.n)
 (next:∀a',AF C (A6 F d (F s)) M a' w σ own→wpAnyIn (FX C) 0 C.P .any ops (fun e a w=>e= .normal∧K a w) fuel (listed.setIfInBounds i true) a' w):wpAnyIn (FX C) 0 C.P .any ops (fun e a w=>e= .normal∧K a w) (fuel+1) listed a w:=
 Pk hrd R ho rfl rfl hs hf hr (R.tmp s hn) (fun w=>by simp only[execOp];rfl) (fun _=>rfl) next
theorem KJ {C:A3} {T:Nat→Option TI} (tk:Bx C.P T) (hrd:C.rd=none) {K:Act→World→Prop} {ops:Array Oper} {i d s ty t e es eb fuel B v n l h:Nat} {ez:List AV} {lo hi:Option (Nat×IntKind×Int)} {pos:String} {af:Array Edge} {listed:Array Bool} {F:Fr} {M:List Ag} {a:Act} {w:World} {σ:Nat→Nat→Option St} {own:Nat→Option Nat} (R:AF C F M a w σ own) (ho:ops[i]?=some {dst:=some d,op:= .slice t (.tmp s) (lo.map fun x=> .tmp x.1) (hi.map fun x=> .tmp x.1) none,type:=ty,pos:=pos,after:=af,guard:=none}) (hs:Region.noSelect ops=true) (hf:Region.free .any ops listed i=true) (hr:(Region.ready .any ops listed).contains i=true) (hn:s<C.n) (htd:An T t= .slice e es eb ez) (hF:F s= .tok B v es 0 n) (hb:(Ai M B v).isSome) (hlo:∀x,lo=some x→x.1<C.n∧F x.1= .int x.2.1 x.2.2) (hhi:∀x,hi=some x→x.1<C.n∧F x.1= .int x.2.1 x.2.2)
 (h1:EJ (hi.map fun x=> .int x.2.1 x.2.2) n n=some h) (h2:EJ (lo.map fun x=> .int x.2.1 x.2.2) 0 h=some l)
 (next:∀a',AF C (A6 F d (.tok B v es (l*es) (h-l))) M a' w σ own→wpAnyIn (FX C) 0 C.P .any ops (fun e a w=>e= .normal∧K a w) fuel (listed.setIfInBounds i true) a' w):wpAnyIn (FX C) 0 C.P .any ops (fun e a w=>e= .normal∧K a w) (fuel+1) listed a w:=by
 have hx:=R.tmp s hn
 rw[hF] at hx
 obtain⟨cs,hcs⟩:=Option.isSome_iff_exists.1 hb
 obtain⟨_,fp,hB,_⟩:=BV R.mem hcs
 have hx2:=hx
 simp only[VR] at hx2
 obtain⟨_,⟨ad,c,hval⟩,st,hst,hnil,hloc⟩:=hx2
 have hnc:n≤c:=by
  simp only[BR] at hB
  rcases hB.2 with⟨h1,_,_⟩ | ⟨g,b,cur,e',fp',h1,_⟩
  .rw[h1] at hst;simp at hst;subst hst
   have:=(hnil rfl).2.2;omega
  .rw[h1] at hst;simp at hst;subst hst
   obtain⟨a2,c2,e2,_,e3,_⟩:=hloc _ _ _ rfl
   rw[hval] at e2;cases e2;exact e3
 have el:(lo.map fun x=>Operand.tmp x.1).map a.eval=(lo.map fun x=>x.2).map fun x=>Value.int x.1 x.2:=by
  cases lo with
  |none=>rfl
  |some x=>
   obtain⟨h3,h4⟩:=hlo x rfl
   have:=R.tmp x.1 h3;rw[h4] at this
   simp only[Option.map_some];exact congrArg some this.1
 have eh:(hi.map fun x=>Operand.tmp x.1).map a.eval=(hi.map fun x=>x.2).map fun x=>Value.int x.1 x.2:=by
  cases hi with
  |none=>rfl
  |some x=>
   obtain⟨h3,h4⟩:=hhi x rfl
   have:=R.tmp x.1 h3;rw[h4] at this
   simp only[Option.map_some];exact congrArg some this.1
 have e1:a.eval (.tmp s)= .slice ad n c:=hval
 have hall:=Sz tk htd (a:=ad) (lo:=lo.map fun x=>x.2) (hi:=hi.map fun x=>x.2) hnc (by rw[Option.map_map];exact h1) (by rw[Option.map_map];exact h2)
 obtain⟨u,hu,hv⟩:=OQ R.mem tk (t:=t) (lo:=lo.map fun x=>AV.int x.2.1 x.2.2) (hi:=hi.map fun x=>AV.int x.2.1 x.2.2) (mx:=none) (vl:=(lo.map fun x=>x.2).map fun x=>Value.int x.1 x.2) (vh:=(hi.map fun x=>x.2).map fun x=>Value.int x.1 x.2) (vm:=none) hx (by
  intro y hy;cases lo with
  |none=>simp at hy
  |some x=>simp at hy;subst hy;exact⟨_,rfl,rfl,fun _=>rfl⟩) (by cases lo<;>simp) (by
  intro y hy;cases hi with
  |none=>simp at hy
  |some x=>simp at hy;subst hy;exact⟨_,rfl,rfl,fun _=>rfl⟩) (by cases hi<;>simp) (by simp) (by simp) (r:= .tok B v es (0+l*es) (h-l)) (by
  unfold HO
  simp only[htd]
  rw[if_pos ⟨trivial,hb⟩]
  simp only[h1,h2])
 rw[hval] at hu
 have h5:=hall w
 rw[h5] at hu
 cases hu
 refine Pk hrd R ho rfl rfl hs hf hr (by simpa using hv) (fun w=>?_) (fun _=>rfl) next
 simp only[execOp,e1,el,eh,Option.map_none,Sem.run_bind,hall,Result.andThen_ok,Sem.run_pure]
theorem Ux {C:A3} {T:Nat→Option TI} (tk:Bx C.P T) {F:Fr} {M:List Ag} {a:Act} {w:World} {σ:Nat→Nat→Option St} {own:Nat→Option Nat} {o:Oper} {next:Act→World→Prop} {Q:Exit→Act→World→Prop} (R:AF C F M a w σ own) (hb:A9 C.n o=true) (hnd:∀c,o.op≠ .defer c) {r:AV} (hv:pv T M F o=some r)
 (h:∀a',AF C (Aj F o.dst r) M a' w σ own→next a' w):o.wpIn (FX C) 0 C.P a w next Q:=by
 obtain⟨u,hu,hr⟩:=N7 tk R hb hv
 exact Oper.wp_value hnd hu (h _ (R.put _ hr))
theorem Nz (a b:Int):∀(j k m:Nat),j≤m→Dl (Ad (List.replicate k a++List.replicate m b)) k (Ad (List.replicate j a))=Ad (List.replicate (k+j) a++List.replicate (m-j) b)
 |0,k,m,_=>by simp[Dl,Ad]
 |j+1,k,m,h=>by
  obtain⟨m,rfl⟩:∃m',m=m' +1:=⟨m-1,by omega⟩
  have ih:=Nz a b j (k+1) m (by omega)
  have e:(Ad (List.replicate k a++List.replicate (m+1) b)).set k (.int .i64 a)=Ad (List.replicate (k+1) a++List.replicate m b):=by
   rw[List.replicate_succ,List.replicate_succ',List.append_assoc]
   simp only[Ad,List.map_append,List.map_cons]
   rw[List.set_append_right _ _ (by simp)]
   simp
  have e2:Ad (List.replicate (j+1) a)= .int .i64 a::Ad (List.replicate j a):=by simp[Ad,List.replicate_succ]
  rw[e2,Dl,e,ih,show k+1+j=k+(j+1) by omega,show m+1-(j+1)=m-j by omega]
theorem Qv (n:Nat) (hn1:1≤n) (hn:n<1000):Aa pg 250 [.ro 1 [.int .i64 (-1)],.int .i64 n] [] (fun r _=>r= .own 1 n (Ad (List.replicate n (-1)))):=by
 refine Aa.enterA (fn:=Tryz.f250) tk rfl rfl rfl (Nat.le_of_ble_eq_true rfl) (by kernel_rfl) ?_
 intro C hC hp hnC hrd hdf
 have hp0:C.p≤0:=Nat.le_of_eq hp
 have hn48:C.n=48:=hnC
 show AW C _ _ _ (Hi tT [.tmp 4] 0 _)
 rw[Am]
 refine AW.seqW tk hC hp0 (by rw[hn48];kernel_rfl) ?_
 refine zs ?_
 refine AW.seqW tk hC hp0 (by rw[hn48];kernel_rfl) ?_
 refine zs ?_
 refine zn ?_
 refine W.skip ?_
 refine AW.seqW tk hC hp0 (by rw[hn48];kernel_rfl) ?_
 refine z0 ?_;intro K hK
 refine Ab.eq (Vl n hn) (by simp) (by simp) ?_
 refine zx ?_
 refine zk ?_;clear hK K
 refine AW.seqW tk hC hp0 (by rw[hn48];kernel_rfl) ?_
 have z1:¬(9223372036854775807<(n:Int)):=by omega
 refine Ae z1 ?_;intro K hK
 refine zk ?_;clear hK K
 refine zn ?_
 refine W.skip ?_
 refine AW.seqW tk hC hp0 (by rw[hn48];kernel_rfl) ?_
 (repeat refine W.seq ?_);refine W.reg 1 rfl fun K hK=>?_;simp -implicitDefEqProofs (maxSteps:=999999) (disch:=omega)
 refine zk ?_;clear hK K
 have hz:Dn n [AV.int .i64 0]=Ad (List.replicate n 0):=by
  simp only[Dn,Ad]
  clear z1 hn1 hn
  induction n with
  |zero=>rfl
  |succ n ih=>simp[List.replicate_succ,ih]
 rw[hz]
 refine AW.seq ?_
 intro a w hr
 refine wpIn_region_lit ?_
 refine(Fh (hC ▸ tk) (K:=fun F' M' =>Wk 0 F' M' (fr [(7,.tok 0 0 1 0 n),(31,.tok 0 0 1 0 n),(32,.ro 1 [.int .i64 (-1)])]) [.live 0 (Ad (List.replicate n 0))]) ?_ [_,_] 1 _ _ a w ?_ ?_ ?_ hr:wpListIn _ _ _ _ _ ([_,_]++[_,_]) a w)
 rotate_left
 .rw[hn48];kernel_rfl
 .rw[hn48];kernel_rfl
 .refine Eb (call:=Ab pg) (call' :=Di C) (fun f args M K K' hk hc=>(hc C hC).mono hk) (fun _ _ h=>h) _ _ _ _ ?_
  simp -implicitDefEqProofs (maxSteps:=999999) (disch:=omega)
  exact Wk.fr (by simp[Ac])
 clear hr a w
 intro F' M' a w hwk hr
 obtain⟨σ,own,R⟩:=hwk C hp0 a w hr
 clear hr hwk
 simp only[wpListIn]
 rw[if_pos (by simp[Region.wanted])]
 refine Pj (hC ▸ tk) R (t:=28) (e:=3) (eb:=8) (ez:=[.int .i64 0]) rfl (cs:=Ad (List.replicate n 0)) (B:=0) (v:=0) (off:=0) (n:=n) (m:=1) (ys:=[.int .i64 (-1)]) rfl rfl (by omega) (by omega) rfl rfl rfl (by simp) (by omega) (by omega) ?_
 intro a' w' R' _
 rw[if_pos (by simp[Region.wanted])]
 have e33:a'.eval (.tmp 33)= .int .i64 (min 1 n:Nat):=by
  have:=R'.tmp 33 (by omega)
  have h2:a'.tmps.getD 33 undef= .int .i64 (min 1 n:Nat):=by simpa[A6,VR,fr] using this.1
  exact h2
 have hmin:min 1 n=1:=by omega
 rw[hmin] at R' e33
 refine Oper.wp_value (fun _ h=>by cases h) (v:= .int .i64 (1:Nat)) (w' :=w') (by simp only[execOp,e33];rfl) (.inl ⟨_,_,?_,σ,own,R'.put (some 8) (av:= .int .i64 (1:Nat)) ⟨rfl,fun _=>rfl⟩⟩)
 have hset:[Ag.live 0 (Ad (List.replicate n 0))].set 0 (.live 0 (Dl (Ad (List.replicate n 0)) 0 (List.take 1 [AV.int .i64 (-1)])))=[.live 0 (Ad (List.replicate 1 (-1)++List.replicate (n-1) 0))]:=by
  obtain⟨j,rfl⟩:∃j,n=j+1:=⟨n-1,by omega⟩
  simp[Ad,Dl,List.replicate_succ]
 rw[hset]
 clear R' e33 hset R
 refine AW.weak (Wk.fr (S:=[(7,.tok 0 0 1 0 n),(8,.int .i64 (1:Nat))]) (by simp[Ac,A6]) C hp0) ?_
 refine AW.seq ?_
 refine AW.block ?_
 refine AW.loop (fun m F M=>∃k,m=n-k∧1≤k∧k≤n∧F=fr [(7,.tok 0 0 1 0 n),(8,.int .i64 k)]∧M=[.live 0 (Ad (List.replicate k (-1)++List.replicate (n-k) 0))]) (n-1) _ _ (Cu.refl _ _ _) ⟨1,rfl,by omega,by omega,rfl,rfl⟩ ?_
 rintro m F M ⟨k,rfl,hk1,hkn,rfl,rfl⟩
 refine AW.seqW tk hC hp0 (by rw[hn48];kernel_rfl) ?_
 by_cases hlt:k<n
 rotate_left
 .refine Ae hlt ?_;intro K hK
  refine zk ?_;clear hK K
  refine zn ?_
  refine W.exit ?_
  have ek:k=n:=by omega
  subst ek
  refine AW.seqW tk hC hp0 (by rw[hn48];kernel_rfl) ?_
  refine zs ?_
  refine AW.ret ?_
  simp only[Cb,CT,Cp]
  refine Cd (d:=0) ?_
  simp -implicitDefEqProofs (maxSteps:=999999) (disch:=omega)
 refine Ae hlt ?_;intro K hK
 refine zk ?_;clear hK K
 refine zt ?_
 refine W.skip ?_
 refine AW.block ?_
 generalize hF:A6 (A6 _ _ _) _ _=F1
 have f7:F1 7= .tok 0 0 1 0 n:=by rw[←hF];simp[A6,fr]
 have f8:F1 8= .int .i64 k:=by rw[←hF];simp[A6,fr]
 clear hF
 intro a w hr
 refine wpIn_mono (Q:=fun e a w=>e= .normal∧Cf C (fr [(7,.tok 0 0 1 0 n),(8,.int .i64 ((k+min k (n-k):Nat):Int))]) [.live 0 (Ad (List.replicate (k+min k (n-k)) (-1)++List.replicate (n-(k+min k (n-k))) 0))] a w) ?_ ?_
 rotate_left
 .rintro e a w ⟨rfl,hr⟩
  refine .inl ⟨_,_,?_,hr⟩
  exact⟨n-(k+min k (n-k)),_,_,by omega,Cu.refl _ _ _,k+min k (n-k),rfl,by omega,by omega,rfl,rfl⟩
 refine wpIn_region_any (hC ▸ Cq) ?_
 obtain⟨σ,own,R⟩:=hr
 have R:=R.drew
 show wpAnyIn _ _ _ _ _ _ 10 _ a w.drew
 generalize w.drew=w at*
 refine FY hrd R (i:=0) rfl (by kernel_rfl) (by kernel_rfl) (by kernel_rfl) (by omega) fun a R=>?_
 refine FY hrd R (i:=1) rfl (by kernel_rfl) (by kernel_rfl) (by kernel_rfl) (by omega) fun a R=>?_
 refine FY hrd R (i:=2) rfl (by kernel_rfl) (by kernel_rfl) (by kernel_rfl) (by omega) fun a R=>?_
 refine KJ (hC ▸ tk) hrd R (i:=3) (lo:=some (40,.i64,k)) (hi:=none) rfl (by kernel_rfl) (by kernel_rfl) (by kernel_rfl) (by omega) (t:=28) (e:=3) (es:=1) (eb:=8) (ez:=[.int .i64 0]) (n:=n) (h:=n) (l:=k) rfl (by simp[A6,f7];exact⟨rfl,rfl⟩) rfl (by simp[A6,f8];omega) (by simp) rfl (by simp[EJ];omega) fun a R=>?_
 refine FY hrd R (i:=4) rfl (by kernel_rfl) (by kernel_rfl) (by kernel_rfl) (by omega) fun a R=>?_
 refine FY hrd R (i:=5) rfl (by kernel_rfl) (by kernel_rfl) (by kernel_rfl) (by omega) fun a R=>?_
 refine KJ (hC ▸ tk) hrd R (i:=6) (lo:=none) (hi:=some (43,.i64,k)) rfl (by kernel_rfl) (by kernel_rfl) (by kernel_rfl) (by omega) (t:=28) (e:=3) (es:=1) (eb:=8) (ez:=[.int .i64 0]) (n:=n) (h:=k) (l:=0) rfl (by simp[A6,f7];exact⟨rfl,rfl⟩) rfl (by simp) (by simp[A6,f8];omega) (by simp[EJ];omega) rfl fun a R=>?_
 refine wpAnyIn_ready (rs:=[7]) (by kernel_rfl) (by simp) (AllReadyIn.cons rfl (fun K' hK=>?_) AllReadyIn.nil)
 rw[if_pos (by simp[Region.wanted])]
 refine Pj (hC ▸ tk) R (t:=28) (e:=3) (eb:=8) (ez:=[.int .i64 0]) rfl (cs:=Ad (List.replicate k (-1)++List.replicate (n-k) 0)) (B:=0) (v:=0) (off:=k) (n:=n-k) (m:=k) (ys:=Ad (List.replicate k (-1))) rfl (by simp[A6]) (by omega) (by omega) ?_ (by simp) (by simp) (by simp) (by omega) (by omega) ?_
 .simp[A6,CK,Ai]
 intro a' w' R' _
 refine hK _ _ ?_
 refine wpAnyIn_ready (rs:=[8]) (by kernel_rfl) (by simp) (AllReadyIn.cons rfl (fun K' hK=>?_) AllReadyIn.nil)
 rw[if_pos (by simp[Region.wanted])]
 refine Ux (hC ▸ tk) R' (by rw[hn48];kernel_rfl) (fun _ h=>by cases h) (r:= .int .i64 ((k+min k (n-k):Nat):Int)) (by simp(disch:=omega) [pv,A6,f8]) fun a R=>hK _ _ ?_
 refine wpAnyIn_ready (rs:=[9]) (by kernel_rfl) (by simp) (AllReadyIn.cons rfl (fun K' hK=>?_) AllReadyIn.nil)
 rw[if_pos (by simp[Region.wanted])]
 refine Ux (hC ▸ tk) R (by rw[hn48];kernel_rfl) (fun _ h=>by cases h) (r:= .int .i64 ((k+min k (n-k):Nat):Int)) (by simp(disch:=omega) [pv,A6,f8,Aj]) fun a R=>hK _ _ ?_
 refine wpAnyIn_done (by kernel_rfl) ⟨rfl,?_⟩ _
 have hm:Dl (Ad (List.replicate k (-1)++List.replicate (n-k) 0)) k ((Ad (List.replicate k (-1))).take (min k (n-k)))=Ad (List.replicate (k+min k (n-k)) (-1)++List.replicate (n-(k+min k (n-k))) 0):=by
  have e:(Ad (List.replicate k (-1))).take (min k (n-k))=Ad (List.replicate (min k (n-k)) (-1)):=by
   simp only[Ad,←List.map_take,List.take_replicate]
   rw[Nat.min_eq_left (by omega)]
  rw[e,Nz _ _ _ _ _ (by omega),show n-k-min k (n-k)=n-(k+min k (n-k)) by omega]
 have hr:=Wk.fr (p:=0) (S:=[(7,.tok 0 0 1 0 n),(8,.int .i64 ((k+min k (n-k):Nat):Int))]) (by simp[Ac,A6,Aj,f7]) C hp0 a _ ⟨σ,own,R⟩
 simp only[List.set_cons_zero,hm] at hr
 exact hr
theorem Pl:Bh:=fun n h1 h2=>Qv n h1 h2
end Go.Abs
