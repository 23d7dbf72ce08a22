/- References: an object laid by another one. -/
import Derived.Test.YtoklapibcmnaeaaGreatP16
set_option linter.unusedVariables false
set_option linter.unusedSimpArgs false
set_option maxRecDepth 100000
namespace Go.Abs
open Go.Proofs
theorem Ov (xs:List Obj) (hx:xs.length<1000000000):Aa pg 140 [.ro xs.length (Ac Am xs)] [] (fun r _=>r= .own 4 xs.length (Ac Am xs)):=by
 refine Aa.start (fn:=Tryz.f140) [.tmp 2] tk rfl rfl rfl (by kernel_rfl) (Nat.le_of_ble_eq_true rfl) rfl (by kernel_rfl) ?_
 rw[Av]
 refine zs ?_
 refine zs ?_
 refine zs ?_
 (repeat refine W.seq ?_);refine W.block (W.loopS (fun k:Nat=> [(0,.ro xs.length (Ac Am xs)),(3,.tok 0 k 4 0 k),(4,.int .i64 k)]) (fun k=> [.live k (Ac Am (xs.take k))]) (fun k=>xs.length-k) (fun k=>k≤xs.length) 0 ((Wk.nil (t:=3) (s:=4) (by simp)).trans (Wk.fr (by simp[Ad]))) (by simp) ?_)
 intro k hk
 refine zs ?_
 refine zc ?_ ?_<;>intro h
 .refine W.skip ?_
  have hlt:k<xs.length:=by omega
  refine zb ?_
  (repeat refine W.seq ?_);refine W.reg 1 rfl fun K hK=>?_;simp -implicitDefEqProofs (maxSteps:=999999) (disch:=omega) [hlt]
  refine⟨by omega,by omega,?_⟩
  refine zk ?_;clear hK K
  refine zs ?_
  refine⟨k+1,by omega,by omega,Wk.cutM (k:=1) (by simp[Ad]) ?_ (by simp) (by simp) (by simp) (by simp)⟩
  have hto:xs.take (k+1)=xs.take k++[xs[k]]:=by rw[List.take_add_one];simp[hlt]
  rw[hto,Bz]
  simp[AA]
 .refine W.exit ?_
  have hk' :k=xs.length:=by omega
  subst hk'
  rw[List.take_length]
  refine zs ?_
  exact zR
theorem Pn {l:List Obj} {i:Nat} (hi:i<l.length) (b:Int) (d:Db):(((Ac Am l).set (i*4+1) (.int .i64 b)).set (i*4+1+1) (.str d.data)).set (i*4+1+1+1) (.int .i64 d.n)=Ac Am (l.set i ⟨l[i].id,b,d⟩):=by
 have oc0:(Ac Am l)[i*4]?=some (.int .i64 l[i].id):=AE (f:=Am) (s:=4) (fun _=>rfl) hi (i:=0) (by omega)
 rw[←M8 ⟨l[i].id,b,d⟩ l i hi]
 congr 3
 refine(List.ext_getElem? fun j=>?_)
 rw[List.getElem?_set]
 split
 .rename_i h;subst h;rw[oc0];simp;omega
 .rfl
theorem Po {l:List AV} {k:Nat} {y:AV} (h:l[k]?=some y):l.set k y=l:=by
 refine List.ext_getElem? fun j=>?_
 rw[List.getElem?_set]
 split
 .rename_i e;subst e;rw[h,if_pos (List.getElem?_eq_some_iff.1 h).1]
 .rfl
theorem U3 {l:List Obj} {i:Nat} (hi:i<l.length) (b:Int):(Ac Am l).set (i*4+1) (.int .i64 b)=Ac Am (l.set i ⟨l[i].id,b,l[i].data⟩):=by
 rw[←Pn hi b l[i].data]
 have oc2:(Ac Am l)[i*4+1+1]?=some (.str l[i].data.data):=AE (f:=Am) (s:=4) (fun _=>rfl) hi (i:=2) (by omega)
 have oc3:(Ac Am l)[i*4+1+1+1]?=some (.int .i64 l[i].data.n):=AE (f:=Am) (s:=4) (fun _=>rfl) hi (i:=3) (by omega)
 rw[Po (y:= .str l[i].data.data) (by rw[List.getElem?_set_ne (by omega)];exact oc2),Po (y:= .int .i64 l[i].data.n) (by rw[List.getElem?_set_ne (by omega)];exact oc3)]
set_option maxHeartbeats 4000000 in
theorem Tt (l:List Obj) (i:Nat) (q:Obj) (hx:DO l) (hl:Cf l) (hall:∀o∈l,(AP l o.id).2=0) (hi:i<l.length) (hb:l[i].base≠0) (hq:AX l l[i].base=some q):Aa pg 100 [.ro l.length (Ac Am l),.int .i64 l[i].id,.int .i64 q.base] [] (fun r _=>r= .tup [.own 4 l.length (Ac Am (l.set i (Dz l l[i] q.base))),.int .i64 0]):=by
 have hlen:l.length≤12:=hl.1
 have hm:=List.getElem_mem hi
 obtain⟨d1,d2,d3,d4⟩:=HZ hl hall hi hb hq
 obtain⟨r1,r2⟩:=Qs hl hall hi hb hq
 have hidx:AG (fun o=>decide (o.id=l[i].id)) l=(i:Int):=by
  refine DB hi (by simp) fun j hj hlt=>?_
  have:=List.pairwise_iff_getElem.1 hl.2.2 j i hj hi hlt
  simp;omega
 have spO:=FM l l[i].id hx hl
 have hOg:AP l l[i].id=((AP l l[i].id).1,0):=Prod.ext rfl (hall _ hm)
 have hgm:=Dd l l[i].id
 have spB:=FM l q.base hx hl
 have hbok:q.base≠0→(AP l q.base).2=0:=fun h=>by
  obtain⟨r,rm,ri⟩:=(d4 h).1
  rw[←ri];exact hall r rm
 have spC:=Ov l (by omega)
 have spF:=KO l l[i].id (by omega)
 rw[hidx] at spF
 obtain⟨x,hxd⟩:∃x,x=l.set i ⟨l[i].id,q.base,l[i].data⟩:=⟨_,rfl⟩
 have hset:=U3 hi q.base
 rw[←hxd] at r1 r2 hset
 have hxl:x.length=l.length:=by rw[hxd];simp
 have hix:i<x.length:=by omega
 have hxi:x[i].id=l[i].id:=by simp[hxd]
 have hxin:DO x:=⟨by omega,fun o ho=>by
  rw[hxd] at ho
  rcases List.mem_or_eq_of_mem_set ho with h|h
  .exact hx.2 o h
  .subst h;show l[i].data.data.size<_;exact hx.2 _ hm⟩
 have spA:=fun j=>KO x j (by omega)
 have spD:=fun j=>QX x j hxin r1
 have hxidx:AG (fun o=>decide (o.id=l[i].id)) x=(i:Int):=by
  refine DB hix (by simp[hxi]) fun j hj hlt=>?_
  have:=List.pairwise_iff_getElem.1 r1.2.2 j i hj hix hlt
  simp;omega
 have hxall:∀k (h:k<x.length),(AQ x x[k].id).2=0:=fun k h=>by
  have hk:x[k].id=l[k].id:=by
   have:x.map (fun o=>o.id)=l.map fun o=>o.id:=by
    rw[hxd,List.map_set]
    refine List.ext_getElem? fun j=>?_
    rw[List.getElem?_set]
    split
    .rename_i h;subst h;simp[hi]
    .rfl
   have h2:=congrArg (fun m=>m[k]?) this
   simp[h,show k<l.length by omega] at h2;exact h2
  rw[hk];exact r2 _ (List.getElem_mem (by omega))
 have hset2:((Ac Am x).set (i*4+2) (.str (Fx l q.base (AP l l[i].id).1).data)).set (i*4+2+1) (.int .i64 (Fx l q.base (AP l l[i].id).1).n)=Ac Am (l.set i (Dz l l[i] q.base)):=by
  rw[←hset]
  exact Pn hi q.base _
 obtain⟨g,hg⟩:∃g,g=(AP l l[i].id).1:=⟨_,rfl⟩
 have spY:=au l q.base g hx hl (by rw[hg];exact hgm)
 rw[←hg] at hOg hset2
 rw[hOg] at spO
 obtain⟨id,Bm⟩:∃id,id=l[i].id:=⟨_,rfl⟩
 obtain⟨b,hbd⟩:∃b,b=q.base:=⟨_,rfl⟩
 obtain⟨z,hz⟩:∃z,z=l.set i (Dz l l[i] q.base):=⟨_,rfl⟩
 have hzl:z.length=l.length:=by rw[hz];simp
 rw[←hz] at hset2 ⊢
 rw[←Bm] at spO spF hxidx hidx ⊢
 rw[←hbd] at spB hbok spY hset hset2 ⊢
 obtain⟨d,hd⟩:∃d,d=Fx l b g:=⟨_,rfl⟩
 rw[←hd] at spY hset2
 obtain⟨n,hn⟩:∃n,n=l.length:=⟨_,rfl⟩
 refine Aa.start (fn:=Tryz.f100) [.tmp 6,.tmp 7] tk rfl rfl rfl (by kernel_rfl) (Nat.le_of_ble_eq_true rfl) rfl (by kernel_rfl) ?_
 rw[Bd]
 refine zs ?_
 refine z1 ?_;intro K hK
 refine Ab.eq spO (by simp) (by simp) ?_
 refine zx ?_
 refine zk ?_;clear hK K
 refine zs ?_
 refine zn ?_
 refine W.skip ?_
 refine zs ?_
 refine W.midS (fun _:Unit=> [(0,.ro l.length (Ac Am l)),(1,.int .i64 id),(2,.int .i64 b),(8,.ptr 0 0 0)]) (fun _=> [.live 0 [.int .i64 g.n,.tok 1 0 1 0 g.out.length],.live 0 (Ay true g.out)]) (fun _=>True) ?_ ?_
 .refine zc ?_ ?_<;>intro h
  .have hOb:AP l b=((AP l b).1,0):=Prod.ext rfl (hbok h)
   rw[hOb] at spB
   refine z1 ?_;intro K hK
   refine Ab.eq spB (by simp) (by simp) ?_
   refine zx ?_
   refine zk ?_;clear hK K
   refine zs ?_
   refine zn ?_
   refine W.skip ?_
   exact⟨(),trivial,Wk.cutM (k:=2) (by simp[Ad]) (by simp) (by simp) (by simp) (by simp) (by simp)⟩
  .refine W.skip ?_
   exact⟨(),trivial,Wk.cutM (k:=2) (by simp[Ad]) (by simp) (by simp) (by simp) (by simp) (by simp)⟩
 rintro _ _
 refine z0 ?_;intro K hK
 refine Ab.eq spC (by simp) (by simp) ?_
 refine zx ?_
 refine zk ?_;clear hK K
 refine z0 ?_;intro K hK
 refine Ab.eq spF (by simp) (by simp) ?_
 refine AM hi ?_
 refine⟨by omega,?_⟩
 refine zk ?_;clear hK K
 rw[hset]
 refine zs ?_
 (repeat refine W.seq ?_);refine W.block (W.loopS (fun k:Nat=> [(0,.ro l.length (Ac Am l)),(1,.int .i64 id),(2,.int .i64 b),(8,.ptr 0 0 0),(12,.tok 2 0 4 0 x.length),(13,.int .i64 k)]) (fun _=> [.live 0 [.int .i64 g.n,.tok 1 0 1 0 g.out.length],.live 0 (Ay true g.out),.live 0 (Ac Am x)]) (fun k=>x.length-k) (fun k=>k≤x.length) 0 (Wk.fr (by simp[Ad,hxl])) (by simp) ?_)
 intro k hk
 by_cases c1:k<x.length
 rotate_left
 .refine Af c1 ?_;intro K hK
  refine zk ?_;clear hK K
  refine zn ?_
  refine W.exit ?_
  refine B9 ?_;intro K hK
  refine Ag.eq (spA id) (by simp) (by simp) ?_
  refine AM (an hxidx hix) ?_
  refine Ag.eq spY (by simp) (by simp) ?_
  refine AM (an hxidx hix) ?_
  refine zk ?_;clear hK K
  rw[hset2]
  refine zs ?_
  refine zr ?_
  rw[List.take_of_length_le (by omega)]
  exact⟨by omega,rfl⟩
 have x0:(Ac Am x)[k*4]?=some (.int .i64 x[k].id):=AE (f:=Am) (s:=4) (fun _=>rfl) c1 (i:=0) (by omega)
 have hxk:=hxall k c1
 have spDk:=spD x[k].id
 rw[show AQ x x[k].id=((AQ x x[k].id).1,0) from Prod.ext rfl hxk] at spDk
 obtain⟨dk,hdk⟩:∃dk,dk=(AQ x x[k].id).1:=⟨_,rfl⟩
 rw[←hdk] at spDk
 refine Af c1 ?_;intro K hK
 refine zk ?_;clear hK K
 refine zt ?_
 refine W.skip ?_
 refine zb ?_
 refine Af (an c1 x0) ?_;intro K hK
 refine zk ?_;clear hK K
 refine zs ?_
 (repeat refine W.seq ?_);refine W.midS (fun on:Int=> [(0,.ro l.length (Ac Am l)),(1,.int .i64 id),(2,.int .i64 b),(8,.ptr 0 0 0),(12,.tok 2 0 4 0 x.length),(13,.int .i64 k),(14,.int .i64 on)]) (fun _=> [.live 0 [.int .i64 g.n,.tok 1 0 1 0 g.out.length],.live 0 (Ay true g.out),.live 0 (Ac Am x)]) (fun _=>True) ?_ ?_
 . (repeat refine W.seq ?_);refine W.block (W.loopS (fun y:Nat×Int=> [(0,.ro l.length (Ac Am l)),(1,.int .i64 id),(2,.int .i64 b),(8,.ptr 0 0 0),(12,.tok 2 0 4 0 x.length),(13,.int .i64 k),(14,.int .i64 y.2),(15,.int .i64 y.1)]) (fun _=> [.live 0 [.int .i64 g.n,.tok 1 0 1 0 g.out.length],.live 0 (Ay true g.out),.live 0 (Ac Am x)]) (fun y=>x.length+2-y.1) (fun y=>y.1≤x.length+1∧(y.2=0∨Cz x y.2)) (0,x[k].id) (Wk.fr (by simp[Ad])) ⟨by omega,.inr ⟨_,List.getElem_mem c1,rfl⟩⟩ ?_)
   rintro⟨m,on⟩ ⟨hmm,hon⟩
   simp only at hmm hon ⊢
   by_cases e1:on=0
   .refine Af e1 ?_;intro K hK
    refine zk ?_;clear hK K
    refine zn ?_
    refine W.exit ?_
    exact⟨on,trivial,Wk.fr (by simp[Ad,e1])⟩
   by_cases e2:on=id
   .refine Af (an e1 e2) ?_;intro K hK
    refine zk ?_;clear hK K
    refine zn ?_
    refine W.exit ?_
    exact⟨on,trivial,Wk.fr (by simp[Ad,e2])⟩
   by_cases e3:m≤x.length
   rotate_left
   .refine Af (an e1 (an e2 e3)) ?_;intro K hK
    refine zk ?_;clear hK K
    refine zn ?_
    refine W.exit ?_
    exact⟨on,trivial,Wk.fr (by simp[Ad])⟩
   obtain⟨r,hr⟩:=CL.1 (hon.resolve_left e1)
   obtain⟨j,hj,j1,j2,j3⟩:=DQ hr
   have hrm:=(Ex hr).1
   have w1:(Ac Am x)[j*4+1]?=some (.int .i64 r.base):=by
    have:=AE (f:=Am) (s:=4) (fun _=>rfl) hj (i:=1) (by omega)
    rw[this,j2];rfl
   have spAj:=spA on
   rw[j1] at spAj
   refine Af (an e1 (an e2 e3)) ?_;intro K hK
   refine zk ?_;clear hK K
   refine zt ?_
   refine W.skip ?_
   refine zb ?_
   refine z0 ?_;intro K hK
   refine Ab.eq spAj (by simp) (by simp) ?_
   refine AM (an hj w1) ?_
   refine zk ?_;clear hK K
   refine zs ?_
   exact⟨(m+1,r.base),by simp only;omega,⟨by simp only;omega,r1.closed r hrm⟩,Wk.fr (by simp[Ad])⟩
 rintro on _
 refine zs ?_
 refine zc ?_ ?_<;>intro h
 .refine W.exit ?_
  refine zs ?_
  exact⟨k+1,by omega,by omega,Wk.fr (by simp[Ad])⟩
 .refine W.skip ?_
  refine Af (an c1 x0) ?_;intro K hK
  refine Ab.eq spDk (by simp) (by simp) ?_
  refine zx ?_
  refine zk ?_;clear hK K
  refine zs ?_
  refine zn ?_
  refine W.skip ?_
  refine zs ?_
  exact⟨k+1,by omega,by omega,Wk.fr (by simp[Ad])⟩
end Go.Abs
set_option maxRecDepth 100000
namespace Go.Abs
open Go.Proofs
def Cj (l:List Bool):List AV:=[.own 1 (pk l).length (Bv (pk l)),.int .i64 l.length]
@[simp] theorem cP (l:List Bool):(Cj l).length=2:=rfl
@[simp] theorem fa (l:List Bool):DT (Cj l)=true:=by simp[Cj]
@[simp] theorem fb (k:Nat) (l:List Bool):Da k (Cj l)=true:=by simp[Cj]
@[simp] theorem cQ (l:List Bool):CY (Cj l)=true:=by simp[Cj]
theorem Mh (l:List Bool):(pk l).length=(l.length+7)/8:=by simp[pk]
set_option maxHeartbeats 2000000 in
theorem Pp (l:List Bool) (v w:Nat) (hl:l.length<100000000) (hw:w≤60) (hv:v<1099511627776):Aa pg 231 [.ptr 0 0 0,.int .i64 v,.int .i64 w] [.live 0 (Cj l)] (fun r M=>r= .tup []∧M=[.live 0 (Cj (l++A6 v w))]):=by
 refine Aa.start (fn:=Tryz.f231) [] tk rfl rfl rfl (by kernel_rfl) (Nat.le_of_ble_eq_true rfl) rfl (by kernel_rfl) ?_
 rw[Bd]
 refine zs ?_
 rw[show Cj l=Cj (l++(A6 v w).take 0) by simp]
 (repeat refine W.seq ?_);refine W.block (W.loopS (fun k:Nat=> [(0,.ptr 0 0 0),(1,.int .i64 v),(6,.int .i64 ((w:Int)-1-k))]) (fun k=> [.live 0 (Cj (l++(A6 v w).take k))]) (fun k=>w-k) (fun k=>k≤w) 0 (Wk.fr (by simp[Ad])) (by simp) ?_)
 intro k hk
 by_cases hlt:k<w
 rotate_left
 .have hk' :k=w:=by omega
  subst hk'
  have e:((k:Int)-1-k)=-1:=by omega
  have e2:(A6 v k).take k=A6 v k:=List.take_of_length_le (by simp)
  rw[e,e2]
  refine zs ?_
  refine zn ?_
  refine W.exit ?_
  (try simp only[BJ,BK,Cx,Cy,if_true]);refine Eo (d:=0) ?_;simp -implicitDefEqProofs (maxSteps:=999999) (disch:=omega)
 obtain⟨i,hi⟩:∃i:Nat,(w:Int)-1-k=i:=⟨w-1-k,by omega⟩
 have hmin:min i 64=i:=by omega
 obtain⟨x,hx⟩:∃x,x=l++(A6 v w).take k:=⟨_,rfl⟩
 obtain⟨n,hn⟩:∃n,n=x.length:=⟨_,rfl⟩
 have hnl:n≤l.length+60:=by rw[hn,hx];simp;omega
 obtain⟨q,hq⟩:∃q,q=n/8:=⟨_,rfl⟩
 obtain⟨r,hr⟩:∃r,r=n%8:=⟨_,rfl⟩
 obtain⟨s,hs⟩:∃s,s=7-r:=⟨_,rfl⟩
 have e1:(n:Int)/8=(q:Int):=by omega
 have e2:(n:Int)%8=(r:Int):=by omega
 have e3:(7:Int)-(r:Int)=(s:Int):=by omega
 obtain⟨Q,hQd⟩:∃Q,Q=v/2^i:=⟨_,rfl⟩
 have hQ:(v:Int)/2^i=(Q:Int):=by rw[hQd,Int.natCast_ediv,Int.natCast_pow];rfl
 have hQv:Q≤v:=by rw[hQd];exact Nat.div_le_self _ _
 have hand:=Jt (Q:Int) (by omega) (by omega)
 obtain⟨b,hb⟩:∃b,b=decide (Q%2=1):=⟨_,rfl⟩
 have hto:l++(A6 v w).take (k+1)=x++[b]:=by
  rw[hx,List.append_assoc,List.take_add_one,List.getElem?_eq_getElem (by simpa using hlt)]
  have:(A6 v w)[k]'(by simpa using hlt)=b:=by
   simp only[A6,List.getElem_map,List.getElem_range]
   rw[hb,hQd,show w-1-k=i by omega]
  rw[this];rfl
 rw[hi,←hx]
 have hcr:Cj x=[.own 1 (pk x).length (Bv (pk x)),.int .i64 n]:=by rw[hn];rfl
 rw[hcr]
 refine zs ?_
 refine zt ?_
 refine W.skip ?_
 refine zb ?_
 have hpl:=Mh x
 refine W.weak (Wk.thaw (B:=0) (v:=0) (j:=0) (s:=1) (n:=(pk x).length) (xs:=Bv (pk x)) (by rfl) (by rfl)) ?_
 (repeat refine W.seq ?_);refine W.midS (fun b:Bool=> [(0,.ptr 0 0 0),(1,.int .i64 v),(6,.int .i64 i),(18,.bool b)]) (fun _=> [.live 0 [.tok 1 0 1 0 (pk x).length,.int .i64 n],.live 0 (Bv (pk x))]) (fun b=>b=true↔r=0) ?_ ?_
 .refine Af e2 ?_;intro K hK
  refine zk ?_;clear hK K
  exact⟨decide (r=0),by simp,Wk.fr (by simp[Ad])⟩
 rintro b0 hb0
 (repeat refine W.seq ?_);refine W.midS (fun u:Nat=> [(0,.ptr 0 0 0),(1,.int .i64 v),(6,.int .i64 i)]) (fun u=> [.live 0 [.tok 1 u 1 0 (q+1),.int .i64 n],.live u (Bv (Eg (q+1) x))]) (fun _=>True) ?_ ?_
 .cases b0
  .have c:¬r=0:=fun h=>by have:=hb0.2 h;simp at this
   have em:(pk x).length=q+1:=by omega
   have ep:pk x=Eg (q+1) x:=by rw[pk,show(x.length+7)/8=q+1 by omega]
   rw[em,ep]
   refine zn ?_
   refine W.skip ?_
   exact⟨0,trivial,Wk.fr (by simp[Ad])⟩
  .have c:r=0:=hb0.1 rfl
   have em:(pk x).length=q:=by omega
   have ep:Bv (pk x)++[AV.int .u8 0]=Bv (Eg (q+1) x):=by
    rw[UY (by omega)]
    simp only[Bv,List.map_append,List.map_cons,List.map_nil]
    rw[pk,show(x.length+7)/8=q by omega];rfl
   refine zt ?_
   refine z1 ?_;intro K hK
   refine⟨by omega,by omega,?_⟩
   refine zk ?_;clear hK K
   rw[ep,em]
   exact⟨1,trivial,Wk.cutM (k:=2) (by simp[Ad]) (by simp) (by simp) (by simp) (by simp) (by simp)⟩
 rintro u _
 have hsn:=Ph (q+1) x b (by omega)
 have hdv:=Q4 (q+1) x q (by omega) (by omega)
 obtain⟨P,hP⟩:∃P,P=Eg (q+1) x:=⟨_,rfl⟩
 have hPl:P.length=q+1:=by rw[hP,Q3]
 have hqP:q<P.length:=by omega
 simp only[←hn,←hP,←hq,←hr] at hsn
 rw[←hn,←hr] at hdv
 simp only[←hP] at hdv
 rw[←hP]
 have hPlt:P[q]<256:=by subst hP;exact Pg (by omega)
 have hu:P[q]?=some P[q]:=List.getElem?_eq_getElem hqP
 have hpk:Eg (q+1) (x++[b])=pk (x++[b]):=by rw[pk];congr 1;simp;omega
 have hend:[AV.own 1 (q+1) (Bv (pk (x++[b]))),AV.int .i64 ((n:Int)+1)]=Cj (x++[b]):=by
  unfold Cj
  rw[Mh];simp;omega
 have hpl2:(pk (x++[b])).length=q+1:=by rw[Mh];simp;omega
 have htk:List.take (q+1) (pk (x++[b]))=pk (x++[b]):=List.take_of_length_le (by omega)
 have hqq:q<q+1:=by omega
 by_cases hbq:Q%2=1
 .obtain⟨z,hz⟩:∃z:Nat,z=2^s:=⟨_,rfl⟩
  have hz1:(2:Int)^s=(z:Int):=by rw[hz];simp
  have hzl:z<2^(8-r):=by rw[hz];exact Nat.pow_lt_pow_right (by omega) (by omega)
  have hz8:z≤128:=by rw[hz];exact Nat.pow_le_pow_right (by omega) (show s≤7 by omega)
  have hsum:P[q]+z<256:=by
   have h1:P[q]≤256-2^(8-r):=by
    obtain⟨c,hc⟩:=hdv
    have hb2:2^(8-r)*2^r=256:=by rw[←Nat.pow_add,show 8-r+r=8 by omega]
    have hlt2:2^(8-r)*c<2^(8-r)*2^r:=by rw[←hc,hb2];exact hPlt
    have:=Nat.lt_of_mul_lt_mul_left hlt2
    have h3:2^(8-r)*(c+1)≤2^(8-r)*2^r:=Nat.mul_le_mul_left _ this
    rw[Nat.mul_add] at h3
    omega
   have:2^(8-r)≤256:=Nat.pow_le_pow_right (by omega) (show 8-r≤8 by omega)
   omega
  obtain⟨y,hy⟩:∃y,y=P[q]+z:=⟨_,rfl⟩
  have ew:IntKind.wrap .u8 (z:Int)=(z:Int):=M9 ⟨z,by omega⟩
  have hw8:IntKind.u8.wrap ((Q:Int)%2)=1:=by rw[show(Q:Int)%2=1 by omega];rfl
  have eo:Cw .or (.int .u8 (P[q]:Int)) (.int .u8 (z:Int))=some (.int .u8 (y:Int)):=by rw[hy];exact KR hdv hzl hsum
  have hyn:P[q]+b.toNat*2^(7-r)=y:=by rw[hb,decide_eq_true hbq,hy,hz,hs];simp
  rw[hyn,hpk] at hsn
  (repeat refine W.seq ?_);refine W.regd 0 rfl true Ce (by kernel_rfl) fun K hK=>?_;simp -implicitDefEqProofs (maxSteps:=999999) (disch:=omega) [hmin,hQ,hand,hw8,e1,e2,e3,hqq,hqP,hPl,hu,Fp,hz1,ew,eo]
  refine⟨by omega,?_⟩
  refine zk ?_;clear hK K
  rw[KQ,←hsn]
  refine z0 ?_;intro K hK
  refine zk ?_;clear hK K
  refine W.weak (Wk.intern (B:=0) (v:=0) (j:=0) (T:=1) (u:=u) (s:=1) (off:=0) (n:=q+1) (xs:=Bv (pk (x++[b]))) (by rfl) (by simp[Ai]) (by simp[hpl2]) (by simp[hpl2]) (by simp[hpl2]) (by simp[hpl2])) ?_
  refine zs ?_
  exact⟨k+1,by omega,by omega,Wk.cutM (k:=1) (by simp[Ad];omega) (by simp[hto,←hend,htk]) (by simp) (by simp) (by simp) (by simp)⟩
 .have hw8:IntKind.u8.wrap ((Q:Int)%2)=0:=by rw[show(Q:Int)%2=0 by omega];rfl
  have ew:IntKind.wrap .u8 0=0:=by decide
  have eo:Cw .or (.int .u8 (P[q]:Int)) (.int .u8 0)=some (.int .u8 (P[q]:Int)):=KR (x:=0) hdv (Nat.pow_pos (by omega)) (by omega)
  have hyn:P[q]+b.toNat*2^(7-r)=P[q]:=by rw[hb,decide_eq_false hbq];simp
  rw[hyn,hpk] at hsn
  (repeat refine W.seq ?_);refine W.regd 0 rfl true Ce (by kernel_rfl) fun K hK=>?_;simp -implicitDefEqProofs (maxSteps:=999999) (disch:=omega) [hmin,hQ,hand,hw8,e1,e2,e3,hqq,hqP,hPl,hu,Fp,ew,eo]
  refine⟨by omega,?_⟩
  refine zk ?_;clear hK K
  rw[KQ,←hsn]
  refine z0 ?_;intro K hK
  refine zk ?_;clear hK K
  refine W.weak (Wk.intern (B:=0) (v:=0) (j:=0) (T:=1) (u:=u) (s:=1) (off:=0) (n:=q+1) (xs:=Bv (pk (x++[b]))) (by rfl) (by simp[Ai]) (by simp[hpl2]) (by simp[hpl2]) (by simp[hpl2]) (by simp[hpl2])) ?_
  refine zs ?_
  exact⟨k+1,by omega,by omega,Wk.cutM (k:=1) (by simp[Ad];omega) (by simp[hto,←hend,htk]) (by simp) (by simp) (by simp) (by simp)⟩
end Go.Abs
set_option maxRecDepth 100000
namespace Go.Abs
open Go.Proofs
theorem U4 (f:Nat):Lib.bitLenAux f 0=0:=by cases f<;>simp[Lib.bitLenAux]
theorem Mi:∀(f x:Nat),x<2^f→x≠0→Lib.bitLenAux f x=Nat.log2 x+1
 |0,x,h,h0=>by simp at h;omega
 |f+1,x,h,h0=>by
  rw[Lib.bitLenAux,if_neg h0]
  by_cases h2:x/2=0
  .have:x=1:=by omega
   subst this
   rw[h2,U4];decide
  .rw[Mi f (x/2) (by rw[Nat.pow_succ] at h;omega) h2]
   obtain⟨a,b⟩:=Ia (n:=x/2) (by omega)
   rw[Kz (n:=x) (q:=Nat.log2 (x/2)+1) (by rw[Nat.pow_succ];omega) (by rw[Nat.pow_succ];omega)]
   omega
theorem Zo (n:Nat) (h:1≤n) (h2:n<1099511627776):Aa pg 232 [.int .i64 n] [] (fun r _=>r= .int .i64 (Nat.log2 n)):=by
 have hlg:=(Nat.log2_lt (n:=n) (k:=40) (by omega)).2 (by omega)
 have hb:=Of n (by omega)
 rw[show Lib.bitLen n=Nat.log2 n+1 from Mi 64 n (Nat.lt_trans h2 (by decide)) (by omega)] at hb
 have w1:IntKind.u64.wrap (n:Int)=(n:Int):=by unfold IntKind.wrap;simp;omega
 refine Aa.start (fn:=Tryz.f232) [.tmp 2] tk rfl rfl rfl (by kernel_rfl) (Nat.le_of_ble_eq_true rfl) rfl (by kernel_rfl) ?_
 rw[Av]
 refine zs ?_
 refine Af w1 ?_;intro K hK
 refine Ab.eq hb (by simp) (by simp) ?_
 refine zx ?_
 refine zk ?_;clear hK K
 exact zR
theorem Tu (n:Int) (h:-1000000≤n∧n≤1000000):Aa pg 246 [.int .i64 n] [] (fun r _=>r= .int .i64 (Ca n)):=by
 refine Aa.start (fn:=Tryz.f246) [.tmp 2] tk rfl rfl rfl (by kernel_rfl) (Nat.le_of_ble_eq_true rfl) rfl (by kernel_rfl) ?_
 rw[Av]
 refine zs ?_
 refine zs ?_
 refine zc ?_ ?_<;>intro h
 .refine z0 ?_;intro K hK
  refine zk ?_;clear hK K
  refine zr ?_
  simp[Ca];omega
 .refine W.skip ?_
  refine z0 ?_;intro K hK
  refine zk ?_;clear hK K
  refine zr ?_
  simp[Ca];omega
theorem E8 (l:List Bool) (n:Nat) (hl:l.length<10000000) (h1:1≤n) (h2:n<1099511627776):Aa pg 212 [.ptr 0 0 0,.int .i64 2,.int .i64 n] [.live 0 (Cj l)] (fun r M=>r= .tup []∧M=[.live 0 (Cj (l++AC n))]):=by
 have hlg:=(Nat.log2_lt (n:=n) (k:=40) (by omega)).2 (by omega)
 have spL:=Zo n h1 h2
 obtain⟨g,hg⟩:∃g,g=Nat.log2 n:=⟨_,rfl⟩
 have e:l++AC n=(l++A6 0 g)++A6 n (g+1):=by rw[hg];simp[AC]
 rw[e]
 rw[←hg] at spL hlg
 obtain⟨g1,hg1⟩:∃g1,g1=g+1:=⟨_,rfl⟩
 have hgi:(g:Int)+1=(g1:Int):=by omega
 rw[←hg1]
 refine Aa.start (fn:=Tryz.f212) [] tk rfl rfl rfl (by kernel_rfl) (Nat.le_of_ble_eq_true rfl) rfl (by kernel_rfl) ?_
 rw[Bd]
 refine zs ?_
 refine zb ?_
 refine zs ?_
 refine zn ?_
 refine zs ?_
 refine zt ?_
 refine z0 ?_;intro K hK
 refine Ab.eq spL (by simp) (by simp) ?_
 refine zx ?_
 refine Ab.pass [0] (Pp l 0 g (by omega) (by omega) (by omega)) (by simp) (by simp) (by simp) (by simp) ?_
 rintro r M ⟨rfl,rfl⟩ _
 refine zx ?_
 refine zk ?_;clear hK K
 refine z0 ?_;intro K hK
 refine Ab.eq spL (by simp) (by simp) ?_
 refine AM hgi ?_
 refine Ab.pass [0] (Pp (l++A6 0 g) n g1 (by simp;omega) (by omega) (by omega)) (by simp) (by simp) (by simp) (by simp) ?_
 rintro r M ⟨rfl,rfl⟩ _
 refine zx ?_
 refine zk ?_;clear hK K
 (try simp only[BJ,BK,Cx,Cy,if_true]);refine Eo (d:=0) ?_;simp -implicitDefEqProofs (maxSteps:=999999) (disch:=omega)
theorem Zp (xs:List Bool) (v:Int) (l:List Int) (hx:xs.length<1000000) (hv:0≤v∧v≤16) (hl:AL l):Aa pg 247 [.ptr 0 0 0,.int .i64 v,.ro l.length (Ae l)] [.live 0 (Cj xs)] (fun r M=>r= .tup []∧M=[.live 0 (Cj (xs++CQ v l))]):=by
 have hll:=Br hl
 have hg0:=Dk (l.length+1) (by omega)
 obtain⟨m,hm⟩:∃m,m=l.length+1:=⟨_,rfl⟩
 have hn1:(l.length:Int)+1=(m:Int):=by omega
 rw[←hm] at hg0
 refine Aa.start (fn:=Tryz.f247) [] tk rfl rfl rfl (by kernel_rfl) (Nat.le_of_ble_eq_true rfl) rfl (by kernel_rfl) ?_
 rw[Bd]
 refine Af hn1 ?_;intro K hK
 refine Ab.pass [0] (E8 xs m (by omega) (by omega) (by omega)) (by simp) (by simp) (by simp) (by simp) ?_
 rintro r M ⟨rfl,rfl⟩ _
 refine zx ?_
 refine zk ?_;clear hK K
 refine zs ?_
 (repeat refine W.seq ?_);refine W.block (W.loopS (fun z:Nat×List Bool=> [(0,.ptr 0 0 0),(1,.int .i64 v),(2,.ro l.length (Ae l)),(13,.ro l.length (Ae l)),(14,.int .i64 l.length),(15,.int .i64 (z.1:Nat))]) (fun z=> [.live 0 (Cj z.2)]) (fun z=>l.length-z.1) (fun z=>z.1≤l.length∧z.2=xs++(AC m++Cu v (l.take z.1) true 0)∧z.2.length≤xs.length+81*(z.1+1)) (0,xs++AC m) (Wk.fr (by simp[Ad])) ⟨by simp,by simp[Cu],by simp;omega⟩ ?_)
 rintro⟨i,B⟩ ⟨hi,hB,hBl⟩
 simp only at hi hB hBl
 by_cases hlt:i<l.length
 rotate_left
 .have hi' :i=l.length:=by omega
  subst hi'
  rw[List.take_length] at hB
  refine z0 ?_;intro K hK
  refine zk ?_;clear hK K
  refine zn ?_
  refine W.exit ?_
  (try simp only[BJ,BK,Cx,Cy,if_true]);refine Eo (d:=0) ?_;simp -implicitDefEqProofs (maxSteps:=999999) (disch:=omega)
  rw[hB,hm];simp[CQ]
 have hto:=IV v l i true 0 hlt
 have hbd:=hl.1 _ (List.getElem_mem hlt)
 refine Af hlt ?_;intro K hK
 refine zk ?_;clear hK K
 refine zt ?_
 refine W.skip ?_
 refine zb ?_
 by_cases h0:i=0
 .subst h0
  have hz:=Dp (l[0]-v)
  have hz2:Ca (l[0]-v)≤100:=by unfold Ca;split<;>omega
  obtain⟨c,hc⟩:=Int.eq_ofNat_of_zero_le (show 0≤Ca (l[0]-v)+1 by omega)
  have hcl:=Dk c (by omega)
  (repeat refine W.seq ?_);refine W.reg 0 rfl fun K hK=>?_;simp -implicitDefEqProofs (maxSteps:=999999) (disch:=omega) [hlt]
  refine zk ?_;clear hK K
  refine z0 ?_;intro K hK
  refine zk ?_;clear hK K
  refine zt ?_
  refine z0 ?_;intro K hK
  refine Ab.eq (Tu (l[0]-v) (by omega)) (by simp) (by simp) ?_
  refine AM hc ?_
  refine Ab.pass [0] (E8 B c (by omega) (by omega) (by omega)) (by simp) (by simp) (by simp) (by simp) ?_
  rintro r M ⟨rfl,rfl⟩ _
  refine zx ?_
  refine zk ?_;clear hK K
  refine zs ?_
  refine⟨(1,B++AC c),by simp only;omega,⟨by simp only;omega,?_,by simp;omega⟩,Wk.fr (by simp[Ad])⟩
  simp only[hto,if_true,hc,Int.toNat_natCast]
  rw[hB];simp[Cu]
 .have hup:=List.pairwise_iff_getElem.1 hl.2 (i-1) i (by omega) hlt (by omega)
  have hbd2:=hl.1 _ (List.getElem_mem (show i-1<l.length by omega))
  obtain⟨c,hc⟩:=Int.eq_ofNat_of_zero_le (show 0≤l[i]-l[i-1] by omega)
  have hcl:=Dk c (by omega)
  obtain⟨j,hj⟩:∃j,j=i-1:=⟨_,rfl⟩
  have hi1:(i:Int)-1=(j:Int):=by omega
  have hlt2:j<l.length:=by omega
  simp only[←hj] at hc hup hbd2
  (repeat refine W.seq ?_);refine W.reg 0 rfl fun K hK=>?_;simp -implicitDefEqProofs (maxSteps:=999999) (disch:=omega) [hlt]
  refine zk ?_;clear hK K
  refine Af h0 ?_;intro K hK
  refine zk ?_;clear hK K
  refine zn ?_
  refine Af (an hi1 (an hlt2 hc)) ?_;intro K hK
  refine Ab.pass [0] (E8 B c (by omega) (by omega) (by omega)) (by simp) (by simp) (by simp) (by simp) ?_
  rintro r M ⟨rfl,rfl⟩ _
  refine zx ?_
  refine zk ?_;clear hK K
  refine zs ?_
  refine⟨(i+1,B++AC c),by simp only;omega,⟨by simp only;omega,?_,by simp;omega⟩,Wk.fr (by simp[Ad])⟩
  simp only[←hj] at hto
  simp only[hto,if_neg h0,hc,Int.toNat_natCast]
  rw[hB];simp
end Go.Abs
set_option maxRecDepth 100000
namespace Go.Abs
open Go.Proofs
set_option maxHeartbeats 2000000 in
theorem Q7 (xs:List Bool) (v:Int) (l:List Int) (hx:xs.length<100000) (hv:0≤v∧v≤16) (hl:AL l):Aa pg 230 [.ptr 0 0 0,.int .i64 v,.ro l.length (Ae l)] [.live 0 (Cj xs)] (fun r M=>r= .tup []∧M=[.live 0 (Cj (xs++AT v l))]):=by
 have hll:=Br hl
 have spS:=Rm l (by omega) (fun x hx=>by have:=hl.1 x hx;omega)
 obtain⟨p1,p2,p3,p4⟩:=Ev l.length l true 0 (Nat.le_refl _) hl.2 (.inl rfl)
 have pin:=Ho l.length l (Nat.le_refl _)
 have hbits:AT v l=AC ((Ao l).1.length+1)++Ck v (Ao l).1 true 0++CQ v (Ao l).2:=rfl
 rw[hbits]
 clear hbits
 obtain⟨rs,hrs⟩:∃rs,rs=(Ao l).1:=⟨_,rfl⟩
 obtain⟨rest,hrest⟩:∃rest,rest=(Ao l).2:=⟨_,rfl⟩
 simp only[Od] at spS
 rw[←hrs,←hrest] at spS ⊢
 rw[←hrs] at p1 p2 pin
 rw[←hrest] at p3 p4
 have hpos:=KM rs true 0 p1
 have hrm:AL rest:=⟨fun x hx=>hl.1 x (p4 x hx),p3⟩
 have hrl:=Br hrm
 have hbnd:∀(i:Nat) (h:i<rs.length),0≤rs[i].1∧rs[i].1<16∧rs[i].2≤16:=fun i h=>by
  have:=pin _ (List.getElem_mem h)
  have h2:=hl.1 _ this.1
  omega
 obtain⟨m,hm⟩:∃m,m=rs.length+1:=⟨_,rfl⟩
 have hn1:(rs.length:Int)+1=(m:Int):=by omega
 have hg0:=Dk m (by omega)
 rw[←hm]
 refine Aa.start (fn:=Tryz.f230) [] tk rfl rfl rfl (by kernel_rfl) (Nat.le_of_ble_eq_true rfl) rfl (by kernel_rfl) ?_
 rw[Bd]
 refine z0 ?_;intro K hK
 refine Ab.eq spS (by simp) (by simp) ?_
 refine zx ?_
 refine zk ?_;clear hK K
 refine Af hn1 ?_;intro K hK
 refine Ab.pass [0] (E8 xs m (by omega) (by omega) (by omega)) (by simp) (by simp) (by simp) (by simp) ?_
 rintro r M ⟨rfl,rfl⟩ _
 refine zx ?_
 refine zk ?_;clear hK K
 refine zs ?_
 refine zs ?_
 (repeat refine W.seq ?_);refine W.block (W.loopS (fun z:Nat×List Bool×Int=> [(0,.ptr 0 0 0),(1,.int .i64 v),(7,.tok 2 0 1 0 rest.length),(8,.int .i64 z.2.2),(21,.tok 1 0 2 0 rs.length),(22,.int .i64 rs.length),(23,.int .i64 (z.1:Nat))]) (fun z=> [.live 0 (Cj z.2.1),.live 0 (Ac As rs),.live 0 (Ae rest)]) (fun z=>rs.length-z.1) (fun z=>z.1≤rs.length∧z.2.1=xs++(AC m++Ck v (rs.take z.1) true 0)∧z.2.1.length≤xs.length+162*(z.1+1)∧∀h:z.1-1<rs.length,0<z.1→z.2.2=rs[z.1-1].1+rs[z.1-1].2) (0,xs++AC m,0) (Wk.fr (by simp[Ad])) ⟨by simp,by simp[Ck],by simp;omega,by simp⟩ ?_)
 rintro⟨i,B,E⟩ ⟨hi,hB,hBl,hE⟩
 simp only at hi hB hBl hE ⊢
 by_cases hlt:i<rs.length
 rotate_left
 .have hi' :i=rs.length:=by omega
  subst hi'
  rw[List.take_length] at hB
  refine z0 ?_;intro K hK
  refine zk ?_;clear hK K
  refine zn ?_
  refine W.exit ?_
  refine z0 ?_;intro K hK
  refine Ab.pass [0] (Zp B v rest (by omega) hv hrm) (by simp) (by simp) (by simp) (by simp) ?_
  rintro r M ⟨rfl,rfl⟩ _
  refine zx ?_
  refine zk ?_;clear hK K
  (try simp only[BJ,BK,Cx,Cy,if_true]);refine Eo (d:=0) ?_;simp -implicitDefEqProofs (maxSteps:=999999) (disch:=omega)
  rw[hB];simp
 have hto:=I0 v rs i true 0 hlt
 have hb:=hbnd i hlt
 have hp:=hpos i hlt
 have ca:(Ac As rs)[i*2]?=some (.int .i64 rs[i].1):=AE (f:=As) (s:=2) (fun _=>rfl) hlt (i:=0) (by omega)
 have cl:(Ac As rs)[i*2+1]?=some (.int .i64 rs[i].2):=AE (f:=As) (s:=2) (fun _=>rfl) hlt (i:=1) (by omega)
 obtain⟨d,hd⟩:=Int.eq_ofNat_of_zero_le (show 0≤rs[i].2-3+1 by omega)
 have hdl:=Dk d (by omega)
 refine Af hlt ?_;intro K hK
 refine zk ?_;clear hK K
 refine zt ?_
 refine W.skip ?_
 refine zb ?_
 refine JH (an hlt (an ca cl)) ?_;intro K hK
 refine zk ?_;clear hK K
 have key:∃c:Nat,(if i=0 then Ca (rs[i].1-v)+1 else rs[i].1-E)=(c:Int)∧1≤c∧c<1000:=by
  by_cases h0:i=0
  .have hz:=Dp (rs[i].1-v)
   have hz2:Ca (rs[i].1-v)≤100:=by unfold Ca;split<;>omega
   rw[if_pos h0]
   exact⟨(Ca (rs[i].1-v)+1).toNat,by omega,by omega,by omega⟩
  .have hp2:=hp.2 (by omega)
   have hE2:=hE (by omega) (by omega)
   have hb2:=hbnd (i-1) (by omega)
   have hp3:=hpos (i-1) (by omega)
   rw[if_neg h0]
   exact⟨(rs[i].1-E).toNat,by omega,by omega,by omega⟩
 obtain⟨c,hc,hc1,hc2⟩:=key
 have hcl:=Dk c (by omega)
 refine z0 ?_;intro K hK
 refine zk ?_;clear hK K
 refine W.midS (fun _:Unit=> [(0,.ptr 0 0 0),(1,.int .i64 v),(7,.tok 2 0 1 0 rest.length),(10,.ptr 3 0 0),(21,.tok 1 0 2 0 rs.length),(22,.int .i64 rs.length),(23,.int .i64 i)]) (fun _=> [.live 0 (Cj (B++AC c)),.live 0 (Ac As rs),.live 0 (Ae rest),.live 0 [.int .i64 rs[i].1,.int .i64 rs[i].2]]) (fun _=>True) ?_ ?_
 .refine zc ?_ ?_<;>intro h
  .rw[if_pos h] at hc
   refine z0 ?_;intro K hK
   refine Ab.eq (Tu (rs[i].1-v) (by omega)) (by simp) (by simp) ?_
   refine AM hc ?_
   refine Ab.pass [0] (E8 B c (by omega) (by omega) (by omega)) (by simp) (by simp) (by simp) (by simp) ?_
   rintro r M ⟨rfl,rfl⟩ _
   refine zx ?_
   refine zk ?_;clear hK K
   exact⟨(),trivial,Wk.fr (by simp[Ad])⟩
  .rw[if_neg h] at hc
   refine Af hc ?_;intro K hK
   refine Ab.pass [0] (E8 B c (by omega) (by omega) (by omega)) (by simp) (by simp) (by simp) (by simp) ?_
   rintro r M ⟨rfl,rfl⟩ _
   refine zx ?_
   refine zk ?_;clear hK K
   exact⟨(),trivial,Wk.fr (by simp[Ad])⟩
 rintro _ _
 refine Af hd ?_;intro K hK
 refine Ab.pass [0] (E8 (B++AC c) d (by simp;omega) (by omega) (by omega)) (by simp) (by simp) (by simp) (by simp) ?_
 rintro r M ⟨rfl,rfl⟩ _
 refine zx ?_
 refine zk ?_;clear hK K
 refine z0 ?_;intro K hK
 refine zk ?_;clear hK K
 refine zs ?_
 refine⟨(i+1,(B++AC c)++AC d,rs[i].1+rs[i].2),by simp only;omega,⟨by simp only;omega,?_,by simp;omega,fun _ _=>by simp⟩,Wk.cutM (k:=3) (by simp[Ad]) (by simp) (by simp) (by simp) (by simp) (by simp)⟩
 have hc' :(if i=0 then(if true=true then Ca (rs[i].1-v)+1 else rs[i].1-0) else rs[i].1-(rs[i-1].1+rs[i-1].2))=(c:Int):=by
  rw[←hc]
  by_cases h0:i=0
  .simp[h0]
  .rw[if_neg h0,if_neg h0,hE (by omega) (by omega)]
 rw[hto,hc',hd,hB]
 simp
set_option maxHeartbeats 2000000 in
theorem Xi (xs:List Bool) (v:Int) (ref l:List Int) (hx:xs.length<90000) (hv:0≤v∧v≤16) (hr:ref.length≤16) (hl:AL l):Aa pg 213 [.ptr 0 0 0,.int .i64 v,.ro ref.length (Ae ref),.ro l.length (Ae l)] [.live 0 (Cj xs)] (fun r M=>r= .tup []∧M=[.live 0 (Cj (xs++CD v ref l))]):=by
 have hll:=Br hl
 have hbl:=G5 ref l
 have hbd:=HX ref l
 have hom:=G6 (ref:=ref) hl
 have hbits:CD v ref l=AC ((blocks ref l).length+1)++DJ (blocks ref l) true++AT v (Bf ref l):=rfl
 rw[hbits]
 clear hbits
 have spC:=P7 ref l (by omega) (by omega)
 simp only[Ug] at spC
 obtain⟨bl,hb⟩:∃bl,bl=blocks ref l:=⟨_,rfl⟩
 obtain⟨rest,hrest⟩:∃rest,rest=Bf ref l:=⟨_,rfl⟩
 rw[←hb,←hrest] at spC ⊢
 rw[←hb] at hbl
 rw[←hrest] at hom
 have hbd' :∀(j:Nat) (h:j<bl.length),0≤bl[j]∧bl[j]≤16∧(0<j→1≤bl[j]):=fun j h=>by
  subst hb
  have:=hbd j h
  omega
 obtain⟨m,hm⟩:∃m,m=bl.length+1:=⟨_,rfl⟩
 have hn1:(bl.length:Int)+1=(m:Int):=by omega
 have hg0:=Dk m (by omega)
 rw[←hm]
 refine Aa.start (fn:=Tryz.f213) [] tk rfl rfl rfl (by kernel_rfl) (Nat.le_of_ble_eq_true rfl) rfl (by kernel_rfl) ?_
 rw[Hz]
 refine z0 ?_;intro K hK
 refine Ab.eq spC (by simp) (by simp) ?_
 refine zx ?_
 refine zk ?_;clear hK K
 refine Af hn1 ?_;intro K hK
 refine Ab.pass [0] (E8 xs m (by omega) (by omega) (by omega)) (by simp) (by simp) (by simp) (by simp) ?_
 rintro r M ⟨rfl,rfl⟩ _
 refine zx ?_
 refine zk ?_;clear hK K
 refine zs ?_
 (repeat refine W.seq ?_);refine W.block (W.loopS (fun z:Nat×List Bool=> [(0,.ptr 0 0 0),(1,.int .i64 v),(9,.tok 2 0 1 0 rest.length),(23,.tok 1 0 1 0 bl.length),(24,.int .i64 bl.length),(25,.int .i64 (z.1:Nat))]) (fun z=> [.live 0 (Cj z.2),.live 0 (Ae bl),.live 0 (Ae rest)]) (fun z=>bl.length-z.1) (fun z=>z.1≤bl.length∧z.2=xs++(AC m++DJ (bl.take z.1) true)∧z.2.length≤xs.length+81*(z.1+1)) (0,xs++AC m) (Wk.fr (by simp[Ad])) ⟨by simp,by simp[DJ],by simp;omega⟩ ?_)
 rintro⟨i,B⟩ ⟨hi,hB,hBl⟩
 simp only at hi hB hBl ⊢
 by_cases hlt:i<bl.length
 rotate_left
 .have hi' :i=bl.length:=by omega
  subst hi'
  rw[List.take_length] at hB
  refine z0 ?_;intro K hK
  refine zk ?_;clear hK K
  refine zn ?_
  refine W.exit ?_
  refine z0 ?_;intro K hK
  refine Ab.pass [0] (Q7 B v rest (by omega) hv hom) (by simp) (by simp) (by simp) (by simp) ?_
  rintro r M ⟨rfl,rfl⟩ _
  refine zx ?_
  refine zk ?_;clear hK K
  (try simp only[BJ,BK,Cx,Cy,if_true]);refine Eo (d:=0) ?_;simp -implicitDefEqProofs (maxSteps:=999999) (disch:=omega)
  rw[hB];simp
 have hto:=I7 bl i true hlt
 have hb3:=hbd' i hlt
 refine Af hlt ?_;intro K hK
 refine zk ?_;clear hK K
 refine zt ?_
 refine W.skip ?_
 refine zb ?_
 (repeat refine W.seq ?_);refine W.reg 0 rfl fun K hK=>?_;simp -implicitDefEqProofs (maxSteps:=999999) (disch:=omega) [hlt]
 refine zk ?_;clear hK K
 have key:∃c:Nat,(if i=0 then bl[i]+1 else bl[i])=(c:Int)∧1≤c∧c<1000:=by
  by_cases h0:i=0
  .rw[if_pos h0];exact⟨(bl[i]+1).toNat,by omega,by omega,by omega⟩
  .have:=hb3.2.2 (by omega)
   rw[if_neg h0];exact⟨(bl[i]).toNat,by omega,by omega,by omega⟩
 obtain⟨c,hc,hc1,hc2⟩:=key
 have hcl:=Dk c (by omega)
 refine z0 ?_;intro K hK
 refine zk ?_;clear hK K
 refine W.midS (fun _:Unit=> [(0,.ptr 0 0 0),(1,.int .i64 v),(9,.tok 2 0 1 0 rest.length),(11,.int .i64 c),(23,.tok 1 0 1 0 bl.length),(24,.int .i64 bl.length),(25,.int .i64 i)]) (fun _=> [.live 0 (Cj B),.live 0 (Ae bl),.live 0 (Ae rest)]) (fun _=>True) ?_ ?_
 .refine zc ?_ ?_<;>intro h
  .rw[if_pos h] at hc
   refine Af hc ?_;intro K hK
   refine zk ?_;clear hK K
   exact⟨(),trivial,Wk.fr (by simp[Ad])⟩
  .rw[if_neg h] at hc
   refine W.skip ?_
   exact⟨(),trivial,Wk.fr (by simp[Ad,hc])⟩
 rintro _ _
 refine z0 ?_;intro K hK
 refine Ab.pass [0] (E8 B c (by omega) (by omega) (by omega)) (by simp) (by simp) (by simp) (by simp) ?_
 rintro r M ⟨rfl,rfl⟩ _
 refine zx ?_
 refine zk ?_;clear hK K
 refine zs ?_
 refine⟨(i+1,B++AC c),by simp only;omega,⟨by simp only;omega,?_,by simp;omega⟩,Wk.fr (by simp[Ad])⟩
 have hc' :(if i=0∧true=true then bl[i]+1 else bl[i])=(c:Int):=by
  rw[←hc];by_cases h0:i=0<;>simp[h0]
 rw[hto,hc',hB]
 simp
theorem NP (l:List Bool) (hl:l.length≤6000):Aa pg 209 [.ptr 0 0 0] [.live 0 (Cj l)] (fun r M=>r= .tup [.agg (Ct (DI l)),.int .i64 0]∧M=[.live 0 (Cj l)]):=by
 have hcr:Cj l=[.own 1 (pk l).length (Bv (pk l)),.int .i64 l.length]:=rfl
 have hpk:DI l=⟨DZ (Bv (pk l)),l.length⟩:=rfl
 have hpl:=Mh l
 have hgt:¬(6000:Int)<(l.length:Int):=by omega
 refine Aa.start (fn:=Tryz.f209) [.cell 2 40,.tmp 3] tk rfl rfl rfl (by kernel_rfl) (Nat.le_of_ble_eq_true rfl) rfl (by kernel_rfl) ?_
 rw[Av]
 refine z1 ?_;intro K hK
 refine zk ?_;clear hK K
 rw[hcr]
 refine W.weak (Wk.thaw (B:=0) (v:=0) (j:=0) (s:=1) (n:=(pk l).length) (xs:=Bv (pk l)) (by rfl) (by rfl)) ?_
 refine Af hgt ?_;intro K hK
 refine zk ?_;clear hK K
 refine zn ?_
 refine W.skip ?_
 have tkm:List.take (pk l).length (pk l)=pk l:=List.take_of_length_le (by omega)
 refine Ba tkm ?_;intro K hK
 refine zk ?_;clear hK K
 refine W.weak (Wk.intern (B:=0) (v:=0) (j:=0) (T:=2) (u:=0) (s:=1) (off:=0) (n:=(pk l).length) (xs:=Bv (pk l)) (by rfl) (by simp[Ai]) (by simp) (by simp) (by simp) (by simp)) ?_
 refine zr ?_
 rw[hpk]
 first|done|simp[tkm]
theorem Tv (l:List Bool) (hl:l.length<1000000):Aa pg 229 [.ptr 0 0 0] [.live 0 (Cj l)] (fun r M=>r= .int .i64 l.length∧M=[.live 0 (Cj l)]):=by
 have hcr:Cj l=[.own 1 (pk l).length (Bv (pk l)),.int .i64 l.length]:=rfl
 refine Aa.start (fn:=Tryz.f229) [.tmp 2] tk rfl rfl rfl (by kernel_rfl) (Nat.le_of_ble_eq_true rfl) rfl (by kernel_rfl) ?_
 rw[Av]
 refine zs ?_
 rw[hcr]
 refine z0 ?_;intro K hK
 refine zk ?_;clear hK K
 exact zR
end Go.Abs
set_option maxRecDepth 100000
namespace Go.Abs
open Go.Proofs
theorem Pq:[AV.own 1 0 [],AV.int .i64 0]=Cj []:=by simp[Cj,pk,Eg]
set_option maxHeartbeats 2000000 in
theorem Xj (g:Gr) (hg:A3 g):Aa pg 208 [.agg (A2 false g)] [] (fun r _=>∃ats:List Int,r= .tup [.optr (Cj (BW g)),.own 1 ats.length (Ae ats)]):=by
 obtain⟨n,hn⟩:=Int.eq_ofNat_of_zero_le hg.1
 have hn16:n≤16:=by have:=hg.2.1;omega
 have hout:g.out.length=n:=by have:=hg.2.2.1;omega
 obtain⟨c,hc⟩:∃c:Nat,c=n+1:=⟨_,rfl⟩
 have hg0:=IA (n:=c) (by omega)
 have en:(n:Int)+1=(c:Int):=by omega
 have sp0:=E8 [] c (by simp) (by omega) (by omega)
 have hfb:BW g=AC c++Cc AT 0 g.out:=by unfold BW;rw[hn,Int.toNat_natCast,hc]
 refine Aa.start (fn:=Tryz.f208) [.tmp 2,.tmp 3] tk rfl rfl rfl (by kernel_rfl) (Nat.le_of_ble_eq_true rfl) rfl (by kernel_rfl) ?_
 rw[Av]
 refine z1 ?_;intro K hK;refine zk ?_;clear hK K
 rw[hn]
 refine z1 ?_;intro K hK
 rw[Pq]
 refine zk ?_;clear hK K
 refine Af en ?_;intro K hK
 refine Ab.pass [1] sp0 (by simp) (by simp) (by simp) (by simp) ?_
 rintro r M ⟨rfl,rfl⟩ _
 refine zx ?_
 refine zk ?_;clear hK K
 refine zs ?_
 refine zs ?_
 (repeat refine W.seq ?_);refine W.block (W.loopS (fun z:Nat×List Bool×List Int=> [(4,.ptr 1 0 0),(5,.tok 2 z.1 1 0 z.1),(16,.ro n (Ay false g.out)),(17,.int .i64 n),(18,.int .i64 z.1)]) (fun z=> [.live 0 [.int .i64 n,.ro g.out.length (Ay false g.out)],.live 0 (Cj z.2.1),.live z.1 (Ae z.2.2)]) (fun z=>n-z.1) (fun z=>z.1≤n∧z.2.1=AC c++Cc AT 0 (g.out.take z.1)∧z.2.1.length≤9+166*z.1∧z.2.2.length=z.1) (0,AC c,[]) ((Wk.nil (t:=5) (s:=1) (by simp)).trans (Wk.fr (by simp[Ad,hout]))) ⟨by simp,by simp[Cc],by simp;omega,rfl⟩ ?_)
 rintro⟨i,B,ats⟩ ⟨hi,hB,hBl,hal⟩
 simp only at hi hB hBl hal ⊢
 by_cases c1:i<n
 rotate_left
 .have hi' :i=n:=by omega
  subst hi'
  rw[List.take_of_length_le (by omega)] at hB
  rw[←hfb] at hB
  subst hB
  refine Af c1 ?_;intro K hK
  refine zk ?_;clear hK K
  refine zn ?_
  refine W.exit ?_
  refine zs ?_
  refine zr ?_
  refine⟨ats,?_⟩
  rw[hal,List.take_of_length_le (by omega)]
  simp
 have hlt:i<g.out.length:=by omega
 have hml:=(hg.2.2.2.1 _ (List.getElem_mem hlt)).1
 have hto:=G4 AT hlt
 have hrl:=FV (v:=(i:Int)) ⟨by omega,by omega⟩ hml
 refine Af c1 ?_;intro K hK
 refine zk ?_;clear hK K
 refine zt ?_
 refine W.skip ?_
 refine zb ?_
 refine Af (an hlt c1) ?_;intro K hK
 refine zk ?_;clear hK K
 refine z1 ?_;intro K hK
 refine Ab.pass [1] (Tv B (by omega)) (by simp) (by simp) (by simp) (by simp) ?_
 rintro r M ⟨rfl,rfl⟩ _
 refine zx ?_
 refine⟨by omega,by omega,?_⟩
 refine zk ?_;clear hK K
 refine z0 ?_;intro K hK
 refine Ab.pass [1] (Q7 B i g.out[i] (by omega) ⟨by omega,by omega⟩ hml) (by simp) (by simp) (by simp) (by simp) ?_
 rintro r M ⟨rfl,rfl⟩ _
 refine zx ?_
 refine zk ?_;clear hK K
 refine zs ?_
 refine⟨(i+1,B++AT i g.out[i],ats++[(B.length:Int)]),by simp only;omega,⟨by simp only;omega,?_,by simp;omega,by simp;exact hal⟩,Wk.cutM (k:=3) (by simp[Ad]) (by simp[BT,Ae]) (by simp) (by simp) (by simp) (by simp)⟩
 simp only[hto];rw[hB];simp
theorem U5 (g:Gr) (hg:A3 g):Aa pg 173 [.agg (A2 false g)] [] (fun r _=>r= .agg (Ct (DI (BW g)))):=by
 have hl:=GY hg
 refine Aa.start (fn:=Tryz.f173) [.cell 2 40] tk rfl rfl rfl (by kernel_rfl) (Nat.le_of_ble_eq_true rfl) rfl (by kernel_rfl) ?_
 rw[Av]
 refine z2 ?_;intro K hK;refine zk ?_;clear hK K
 refine z0 ?_;intro K hK
 refine Ab.bor (Xj g hg) (by simp) ?_
 rintro r ⟨ats,rfl⟩
 refine⟨by simp,?_⟩
 refine zx ?_
 refine zk ?_;clear hK K
 refine z1 ?_;intro K hK
 refine Ab.pass [2] (NP (BW g) hl) (by simp) (by simp) (by simp) (by simp) ?_
 rintro r M ⟨rfl,rfl⟩ _
 refine zx ?_
 refine zk ?_;clear hK K
 refine z0 ?_;intro K hK
 refine zk ?_;clear hK K
 exact zR
set_option maxHeartbeats 2000000 in
theorem Xk (a g:Gr) (ha:A3 a) (hg:A3 g):Aa pg 175 [.agg (A2 false a),.agg (A2 false g)] [] (fun r _=>r= .agg (Ct (DI (B3 a g)))):=by
 obtain⟨n,hn⟩:=Int.eq_ofNat_of_zero_le hg.1
 have hn16:n≤16:=by have:=hg.2.1;omega
 have hout:g.out.length=n:=by have:=hg.2.2.1;omega
 obtain⟨c,hc⟩:∃c:Nat,c=n+1:=⟨_,rfl⟩
 have hg0:=IA (n:=c) (by omega)
 have en:(n:Int)+1=(c:Int):=by omega
 have sp0:=E8 [] c (by simp) (by omega) (by omega)
 have hfb:B3 a g=AC c++Cc (fun v l=>CD v (AF a v) l) 0 g.out:=by unfold B3;rw[hn,Int.toNat_natCast,hc]
 refine Aa.start (fn:=Tryz.f175) [.cell 4 40] tk rfl rfl rfl (by kernel_rfl) (Nat.le_of_ble_eq_true rfl) rfl (by kernel_rfl) ?_
 rw[At]
 refine z3 ?_;intro K hK;refine zk ?_;clear hK K
 rw[hn]
 refine z1 ?_;intro K hK
 rw[Pq]
 refine zk ?_;clear hK K
 refine Af en ?_;intro K hK
 refine Ab.pass [3] sp0 (by simp) (by simp) (by simp) (by simp) ?_
 rintro r M ⟨rfl,rfl⟩ _
 refine zx ?_
 refine zk ?_;clear hK K
 refine zs ?_
 (repeat refine W.seq ?_);refine W.block (W.loopS (fun z:Nat×List Bool=> [(2,.ptr 0 0 0),(4,.ptr 2 0 0),(5,.ptr 3 0 0),(18,.ro n (Ay false g.out)),(19,.int .i64 n),(20,.int .i64 z.1)]) (fun z=> [.live 0 [.int .i64 a.n,.ro a.out.length (Ay false a.out)],.live 0 [.int .i64 n,.ro g.out.length (Ay false g.out)],.live 0 [.str ByteArray.empty,.int .i64 0],.live 0 (Cj z.2)]) (fun z=>n-z.1) (fun z=>z.1≤n∧z.2=AC c++Cc (fun v l=>CD v (AF a v) l) 0 (g.out.take z.1)∧z.2.length≤9+330*z.1) (0,AC c) (Wk.fr (by simp[Ad,hout])) ⟨by simp,by simp[Cc],by simp;omega⟩ ?_)
 rintro⟨i,B⟩ ⟨hi,hB,hBl⟩
 simp only at hi hB hBl ⊢
 by_cases c1:i<n
 rotate_left
 .have hi' :i=n:=by omega
  subst hi'
  rw[List.take_of_length_le (by omega)] at hB
  rw[←hfb] at hB
  subst hB
  refine Af c1 ?_;intro K hK
  refine zk ?_;clear hK K
  refine zn ?_
  refine W.exit ?_
  refine z1 ?_;intro K hK
  refine Ab.pass [3] (NP (B3 a g) (GZ ha hg)) (by simp) (by simp) (by simp) (by simp) ?_
  rintro r M ⟨rfl,rfl⟩ _
  refine zx ?_
  refine zk ?_;clear hK K
  refine z0 ?_;intro K hK
  refine zk ?_;clear hK K
  exact zR
 have hlt:i<g.out.length:=by omega
 have hml:=(hg.2.2.2.1 _ (List.getElem_mem hlt)).1
 have hto:=G4 (fun v l=>CD v (AF a v) l) hlt
 have hrl:=I8 (v:=(i:Int)) ⟨by omega,by omega⟩ (Co ha i) hml
 have hbl:=Co ha i
 have spC:=Xi B i (AF a i) g.out[i] (by omega) ⟨by omega,by omega⟩ hbl hml
 refine Af c1 ?_;intro K hK
 refine zk ?_;clear hK K
 refine zt ?_
 refine W.skip ?_
 refine zb ?_
 refine Af (an hlt c1) ?_;intro K hK
 refine zk ?_;clear hK K
 refine z0 ?_;intro K hK
 refine Ab.ro (Rt a i (by omega) ha.2.2.1) (by simp) ?_
 rintro r (rfl| ⟨h1,rfl⟩)
 .refine zx ?_
  refine Ab.pass [3] spC (by simp) (by simp) (by simp) (by simp) ?_
  rintro r M ⟨rfl,rfl⟩ _
  refine zx ?_
  refine zk ?_;clear hK K
  refine zs ?_
  refine⟨(i+1,B++CD i (AF a i) g.out[i]),by simp only;omega,⟨by simp only;omega,?_,by simp;omega⟩,Wk.fr (by simp[Ad])⟩
  simp only[hto];rw[hB];simp
 .rw[h1] at spC
  refine zx ?_
  refine Ab.pass [3] spC (by simp) (by simp[h1]) (by simp[h1]) (by simp[h1]) ?_
  rintro r M ⟨rfl,rfl⟩ _
  refine AM h1 ?_
  refine zk ?_;clear hK K
  refine zs ?_
  refine⟨(i+1,B++CD i (AF a i) g.out[i]),by simp only;omega,⟨by simp only;omega,?_,by simp;omega⟩,Wk.cutM (k:=4) (by simp[Ad]) (by simp[h1]) (by simp) (by simp) (by simp) (by simp)⟩
  simp only[hto];rw[hB];simp
end Go.Abs
set_option maxRecDepth 100000
namespace Go.Abs
open Go.Proofs
theorem U6 (o:Obj) (id:Int):Aa pg 211 ([.agg (Am o)]++[.rptr [.int .i64 id]]) [] (fun r _=>r= .bool (decide (o.id=id))):=by
 refine Aa.start (fn:=Tryz.f211) [.tmp 3] tk rfl rfl rfl (by kernel_rfl) (Nat.le_of_ble_eq_true rfl) rfl (by kernel_rfl) ?_
 simp only[List.cons_append,List.nil_append]
 rw[At]
 refine z1 ?_;intro K hK;refine zk ?_;clear hK K
 refine zs ?_
 exact zR
theorem Xl (xs:List Obj) (a id:Int) (hx:DO xs) (hl:xs.length≤1000) (hb:∀o∈xs,o.base=0∨∃q∈xs,q.id=o.base) (ha:a=0∨∃q∈xs,q.id=a):Aa pg 174 [.ro xs.length (Ac Am xs),.int .i64 a,.int .i64 id] [] (fun r _=>r= .int .i64 (AG (fun o=>decide (o.id=id)) (AN xs xs.length a))):=by
 have hw:=IL xs xs.length a
 have spW:=SI xs a xs.length hx hl hb ha
 obtain⟨w,hwd⟩:∃w,w=AN xs xs.length a:=⟨_,rfl⟩
 rw[←hwd] at hw spW ⊢
 refine Aa.start (fn:=Tryz.f174) [.tmp 6] tk rfl rfl rfl (by kernel_rfl) (Nat.le_of_ble_eq_true rfl) rfl (by kernel_rfl) ?_
 rw[Bd]
 refine z1 ?_;intro K hK;refine zk ?_;clear hK K
 refine z0 ?_;intro K hK
 refine Ab.eq spW (by simp) (by simp) ?_
 refine zx ?_
 refine Ab.eq (MI w 211 [.rptr [.int .i64 id]] (fun o=>decide (o.id=id)) (by omega) (fun o _=>U6 o id) (by simp)) (by simp) (by simp) ?_
 refine zx ?_
 refine zk ?_;clear hK K
 exact zR
theorem U7 (xs:List Obj) (hx:xs.length<1000000000):Aa pg 176 [.ro xs.length (Ac Am xs)] [] (fun r _=>r= .own 4 xs.length (Ac Am xs)):=by
 refine Aa.start (fn:=Tryz.f176) [.tmp 2] tk rfl rfl rfl (by kernel_rfl) (Nat.le_of_ble_eq_true rfl) rfl (by kernel_rfl) ?_
 rw[Av]
 refine zs ?_
 refine z0 ?_;intro K hK
 refine⟨fun h=>?_,fun h=>⟨?_,?_⟩⟩
 .refine zk ?_;clear hK K
  refine zn ?_
  refine W.skip ?_
  refine z1 ?_;intro K hK
  refine⟨by omega,by omega,?_⟩
  refine zk ?_;clear hK K
  exact zR
 .refine zk ?_;clear hK K
  refine zn ?_
  refine W.skip ?_
  subst h
  refine z1 ?_;intro K hK;refine zk ?_;clear hK K
  exact zR
 .refine zk ?_;clear hK K
  refine zt ?_
  refine zs ?_
  refine zr ?_
  simp[h]
set_option maxHeartbeats 4000000 in
theorem Tw (l:List Obj) (i:Nat) (q:Obj) (hx:DO l) (hl:Cf l) (hall:∀o∈l,(AP l o.id).2=0) (hi:i<l.length) (hb:l[i].base≠0) (hq:AX l l[i].base=some q):Aa pg 139 [.ro l.length (Ac Am l),.int .i64 l[i].id,.int .i64 q.base] [] (fun r _=>r= .tup [.own 4 l.length (Ac Am (l.set i (Dz l l[i] q.base))),.int .i64 0]):=by
 have hlen:l.length≤12:=hl.1
 have hm:=List.getElem_mem hi
 have hcl:∀o∈l,o.base=0∨∃r∈l,r.id=o.base:=hl.closed
 obtain⟨d1,d2,d3,d4⟩:=HZ hl hall hi hb hq
 obtain⟨s1,s2⟩:=RP hl hall hi hb hq l.length
 have hids:(l.map fun o=>o.id).Pairwise (·<·):=List.pairwise_map.2 hl.2.2
 have hidx:AG (fun o=>decide (o.id=l[i].id)) l=(i:Int):=by
  refine DB hi (by simp) fun j hj hlt=>?_
  have:=List.pairwise_iff_getElem.1 hl.2.2 j i hj hi hlt
  simp;omega
 have spM:=Ul l hx
 rw[decide_eq_true hl] at spM
 have spO:=SK l l[i].id hx hl
 rw[hall _ hm] at spO
 have hgm:=Dd l l[i].id
 have spB:=SK l q.base hx hl
 have hbm:=Dd l q.base
 have spF:=MJ l l[i].id (by omega)
 rw[hidx] at spF
 have spC:=U7 l (by omega)
 have spS:=fun a ha=>Xl l a l[i].id hx (by omega) hcl ha
 have spD:=Um l q.base hx hcl
 obtain⟨o,ho⟩:∃o,o=l[i]:=⟨_,rfl⟩
 have oc0:(Ac Am l)[i*4]?=some (.int .i64 l[i].id):=AE (f:=Am) (s:=4) (fun _=>rfl) hi (i:=0) (by omega)
 simp only[←ho] at*
 obtain⟨b,hbd⟩:∃b,b=q.base:=⟨_,rfl⟩
 simp only[←hbd] at*
 obtain⟨g,hg⟩:∃g,g=(AP l o.id).1:=⟨_,rfl⟩
 obtain⟨p,hp⟩:∃p,p=(AP l b).1:=⟨_,rfl⟩
 rw[←hg] at hgm
 rw[←hp] at hbm
 have hreb:Dz l o b=⟨o.id,b,Fx l b g⟩:=by rw[Dz,hg]
 rw[hreb]
 have spG:=U5 g hgm
 have spY:=Xk p g hbm hgm
 have hby:Fx l b g=if b=0 then DI (BW g) else DI (B3 p g):=by unfold Fx;rw[hp];split<;>rfl
 obtain⟨e1,he1⟩:∃e1,e1=DI (BW g):=⟨_,rfl⟩
 obtain⟨e2,he2⟩:∃e2,e2=DI (B3 p g):=⟨_,rfl⟩
 obtain⟨d,hd⟩:∃d,d=Fx l b g:=⟨_,rfl⟩
 rw[←he1] at spG hby
 rw[←he2] at spY hby
 rw[←hd] at hby ⊢
 have hOg:AP l o.id=(g,0):=Prod.ext hg.symm (hall _ hm)
 rw[hOg] at spO
 obtain⟨D,hD⟩:∃D:Int,D=if b=0 then 1 else(AQ l b).1+1:=⟨_,rfl⟩
 rw[←hD] at s2
 have hD2:1≤D∧D≤3:=by
  rw[hD];split
  .omega
  .rename_i h;have:=d4 h;omega
 have hput:(((Ac Am l).set (i*4+1) (.int .i64 b)).set (i*4+1+1) (.str d.data)).set (i*4+1+1+1) (.int .i64 d.n)=Ac Am (l.set i ⟨o.id,b,d⟩):=by
  rw[←M8 ⟨o.id,b,d⟩ l i hi]
  congr 3
  refine(List.ext_getElem? fun j=>?_)
  rw[List.getElem?_set]
  split
  .rename_i h;subst h;rw[oc0];simp;omega
  .rfl
 have hput2:(((Ac Am l).set (i*4+1) (.int .i64 b)).set (i*4+2) (.str d.data)).set (i*4+2+1) (.int .i64 d.n)=Ac Am (l.set i ⟨o.id,b,d⟩):=hput
 refine Aa.start (fn:=Tryz.f139) [.tmp 6,.tmp 7] tk rfl rfl rfl (by kernel_rfl) (Nat.le_of_ble_eq_true rfl) rfl (by kernel_rfl) ?_
 rw[Bd]
 refine zs ?_
 refine z0 ?_;intro K hK
 refine Ab.eq spM (by simp) (by simp) ?_
 refine zx ?_
 refine zk ?_;clear hK K
 refine zn ?_
 refine W.skip ?_
 refine z1 ?_;intro K hK
 refine Ab.eq spO (by simp) (by simp) ?_
 refine zx ?_
 refine zk ?_;clear hK K
 refine zs ?_
 refine zn ?_
 refine W.skip ?_
 refine z1 ?_;intro K hK
 refine Ab.eq spG (by simp) (by simp) ?_
 refine zx ?_
 refine zk ?_;clear hK K
 refine zs ?_
 refine W.midS (fun _:Unit=> [(0,.ro l.length (Ac Am l)),(1,.int .i64 o.id),(2,.int .i64 b),(10,.ptr 2 0 0),(11,.int .i64 D)]) (fun _=> [.live 0 [.int .i64 g.n,.tok 1 0 1 0 g.out.length],.live 0 (Ay true g.out),.live 0 [.str d.data,.int .i64 d.n]]) (fun _=>True) ?_ ?_
 .refine zc ?_ ?_<;>intro h
  .obtain⟨k1,k2,k3,k4⟩:=d4 h
   rw[if_neg h] at hby hD
   have hOb:AP l b=(p,0):=by
    obtain⟨r,rm,ri⟩:=k1
    exact Prod.ext hp.symm (by rw[←ri];exact hall r rm)
   rw[hOb] at spB
   have hDb:AQ l b=(D-1,0):=Prod.ext (by simp only;omega) k2
   rw[hDb] at spD
   have spSb:=spS b (.inr k1)
   obtain⟨z,hz⟩:∃z,z=AG (fun x=>decide (x.id=o.id)) (AN l l.length b):=⟨_,rfl⟩
   have hzn:¬0≤z:=by have:=s1 h;omega
   rw[←hz] at spSb
   have hDD:D-1+1=D:=by omega
   refine z1 ?_;intro K hK
   refine Ab.eq spB (by simp) (by simp) ?_
   refine zx ?_
   refine zk ?_;clear hK K
   refine zs ?_
   refine zn ?_
   refine W.skip ?_
   refine z0 ?_;intro K hK
   refine Ab.eq spSb (by simp) (by simp) ?_
   refine AM hzn ?_
   refine zk ?_;clear hK K
   refine zn ?_
   refine W.skip ?_
   refine z0 ?_;intro K hK
   refine Ab.eq spD (by simp) (by simp) ?_
   refine zx ?_
   refine zk ?_;clear hK K
   refine z0 ?_;intro K hK
   refine Ab.eq spY (by simp) (by simp) ?_
   refine zx ?_
   refine zk ?_;clear hK K
   exact⟨(),trivial,Wk.cutM (k:=3) (by simp[Ad,hDD]) (by simp[hby]) (by simp) (by simp) (by simp) (by simp)⟩
  .rw[if_pos h] at hby hD
   refine W.skip ?_
   exact⟨(),trivial,Wk.cutM (k:=3) (by simp[Ad,hD]) (by simp[hby]) (by simp) (by simp) (by simp) (by simp)⟩
 rintro _ _
 refine zs ?_
 (repeat refine W.seq ?_);refine W.block (W.loopS (fun k:Nat=> [(0,.ro l.length (Ac Am l)),(1,.int .i64 o.id),(2,.int .i64 b),(10,.ptr 2 0 0),(11,.int .i64 D),(60,.ro l.length (Ac Am l)),(61,.int .i64 l.length),(62,.int .i64 k)]) (fun _=> [.live 0 [.int .i64 g.n,.tok 1 0 1 0 g.out.length],.live 0 (Ay true g.out),.live 0 [.str d.data,.int .i64 d.n]]) (fun k=>l.length-k) (fun k=>k≤l.length) 0 (Wk.fr (by simp[Ad])) (by simp) ?_)
 intro k hk
 by_cases c1:k<l.length
 rotate_left
 .refine Af c1 ?_;intro K hK
  refine zk ?_;clear hK K
  refine zn ?_
  refine W.exit ?_
  refine z0 ?_;intro K hK
  refine Ab.eq spC (by simp) (by simp) ?_
  refine zx ?_
  refine zk ?_;clear hK K
  refine z0 ?_;intro K hK
  refine Ab.eq spF (by simp) (by simp) ?_
  refine zx ?_
  refine zk ?_;clear hK K
  (repeat refine W.seq ?_);refine W.regdX 0 [(10,95),(10,92)] rfl true Ce (by kernel_rfl) fun K hK=>?_;simp -implicitDefEqProofs (maxSteps:=999999) (disch:=omega) [hi]
  refine⟨by omega,by omega,?_⟩
  (repeat refine⟨by first|assumption|omega,?_⟩);refine hK _ _ (by simp(disch:=omega)) ?_;clear hK K
  rw[hput2]
  refine zs ?_
  refine zr ?_
  rw[List.take_of_length_le (by simp)]
 have o0:(Ac Am l)[k*4]?=some (.int .i64 l[k].id):=AE (f:=Am) (s:=4) (fun _=>rfl) c1 (i:=0) (by omega)
 have o1:(Ac Am l)[k*4+1]?=some (.int .i64 l[k].base):=AE (f:=Am) (s:=4) (fun _=>rfl) c1 (i:=1) (by omega)
 have o2:(Ac Am l)[k*4+1+1]?=some (.str l[k].data.data):=AE (f:=Am) (s:=4) (fun _=>rfl) c1 (i:=2) (by omega)
 have o3:(Ac Am l)[k*4+1+1+1]?=some (.int .i64 l[k].data.n):=AE (f:=Am) (s:=4) (fun _=>rfl) c1 (i:=3) (by omega)
 have spSk:=spS l[k].id (.inr ⟨_,List.getElem_mem c1,rfl⟩)
 have hsk:=s2 _ (List.getElem_mem c1)
 have hgz:-1≤AG (fun x=>decide (x.id=o.id)) (AN l l.length l[k].id)∧AG (fun x=>decide (x.id=o.id)) (AN l l.length l[k].id)≤12:=by
  have hw:=IL l l.length l[k].id
  unfold AG
  cases e:(AN l l.length l[k].id).findIdx? (fun x=>decide (x.id=o.id)) with
  |none=>simp
  |some j=>have:=(List.findIdx?_eq_some_iff_getElem.1 e).1;simp only;omega
 obtain⟨z,hz⟩:∃z,z=AG (fun x=>decide (x.id=o.id)) (AN l l.length l[k].id):=⟨_,rfl⟩
 rw[←hz] at spSk hsk hgz
 have hzn:¬3<z+D:=by omega
 refine Af c1 ?_;intro K hK
 refine zk ?_;clear hK K
 refine zt ?_
 refine W.skip ?_
 refine zb ?_
 refine JH (an c1 (an o0 (an o1 (an o2 o3)))) ?_;intro K hK
 refine zk ?_;clear hK K
 refine z0 ?_;intro K hK
 refine Ab.eq spSk (by simp) (by simp) ?_
 refine AM hzn ?_
 refine zk ?_;clear hK K
 refine zn ?_
 refine W.skip ?_
 refine zs ?_
 exact⟨k+1,by omega,by omega,Wk.cutM (k:=3) (by simp[Ad]) (by simp) (by simp) (by simp) (by simp) (by simp)⟩
end Go.Abs
set_option maxRecDepth 100000
namespace Go.Abs
open Go.Proofs
@[simp] def In (a:Int×Int):List AV:=[.int .i64 a.1,.int .i64 a.2]
theorem Pr (s:Ax) (id:Int):AG (fun o=>decide (o.id=id)) (Aj s)=AG (fun v=>decide (v.id=id)) s.vers:=by
 unfold AG Aj
 rw[List.findIdx?_map]
 rfl
theorem Ps {l:List Obj} {o:Obj} (b:Int):(Dz l o b).data.data.size<1000000000:=by
 have:=(To (l:=l) b (Dd l o.id)).1
 simp only[Dz];omega
set_option maxHeartbeats 4000000 in
theorem Pt (hR:By) (s:Ax) (k id:Int) (hs:AS s) (hx:Bk s) (hok:A5 s):Aa pg 99 [.agg (An false s),.agg [.int .i64 k,.int .i64 id]] [] (fun r _=>r= .tup [.agg (An true (B1 s k id).1),.int .i64 (B1 s k id).2]):=by
 have h1:=hs.1
 have hmy:=hok.1.1.2.2.2.2.2.2
 have hall:=hok.1.2.2.1
 have spP:=Hi s id hs
 have spT:=W0 hR s id hs hx
 obtain⟨z,hz⟩:∃z,z=AG (fun v=>decide (v.id=id)) s.vers:=⟨_,rfl⟩
 have hz2:=hz
 rw[←hz] at spP
 refine Aa.start (fn:=Tryz.f99) [.cell 4 38,.tmp 5] tk rfl rfl rfl (by kernel_rfl) (Nat.le_of_ble_eq_true rfl) rfl (by kernel_rfl) ?_
 rw[At]
 refine z3 ?_;intro K hK;refine zk ?_;clear hK K
 refine z0 ?_;intro K hK
 refine Ab.eq spP (by simp) (by simp) ?_
 refine zx ?_
 refine zk ?_;clear hK K
 refine zb ?_
 unfold B1
 rw[←hz]
 by_cases c1:k=1∨k=2
 rotate_left
 .have c1a:¬k=1:=fun h=>c1 (.inl h)
  have c1b:¬k=2:=fun h=>c1 (.inr h)
  rw[if_pos c1]
  refine Af (an c1a c1b) ?_;intro K hK
  refine zk ?_;clear hK K
  refine zt ?_
  refine z0 ?_;intro K hK
  refine zk ?_;clear hK K
  refine W.weak ((Wk.thaw (B:=2) (v:=0) (j:=2) (s:=8) (n:=0) (xs:=[]) rfl rfl).trans (Wk.thaw (B:=2) (v:=0) (j:=3) (s:=12) (n:=0) (xs:=[]) rfl rfl)) ?_
  refine zr ?_
  simp[AD]
 rw[if_neg (fun h=>h c1)]
 (repeat refine W.seq ?_);refine W.midS (fun _:Unit=> [(0,.agg (An false s)),(2,.ptr 0 0 0),(3,.ptr 1 0 0),(4,.ptr 2 0 0),(6,.int .i64 z),(14,.bool false)]) (fun _=> [.live 0 (An false s),.live 0 [.int .i64 k,.int .i64 id],.live 0 [.int .i64 0,.int .i64 0,.own 8 0 [],.own 12 0 []]]) (fun _=>True) ?_ ?_
 .rcases c1 with rfl|rfl
  .refine z0 ?_;intro K hK
   refine zk ?_;clear hK K
   exact⟨(),trivial,Wk.fr (by simp[Ad])⟩
  .refine z0 ?_;intro K hK
   refine zk ?_;clear hK K
   exact⟨(),trivial,Wk.fr (by simp[Ad])⟩
 rintro _ _
 refine zn ?_
 by_cases c2:z<0
 .rw[if_pos c2]
  refine Af c2 ?_;intro K hK
  refine zk ?_;clear hK K
  refine zt ?_
  refine z0 ?_;intro K hK
  refine zk ?_;clear hK K
  refine W.weak ((Wk.thaw (B:=2) (v:=0) (j:=2) (s:=8) (n:=0) (xs:=[]) rfl rfl).trans (Wk.thaw (B:=2) (v:=0) (j:=3) (s:=12) (n:=0) (xs:=[]) rfl rfl)) ?_
  refine zr ?_
  simp[AD]
 rw[if_neg c2]
 refine Af c2 ?_;intro K hK
 refine zk ?_;clear hK K
 refine zn ?_
 by_cases c3:k=1
 .rw[if_pos c3]
  refine Af c3 ?_;intro K hK
  refine zk ?_;clear hK K
  refine zt ?_
  refine z0 ?_;intro K hK
  refine Ab.eq spT (by simp) (by simp) ?_
  refine zx ?_
  refine zk ?_;clear hK K
  exact zR
 rw[if_neg c3]
 obtain⟨i,hi⟩:∃i:Nat,z=(i:Int):=⟨z.toNat,by omega⟩
 have hzt:z.toNat=i:=by omega
 obtain⟨hk,Bm⟩:∃hk:i<s.vers.length,s.vers[i].id=id:=by
  obtain⟨hk,Bm⟩:=KS (s:=s) (id:=id) (by rw[←hz];exact c2)
  have e:(AG (fun v=>decide (v.id=id)) s.vers).toNat=i:=by rw[←hz];exact hzt
  simp only[e] at hk Bm
  exact⟨hk,Bm⟩
 have hgv:s.vers[z.toNat]?=some s.vers[i]:=by rw[hzt];exact List.getElem?_eq_getElem hk
 simp only[hgv]
 clear hgv hzt hz2 hz
 subst hi
 have v2:(Ac Ar s.vers)[i*8+2]?=some (.int .i64 s.vers[i].base):=AE (f:=Ar) (s:=8) (fun _=>rfl) hk (i:=2) (by omega)
 by_cases c4:s.vers[i].base=0
 .rw[if_pos c4]
  refine Af c3 ?_;intro K hK
  refine zk ?_;clear hK K
  refine zn ?_
  refine Af (an hk (an v2 c4)) ?_;intro K hK
  refine zk ?_;clear hK K
  refine zt ?_
  refine z0 ?_;intro K hK
  refine zk ?_;clear hK K
  refine W.weak ((Wk.thaw (B:=2) (v:=0) (j:=2) (s:=8) (n:=0) (xs:=[]) rfl rfl).trans (Wk.thaw (B:=2) (v:=0) (j:=3) (s:=12) (n:=0) (xs:=[]) rfl rfl)) ?_
  refine zr ?_
  simp[AD]
 rw[if_neg c4]
 have hio:i<(Aj s).length:=by simpa[Aj] using hk
 have eo:(Aj s)[i]=BQ s.vers[i]:=by simp[Aj]
 obtain⟨q,hq⟩:=CL.1 ((hmy.closed _ (List.getElem_mem hio)).resolve_left (by rw[eo];exact c4))
 have hq2:AX (Aj s) s.vers[i].base=some q:=by rw[eo] at hq;exact hq
 have hqb:El (Aj s) s.vers[i].base=q.base:=by unfold El;rw[hq2]
 obtain⟨j,hj,j1,j2,j3⟩:=DQ hq2
 rw[Pr] at j1
 have hjv:j<s.vers.length:=by simpa[Aj] using hj
 have j4:(Ac Ar s.vers)[j*8+2]?=some (.int .i64 q.base):=by
  rw[←j2]
  have:=AE (f:=Ar) (s:=8) (fun _=>rfl) hjv (i:=2) (by omega)
  rw[this];simp[Aj,BQ,Ar]
 have hjb:s.vers[j].base=q.base:=by rw[←j2];simp[Aj,BQ]
 have spP2:=Hi s s.vers[i].base hs
 rw[j1] at spP2
 have spL:=MN s hs
 have spR:=Tw (Aj s) i q hs.objs hmy hall hio (by rw[eo];exact c4) hq
 rw[eo] at spR
 have hoid:(BQ s.vers[i]).id=id:=Bm
 rw[hoid] at spR
 have hrl:=(LA hok hk c4).1
 rw[hqb] at hrl ⊢
 obtain⟨o,ho⟩:∃o,o=Dz (Aj s) (BQ s.vers[i]) q.base:=⟨_,rfl⟩
 have hos:o.data.data.size<1000000000:=by rw[ho];exact Ps _
 rw[←ho] at spR hrl ⊢
 have spY:=Zh hR s o 0 hs hx hos (by have:=hmy.1;simp[Aj] at this;omega)
 rw[hrl] at spY
 obtain⟨l,hl⟩:∃l,l=Aj s:=⟨_,rfl⟩
 rw[←hl] at spL spR hio
 have o0:(Ac Am (l.set i o))[i*4]?=some (.int .i64 o.id):=by
  have:=AE (f:=Am) (s:=4) (xs:=l.set i o) (fun _=>rfl) (show i<(l.set i o).length by simpa using hio) (i:=0) (by omega)
  rw[List.getElem_set_self] at this;exact this
 have o1:(Ac Am (l.set i o))[i*4+1]?=some (.int .i64 o.base):=by
  have:=AE (f:=Am) (s:=4) (xs:=l.set i o) (fun _=>rfl) (show i<(l.set i o).length by simpa using hio) (i:=1) (by omega)
  rw[List.getElem_set_self] at this;exact this
 have o2:(Ac Am (l.set i o))[i*4+1+1]?=some (.str o.data.data):=by
  have:=AE (f:=Am) (s:=4) (xs:=l.set i o) (fun _=>rfl) (show i<(l.set i o).length by simpa using hio) (i:=2) (by omega)
  rw[List.getElem_set_self] at this;exact this
 have o3:(Ac Am (l.set i o))[i*4+1+1+1]?=some (.int .i64 o.data.n):=by
  have:=AE (f:=Am) (s:=4) (xs:=l.set i o) (fun _=>rfl) (show i<(l.set i o).length by simpa using hio) (i:=3) (by omega)
  rw[List.getElem_set_self] at this;exact this
 refine Af c3 ?_;intro K hK
 refine zk ?_;clear hK K
 refine zn ?_
 refine Af (an hk (an v2 c4)) ?_;intro K hK
 refine zk ?_;clear hK K
 refine zn ?_
 refine W.skip ?_
 refine Ba (an hk v2) ?_;intro K hK
 refine Ag.eq spP2 (by simp) (by simp) ?_
 refine AM (an hjv (an j4 hjb)) ?_
 refine zk ?_;clear hK K
 refine B9 ?_;intro K hK
 refine Ag.eq spL (by simp) (by simp) ?_
 refine zx ?_
 refine Ag.eq spR (by simp) (by simp) ?_
 refine zx ?_
 refine zk ?_;clear hK K
 refine zs ?_
 refine zn ?_
 refine W.skip ?_
 refine Ba (an hio (an o0 (an o1 (an o2 o3)))) ?_;intro K hK
 refine Ag.eq spY (by simp) (by simp) ?_
 refine zx ?_
 refine zk ?_;clear hK K
 exact zR
end Go.Abs
set_option maxRecDepth 100000
namespace Go.Abs
open Go.Proofs
theorem Hf {s:Ax} {k id:Int} (hs:AS s) (hx:Bk s) (hok:A5 s):AS (B1 s k id).1∧Bk (B1 s k id).1:=by
 unfold B1
 split
 .exact Ek
 split
 .exact Ek
 split
 .exact Tp hs hx
 split
 .exact Ek
 .rename_i v hv
  split
  .exact Ek
  .rename_i hb
   obtain⟨hi,e⟩:=List.getElem?_eq_some_iff.1 hv
   subst e
   rw[←(LA hok hi hb).1]
   exact U1 hs hx (Ps _) (by have:=hok.1.1.2.2.2.2.2.2.1;simp[Aj] at this;omega)
theorem Tx (v:Bg) (id:Int):Aa pg 171 ([.agg (Ar v)]++[.rptr [.int .i64 id]]) [] (fun r _=>r= .bool (decide (v.base=id))):=by
 refine Aa.start (fn:=Tryz.f171) [.tmp 3] tk rfl rfl rfl (by kernel_rfl) (Nat.le_of_ble_eq_true rfl) rfl (by kernel_rfl) ?_
 simp only[List.cons_append,List.nil_append]
 rw[At]
 refine z1 ?_;intro K hK;refine zk ?_;clear hK K
 refine zs ?_
 exact zR
def J9 (s:Ax) (id:Int):Bool:=decide ((B1 s (Dt s id).1 (Dt s id).2).2=0)
set_option maxHeartbeats 2000000 in
theorem U8 (hR:By) (s:Ax) (id:Int) (hs:AS s) (hx:Bk s) (hok:A5 s):Aa pg 138 [.agg (An false s),.int .i64 id] [] (fun r _=>r= .tup [.agg (In (Dt s id)),.bool (J9 s id)]):=by
 have h1:=hs.1
 have spI:=Jy s.vers 171 [.rptr [.int .i64 id]] (fun v=>decide (v.base=id)) (by omega) (fun v _=>Tx v id) (by simp)
 obtain⟨z,hz⟩:∃z,z=AG (fun v=>decide (v.base=id)) s.vers:=⟨_,rfl⟩
 rw[←hz] at spI
 obtain⟨a,ha⟩:∃a,a=Dt s id:=⟨_,rfl⟩
 have spD:=Pt hR s a.1 a.2 hs hx hok
 have hin:=Hf (k:=a.1) (id:=a.2) hs hx hok
 unfold J9
 rw[←ha]
 obtain⟨y,hy⟩:∃y,y=(B1 s a.1 a.2).1:=⟨_,rfl⟩
 obtain⟨e,he⟩:∃e,e=(B1 s a.1 a.2).2:=⟨_,rfl⟩
 rw[←hy,←he] at spD
 rw[←he]
 refine Aa.start (fn:=Tryz.f138) [.cell 4 103,.tmp 5] tk rfl rfl rfl (by kernel_rfl) (Nat.le_of_ble_eq_true rfl) rfl (by kernel_rfl) ?_
 rw[At]
 refine z3 ?_;intro K hK;refine zk ?_;clear hK K
 refine z0 ?_;intro K hK
 refine Ab.eq spI (by simp) (by simp) ?_
 refine zx ?_
 refine zk ?_;clear hK K
 refine z1 ?_;intro K hK
 refine zk ?_;clear hK K
 refine zs ?_
 refine W.midS (fun _:Unit=> [(2,.ptr 0 0 0),(4,.ptr 2 0 0),(7,.ptr 3 0 0)]) (fun _=> [.live 0 (An false s),.live 0 [.int .i64 id],.live 0 [.int .i64 0,.int .i64 0],.live 0 (In a)]) (fun _=>True) ?_ ?_
 .refine zc ?_ ?_<;>intro h
  .obtain⟨k,hk⟩:=Int.eq_ofNat_of_zero_le h
   subst hk
   have hkk:∃hk:k<s.vers.length,a=(2,s.vers[k].id):=by
    unfold AG at hz
    cases e:s.vers.findIdx? (fun v=>decide (v.base=id)) with
    |none=>rw[e] at hz;simp at hz
    |some j=>
     rw[e] at hz
     have:j=k:=by simp at hz;omega
     subst this
     obtain⟨q1,q2,q3⟩:=List.findIdx?_eq_some_iff_getElem.1 e
     refine⟨q1,?_⟩
     have hf:s.vers.find? (fun v=>decide (v.base=id))=some s.vers[j]:=Hq q1 (fun x hx=>by
      obtain⟨m,hm,rfl⟩:=List.mem_iff_getElem.1 hx
      simp only[List.length_take] at hm
      have:=q3 m (by omega)
      simpa using this) q2
     rw[ha,Dt,hf]
   obtain⟨hk,hak⟩:=hkk
   have v0:(Ac Ar s.vers)[k*8]?=some (.int .i64 s.vers[k].id):=AE (f:=Ar) (s:=8) (fun _=>rfl) hk (i:=0) (by omega)
   refine Af (an hk v0) ?_;intro K hK
   refine zk ?_;clear hK K
   subst hak
   exact⟨(),trivial,Wk.fr (by simp[Ad])⟩
  .have hak:a=(1,id):=by
    have hf:s.vers.find? (fun v=>decide (v.base=id))=none:=by
     rw[List.find?_eq_none]
     intro v hv c
     have:0≤z:=by rw[hz];exact CJ.2 ⟨v,hv,c⟩
     omega
    rw[ha,Dt,hf]
   refine W.skip ?_
   subst hak
   exact⟨(),trivial,Wk.fr (by simp[Ad])⟩
 rintro _ _
 refine z1 ?_;intro K hK
 refine Ab.eq spD (by simp) (by simp) ?_
 refine zx ?_
 refine zk ?_;clear hK K
 refine z0 ?_;intro K hK
 refine zk ?_;clear hK K
 exact zR
set_option maxHeartbeats 2000000 in
theorem Lg (hR:By) (s:Ax) (hs:AS s) (hx:Bk s) (hok:A5 s):Aa pg 98 [.agg (An false s)] [] (fun r _=>r= .agg (In (Bl s))):=by
 have h1:=hs.1
 have hkp:0≤s.keep∧s.keep≤1000000:=⟨by have:=hok.1.1.1;omega,by have:=hok.1.1.2.1;omega⟩
 have spW:=WV s hs hkp
 have hwl:(C7 s false).length≤s.vers.length:=Fy ..
 obtain⟨a,ha⟩:∃a,a=Bl s:=⟨_,rfl⟩
 have hfo:a=match (C7 s false).find? (J9 s) with|some id=>Dt s id|none=>(0,0):=by rw[ha];rfl
 rw[←ha]
 obtain⟨w,hw⟩:∃w,w=C7 s false:=⟨_,rfl⟩
 rw[←hw] at spW hwl hfo
 refine Aa.start (fn:=Tryz.f98) [.cell 2 103] tk rfl rfl rfl (by kernel_rfl) (Nat.le_of_ble_eq_true rfl) rfl (by kernel_rfl) ?_
 rw[Av]
 refine z2 ?_;intro K hK;refine zk ?_;clear hK K
 refine z0 ?_;intro K hK
 refine Ab.eq spW (by simp) (by simp) ?_
 refine zx ?_
 refine zk ?_;clear hK K
 (repeat refine W.seq ?_);refine W.block (W.loopS (fun k:Nat=> [(1,.ptr 0 0 0),(2,.ptr 1 0 0),(8,.tok 2 0 1 0 w.length),(9,.int .i64 w.length),(10,.int .i64 k)]) (fun _=> [.live 0 (An false s),.live 0 [.int .i64 0,.int .i64 0],.live 0 (Ae w)]) (fun k=>w.length-k) (fun k=>k≤w.length∧∀x∈w.take k,J9 s x=false) 0 (Wk.fr (by simp[Ad])) ⟨by omega,by simp⟩ ?_)
 rintro k ⟨hk,hno⟩
 by_cases c1:k<w.length
 rotate_left
 .have hke:k=w.length:=by omega
  have hf:w.find? (J9 s)=none:=by
   rw[List.find?_eq_none]
   intro x hx
   rw[List.take_of_length_le (by omega)] at hno
   simpa using hno x hx
  rw[hf] at hfo
  subst hfo
  refine Af c1 ?_;intro K hK
  refine zk ?_;clear hK K
  refine zn ?_
  refine W.exit ?_
  refine z0 ?_;intro K hK
  refine zk ?_;clear hK K
  exact zR
 have spA:=U8 hR s w[k] hs hx hok
 obtain⟨id,Bm⟩:∃id,id=w[k]:=⟨_,rfl⟩
 rw[←Bm] at spA
 have g1:(Ae w)[k]?=some (.int .i64 id):=by rw[Bm];simp[c1,Ae]
 refine Af c1 ?_;intro K hK
 refine zk ?_;clear hK K
 refine zt ?_
 refine W.skip ?_
 refine zb ?_
 refine Af (an c1 g1) ?_;intro K hK
 refine zk ?_;clear hK K
 cases hoa:J9 s id
 .rw[hoa] at spA
  refine z1 ?_;intro K hK
  refine Ab.eq spA (by simp) (by simp) ?_
  refine zx ?_
  refine zk ?_;clear hK K
  refine zs ?_
  refine zn ?_
  refine W.skip ?_
  refine zs ?_
  exact⟨k+1,by omega,⟨by omega,HU c1 hno (by rw[←Bm];exact hoa)⟩,Wk.cutM (k:=3) (by simp[Ad]) (by simp) (by simp) (by simp) (by simp) (by simp)⟩
 .rw[hoa] at spA
  have hf:=Hq c1 hno (by rw[←Bm];exact hoa)
  rw[hf] at hfo
  simp only[←Bm] at hfo
  subst hfo
  refine z1 ?_;intro K hK
  refine Ab.eq spA (by simp) (by simp) ?_
  refine zx ?_
  refine zk ?_;clear hK K
  refine zs ?_
  refine zt ?_
  refine z0 ?_;intro K hK
  refine zk ?_;clear hK K
  exact zR
end Go.Abs
set_option maxRecDepth 100000
namespace Go.Abs
open Go.Proofs
set_option maxHeartbeats 4000000 in
theorem RS (s:Ax) (k id:Int) (hs:AS s) (hx:Bk s) (hok:A5 s):Aa pg 61 [.agg (An false s),.agg [.int .i64 k,.int .i64 id]] [] (fun r _=>r= .tup [.agg (An true (B1 s k id).1),.int .i64 (B1 s k id).2]):=by
 have h1:=hs.1
 have hmy:=hok.1.1.2.2.2.2.2.2
 have hall:=hok.1.2.2.1
 have spP:=No s id hs
 have spT:=W6 s id hs hx
 obtain⟨z,hz⟩:∃z,z=AG (fun v=>decide (v.id=id)) s.vers:=⟨_,rfl⟩
 have hz2:=hz
 rw[←hz] at spP
 have spB:=Ez k 1 2
 have hk12:(1≤k∧k≤2)↔(k=1∨k=2):=by omega
 refine Aa.start (fn:=Tryz.f61) [.cell 4 38,.tmp 5] tk rfl rfl rfl (by kernel_rfl) (Nat.le_of_ble_eq_true rfl) rfl (by kernel_rfl) ?_
 rw[At]
 refine z3 ?_;intro K hK;refine zk ?_;clear hK K
 unfold B1
 rw[←hz]
 by_cases c1:k=1∨k=2
 rotate_left
 .rw[decide_eq_false (fun h=>c1 (hk12.1 h))] at spB
  rw[if_pos c1]
  refine z0 ?_;intro K hK
  refine Ab.eq spB (by simp) (by simp) ?_
  refine zx ?_
  refine zk ?_;clear hK K
  refine zt ?_
  refine z0 ?_;intro K hK
  refine zk ?_;clear hK K
  refine W.weak ((Wk.thaw (B:=2) (v:=0) (j:=2) (s:=8) (n:=0) (xs:=[]) rfl rfl).trans (Wk.thaw (B:=2) (v:=0) (j:=3) (s:=12) (n:=0) (xs:=[]) rfl rfl)) ?_
  refine zr ?_
  simp[AD]
 rw[if_neg (fun h=>h c1)]
 rw[decide_eq_true (hk12.2 c1)] at spB
 refine z0 ?_;intro K hK
 refine Ab.eq spB (by simp) (by simp) ?_
 refine zx ?_
 refine zk ?_;clear hK K
 refine zn ?_
 refine W.skip ?_
 refine z0 ?_;intro K hK
 refine Ab.eq spP (by simp) (by simp) ?_
 refine zx ?_
 refine zk ?_;clear hK K
 by_cases c2:z<0
 .rw[if_pos c2]
  refine Af c2 ?_;intro K hK
  refine zk ?_;clear hK K
  refine zt ?_
  refine z0 ?_;intro K hK
  refine zk ?_;clear hK K
  refine W.weak ((Wk.thaw (B:=2) (v:=0) (j:=2) (s:=8) (n:=0) (xs:=[]) rfl rfl).trans (Wk.thaw (B:=2) (v:=0) (j:=3) (s:=12) (n:=0) (xs:=[]) rfl rfl)) ?_
  refine zr ?_
  simp[AD]
 rw[if_neg c2]
 refine Af c2 ?_;intro K hK
 refine zk ?_;clear hK K
 refine zn ?_
 refine W.skip ?_
 by_cases c3:k=1
 .rw[if_pos c3]
  refine Af c3 ?_;intro K hK
  refine zk ?_;clear hK K
  refine zt ?_
  refine z0 ?_;intro K hK
  refine Ab.eq spT (by simp) (by simp) ?_
  refine zx ?_
  refine zk ?_;clear hK K
  exact zR
 rw[if_neg c3]
 obtain⟨i,hi⟩:∃i:Nat,z=(i:Int):=⟨z.toNat,by omega⟩
 have hzt:z.toNat=i:=by omega
 obtain⟨hk,Bm⟩:∃hk:i<s.vers.length,s.vers[i].id=id:=by
  obtain⟨hk,Bm⟩:=KS (s:=s) (id:=id) (by rw[←hz];exact c2)
  have e:(AG (fun v=>decide (v.id=id)) s.vers).toNat=i:=by rw[←hz];exact hzt
  simp only[e] at hk Bm
  exact⟨hk,Bm⟩
 have hgv:s.vers[z.toNat]?=some s.vers[i]:=by rw[hzt];exact List.getElem?_eq_getElem hk
 simp only[hgv]
 clear hgv hzt hz2 hz
 subst hi
 have v2:(Ac Ar s.vers)[i*8+2]?=some (.int .i64 s.vers[i].base):=AE (f:=Ar) (s:=8) (fun _=>rfl) hk (i:=2) (by omega)
 by_cases c4:s.vers[i].base=0
 .rw[if_pos c4]
  refine Af c3 ?_;intro K hK
  refine zk ?_;clear hK K
  refine zn ?_
  refine W.skip ?_
  refine Af (an hk (an v2 c4)) ?_;intro K hK
  refine zk ?_;clear hK K
  refine zs ?_
  refine zt ?_
  refine z0 ?_;intro K hK
  refine zk ?_;clear hK K
  refine W.weak ((Wk.thaw (B:=2) (v:=0) (j:=2) (s:=8) (n:=0) (xs:=[]) rfl rfl).trans (Wk.thaw (B:=2) (v:=0) (j:=3) (s:=12) (n:=0) (xs:=[]) rfl rfl)) ?_
  refine zr ?_
  simp[AD]
 rw[if_neg c4]
 have hio:i<(Aj s).length:=by simpa[Aj] using hk
 have eo:(Aj s)[i]=BQ s.vers[i]:=by simp[Aj]
 obtain⟨q,hq⟩:=CL.1 ((hmy.closed _ (List.getElem_mem hio)).resolve_left (by rw[eo];exact c4))
 have hq2:AX (Aj s) s.vers[i].base=some q:=by rw[eo] at hq;exact hq
 have hqb:El (Aj s) s.vers[i].base=q.base:=by unfold El;rw[hq2]
 obtain⟨j,hj,j1,j2,j3⟩:=DQ hq2
 rw[Pr] at j1
 have hjv:j<s.vers.length:=by simpa[Aj] using hj
 have j4:(Ac Ar s.vers)[j*8+2]?=some (.int .i64 q.base):=by
  rw[←j2]
  have:=AE (f:=Ar) (s:=8) (fun _=>rfl) hjv (i:=2) (by omega)
  rw[this];simp[Aj,BQ,Ar]
 have hjb:s.vers[j].base=q.base:=by rw[←j2];simp[Aj,BQ]
 have spP2:=No s s.vers[i].base hs
 rw[j1] at spP2
 have spL:=QZ s hs
 have spR:=Tt (Aj s) i q hs.objs hmy hall hio (by rw[eo];exact c4) hq
 rw[eo] at spR
 have hoid:(BQ s.vers[i]).id=id:=Bm
 rw[hoid] at spR
 rw[hqb]
 obtain⟨o,ho⟩:∃o,o=Dz (Aj s) (BQ s.vers[i]) q.base:=⟨_,rfl⟩
 have hos:o.data.data.size<1000000000:=by rw[ho];exact Ps _
 rw[←ho] at spR ⊢
 have spY:=Zj s o 0 hs hx hos (by have:=hmy.1;simp[Aj] at this;omega) hok.2
 obtain⟨l,hl⟩:∃l,l=Aj s:=⟨_,rfl⟩
 rw[←hl] at spL spR hio
 have o0:(Ac Am (l.set i o))[i*4]?=some (.int .i64 o.id):=by
  have:=AE (f:=Am) (s:=4) (xs:=l.set i o) (fun _=>rfl) (show i<(l.set i o).length by simpa using hio) (i:=0) (by omega)
  rw[List.getElem_set_self] at this;exact this
 have o1:(Ac Am (l.set i o))[i*4+1]?=some (.int .i64 o.base):=by
  have:=AE (f:=Am) (s:=4) (xs:=l.set i o) (fun _=>rfl) (show i<(l.set i o).length by simpa using hio) (i:=1) (by omega)
  rw[List.getElem_set_self] at this;exact this
 have o2:(Ac Am (l.set i o))[i*4+1+1]?=some (.str o.data.data):=by
  have:=AE (f:=Am) (s:=4) (xs:=l.set i o) (fun _=>rfl) (show i<(l.set i o).length by simpa using hio) (i:=2) (by omega)
  rw[List.getElem_set_self] at this;exact this
 have o3:(Ac Am (l.set i o))[i*4+1+1+1]?=some (.int .i64 o.data.n):=by
  have:=AE (f:=Am) (s:=4) (xs:=l.set i o) (fun _=>rfl) (show i<(l.set i o).length by simpa using hio) (i:=3) (by omega)
  rw[List.getElem_set_self] at this;exact this
 refine Af c3 ?_;intro K hK
 refine zk ?_;clear hK K
 refine zn ?_
 refine W.skip ?_
 refine Af (an hk v2) ?_;intro K hK
 refine zk ?_;clear hK K
 refine Af c4 ?_;intro K hK
 refine zk ?_;clear hK K
 refine zn ?_
 refine W.skip ?_
 refine Ba (an hk v2) ?_;intro K hK
 refine Ag.eq spL (by simp) (by simp) ?_
 refine zx ?_
 refine Ag.eq spP2 (by simp) (by simp) ?_
 refine AM (an hjv (an j4 hjb)) ?_
 refine Ag.eq spR (by simp) (by simp) ?_
 refine zx ?_
 refine zk ?_;clear hK K
 refine zs ?_
 refine zn ?_
 refine W.skip ?_
 refine Ba (an hio (an o0 (an o1 (an o2 o3)))) ?_;intro K hK
 refine Ag.eq spY (by simp) (by simp) ?_
 refine zx ?_
 refine zk ?_;clear hK K
 exact zR
end Go.Abs
set_option maxRecDepth 100000
namespace Go.Abs
open Go.Proofs
def Bo (a b:Nat) (c:Ax):List AV:=[.int .i64 c.keep,.int .i64 c.blocks,.tok a 0 8 0 c.vers.length,.tok b 0 12 0 c.sess.length]
section
variable (xs:List Ax) (m:Bool) (M:List Ah) (k:Nat)
@[simp] theorem cR:(Ac (An m) xs).length=xs.length*4:=DA _ (fun x=>by simp[An]) xs
@[simp] theorem bp:(Ac (An m) xs).take (k*4)=Ac (An m) (xs.take k):=EG _ (fun x=>by simp[An]) k xs
@[simp] theorem fc:EZ (Ac (An m) xs)=true:=HG _ (fun x=>by simp[An]) xs
@[simp] theorem fe:DT (Ac (An m) xs)=true:=HH _ (fun x=>by simp[An]) xs
@[simp] theorem ff:Da k (Ac (An m) xs)=true:=Gv _ k (fun x=>by simp[An]) xs
@[simp] theorem cS:CY (Ac (An true) xs)=true:=GQ _ (fun x=>by simp[An]) xs
@[simp] theorem U9:EX (Ac (An m) xs)=Ac (An false) xs:=HJ _ _ (fun x=>by cases m<;>simp[An]) xs
@[simp] theorem cT:(Ac (An m) xs).map Em=Ac (An false) xs:=by rw[←Fj];exact U9 xs m
end
theorem Ty (L:List Ax) (a b:Nat) (c:Ax) (Z:List AV):(Ac (An true) L++(Bo a b c++Z))[L.length*4+2]?=some (.tok a 0 8 0 c.vers.length):=by
 rw[List.getElem?_append_right (by simp)];simp[Bo]
theorem Tz (L:List Ax) (a b:Nat) (c:Ax) (Z:List AV) (x:AV):((Ac (An true) L++(Bo a b c++Z)).set (L.length*4+2) x)[L.length*4+3]?=some (.tok b 0 12 0 c.sess.length):=by
 rw[List.getElem?_set_ne (by omega),List.getElem?_append_right (by simp)];simp[Bo]
theorem Va (L:List Ax) (a b:Nat) (c:Ax) (Z:List AV):((Ac (An true) L++(Bo a b c++Z)).set (L.length*4+2) (.own 8 c.vers.length (((Ac Ar c.vers).drop 0).take (c.vers.length*8)))).set (L.length*4+3) (.own 12 c.sess.length (((Ac (Aq true) c.sess).drop 0).take (c.sess.length*12)))=Ac (An true) (L++[c])++Z:=by
 rw[List.set_append_right _ _ (by simp),List.set_append_right _ _ (by simp),Bz]
 simp[Bo,AA]
theorem Wk.last {p:Nat} {F:Fr} {M:List Ah} {v:Nat} (L:List Ax) (c:Ax) (Z:List AV) (h1:Ai M 1 v=some (Ac (An true) L++(Bo 2 3 c++Z))) (h2:M[2]?=some (.live 0 (Ac Ar c.vers))) (h3:M[3]?=some (.live 0 (Ac (Aq true) c.sess))):
 Wk p F M F (((M.set 1 (.live v (Ac (An true) (L++[c])++Z))).set 2 .dead).set 3 .dead):=by
 obtain⟨a0,a1,a2,a3,M',rfl⟩:∃a0 a1 a2 a3 M',M=a0::a1::a2::a3::M' :=by
  match M,h3 with
  |a0::a1::a2::a3::M',_=>exact⟨a0,a1,a2,a3,M',rfl⟩
 simp only[List.getElem?_cons_succ,List.getElem?_cons_zero,Option.some.injEq] at h2 h3
 subst h2 h3
 have w1:=Wk.intern (p:=p) (F:=F) (B:=1) (v:=v) (j:=L.length*4+2) (T:=2) (u:=0) (s:=8) (off:=0) (n:=c.vers.length) (xs:=Ac Ar c.vers) h1 (Ty L 2 3 c Z) (by rfl) (by decide) (by simp) (by simp)
 have w2:=fun M h=>Wk.intern (p:=p) (F:=F) (M:=M) (B:=1) (v:=v) (j:=L.length*4+3) (T:=3) (u:=0) (s:=12) (off:=0) (n:=c.sess.length) (xs:=Ac (Aq true) c.sess) (cs:=(Ac (An true) L++(Bo 2 3 c++Z)).set (L.length*4+2) (.own 8 c.vers.length (((Ac Ar c.vers).drop 0).take (c.vers.length*8)))) h (Tz L 2 3 c Z _)
 refine w1.trans ?_
 refine(w2 _ ?_ ?_ (by decide) (by simp) (by simp)).trans ?_
 .simp[Ai]
 .simp[Ai]
 have hp:=Va L 2 3 c Z
 simp only[List.set_cons_succ,List.set_cons_zero]
 rw[hp]
 exact Wk.refl
theorem Jd {c:Ax} {m:Nat} (h:(Bl c).1≠0):BF c (m+1)=(B1 c (Bl c).1 (Bl c).2).1::BF (B1 c (Bl c).1 (Bl c).2).1 m:=by rw[BF,if_neg h]
theorem KU {c:Ax} (m:Nat) (h:(Bl c).1=0):BF c m=[]:=by cases m<;>simp[BF,h]
set_option maxHeartbeats 4000000 in
theorem aw (hR:By) (s:Ax) (n:Nat) (hs:AS s) (hx:Bk s) (hok:A5 s) (hn:n≤1000):Aa pg 96 [.agg (An false s),.int .i64 n] [] (fun r _=>r= .own 4 (BF s n).length (Ac (An true) (BF s n))):=by
 refine Aa.start (fn:=Tryz.f96) [.tmp 4] tk rfl rfl rfl (by kernel_rfl) (Nat.le_of_ble_eq_true rfl) rfl (by kernel_rfl) ?_
 rw[At]
 refine z1 ?_;intro K hK;refine zk ?_;clear hK K
 refine zs ?_
 (repeat refine W.seq ?_);refine W.block (W.loopS (fun z:Nat×List Ax×Ax=> [(2,.ptr 0 0 0),(4,if z.1=0 then .own 4 0 [] else .tok 1 0 4 0 z.1),(6,.int .i64 n),(7,.int .i64 z.1)]) (fun z=>if z.1=0 then [.live 0 (An false s)] else [.live 0 (Bo 2 3 z.2.2),.live 0 (Ac (An true) z.2.1++Bo 2 3 z.2.2),.live 0 (Ac Ar z.2.2.vers),.live 0 (Ac (Aq true) z.2.2.sess)]) (fun z=>n-z.1) (fun z=>z.1≤n∧A5 z.2.2∧AS z.2.2∧Bk z.2.2∧(z.1=0→z.2.2=s)∧(0<z.1→z.2.1.length+1=z.1∧z.2.1++z.2.2::BF z.2.2 (n-z.1)=BF s n)) (0,[],s) (Wk.fr (by simp[Ad])) ⟨by omega,hok,hs,hx,fun _=>rfl,fun h=>by simp at h⟩ ?_)
 have rnV:=fun(K:List (Nat×Nat)) (y:Ax)=>Kv K (xs:=Ac Ar y.vers) (by simp)
 have rnS:=fun(K:List (Nat×Nat)) (y:Ax)=>Kv K (xs:=Ac (Aq true) y.sess) (by simp)
 have rnA:=fun(K:List (Nat×Nat)) (L:List Ax)=>Kv K (xs:=Ac (An true) L) (by simp)
 rintro⟨k,L,c⟩ ⟨hk,hcok,hcs,hcx,hc0,hcL⟩
 simp only at hk hcok hcs hcx hc0 hcL ⊢
 have spF:=Lg hR c hcs hcx hcok
 obtain⟨a,ha⟩:∃a,a=Bl c:=⟨_,rfl⟩
 rw[←ha] at spF
 have spD:=Pt hR c a.1 a.2 hcs hcx hcok
 have hyin:=Hf (k:=a.1) (id:=a.2) hcs hcx hcok
 have hyok:=fun h:a.1≠0=>Pm (k:=a.1) (id:=a.2) hcok (by rw[ha] at h ⊢;exact J8 h)
 obtain⟨y,hy⟩:∃y,y=(B1 c a.1 a.2).1:=⟨_,rfl⟩
 obtain⟨e,he⟩:∃e,e=(B1 c a.1 a.2).2:=⟨_,rfl⟩
 rw[←hy,←he] at spD
 rw[←hy] at hyin
 simp only[←hy] at hyok
 by_cases k0:k=0
 .have hcs0:=hc0 k0
  subst hcs0
  subst k0
  simp only[if_true]
  by_cases c1:0<n
  rotate_left
  .have hn0:n=0:=by omega
   subst hn0
   refine z0 ?_;intro K hK
   refine zk ?_;clear hK K
   refine zn ?_
   refine W.exit ?_
   refine z0 ?_;intro K hK
   refine zk ?_;clear hK K
   refine zr ?_
   simp[BF]
  refine Af c1 ?_;intro K hK
  refine zk ?_;clear hK K
  refine zt ?_
  refine W.skip ?_
  refine zb ?_
  refine z1 ?_;intro K hK
  refine Ab.eq spF (by simp) (by simp) ?_
  refine zx ?_
  refine zk ?_;clear hK K
  by_cases c2:a.1=0
  .refine Af c2 ?_;intro K hK
   refine zk ?_;clear hK K
   refine zt ?_
   refine W.exit ?_
   refine z0 ?_;intro K hK
   refine zk ?_;clear hK K
   refine zr ?_
   rw[KU n (by rw[←ha];exact c2)];simp
  have hrow:BF c n=y::BF y (n-1):=by
   obtain⟨m,rfl⟩:∃m,n=m+1:=⟨n-1,by omega⟩
   rw[Jd (by rw[←ha];exact c2),←ha,←hy];simp
  refine Af c2 ?_;intro K hK
  refine zk ?_;clear hK K
  refine zn ?_
  refine W.skip ?_
  refine z0 ?_;intro K hK
  refine Ab.eq spD (by simp) (by simp) ?_
  refine zx ?_
  refine zk ?_;clear hK K
  refine W.weak (Wk.nil (t:=4) (s:=4) (by simp)) ?_
  refine z1 ?_;intro K hK
  refine zk ?_;clear hK K
  refine zs ?_
  have hyk:=hyok c2
  refine⟨(1,[],y),by simp only;omega,⟨by simp only;omega,hyk.1,hyin.1,hyin.2,by simp,fun _=>⟨rfl,by simp only[List.nil_append];rw[hrow]⟩⟩,?_⟩
  refine Wk.perm [(0,0),(4,1),(2,0),(3,0)] [Bo 2 3 y,Bo 2 3 y,Ac Ar y.vers,Ac (Aq true) y.sess] (by decide) ?_ ?_ ?_
  .simp[N6,Ai,Bo]
  .simp[LI,rn,Fm,List.findIdx?_cons]
  .simp[Gf,rn,Fm,Bo,List.findIdx?_cons,rnV,rnS]
 simp only[if_neg k0]
 obtain⟨hL,hLr⟩:=hcL (by omega)
 by_cases c1:k<n
 rotate_left
 .have hkn:k=n:=by omega
  subst hkn
  have hfin:BF s k=L++[c]:=by rw[←hLr,Nat.sub_self];simp[BF]
  refine Af c1 ?_;intro K hK
  refine zk ?_;clear hK K
  refine zn ?_
  refine W.exit ?_
  refine W.weak (Wk.last (v:=0) L c [] (by simp[Ai,Bo]) rfl rfl) ?_
  simp only[List.set_cons_succ,List.set_cons_zero,List.append_nil]
  rw[←hfin]
  have hlen:(BF s k).length=k:=by rw[hfin];simp;omega
  refine z0 ?_;intro K hK
  refine zk ?_;clear hK K
  refine zr ?_
  rw[List.take_of_length_le (by omega),hlen];exact⟨rfl,rfl⟩
 simp only[Bo]
 refine Af c1 ?_;intro K hK
 refine zk ?_;clear hK K
 refine zt ?_
 refine W.skip ?_
 refine zb ?_
 refine z1 ?_;intro K hK
 refine Ab.eq spF (by simp) (by simp) ?_
 refine zx ?_
 refine zk ?_;clear hK K
 by_cases c2:a.1=0
 .refine Af c2 ?_;intro K hK
  refine zk ?_;clear hK K
  refine zt ?_
  refine W.exit ?_
  have hfin:BF s n=L++[c]:=by rw[←hLr,KU (n-k) (by rw[←ha];exact c2)]
  refine W.weak (Wk.last (v:=0) L c [] (by simp[Ai,Bo]) rfl rfl) ?_
  simp only[List.set_cons_succ,List.set_cons_zero,List.append_nil]
  rw[←hfin]
  have hlen:(BF s n).length=k:=by rw[hfin];simp;omega
  refine z0 ?_;intro K hK
  refine zk ?_;clear hK K
  refine zr ?_
  rw[List.take_of_length_le (by omega),hlen];exact⟨rfl,rfl⟩
 refine Af c2 ?_;intro K hK
 refine zk ?_;clear hK K
 refine zn ?_
 refine W.skip ?_
 refine z0 ?_;intro K hK
 refine Ab.eq spD (by simp) (by simp) ?_
 refine zx ?_
 refine zk ?_;clear hK K
 refine z1 ?_;intro K hK
 refine zk ?_;clear hK K
 refine zs ?_
 have hyk:=hyok c2
 have hrow:BF c (n-k)=y::BF y (n-(k+1)):=by
  obtain⟨m,hm⟩:∃m,n-k=m+1:=⟨n-k-1,by omega⟩
  rw[hm,Jd (by rw[←ha];exact c2),←ha,←hy,show n-(k+1)=m by omega]
 refine⟨(k+1,L++[c],y),by simp only;omega,⟨by simp only;omega,hyk.1,hyin.1,hyin.2,by simp,fun _=>⟨by simp only[List.length_append,List.length_singleton];omega,by simp only;rw[←hLr,hrow];simp⟩⟩,?_⟩
 refine(Wk.last (v:=1) L c (Bo 5 6 y) (by simp[Ai,Bo]) rfl rfl).trans ?_
 simp only[List.set_cons_succ,List.set_cons_zero]
 refine Wk.perm [(0,0),(1,1),(5,0),(6,0)] [Bo 5 6 y,Ac (An true) (L++[c])++Bo 5 6 y,Ac Ar y.vers,Ac (Aq true) y.sess] (by decide) ?_ ?_ ?_
 .simp[N6,Ai,Bo]
 .simp[LI,rn,Fm,List.findIdx?_cons]
 .simp[Gf,rn,Fm,Bo,List.findIdx?_cons,rnV,rnS,rnA,Yn]
end Go.Abs
set_option maxRecDepth 100000
namespace Go.Abs
open Go.Proofs
def H0 (s:Ax) (id:Int) (m:Nat):Int×Int:=match (s.vers.drop m).find? fun v=>decide (v.base=id) with|some v=>(2,v.id) |none=>(1,id)
set_option maxHeartbeats 4000000 in
theorem Q8 (s:Ax) (hs:AS s) (hx:Bk s) (hok:A5 s):Aa pg 60 [.agg (An false s)] [] (fun r _=>r= .agg (In (Bl s))):=by
 have h1:=hs.1
 have hkp:0≤s.keep∧s.keep≤1000000:=⟨by have:=hok.1.1.1;omega,by have:=hok.1.1.2.1;omega⟩
 have spW:=WP s true hs hkp
 simp only[Bool.not_true] at spW
 have hwl:(C7 s false).length≤s.vers.length:=Fy ..
 obtain⟨a,ha⟩:∃a,a=Bl s:=⟨_,rfl⟩
 have hfo:a=match (C7 s false).find? (J9 s) with|some id=>Dt s id|none=>(0,0):=by rw[ha];rfl
 rw[←ha]
 obtain⟨w,hw⟩:∃w,w=C7 s false:=⟨_,rfl⟩
 rw[←hw] at spW hwl hfo
 refine Aa.start (fn:=Tryz.f60) [.cell 2 103] tk rfl rfl rfl (by kernel_rfl) (Nat.le_of_ble_eq_true rfl) rfl (by kernel_rfl) ?_
 rw[Av]
 refine z2 ?_;intro K hK;refine zk ?_;clear hK K
 refine z0 ?_;intro K hK
 refine Ab.eq spW (by simp) (by simp) ?_
 refine zx ?_
 refine zk ?_;clear hK K
 refine zs ?_
 (repeat refine W.seq ?_);refine W.block (W.loopS (fun k:Nat=> [(1,.ptr 0 0 0),(2,.ptr 1 0 0),(3,.tok 2 0 1 0 w.length),(4,.int .i64 k)]) (fun _=> [.live 0 (An false s),.live 0 [.int .i64 0,.int .i64 0],.live 0 (Ae w)]) (fun k=>w.length-k) (fun k=>k≤w.length∧∀x∈w.take k,J9 s x=false) 0 (Wk.fr (by simp[Ad])) ⟨by omega,by simp⟩ ?_)
 rintro k ⟨hk,hno⟩
 by_cases c1:k<w.length
 rotate_left
 .have hke:k=w.length:=by omega
  have hf:w.find? (J9 s)=none:=by
   rw[List.find?_eq_none]
   intro x hx
   rw[List.take_of_length_le (by omega)] at hno
   simpa using hno x hx
  rw[hf] at hfo
  subst hfo
  refine Af c1 ?_;intro K hK
  refine zk ?_;clear hK K
  refine zn ?_
  refine W.exit ?_
  refine z0 ?_;intro K hK
  refine zk ?_;clear hK K
  exact zR
 obtain⟨id,Bm⟩:∃id,id=w[k]:=⟨_,rfl⟩
 have g1:(Ae w)[k]?=some (.int .i64 id):=by rw[Bm];simp[c1,Ae]
 obtain⟨b,hb⟩:∃b,b=Dt s id:=⟨_,rfl⟩
 have spA:=RS s b.1 b.2 hs hx hok
 have hoa:J9 s id=decide ((B1 s b.1 b.2).2=0):=by rw[hb];rfl
 have hin:=Hf (k:=b.1) (id:=b.2) hs hx hok
 obtain⟨y,hy⟩:∃y,y=(B1 s b.1 b.2).1:=⟨_,rfl⟩
 obtain⟨e,he⟩:∃e,e=(B1 s b.1 b.2).2:=⟨_,rfl⟩
 rw[←hy,←he] at spA
 rw[←he] at hoa
 refine Af c1 ?_;intro K hK
 refine zk ?_;clear hK K
 refine zt ?_
 refine W.skip ?_
 refine zb ?_
 refine JH (an c1 g1) ?_;intro K hK
 refine zk ?_;clear hK K
 refine z0 ?_;intro K hK
 refine zk ?_;clear hK K
 refine W.midS (fun _:Unit=> [(1,.ptr 0 0 0),(2,.ptr 1 0 0),(3,.tok 2 0 1 0 w.length),(4,.int .i64 k),(5,.ptr 3 0 0)]) (fun _=> [.live 0 (An false s),.live 0 [.int .i64 0,.int .i64 0],.live 0 (Ae w),.live 0 (In b)]) (fun _=>True) ?_ ?_
 .have e9:H0 s id s.vers.length=(1,id):=by unfold H0;rw[List.drop_length];rfl
  (repeat refine W.seq ?_);refine W.block (W.loopS (fun j:Nat=> [(1,.ptr 0 0 0),(2,.ptr 1 0 0),(3,.tok 2 0 1 0 w.length),(4,.int .i64 k),(5,.ptr 3 0 0),(6,.int .i64 ((s.vers.length:Int)-1-j))]) (fun j=> [.live 0 (An false s),.live 0 [.int .i64 0,.int .i64 0],.live 0 (Ae w),.live 0 (In (H0 s id (s.vers.length-j)))]) (fun j=>s.vers.length-j) (fun j=>j≤s.vers.length) 0 (Wk.cutM (k:=4) (by simp[Ad]) (by simp[e9]) (by simp) (by simp) (by simp) (by simp)) (by omega) ?_)
  intro j hj
  by_cases c2:j<s.vers.length
  rotate_left
  .have hje:j=s.vers.length:=by omega
   subst hje
   have e0:¬(0:Int)≤(s.vers.length:Int)-1-(s.vers.length:Int):=by omega
   have eb:H0 s id (s.vers.length-s.vers.length)=b:=by rw[Nat.sub_self,hb];rfl
   rw[eb]
   refine Af e0 ?_;intro K hK
   refine zk ?_;clear hK K
   refine zn ?_
   refine W.exit ?_
   exact⟨(),trivial,Wk.fr (by simp[Ad])⟩
  obtain⟨m,hm⟩:∃m:Nat,(s.vers.length:Int)-1-j=(m:Int):=⟨s.vers.length-1-j,by omega⟩
  have hml:m<s.vers.length:=by omega
  have hdr:s.vers.length-j=m+1:=by omega
  have hdr2:s.vers.length-(j+1)=m:=by omega
  have hst:H0 s id m=if s.vers[m].base=id then(2,s.vers[m].id) else H0 s id (m+1):=by
   unfold H0
   rw[List.drop_eq_getElem_cons hml,List.find?_cons]
   by_cases h:s.vers[m].base=id
   .rw[decide_eq_true h,if_pos h]
   .rw[decide_eq_false h,if_neg h]
  have v0:(Ac Ar s.vers)[m*8]?=some (.int .i64 s.vers[m].id):=AE (f:=Ar) (s:=8) (fun _=>rfl) hml (i:=0) (by omega)
  have v2:(Ac Ar s.vers)[m*8+2]?=some (.int .i64 s.vers[m].base):=AE (f:=Ar) (s:=8) (fun _=>rfl) hml (i:=2) (by omega)
  rw[hm,hdr]
  refine z0 ?_;intro K hK
  refine zk ?_;clear hK K
  refine zt ?_
  refine W.skip ?_
  refine zb ?_
  (repeat refine W.seq ?_);refine W.midS (fun q:Bool=> [(1,.ptr 0 0 0),(2,.ptr 1 0 0),(3,.tok 2 0 1 0 w.length),(4,.int .i64 k),(5,.ptr 3 0 0),(6,.int .i64 m),(40,.bool q)]) (fun _=> [.live 0 (An false s),.live 0 [.int .i64 0,.int .i64 0],.live 0 (Ae w),.live 0 (In (H0 s id (m+1)))]) (fun q=>q=decide (s.vers[m].base=id)) ?_ ?_
  .refine Ba (an hml (an v2 (an c1 g1))) ?_;intro K hK
   refine zk ?_;clear hK K
   exact⟨_,rfl,Wk.fr (by simp[Ad])⟩
  rintro q hq
  by_cases hbm:s.vers[m].base=id
  .rw[if_pos hbm] at hst
   rw[decide_eq_true hbm] at hq
   subst hq
   refine zt ?_
   refine Af (an hml v0) ?_;intro K hK
   refine zk ?_;clear hK K
   refine zs ?_
   exact⟨j+1,by omega,by omega,Wk.cutM (k:=4) (by simp[Ad];omega) (by simp[hdr2,hst]) (by simp) (by simp) (by simp) (by simp)⟩
  .rw[if_neg hbm] at hst
   rw[decide_eq_false hbm] at hq
   subst hq
   refine zn ?_
   refine W.skip ?_
   refine zs ?_
   exact⟨j+1,by omega,by omega,Wk.cutM (k:=4) (by simp[Ad];omega) (by simp[hdr2,hst]) (by simp) (by simp) (by simp) (by simp)⟩
 rintro _ _
 cases hoc:J9 s id
 .rw[hoc] at hoa
  have hne:¬e=0:=by simpa using hoa.symm
  refine z1 ?_;intro K hK
  refine Ab.eq spA (by simp) (by simp) ?_
  refine zx ?_
  refine zk ?_;clear hK K
  refine Af hne ?_;intro K hK
  refine zk ?_;clear hK K
  refine zn ?_
  refine W.skip ?_
  refine zs ?_
  exact⟨k+1,by omega,⟨by omega,HU c1 hno (by rw[←Bm];exact hoc)⟩,Wk.cutM (k:=3) (by simp[Ad]) (by simp) (by simp) (by simp) (by simp) (by simp)⟩
 .rw[hoc] at hoa
  have hne:e=0:=by simpa using hoa.symm
  have hf:=Hq c1 hno (by rw[←Bm];exact hoc)
  rw[hf] at hfo
  simp only[←Bm,←hb] at hfo
  subst hfo
  refine z1 ?_;intro K hK
  refine Ab.eq spA (by simp) (by simp) ?_
  refine zx ?_
  refine zk ?_;clear hK K
  refine Af hne ?_;intro K hK
  refine zk ?_;clear hK K
  refine zt ?_
  refine z0 ?_;intro K hK
  refine zk ?_;clear hK K
  exact zR
def Hw (s:Ax) (n:Nat):Ax:=(BF s n).getLast?.getD s
set_option maxHeartbeats 4000000 in
theorem Vb (s:Ax) (n:Nat) (hs:AS s) (hx:Bk s) (hok:A5 s) (hn:n≤1000):Aa pg 63 [.agg (An false s),.int .i64 n] [] (fun r _=>r= .tup [.agg (An (decide (0<(BF s n).length)) (Hw s n)),.int .i64 (BF s n).length]):=by
 refine Aa.start (fn:=Tryz.f63) [.cell 4 38,.tmp 5] tk rfl rfl rfl (by kernel_rfl) (Nat.le_of_ble_eq_true rfl) rfl (by kernel_rfl) ?_
 rw[At]
 refine z2 ?_;intro K hK;refine zk ?_;clear hK K
 refine zs ?_
 (repeat refine W.seq ?_);refine W.block (W.loopS (fun z:Nat×Ax=> [(1,.int .i64 n),(2,.ptr 0 0 0),(4,.ptr 1 0 0),(6,.int .i64 z.1)]) (fun z=>if z.1=0 then [.live 0 (An false s),.live 0 [.int .i64 0,.int .i64 0,.own 8 0 [],.own 12 0 []]] else [.live 0 (Bo 2 3 z.2),.live 0 [.int .i64 0,.int .i64 0,.own 8 0 [],.own 12 0 []],.live 0 (Ac Ar z.2.vers),.live 0 (Ac (Aq true) z.2.sess)]) (fun z=>n-z.1) (fun z=>z.1≤n∧A5 z.2∧AS z.2∧Bk z.2∧(z.1=0→z.2=s)∧(0<z.1→∃L:List Ax,L.length+1=z.1∧L++z.2::BF z.2 (n-z.1)=BF s n)) (0,s) (Wk.fr (by simp[Ad])) ⟨by omega,hok,hs,hx,fun _=>rfl,fun h=>by simp at h⟩ ?_)
 have rnV:=fun(K:List (Nat×Nat)) (y:Ax)=>Kv K (xs:=Ac Ar y.vers) (by simp)
 have rnS:=fun(K:List (Nat×Nat)) (y:Ax)=>Kv K (xs:=Ac (Aq true) y.sess) (by simp)
 rintro⟨k,c⟩ ⟨hk,hcok,hcs,hcx,hc0,hcL⟩
 simp only at hk hcok hcs hcx hc0 hcL ⊢
 have spF:=Q8 c hcs hcx hcok
 obtain⟨a,ha⟩:∃a,a=Bl c:=⟨_,rfl⟩
 rw[←ha] at spF
 have spD:=RS c a.1 a.2 hcs hcx hcok
 have hyin:=Hf (k:=a.1) (id:=a.2) hcs hcx hcok
 have hyok:=fun h:a.1≠0=>Pm (k:=a.1) (id:=a.2) hcok (by rw[ha] at h ⊢;exact J8 h)
 obtain⟨y,hy⟩:∃y,y=(B1 c a.1 a.2).1:=⟨_,rfl⟩
 obtain⟨e,he⟩:∃e,e=(B1 c a.1 a.2).2:=⟨_,rfl⟩
 rw[←hy,←he] at spD
 rw[←hy] at hyin
 simp only[←hy] at hyok
 by_cases k0:k=0
 .have hcs0:=hc0 k0
  subst hcs0
  subst k0
  simp only[if_true]
  by_cases c1:0<n
  rotate_left
  .have hn0:n=0:=by omega
   subst hn0
   refine z0 ?_;intro K hK
   refine zk ?_;clear hK K
   refine zn ?_
   refine W.exit ?_
   refine z0 ?_;intro K hK
   refine zk ?_;clear hK K
   refine zr ?_
   simp[BF,Hw]
  refine Af c1 ?_;intro K hK
  refine zk ?_;clear hK K
  refine zt ?_
  refine W.skip ?_
  refine zb ?_
  refine z1 ?_;intro K hK
  refine Ab.eq spF (by simp) (by simp) ?_
  refine zx ?_
  refine zk ?_;clear hK K
  by_cases c2:a.1=0
  .have hr0:BF c n=[]:=KU n (by rw[←ha];exact c2)
   refine Af c2 ?_;intro K hK
   refine zk ?_;clear hK K
   refine zt ?_
   refine W.exit ?_
   refine z0 ?_;intro K hK
   refine zk ?_;clear hK K
   refine zr ?_
   simp[hr0,Hw]
  have hrow:BF c n=y::BF y (n-1):=by
   obtain⟨m,rfl⟩:∃m,n=m+1:=⟨n-1,by omega⟩
   rw[Jd (by rw[←ha];exact c2),←ha,←hy];simp
  refine Af c2 ?_;intro K hK
  refine zk ?_;clear hK K
  refine zn ?_
  refine W.skip ?_
  refine z0 ?_;intro K hK
  refine Ab.eq spD (by simp) (by simp) ?_
  refine zx ?_
  refine zk ?_;clear hK K
  refine zs ?_
  have hyk:=hyok c2
  refine⟨(1,y),by simp only;omega,⟨by simp only;omega,hyk.1,hyin.1,hyin.2,by simp,fun _=>⟨[],rfl,by simp only[List.nil_append];rw[hrow]⟩⟩,?_⟩
  refine Wk.perm [(0,0),(1,0),(3,0),(4,0)] [Bo 3 4 y,[.int .i64 0,.int .i64 0,.own 8 0 [],.own 12 0 []],Ac Ar y.vers,Ac (Aq true) y.sess] (by decide) ?_ ?_ ?_
  .simp[N6,Ai,Bo]
  .simp[LI,rn,Fm,List.findIdx?_cons]
  .simp[Gf,rn,Fm,Bo,List.findIdx?_cons,rnV,rnS]
 simp only[if_neg k0]
 obtain⟨L,hL,hLr⟩:=hcL (by omega)
 simp only[Bo]
 by_cases c1:k<n
 rotate_left
 .have hkn:k=n:=by omega
  subst hkn
  have hfin:BF s k=L++[c]:=by rw[←hLr,Nat.sub_self];simp[BF]
  refine Af c1 ?_;intro K hK
  refine zk ?_;clear hK K
  refine zn ?_
  refine W.exit ?_
  refine z0 ?_;intro K hK
  refine zk ?_;clear hK K
  refine zr ?_
  simp[hfin,Hw,hL,show 0<k by omega]
 refine Af c1 ?_;intro K hK
 refine zk ?_;clear hK K
 refine zt ?_
 refine W.skip ?_
 refine zb ?_
 refine z1 ?_;intro K hK
 refine Ab.eq spF (by simp) (by simp) ?_
 refine zx ?_
 refine zk ?_;clear hK K
 by_cases c2:a.1=0
 .have hfin:BF s n=L++[c]:=by rw[←hLr,KU (n-k) (by rw[←ha];exact c2)]
  refine Af c2 ?_;intro K hK
  refine zk ?_;clear hK K
  refine zt ?_
  refine W.exit ?_
  refine z0 ?_;intro K hK
  refine zk ?_;clear hK K
  refine zr ?_
  simp[hfin,Hw,hL,show 0<k by omega]
 refine Af c2 ?_;intro K hK
 refine zk ?_;clear hK K
 refine zn ?_
 refine W.skip ?_
 refine z0 ?_;intro K hK
 refine Ab.eq spD (by simp) (by simp) ?_
 refine zx ?_
 refine zk ?_;clear hK K
 refine zs ?_
 have hyk:=hyok c2
 have hrow:BF c (n-k)=y::BF y (n-(k+1)):=by
  obtain⟨m,hm⟩:∃m,n-k=m+1:=⟨n-k-1,by omega⟩
  rw[hm,Jd (by rw[←ha];exact c2),←ha,←hy,show n-(k+1)=m by omega]
 refine⟨(k+1,y),by simp only;omega,⟨by simp only;omega,hyk.1,hyin.1,hyin.2,by simp,fun _=>⟨L++[c],by simp only[List.length_append,List.length_singleton];omega,by simp only;rw[←hLr,hrow];simp⟩⟩,?_⟩
 refine Wk.perm [(0,0),(1,0),(5,0),(6,0)] [Bo 5 6 y,[.int .i64 0,.int .i64 0,.own 8 0 [],.own 12 0 []],Ac Ar y.vers,Ac (Aq true) y.sess] (by decide) ?_ ?_ ?_
 .simp[N6,Ai,Bo]
 .simp[LI,rn,Fm,List.findIdx?_cons]
 .simp[Gf,rn,Fm,Bo,List.findIdx?_cons,rnV,rnS]
end Go.Abs
set_option maxRecDepth 100000
namespace Go.Abs
open Go.Proofs
theorem Na (hR:By) (s:Ax) (hs:AS s) (hx:Bk s):Aa pg 58 [.agg (An false s)] [] (fun r _=>r= .tup [.agg (In (if A5 s then Bl s else(0,0))),.int .i64 (if A5 s then 0 else 1)]):=by
 have spM:=IZ hR s hs hx
 refine Aa.start (fn:=Tryz.f58) [.cell 2 103,.tmp 3] tk rfl rfl rfl (by kernel_rfl) (Nat.le_of_ble_eq_true rfl) rfl (by kernel_rfl) ?_
 rw[Av]
 refine z2 ?_;intro K hK;refine zk ?_;clear hK K
 by_cases h:A5 s
 .rw[decide_eq_true h] at spM
  have spF:=Lg hR s hs hx h
  simp only[if_pos h]
  refine z0 ?_;intro K hK
  refine Ab.eq spM (by simp) (by simp) ?_
  refine zx ?_
  refine zk ?_;clear hK K
  refine zn ?_
  refine W.skip ?_
  refine z0 ?_;intro K hK
  refine Ab.eq spF (by simp) (by simp) ?_
  refine zx ?_
  refine zk ?_;clear hK K
  exact zR
 .rw[decide_eq_false h] at spM
  simp only[if_neg h]
  refine z0 ?_;intro K hK
  refine Ab.eq spM (by simp) (by simp) ?_
  refine zx ?_
  refine zk ?_;clear hK K
  refine zt ?_
  refine z0 ?_;intro K hK
  refine zk ?_;clear hK K
  exact zR
theorem Q9 (hR:By) (s:Ax) (hs:AS s) (hx:Bk s):Aa pg 56 [.agg (An false s)] [] (fun r _=>r= .tup [.bool (decide (A5 s∧(Bl s).1=0)),.int .i64 (if A5 s then 0 else 1)]):=by
 have spN:=Na hR s hs hx
 refine Aa.start (fn:=Tryz.f56) [.tmp 2,.tmp 3] tk rfl rfl rfl (by kernel_rfl) (Nat.le_of_ble_eq_true rfl) rfl (by kernel_rfl) ?_
 rw[Av]
 refine z1 ?_;intro K hK;refine zk ?_;clear hK K
 by_cases h:A5 s
 .simp only[if_pos h] at spN ⊢
  refine z1 ?_;intro K hK
  refine Ab.eq spN (by simp) (by simp) ?_
  refine zx ?_
  refine zk ?_;clear hK K
  refine z0 ?_;intro K hK
  refine zk ?_;clear hK K
  refine zr ?_
  simp[h]
 .simp only[if_neg h] at spN ⊢
  refine z1 ?_;intro K hK
  refine Ab.eq spN (by simp) (by simp) ?_
  refine zx ?_
  refine zk ?_;clear hK K
  refine z0 ?_;intro K hK
  refine zk ?_;clear hK K
  refine zr ?_
  simp[h]
theorem Vc (hR:By) (s:Ax) (hs:AS s) (hx:Bk s):Aa pg 55 [.agg (An false s)] [] (fun r _=>r= .tup [.int .i64 (if A5 s then(s.vers.length:Int)*4 else 0),.int .i64 (if A5 s then 0 else 1)]):=by
 have spM:=IZ hR s hs hx
 have h1:=hs.1
 refine Aa.start (fn:=Tryz.f55) [.tmp 2,.tmp 3] tk rfl rfl rfl (by kernel_rfl) (Nat.le_of_ble_eq_true rfl) rfl (by kernel_rfl) ?_
 rw[Av]
 refine z1 ?_;intro K hK;refine zk ?_;clear hK K
 by_cases h:A5 s
 .rw[decide_eq_true h] at spM
  simp only[if_pos h]
  refine z0 ?_;intro K hK
  refine Ab.eq spM (by simp) (by simp) ?_
  refine zx ?_
  refine zk ?_;clear hK K
  refine zn ?_
  refine W.skip ?_
  refine z0 ?_;intro K hK
  refine zk ?_;clear hK K
  exact zR
 .rw[decide_eq_false h] at spM
  simp only[if_neg h]
  refine z0 ?_;intro K hK
  refine Ab.eq spM (by simp) (by simp) ?_
  refine zx ?_
  refine zk ?_;clear hK K
  refine zt ?_
  refine z0 ?_;intro K hK
  refine zk ?_;clear hK K
  exact zR
theorem ax (hR:By) (s:Ax) (k id:Int) (hs:AS s) (hx:Bk s):Aa pg 59 [.agg (An false s),.agg [.int .i64 k,.int .i64 id]] [] (fun r _=>r= .tup [.agg (An true (if A5 s then(B1 s k id).1 else AD)),.int .i64 (if A5 s then(B1 s k id).2 else 1)]):=by
 have spM:=IZ hR s hs hx
 refine Aa.start (fn:=Tryz.f59) [.cell 4 38,.tmp 5] tk rfl rfl rfl (by kernel_rfl) (Nat.le_of_ble_eq_true rfl) rfl (by kernel_rfl) ?_
 rw[At]
 refine z3 ?_;intro K hK;refine zk ?_;clear hK K
 by_cases h:A5 s
 .rw[decide_eq_true h] at spM
  have spD:=Pt hR s k id hs hx h
  simp only[if_pos h]
  refine z0 ?_;intro K hK
  refine Ab.eq spM (by simp) (by simp) ?_
  refine zx ?_
  refine zk ?_;clear hK K
  refine zn ?_
  refine W.skip ?_
  refine z0 ?_;intro K hK
  refine Ab.eq spD (by simp) (by simp) ?_
  refine zx ?_
  refine zk ?_;clear hK K
  exact zR
 .rw[decide_eq_false h] at spM
  simp only[if_neg h]
  refine z0 ?_;intro K hK
  refine Ab.eq spM (by simp) (by simp) ?_
  refine zx ?_
  refine zk ?_;clear hK K
  refine zt ?_
  refine z0 ?_;intro K hK
  refine zk ?_;clear hK K
  refine W.weak ((Wk.thaw (B:=2) (v:=0) (j:=2) (s:=8) (n:=0) (xs:=[]) rfl rfl).trans (Wk.thaw (B:=2) (v:=0) (j:=3) (s:=12) (n:=0) (xs:=[]) rfl rfl)) ?_
  refine zr ?_
  simp[AD]
end Go.Abs
