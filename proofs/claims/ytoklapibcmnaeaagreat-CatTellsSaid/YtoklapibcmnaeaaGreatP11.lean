/- References: runs and others joined. -/
import Derived.Test.YtoklapibcmnaeaaGreatP10
set_option linter.unusedVariables false
set_option linter.unusedSimpArgs false
set_option maxRecDepth 100000
namespace Go.Abs
open Go.Proofs
def AD (p:Int→Bool):List Bool:=(List.range 16).map fun(i:Nat)=>p (i:Int)
@[simp] theorem O1 (p:Int→Bool):(AD p).length=16:=by simp[AD]
theorem H7 (p:Int→Bool) (i:Nat) (h:i<16):(AD p)[i]?=some (p i):=by simp[AD,h]
theorem NX (p:Int→Bool) (i:Nat) (h:i<16):(AD p).set i true=AD fun j=>p j||decide (j=(i:Int)):=by
 refine List.ext_getElem (by simp) fun j h1 h2=>?_
 simp only[O1] at h2
 rw[List.getElem_set]
 by_cases e:i=j
 .subst e;simp[AD]
 .rw[if_neg e]
  simp only[AD,List.getElem_map,List.getElem_range]
  have:¬(j:Int)=(i:Int):=by omega
  simp[this]
def H8 (p:Int→Bool) (a:Int) (k:Nat):Int→Bool:=fun j=>p j||decide (a≤j∧j<a+(k:Int))
def CY (p:Int→Bool) (l:List Int):Int→Bool:=fun j=>p j||l.contains j
def BD (p:Int→Bool) (i:Nat):List Int:=((List.range i).map fun i=>((i:Nat):Int)).filter p
theorem H9 (p:Int→Bool) (i:Nat):BD p (i+1)=BD p i++if p i=true then [(i:Int)] else []:=by
 unfold BD
 rw[List.range_succ,List.map_append,List.filter_append]
 congr 1
 simp only[List.map_cons,List.map_nil,List.filter_cons,List.filter_nil]
theorem IM (p:Int→Bool) (i:Nat):(BD p i).length≤i:=by
 unfold BD
 exact Nat.le_trans (List.length_filter_le _ _) (by simp)
def D7 (p:Int→Bool) (i:Int):Int→Bool:=fun j=>p j||decide (j=i)
theorem Dc {p q:Int→Bool} (h:∀i,0≤i→i<16→p i=q i):AD p=AD q:=by
 unfold AD
 refine List.map_congr_left fun i hi=>h _ (by omega) (by simp at hi;omega)
theorem Fv (p:Int→Bool) (i:Nat) (h:i<16):(AD p).set i true=AD (D7 p i):=NX p i h
def G9 (r:List (Int×Int)) (i:Nat) (h:i<r.length):Prop:=0≤r[i].1∧r[i].1<16∧3≤r[i].2∧r[i].2≤16-r[i].1∧(0<i→r[i-1].1+r[i-1].2<r[i].1)
theorem Js:∀(r:List (Int×Int)) (e:Int),Dy r e↔((∀h:0<r.length,e<r[0].1)∧∀i (h:i<r.length),G9 r i h)
 | [],e=>by simp[Dy]
 | (a,n)::t,e=>by
   simp only[Dy,Js t (a+n)]
   constructor
   .rintro⟨h1,h2,h3,h4,h5,h6,h7⟩
    refine⟨fun _=>h5,fun i h=>?_⟩
    cases i with
    |zero=>exact⟨h1,h2,h3,h4,fun h=>by omega⟩
    |succ i=>
     have hi:i<t.length:=by simpa using h
     obtain⟨k1,k2,k3,k4,k5⟩:=h7 i hi
     refine⟨by simpa using k1,by simpa using k2,by simpa using k3,by simpa using k4,fun _=>?_⟩
     cases i with
     |zero=>simpa using h6 hi
     |succ i=>simpa using k5 (by omega)
   .rintro⟨h0,h⟩
    obtain⟨h1,h2,h3,h4,_⟩:=h 0 (by simp)
    refine⟨by simpa using h1,by simpa using h2,by simpa using h3,by simpa using h4,h0 (by simp),fun hp=>?_,fun i hi=>?_⟩
    .have:=(h 1 (by simpa using hp)).2.2.2.2 (by omega)
     simpa using this
    .obtain⟨k1,k2,k3,k4,k5⟩:=h (i+1) (by simpa using hi)
     refine⟨by simpa using k1,by simpa using k2,by simpa using k3,by simpa using k4,fun hpos=>?_⟩
     have:=k5 (by omega)
     cases i with
     |zero=>omega
     |succ i=>simpa using this
theorem Jt (r:List (Int×Int)):Dy r (-1)↔∀i (h:i<r.length),G9 r i h:=by
 rw[Js]
 exact⟨fun h=>h.2,fun h=>⟨fun hp=>by have:=(h 0 hp).1;omega,h⟩⟩
def Ug (o:Option (List Int)):AV:=match o with|some l=> .tup [.own 1 l.length (Ad l),.bool true] |none=> .tup [.own 1 0 [],.bool false]
theorem Uh (r:List (Int×Int)) (rest:List Int) (hr:r.length<1000000) (hb:∀q∈r,-1000000000000≤q.1∧q.1≤1000000000000∧-1000000000000≤q.2∧q.2≤1000000000000) (hrl:rest.length<1000000):Aa pg 184 [.ro r.length (Af Al r),.ro rest.length (Ad rest)] [] (fun x _=>x=Ug (C6 r rest)):=by
 refine Aa.start (fn:=Tryz.f184) [.tmp 4,.tmp 5] tk rfl rfl rfl (by kernel_rfl) (Nat.le_of_ble_eq_true rfl) rfl (by kernel_rfl) ?_
 rw[Am]
 refine zs ?_
 by_cases hm:AI rest
 rotate_left
 .refine z0 ?_;intro K hK
  refine Ab.eq (FC rest (by omega)) (by simp) (by simp) ?_
  rw[decide_eq_false hm]
  refine zx ?_
  refine zk ?_;clear hK K
  refine zt ?_
  refine zs ?_
  refine zr ?_
  rw[C6,if_neg (fun h=>hm h.1)];rfl
 have hml:=BQ hm
 refine z0 ?_;intro K hK
 refine Ab.eq (FC rest (by omega)) (by simp) (by simp) ?_
 rw[decide_eq_true hm]
 refine zx ?_
 refine zk ?_;clear hK K
 refine zn ?_
 refine W.skip ?_
 refine z1 ?_;intro K hK
 have e0:[AV.bool false,AV.bool false,AV.bool false,AV.bool false,AV.bool false,AV.bool false,AV.bool false,AV.bool false,AV.bool false,AV.bool false,AV.bool false,AV.bool false,AV.bool false,AV.bool false,AV.bool false,AV.bool false]=Az (AD (Bw (r.take 0))):=rfl
 rw[e0]
 refine zk ?_;clear hK K
 refine zs ?_
 (repeat refine W.seq ?_);refine W.block (W.loopS (fun k:Nat=> [(0,.ro r.length (Af Al r)),(1,.ro rest.length (Ad rest)),(6,.ptr 0 0 0),(7,.int .i64 k)]) (fun k=> [.live 0 (Az (AD (Bw (r.take k))))]) (fun k=>r.length-k) (fun k=>k≤r.length∧∀i (h:i<r.length),i<k→G9 r i h) 0 (Wk.fr (by simp[Ac])) ⟨by omega,fun i h h2=>by omega⟩ ?_)
 .rintro i ⟨hi,hok⟩
  refine zs ?_
  refine zc ?_ ?_<;>intro h
  .refine W.skip ?_
   have hlt:i<r.length:=by omega
   have hbi:=hb _ (List.getElem_mem hlt)
   have bad:¬G9 r i hlt→¬Dy r (-1):=fun g w=>g ((Jt r).1 w i hlt)
   have hto:r.take (i+1)=r.take i++[r[i]]:=by rw[List.take_add_one];simp[hlt]
   refine zb ?_
   (repeat refine W.seq ?_);refine W.reg 1 rfl fun K hK=>?_;simp -implicitDefEqProofs (maxSteps:=999999) (disch:=omega) [hlt]
   refine zk ?_;clear hK K
   have spO:=MJ r[i].1
   by_cases c1:0≤r[i].1∧r[i].1≤15
   rotate_left
   .have hbad:=bad (fun g=>c1 (by have:=g.1;have:=g.2.1;omega))
    rw[decide_eq_false c1] at spO
    refine B8 ?_;intro K hK
    refine Ah.eq spO (by simp) (by simp) ?_
    refine zx ?_
    refine zk ?_;clear hK K
    refine zt ?_
    refine zs ?_
    refine zr ?_
    rw[C6,if_neg (fun h=>hbad h.2.1)];rfl
   rw[decide_eq_true c1] at spO
   by_cases c2:r[i].2<3
   .have hbad:=bad (fun g=>by have:=g.2.2.1;omega)
    refine B8 ?_;intro K hK
    refine Ah.eq spO (by simp) (by simp) ?_
    refine AM c2 ?_
    refine zk ?_;clear hK K
    refine zt ?_
    refine zs ?_
    refine zr ?_
    rw[C6,if_neg (fun h=>hbad h.2.1)];rfl
   by_cases c3:16-r[i].1<r[i].2
   .have hbad:=bad (fun g=>by have:=g.2.2.2.1;omega)
    refine B8 ?_;intro K hK
    refine Ah.eq spO (by simp) (by simp) ?_
    refine AM (an c2 c3) ?_
    refine zk ?_;clear hK K
    refine zt ?_
    refine zs ?_
    refine zr ?_
    rw[C6,if_neg (fun h=>hbad h.2.1)];rfl
   have hbody:G9 r i hlt→True:=fun _=>trivial
   (repeat refine W.seq ?_);refine W.midS (fun b:Bool=> [(0,.ro r.length (Af Al r)),(1,.ro rest.length (Ad rest)),(6,.ptr 0 0 0),(7,.int .i64 i),(8,.ptr 1 0 0),(64,.bool b)]) (fun _=> [.live 0 (Az (AD (Bw (r.take i)))),.live 0 [.int .i64 r[i].1,.int .i64 r[i].2]]) (fun b=>b=true↔¬G9 r i hlt) ?_ ?_
   .by_cases c4:0<i
    .have hbp:=hb _ (List.getElem_mem (show i-1<r.length by omega))
     have hw:IntKind.i64.wrap (r[i-1].1+r[i-1].2)=r[i-1].1+r[i-1].2:=wrap_i64 (by omega) (by omega)
     by_cases c5:r[i].1≤r[i-1].1+r[i-1].2
     .refine B8 ?_;intro K hK
      refine Ah.eq spO (by simp) (by simp) ?_
      refine AM (an c2 (an c3 (an c4 (an c5 (an hlt hw))))) ?_
      refine⟨by omega,?_⟩
      refine zk ?_;clear hK K
      exact⟨true,by simp only[true_iff];exact fun g=>by have:=g.2.2.2.2 c4;omega,Wk.fr (by simp[Ac];rw[hw];exact c5)⟩
     .refine B8 ?_;intro K hK
      refine Ah.eq spO (by simp) (by simp) ?_
      refine AM (an c2 (an c3 (an c4 (an c5 (an hlt hw))))) ?_
      refine⟨by omega,?_⟩
      refine zk ?_;clear hK K
      exact⟨false,by simp only[Bool.false_eq_true,false_iff,Classical.not_not];exact⟨c1.1,by omega,by omega,by omega,fun _=>by omega⟩,Wk.fr (by simp[Ac];rw[hw];omega)⟩
    .refine B8 ?_;intro K hK
     refine Ah.eq spO (by simp) (by simp) ?_
     refine AM (an c2 (an c3 c4)) ?_
     refine zk ?_;clear hK K
     exact⟨false,by simp only[Bool.false_eq_true,false_iff,Classical.not_not];exact⟨c1.1,by omega,by omega,by omega,fun _=>by omega⟩,Wk.fr (by simp[Ac])⟩
   .intro b hbb
    cases b
    rotate_left
    .have hbad:=bad (hbb.1 rfl)
     refine zt ?_
     refine zs ?_
     refine zr ?_
     rw[C6,if_neg (fun h=>hbad h.2.1)];rfl
    .have hgood:G9 r i hlt:=Classical.byContradiction fun g=>by have:=hbb.2 g;simp at this
     refine zn ?_
     refine W.skip ?_
     obtain⟨a,ha⟩:=Int.eq_ofNat_of_zero_le hgood.1
     obtain⟨n,hn⟩:=Int.eq_ofNat_of_zero_le (show 0≤r[i].2 by have:=hgood.2.2.1;omega)
     have han:a+n≤16:=by have:=hgood.2.2.2.1;omega
     refine zs ?_
     have e1:(AD (Bw (r.take i)))=AD (H8 (Bw (r.take i)) a 0):=Dc fun j _ _=>by
      have:decide ((a:Int)≤j∧j<(a:Int)+((0:Nat):Int))=false:=by simp
      rw[H8,this,Bool.or_false]
     rw[e1,ha,hn]
     (repeat refine W.seq ?_);refine W.block (W.loopS (fun k:Nat=> [(0,.ro r.length (Af Al r)),(1,.ro rest.length (Ad rest)),(6,.ptr 0 0 0),(7,.int .i64 i),(8,.ptr 1 0 0),(9,.int .i64 k)]) (fun k=> [.live 0 (Az (AD (H8 (Bw (r.take i)) a k))),.live 0 [.int .i64 a,.int .i64 n]]) (fun k=>n-k) (fun k=>k≤n) 0 (Wk.fr (by simp[Ac])) (Nat.zero_le _) ?_)
     intro k hk
     refine zs ?_
     refine zc ?_ ?_<;>intro h
     .refine W.skip ?_
      have hkn:k<n:=by omega
      have hak:a+k<16:=by omega
      have hti:((a:Int)+k).toNat=a+k:=by omega
      have hset:∀p:Int→Bool,(Az (AD p)).set (a+k) (.bool true)=Az (AD (D7 p ((a:Int)+(k:Int)))):=fun p=>by rw[Ei,Fv _ _ hak,Int.natCast_add]
      refine zb ?_
      refine Ae (an hti (an hset hak)) ?_;intro K hK
      refine⟨by omega,?_⟩
      refine zk ?_;clear hK K
      refine zs ?_
      have e2:AD (D7 (H8 (Bw (r.take i)) a k) ((a:Int)+(k:Int)))=AD (H8 (Bw (r.take i)) a (k+1)):=Dc fun j _ _=>by
       simp only[D7,H8]
       rw[Bool.or_assoc]
       congr 1
       rw[←Bool.decide_or,decide_eq_decide]
       omega
      rw[e2]
      exact⟨k+1,by omega,by omega,Wk.fr (by simp[Ac])⟩
     .refine W.exit ?_
      have hk' :k=n:=by omega
      subst hk'
      have e3:(AD (H8 (Bw (r.take i)) a k))=AD (Bw (r.take (i+1))):=Dc fun j _ _=>by
       rw[hto]
       simp only[H8,Bw,List.any_append,List.any_cons,List.any_nil,Bool.or_false,ha,hn]
      rw[e3]
      refine zs ?_
      exact⟨i+1,by omega,⟨by omega,fun t ht h2=>by
       by_cases e:t=i
       .subst e;exact hgood
       .exact hok t ht (by omega)⟩,Wk.cutM (k:=1) (by simp[Ac]) (by simp) (by simp) (by simp) (by simp) (by simp)⟩
  .refine W.exit ?_
   have hi' :i=r.length:=by omega
   subst hi'
   have hR:Dy r (-1):=(Jt r).2 fun t ht=>hok t ht ht
   have e4:AD (Bw (r.take r.length))=AD (CY (Bw r) (rest.take 0)):=Dc fun j _ _=>by simp[CY]
   rw[e4]
   refine zs ?_
   (repeat refine W.seq ?_);refine W.block (W.loopS (fun k:Nat=> [(1,.ro rest.length (Ad rest)),(6,.ptr 0 0 0),(10,.int .i64 k)]) (fun k=> [.live 0 (Az (AD (CY (Bw r) (rest.take k))))]) (fun k=>rest.length-k) (fun k=>k≤rest.length∧∀t (h:t<rest.length),t<k→Bw r rest[t]=false) 0 (Wk.fr (by simp[Ac])) ⟨by omega,fun t h h2=>by omega⟩ ?_)
   .rintro k ⟨hk,hno⟩
    refine zs ?_
    refine zc ?_ ?_<;>intro h
    .refine W.skip ?_
     have hkl:k<rest.length:=by omega
     have hw:=hm.1 _ (List.getElem_mem hkl)
     obtain⟨w,hwe⟩:=Int.eq_ofNat_of_zero_le hw.1
     have hw16:w<16:=by omega
     have hnc:(rest.take k).contains (w:Int)=false:=by
      rw[Bool.eq_false_iff]
      intro hc
      simp only[List.contains_eq_mem,decide_eq_true_eq] at hc
      obtain⟨t,ht,hte⟩:=List.mem_iff_getElem.1 hc
      simp at ht hte
      have:=List.pairwise_iff_getElem.1 hm.2 t k (by omega) hkl (by omega)
      omega
     have hto2:rest.take (k+1)=rest.take k++[(w:Int)]:=by rw[List.take_add_one];simp[hkl,hwe]
     have hget:(AD (CY (Bw r) (rest.take k)))[w]?=some (Bw r (w:Int)):=by rw[H7 _ _ hw16];simp only[CY,hnc,Bool.or_false]
     refine zb ?_
     cases hin:Bw r (w:Int)
     .rw[hin] at hget
      refine Ae (an hkl (an hwe hget)) ?_;intro K hK
      refine zk ?_;clear hK K
      refine zn ?_
      refine W.skip ?_
      have hset:∀p:Int→Bool,(Az (AD p)).set w (.bool true)=Az (AD (D7 p (w:Int))):=fun p=>by rw[Ei,Fv _ _ hw16]
      have e5:AD (D7 (CY (Bw r) (rest.take k)) (w:Int))=AD (CY (Bw r) (rest.take (k+1))):=Dc fun j _ _=>by
       rw[hto2]
       simp only[D7,CY,Bool.or_assoc]
       congr 1
       rw[Bool.eq_iff_iff]
       simp
      refine Ae (an hkl (an hwe (an hset hw16))) ?_;intro K hK
      refine zk ?_;clear hK K
      refine zs ?_
      rw[e5]
      refine⟨k+1,by omega,⟨by omega,fun t ht h2=>?_⟩,Wk.fr (by simp[Ac])⟩
      by_cases e:t=k
      .subst e;rw[hwe];exact hin
      .exact hno t ht (by omega)
     .rw[hin] at hget
      refine Ae (an hkl (an hwe hget)) ?_;intro K hK
      refine zk ?_;clear hK K
      refine zt ?_
      refine zs ?_
      refine zr ?_
      rw[C6,if_neg]
      .rfl
      .intro h
       have:=h.2.2 _ (List.getElem_mem hkl)
       rw[hwe,hin] at this
       simp at this
    .refine W.exit ?_
     have hk' :k=rest.length:=by omega
     subst hk'
     rw[List.take_length]
     have hj:C6 r rest=some (BD (CY (Bw r) rest) 16):=by
      rw[C6,if_pos ⟨hm,hR,fun x hx=>by
       obtain⟨t,ht,rfl⟩:=List.mem_iff_getElem.1 hx
       exact hno t ht ht⟩]
      rfl
     rw[hj]
     generalize CY (Bw r) rest=q
     refine zs ?_
     refine zs ?_
     (repeat refine W.seq ?_);refine W.block (W.loopS (fun k:Nat=> [(6,.ptr 0 0 0),(11,.tok 1 (BD q k).length 1 0 (BD q k).length),(12,.int .i64 k)]) (fun k=> [.live 0 (Az (AD q)),.live (BD q k).length (Ad (BD q k))]) (fun k=>16-k) (fun k=>k≤16) 0 ((Wk.nil (t:=11) (s:=1) (by simp)).trans (Wk.fr (by simp[Ac,BD]))) (by simp) ?_)
     intro k hk
     have htl:=IM q k
     refine zs ?_
     refine zc ?_ ?_<;>intro h
     .refine W.skip ?_
      have hlt:k<16:=by omega
      have hget:(AD q)[k]?=some (q (k:Int)):=H7 _ _ hlt
      have hsu:=H9 q k
      refine zb ?_
      cases hq:q (k:Int)
      .rw[hq] at hget hsu
       refine Ae (an hget hlt) ?_;intro K hK
       refine zk ?_;clear hK K
       refine zn ?_
       refine W.skip ?_
       refine zs ?_
       refine⟨k+1,by omega,by omega,?_⟩
       rw[hsu]
       simp only[Bool.false_eq_true,if_false,List.append_nil]
       exact Wk.fr (by simp[Ac])
      .rw[hq] at hget hsu
       refine Ae (an hget hlt) ?_;intro K hK
       refine zk ?_;clear hK K
       refine zt ?_
       refine z1 ?_;intro K hK
       refine⟨by omega,by omega,?_⟩
       refine zk ?_;clear hK K
       refine zs ?_
       refine⟨k+1,by omega,by omega,?_⟩
       rw[hsu]
       simp only[if_true,List.length_append,List.length_singleton]
       refine Wk.cutM (k:=2) (by simp[Ac]) ?_ (by simp) (by simp) (by simp) (by simp)
       simp[Ad]
     .refine W.exit ?_
      have hk' :k=16:=by omega
      subst hk'
      refine zs ?_
      refine zr ?_
      rfl
end Go.Abs
set_option maxRecDepth 100000
namespace Go.Abs
open Go.Proofs
theorem Sf (v:Int) (l:List Int) (hv:0≤v∧v≤16) (hl:AI l):Aa pg 167 [.own 1 0 [],.int .i64 v,.ro l.length (Ad l)] [] (fun r _=>r= .own 1 (BL v l).length (AK (BL v l))):=by
 have h:=Aa.nil (by simpa using Uf [] 0 v l (by simp) hv hl)
 simpa using h
theorem O2 {r:List (Int×Int)} {g l:List Int} (h:C6 r g=some l):AI l:=by
 unfold C6 at h
 split at h
 .simp at h;subst h;exact Lm _
 .simp at h
theorem Ju (bs:List Bool) (p:Nat) (v:Int) (hb:bs.length<1000000000) (hp:p≤bs.length) (hv:0≤v∧v≤16):Aa pg 145 [.ro bs.length (AK bs),.int .i64 p,.int .i64 v] [] (fun r _=>r=CS (Bo bs p v)):=by
 refine Aa.start (fn:=Tryz.f145) [.tmp 6,.tmp 7,.tmp 8] tk rfl rfl rfl (by kernel_rfl) (Nat.le_of_ble_eq_true rfl) rfl (by kernel_rfl) ?_
 rw[Bq]
 refine zs ?_
 refine zs ?_
 refine z0 ?_;intro K hK
 have sp:=En bs p hb hp
 cases hg:AH bs p with
 |none=>
  simp only[hg,ES] at sp
  refine Ab.eq sp (by simp) (by simp) ?_
  refine zx ?_
  refine zk ?_;clear hK K
  refine zs ?_
  refine zt ?_
  refine zs ?_
  refine zr ?_
  simp[Bo,hg,CS]
 |some x=>
  simp only[hg,ES] at sp
  obtain⟨hx1,hx2,hx3,hx4,_⟩:=AJ hg
  refine Ab.eq sp (by simp) (by simp) ?_
  refine zx ?_
  refine zk ?_;clear hK K
  by_cases hle:x.1≤17
  rotate_left
  .have h1:¬(x.1:Int)<1:=by omega
   have h2:(16:Int)<(x.1:Int)-1:=by omega
   refine Ae (an h1 h2) ?_;intro K hK
   refine zk ?_;clear hK K
   refine zt ?_
   refine zs ?_
   refine zr ?_
   simp only[Bo,hg];rw[if_neg hle];simp[CS]
  have h1:¬(x.1:Int)<1:=by omega
  have h2:¬(16:Int)<(x.1:Int)-1:=by omega
  refine Ae (an h1 h2) ?_;intro K hK
  refine zk ?_;clear hK K
  refine zn ?_
  refine W.skip ?_
  refine zs ?_
  refine zs ?_
  refine zs ?_
  (repeat refine W.seq ?_);refine W.block (W.loopS (fun s:Nat×List (Int×Int)×Nat×Int=> [(0,.ro bs.length (AK bs)),(1,.int .i64 s.2.2.1),(2,.int .i64 v),(9,.int .i64 p),(10,.int .i64 x.1),(11,.tok 0 s.1 2 0 s.1),(12,.int .i64 s.2.2.2),(13,.int .i64 s.1)]) (fun s=> [.live s.1 (Af Al s.2.1)]) (fun s=>x.1-1-s.1)
    (fun s=>s.1≤x.1-1∧s.2.1.length=s.1∧(p≤s.2.2.1∧s.2.2.1≤bs.length)∧(-(4294967296*((s.1:Int)+1))≤s.2.2.2∧s.2.2.2≤4294967296*((s.1:Int)+1))∧(∀q∈s.2.1,-1000000000000≤q.1∧q.1≤1000000000000∧-1000000000000≤q.2∧q.2≤1000000000000)∧BJ bs (x.1-1) true x.2 v=(BJ bs (x.1-1-s.1) (decide (s.1=0)) s.2.2.1 (if s.1=0 then v else s.2.2.2)).map fun r=>(s.2.1++r.1,r.2)) (0,[],x.2,0) ((Wk.nil (t:=11) (s:=2) (by simp)).trans (Wk.fr (by simp[Ac]))) ⟨by omega,rfl,⟨by simp only;omega,hx4⟩,by simp only;omega,by simp,by simp⟩ ?_)
  rintro⟨k,acc,q,last⟩ ⟨hk,hacc,⟨hpq,hq⟩,hlast,hbnd,hinv⟩
  simp only at hk hacc hpq hq hlast hinv hbnd
  refine zs ?_
  refine zc ?_ ?_<;>intro h
  .refine W.skip ?_
   obtain⟨m,hm⟩:∃m,x.1-1-k=m+1:=⟨x.1-1-k-1,by omega⟩
   have hm' :x.1-1-(k+1)=m:=by omega
   rw[hm] at hinv
   refine zb ?_
   have sp2:=En bs q hb hq
   refine z0 ?_;intro K hK
   cases hg2:AH bs q with
   |none=>
    simp only[hg2,ES] at sp2
    refine Ab.eq sp2 (by simp) (by simp) ?_
    refine zx ?_
    refine zk ?_;clear hK K
    refine zs ?_
    refine zt ?_
    refine zs ?_
    refine zr ?_
    simp only[BJ,hg2] at hinv
    simp[Bo,hg,hinv,CS]
   |some y=>
    simp only[hg2,ES] at sp2
    obtain⟨hy1,hy2,hy3,hy4,_⟩:=AJ hg2
    refine Ab.eq sp2 (by simp) (by simp) ?_
    have h3:¬(y.1:Int)<1:=by omega
    refine zx ?_
    refine zk ?_;clear hK K
    refine Ae h3 ?_;intro K hK
    refine zk ?_;clear hK K
    refine zn ?_
    refine W.skip ?_
    have sp3:=En bs y.2 hb hy4
    refine z0 ?_;intro K hK
    cases hg3:AH bs y.2 with
    |none=>
     simp only[hg3,ES] at sp3
     refine Ab.eq sp3 (by simp) (by simp) ?_
     refine zx ?_
     refine zk ?_;clear hK K
     refine zs ?_
     refine zt ?_
     refine zs ?_
     refine zr ?_
     simp only[BJ,hg2,hg3] at hinv
     simp[Bo,hg,hinv,CS]
    |some z=>
     simp only[hg3,ES] at sp3
     obtain⟨hz1,hz2,hz3,hz4,_⟩:=AJ hg3
     refine Ab.eq sp3 (by simp) (by simp) ?_
     have h4:¬(z.1:Int)<1:=by omega
     simp only[BJ,hg2,hg3] at hinv
     refine zx ?_
     refine zk ?_;clear hK K
     by_cases hz16:z.1≤16
     rotate_left
     .have h5:(16:Int)<z.1:=by omega
      refine Ae (an h4 h5) ?_;intro K hK
      refine zk ?_;clear hK K
      refine zt ?_
      refine zs ?_
      refine zr ?_
      rw[if_neg hz16] at hinv
      simp[Bo,hg,hinv,CS]
     have h5:¬(16:Int)<z.1:=by omega
     rw[if_pos hz16] at hinv
     refine Ae (an h4 h5) ?_;intro K hK
     refine zk ?_;clear hK K
     refine zn ?_
     refine W.skip ?_
     refine zs ?_
     refine z1 ?_;intro K hK
     refine zk ?_;clear hK K
     by_cases h0:k=0
     .subst h0
      have ha:acc=[]:=by simpa using hacc
      subst ha
      have hzg:-1073741825≤Cc ((y.1:Int)-1)∧Cc ((y.1:Int)-1)≤1073741825:=by unfold Cc;split<;>omega
      simp only[if_true,decide_true] at hinv
      refine zs ?_
      refine zt ?_
      refine z0 ?_;intro K hK
      refine Ab.eq (RS ((y.1:Int)-1) (by omega) (by omega)) (by simp) (by simp) ?_
      generalize Cc ((y.1:Int)-1)=zz at*
      refine zx ?_
      refine zk ?_;clear hK K
      refine z1 ?_;intro K hK
      refine zk ?_;clear hK K
      refine zs ?_
      refine zs ?_
      refine⟨(1,[(v+zz,(z.1:Int)-1+3)],z.2,v+zz+((z.1:Int)-1+3)),by simp only;omega,⟨by simp only;omega,by simp,by simp only;omega,by simp only;omega,by simp;omega,?_⟩,Wk.cutM (k:=1) (by simp[Ac]) ?_ (by simp) (by simp) (by simp) (by simp)⟩
      .rw[hinv,hm']
       simp
       cases BJ bs m false z.2 (v+zz+((z.1:Int)-1+3))<;>simp
      .simp[AL,Al]
     .simp only[h0,if_false,decide_false,Bool.false_eq_true] at hinv
      refine Ae h0 ?_;intro K hK
      refine zk ?_;clear hK K
      refine zn ?_
      refine W.skip ?_
      refine z1 ?_;intro K hK
      refine⟨by omega,by omega,?_⟩
      refine zk ?_;clear hK K
      refine zs ?_
      refine zs ?_
      refine⟨(k+1,acc++[(last+y.1,(z.1:Int)-1+3)],z.2,last+y.1+((z.1:Int)-1+3)),by simp only;omega,⟨by simp only;omega,by simp[hacc],by simp only;omega,by simp only;omega,?_,?_⟩,Wk.cutM (k:=1) (by simp[Ac]) ?_ (by simp) (by simp) (by simp) (by simp)⟩
      .intro w hw
       simp only[List.mem_append,List.mem_singleton] at hw
       rcases hw with hw|rfl
       .exact hbnd w hw
       .simp only;omega
      .rw[hinv,hm']
       simp
       cases BJ bs m false z.2 (last+y.1+((z.1:Int)-1+3))<;>simp
      .simp[Cz,AL,Al]
  .refine W.exit ?_
   have hk' :x.1-1-k=0:=by omega
   rw[hk'] at hinv
   simp only[BJ,Option.map_some,List.append_nil] at hinv
   subst hacc
   have hv' :0≤v∧v<100000:=by omega
   have spG:=NW bs q v hb hq hv'
   rw[EC] at spG
   have htr:Bo bs p v=match DF bs q v with
    |none=>none
    |some g=>match C6 acc g.1 with
     |none=>none
     |some l=>if (BL v l).length=g.2-p∧(bs.drop p).take (BL v l).length=BL v l then some (l,g.2) else none:=by
    unfold Bo
    rw[hg]
    simp only
    rw[if_pos hle,hinv]
    rfl
   rw[htr,EC]
   clear htr
   cases hgp:Dx bs q v with
   |none=>
    rw[hgp] at spG
    simp only[CS] at spG
    refine z0 ?_;intro K hK
    refine Ab.eq spG (by simp) (by simp) ?_
    refine zx ?_
    refine zk ?_;clear hK K
    refine zs ?_
    refine zt ?_
    refine zs ?_
    refine zr ?_
    rfl
   |some g=>
    rw[hgp] at spG
    simp only[CS] at spG
    obtain⟨g1,g2,g3,g4⟩:=HD hgp
    refine z0 ?_;intro K hK
    refine Ab.eq spG (by simp) (by simp) ?_
    refine zx ?_
    refine zk ?_;clear hK K
    refine zs ?_
    refine zn ?_
    refine W.skip ?_
    have spJ:=Uh acc g.1 (by omega) hbnd (by omega)
    simp only
    cases hj:C6 acc g.1 with
    |none=>
     rw[hj] at spJ
     simp only[Ug] at spJ
     refine z0 ?_;intro K hK
     refine Ab.eq spJ (by simp) (by simp) ?_
     refine zx ?_
     refine zk ?_;clear hK K
     refine z0 ?_;intro K hK
     refine zk ?_;clear hK K
     refine zt ?_
     refine zs ?_
     refine zr ?_
     rfl
    |some l=>
     rw[hj] at spJ
     simp only[Ug] at spJ
     have hml:=O2 hj
     have hll:=BQ hml
     simp only
     obtain⟨ys,hys⟩:∃ys,ys=BL v l:=⟨_,rfl⟩
     have spR:=Sf v l hv hml
     rw[←hys] at spR ⊢
     refine z0 ?_;intro K hK
     refine Ab.eq spJ (by simp) (by simp) ?_
     refine zx ?_
     refine zk ?_;clear hK K
     have hl16:¬(16:Int)<(l.length:Int):=by omega
     refine Ae hl16 ?_;intro K hK
     refine zk ?_;clear hK K
     refine zn ?_
     refine W.skip ?_
     refine z0 ?_;intro K hK
     refine Ab.eqN spR (by simp[NI]) (by simp) ?_
     refine zx ?_
     refine zk ?_;clear hK K
     by_cases c1:(ys.length:Int)=(g.2:Int)-p
     rotate_left
     .refine Ae c1 ?_;intro K hK
      refine zk ?_;clear hK K
      refine zt ?_
      refine zs ?_
      refine zr ?_
      rw[if_neg (fun h=>c1 (by omega))];rfl
     have c1t:((ys.length:Int)=(g.2:Int)-p)=True:=eq_true c1
     have spM:=Se bs ys p hb (by omega) (by omega)
     by_cases c2:(bs.drop p).take ys.length=ys
     .rw[decide_eq_true c2] at spM
      refine Ae c1t ?_;intro K hK
      refine Ab.eq spM (by simp) (by simp) ?_
      refine zx ?_
      refine zk ?_;clear hK K
      refine zn ?_
      refine W.skip ?_
      refine zs ?_
      refine zr ?_
      rw[if_pos ⟨by omega,c2⟩];rfl
     .rw[decide_eq_false c2] at spM
      refine Ae c1t ?_;intro K hK
      refine Ab.eq spM (by simp) (by simp) ?_
      refine zx ?_
      refine zk ?_;clear hK K
      refine zt ?_
      refine zs ?_
      refine zr ?_
      rw[if_neg (fun h=>c2 h.2)];rfl
end Go.Abs
set_option maxRecDepth 100000
namespace Go.Abs
open Go.Proofs
theorem Ha (xs:List Int) (x:Int):(0≤BM (fun y=>decide (y=x)) xs)↔xs.contains x=true:=by
 rw[Cw]
 simp
theorem O3 {l ref:List Int} {i:Nat} (h:i<ref.length) (b:Bool) (n:Nat):Bc l (ref.drop i) b n=if l.contains ref[i]=b then Bc l (ref.drop (i+1)) b (n+1) else n::Bc l (ref.drop (i+1)) (!b) 1:=by
 rw[List.drop_eq_getElem_cons h,Bc]
theorem MR {ref l:List Int} {i:Nat} (h:i<l.length):Bi ref (l.take (i+1))=Bi ref (l.take i)++if ref.contains l[i]=true then [] else [l[i]]:=by
 have hto:l.take (i+1)=l.take i++[l[i]]:=by rw[List.take_add_one];simp[h]
 rw[hto,Bi,List.filter_append]
 congr 1
 cases hc:ref.contains l[i]<;>simp_all
theorem Qb (ref l:List Int) (hr:ref.length<1000000) (hl:l.length<1000000):Aa pg 207 [.ro ref.length (Ad ref),.ro l.length (Ad l)] [] (fun r _=>r= .tup [.own 1 (blocks ref l).length (Ad (blocks ref l)),.own 1 (Bi ref l).length (Ad (Bi ref l))]):=by
 refine Aa.start (fn:=Tryz.f207) [.tmp 4,.tmp 5] tk rfl rfl rfl (by kernel_rfl) (Nat.le_of_ble_eq_true rfl) rfl (by kernel_rfl) ?_
 rw[Am]
 refine zs ?_
 refine zs ?_
 refine zs ?_
 refine zs ?_
 (repeat refine W.seq ?_);refine W.block (W.loopS (fun s:Nat×List Nat×Bool×Nat=> [(0,.ro ref.length (Ad ref)),(1,.ro l.length (Ad l)),(6,.tok 0 s.2.1.length 1 0 s.2.1.length),(7,.own 1 0 []),(8,.bool s.2.2.1),(9,.int .i64 s.2.2.2),(10,.int .i64 s.1)]) (fun s=> [.live s.2.1.length (Ad (s.2.1.map fun n=>((n:Nat):Int)))]) (fun s=>ref.length-s.1)
   (fun s=>s.1≤ref.length∧s.2.1.length≤s.1∧s.2.2.2≤s.1∧Bc l ref true 0=s.2.1++Bc l (ref.drop s.1) s.2.2.1 s.2.2.2) (0,[],true,0) ((Wk.nil (t:=6) (s:=1) (by simp)).trans (Wk.fr (by simp[Ac]))) ⟨by simp,by simp,by simp,by simp⟩ ?_)
 rintro⟨i,acc,b,n⟩ ⟨hi,hacc,hn,hinv⟩
 simp only at hi hacc hn hinv
 refine zs ?_
 refine zc ?_ ?_<;>intro h
 .refine W.skip ?_
  have hlt:i<ref.length:=by omega
  rw[O3 hlt] at hinv
  have sp:=OO l ref[i] (by omega)
  have hix:=Ha l ref[i]
  refine zb ?_
  obtain⟨z,hz⟩:∃z,z=BM (fun y=>decide (y=ref[i])) l:=⟨_,rfl⟩
  obtain⟨c,hcd⟩:∃c,c=l.contains ref[i]:=⟨_,rfl⟩
  rw[←hz] at sp hix
  rw[←hcd] at hix hinv
  have hdz:decide (0≤z)=c:=by rw[Bool.eq_iff_iff];simp[hix]
  (repeat refine W.seq ?_);refine W.reg 0 rfl fun K hK=>?_;simp -implicitDefEqProofs (maxSteps:=999999) (disch:=omega) [hlt]
  refine Ab.eq sp (by simp) (by simp) ?_
  refine AM hdz ?_
  refine zk ?_;clear hK K
  by_cases hc:c=b
  .rw[if_pos hc] at hinv
   refine Ae hc ?_;intro K hK
   refine zk ?_;clear hK K
   refine zn ?_
   refine W.skip ?_
   refine zs ?_
   refine zs ?_
   exact⟨(i+1,acc,b,n+1),by simp only;omega,⟨by simp only;omega,by simp only;omega,by simp only;omega,hinv⟩,Wk.fr (by simp[Ac])⟩
  .rw[if_neg hc] at hinv
   have hcb:c= !b:=by cases c<;>cases b<;>simp_all
   have e:Ad (acc.map fun n=>((n:Nat):Int))++[AV.int .i64 n]=Ad ((acc++[n]).map fun n=>((n:Nat):Int)):=by simp[Ad]
   refine Ae hc ?_;intro K hK
   refine zk ?_;clear hK K
   refine zt ?_
   refine z1 ?_;intro K hK
   refine⟨by omega,by omega,?_⟩
   refine zk ?_;clear hK K
   refine zs ?_
   refine zs ?_
   refine zs ?_
   refine⟨(i+1,acc++[n],!b,1),by simp only;omega,⟨by simp only;omega,by simp;omega,by simp only;omega,by simp only;rw[hinv];simp⟩,Wk.cutM (k:=1) (by simp[Ac,hcb]) ?_ (by simp) (by simp) (by simp) (by simp)⟩
   simp[Ad]
 .refine W.exit ?_
  have hi' :i=ref.length:=by omega
  subst hi'
  rw[List.drop_length,Bc,List.append_nil] at hinv
  have hbl:blocks ref l=acc.map fun n=>((n:Nat):Int):=by rw[blocks,hinv]
  have hal:acc.length=(blocks ref l).length:=by rw[hbl];simp
  rw[←hbl,hal]
  rw[hal] at hacc
  generalize blocks ref l=bl at*
  refine zs ?_
  have hoN:∀k,(Bi ref (l.take k)).length≤k:=fun k=>Nat.le_trans (List.length_filter_le _ _) (by simp;omega)
  (repeat refine W.seq ?_);refine W.block (W.loopS (fun k:Nat=> [(0,.ro ref.length (Ad ref)),(1,.ro l.length (Ad l)),(6,.tok 0 bl.length 1 0 bl.length),(7,.tok 1 (Bi ref (l.take k)).length 1 0 (Bi ref (l.take k)).length),(12,.int .i64 k)]) (fun k=> [.live bl.length (Ad bl),.live (Bi ref (l.take k)).length (Ad (Bi ref (l.take k)))]) (fun k=>l.length-k) (fun k=>k≤l.length) 0 ((Wk.nil (t:=7) (s:=1) (by simp)).trans (Wk.fr (by simp[Ac,Bi]))) (by simp) ?_)
  intro k hk
  refine zs ?_
  refine zc ?_ ?_<;>intro h
  .refine W.skip ?_
   have hlt:k<l.length:=by omega
   have hst:=MR (ref:=ref) hlt
   have hok:=hoN k
   have sp:=OO ref l[k] (by omega)
   have hix:=Ha ref l[k]
   refine zb ?_
   obtain⟨z,hz⟩:∃z,z=BM (fun y=>decide (y=l[k])) ref:=⟨_,rfl⟩
   rw[←hz] at sp hix
   by_cases hc:ref.contains l[k]=true
   .have hz0:¬z<0:=by have:=hix.2 hc;omega
    rw[if_pos hc,List.append_nil] at hst
    (repeat refine W.seq ?_);refine W.reg 0 rfl fun K hK=>?_;simp -implicitDefEqProofs (maxSteps:=999999) (disch:=omega) [hlt]
    refine Ab.eq sp (by simp) (by simp) ?_
    refine AM hz0 ?_
    refine zk ?_;clear hK K
    refine zn ?_
    refine W.skip ?_
    refine zs ?_
    refine⟨k+1,by omega,by omega,?_⟩
    rw[hst]
    exact Wk.fr (by simp[Ac])
   .have hz0:z<0:=by have:=mt hix.1 hc;omega
    rw[if_neg hc] at hst
    (repeat refine W.seq ?_);refine W.reg 0 rfl fun K hK=>?_;simp -implicitDefEqProofs (maxSteps:=999999) (disch:=omega) [hlt]
    refine Ab.eq sp (by simp) (by simp) ?_
    refine AM hz0 ?_
    refine zk ?_;clear hK K
    refine zt ?_
    (repeat refine W.seq ?_);refine W.reg 1 rfl fun K hK=>?_;simp -implicitDefEqProofs (maxSteps:=999999) (disch:=omega) [hlt]
    refine⟨by omega,by omega,?_⟩
    refine zk ?_;clear hK K
    refine zs ?_
    refine⟨k+1,by omega,by omega,?_⟩
    rw[hst]
    simp only[List.length_append,List.length_singleton]
    refine Wk.cutM (k:=2) (by simp[Ac]) ?_ (by simp) (by simp) (by simp) (by simp)
    simp[Ad]
  .refine W.exit ?_
   have hk' :k=l.length:=by omega
   subst hk'
   rw[List.take_length]
   refine zs ?_
   exact zR
end Go.Abs
set_option maxRecDepth 100000
namespace Go.Abs
open Go.Proofs
def CZ (l:List Int):Int→Bool:=fun j=>l.contains j
def GS (ref bl rest:List Int):List Int×Bool:=
 if¬(AI ref∧AI rest∧bl.length≤16) then([],false) else match A0 bl ref true with
  |none=>([],false)
  |some l=>(BD (CY (CZ l) rest) 16,decide (blocks ref (BD (CY (CZ l) rest) 16)=bl∧Bi ref (BD (CY (CZ l) rest) 16)=rest))
theorem Ui (ref bl rest:List Int):DT ref bl rest=if (GS ref bl rest).2=true then some (GS ref bl rest).1 else none:=by
 unfold DT GS
 split
 .simp
 .cases A0 bl ref true with
  |none=>simp
  |some l=>
   simp only[decide_eq_true_eq]
   rfl
theorem GI (l:List Int):∀(ref:List Int) (b:Bool) (n:Nat),(Bc l ref b n).length≤ref.length
 | [],_,_=>by simp[Bc]
 |x::ref,b,n=>by
  rw[Bc]
  split
  .have:=GI l ref b (n+1);simp;omega
  .have:=GI l ref (!b) 1;simp;omega
theorem O4 (ref l:List Int):(blocks ref l).length≤ref.length:=by
 unfold blocks
 rw[List.length_map]
 exact GI l ref true 0
def ED (i:Nat):Bool:=decide (i%2=0)
theorem Hb (i:Nat):ED (i+1)= !ED i:=by
 unfold ED
 rw[←decide_not,decide_eq_decide]
 omega
theorem LL (l:List Int) (x:Int):AD (D7 (CZ l) x)=AD (CZ (l++[x])):=Dc fun j _ _=>by
 simp only[D7,CZ]
 rw[Bool.eq_iff_iff]
 simp
theorem Qc (p:Int→Bool) (l:List Int) (x:Int):AD (D7 (CY p l) x)=AD (CY p (l++[x])):=Dc fun j _ _=>by
 simp only[D7,CY,Bool.or_assoc]
 congr 1
 rw[Bool.eq_iff_iff]
 simp
theorem LM (ref bl rest:List Int) (h1:ref.length<1000000) (h2:bl.length<1000000) (h3:rest.length<1000000) (hb:∀x∈bl,-1000000000000≤x∧x≤1000000000000):Aa pg 186 [.ro ref.length (Ad ref),.ro bl.length (Ad bl),.ro rest.length (Ad rest)] [] (fun r _=>r= .tup [.own 1 (GS ref bl rest).1.length (Ad (GS ref bl rest).1),.bool (GS ref bl rest).2]):=by
 refine Aa.start (fn:=Tryz.f186) [.tmp 6,.tmp 7] tk rfl rfl rfl (by kernel_rfl) (Nat.le_of_ble_eq_true rfl) rfl (by kernel_rfl) ?_
 rw[Bq]
 refine zs ?_
 have sp1:=FC ref (by omega)
 have sp2:=FC rest (by omega)
 by_cases c1:AI ref
 rotate_left
 .rw[GS,if_pos (fun h=>c1 h.1)]
  rw[decide_eq_false c1] at sp1
  refine z0 ?_;intro K hK
  refine Ab.eq sp1 (by simp) (by simp) ?_
  refine zx ?_
  refine zk ?_;clear hK K
  refine zt ?_
  refine zs ?_
  exact zR
 by_cases c2:AI rest
 rotate_left
 .rw[GS,if_pos (fun h=>c2 h.2.1)]
  rw[decide_eq_true c1] at sp1
  rw[decide_eq_false c2] at sp2
  refine z0 ?_;intro K hK
  refine Ab.eq sp1 (by simp) (by simp) ?_
  refine zx ?_
  refine Ab.eq sp2 (by simp) (by simp) ?_
  refine zx ?_
  refine zk ?_;clear hK K
  refine zt ?_
  refine zs ?_
  exact zR
 rw[decide_eq_true c1] at sp1
 rw[decide_eq_true c2] at sp2
 by_cases c3:bl.length≤16
 rotate_left
 .have c3' :(16:Int)<(bl.length:Int):=by omega
  rw[GS,if_pos (fun h=>c3 h.2.2)]
  refine z0 ?_;intro K hK
  refine Ab.eq sp1 (by simp) (by simp) ?_
  refine zx ?_
  refine Ab.eq sp2 (by simp) (by simp) ?_
  refine AM c3' ?_
  refine zk ?_;clear hK K
  refine zt ?_
  refine zs ?_
  exact zR
 have c3' :¬(16:Int)<(bl.length:Int):=by omega
 have hjc:GS ref bl rest=match A0 bl ref true with
  |none=>([],false)
  |some l=>(BD (CY (CZ l) rest) 16,decide (blocks ref (BD (CY (CZ l) rest) 16)=bl∧Bi ref (BD (CY (CZ l) rest) 16)=rest)):=by rw[GS,if_neg (fun h=>h ⟨c1,c2,c3⟩)]
 rw[hjc]
 clear hjc
 have hl1:=BQ c1
 have hl2:=BQ c2
 refine z0 ?_;intro K hK
 refine Ab.eq sp1 (by simp) (by simp) ?_
 refine zx ?_
 refine Ab.eq sp2 (by simp) (by simp) ?_
 refine AM c3' ?_
 refine zk ?_;clear hK K
 refine zn ?_
 refine W.skip ?_
 refine z1 ?_;intro K hK
 have e0:[AV.bool false,AV.bool false,AV.bool false,AV.bool false,AV.bool false,AV.bool false,AV.bool false,AV.bool false,AV.bool false,AV.bool false,AV.bool false,AV.bool false,AV.bool false,AV.bool false,AV.bool false,AV.bool false]=Az (AD (CZ [])):=rfl
 rw[e0]
 refine zk ?_;clear hK K
 refine zs ?_
 refine zs ?_
 (repeat refine W.seq ?_);refine W.block (W.loopS (fun s:Nat×Nat×List Int=> [(0,.ro ref.length (Ad ref)),(1,.ro bl.length (Ad bl)),(2,.ro rest.length (Ad rest)),(8,.ptr 0 0 0),(9,.int .i64 s.2.1),(10,.int .i64 s.1)]) (fun s=> [.live 0 (Az (AD (CZ s.2.2)))]) (fun s=>bl.length+1-s.1)
   (fun s=>s.2.1≤ref.length∧((s.1≤bl.length∧A0 bl ref true=(A0 (bl.drop s.1) (ref.drop s.2.1) (ED s.1)).map fun l=>s.2.2++l)∨(s.1=bl.length+1∧A0 bl ref true=some s.2.2))) (0,0,[]) (Wk.fr (by simp[Ac])) ⟨by simp,.inl ⟨by simp,by simp[ED]⟩⟩ ?_)
 rintro⟨i,q,acc⟩ ⟨hq,hinv⟩
 simp only at hq hinv
 by_cases hle:i≤bl.length
 .have hinv:A0 bl ref true=(A0 (bl.drop i) (ref.drop q) (ED i)).map fun l=>acc++l:=by
   rcases hinv with h|h
   .exact h.2
   .omega
  refine zs ?_
  refine zt ?_
  refine W.skip ?_
  refine zb ?_
  refine zs ?_
  by_cases hlb:i<bl.length
  .have hbi:=hb _ (List.getElem_mem hlb)
   have hdl:bl.drop i=bl[i]::bl.drop (i+1):=List.drop_eq_getElem_cons hlb
   refine zs ?_
   refine zt ?_
   (repeat refine W.seq ?_);refine W.reg 0 rfl fun K hK=>?_;simp -implicitDefEqProofs (maxSteps:=999999) (disch:=omega) [hlb]
   refine zk ?_;clear hK K
   by_cases hbad:bl[i]<0∨(ref.length:Int)-q<bl[i]
   .have hnone:A0 bl ref true=none:=by
     rw[hinv,hdl,A0,if_pos (by simp only[List.length_drop];omega)];rfl
    rw[hnone]
    by_cases hneg:bl[i]<0
    .refine Ae hneg ?_;intro K hK
     refine zk ?_;clear hK K
     refine zt ?_
     refine zs ?_
     exact zR
    .have hbig:(ref.length:Int)-q<bl[i]:=by omega
     refine Ae (an hneg hbig) ?_;intro K hK
     refine zk ?_;clear hK K
     refine zt ?_
     refine zs ?_
     exact zR
   .obtain⟨N,hz⟩:=Int.eq_ofNat_of_zero_le (show 0≤bl[i] by omega)
    rw[hz] at hbad
    have hNq:q+N≤ref.length:=by omega
    have f1:¬((N:Int)<0):=by omega
    have f2:¬((ref.length:Int)-q<N):=by omega
    rw[hz]
    refine Ae (an f1 f2) ?_;intro K hK
    refine zk ?_;clear hK K
    refine zn ?_
    refine W.skip ?_
    refine zs ?_
    have hmem:∀w∈ref,0≤w∧w<16:=fun w hw=>c1.1 w hw
    cases hev:ED i
    .have hodd:¬(i:Int)%2=0:=by simp only[ED,decide_eq_false_iff_not] at hev;omega
     (repeat refine W.seq ?_);refine W.block (W.loopS (fun _:Unit=> [(0,.ro ref.length (Ad ref)),(1,.ro bl.length (Ad bl)),(2,.ro rest.length (Ad rest)),(8,.ptr 0 0 0),(9,.int .i64 q),(10,.int .i64 i),(11,.int .i64 N),(12,.int .i64 0)]) (fun _=> [.live 0 (Az (AD (CZ acc)))]) (fun _=>0) (fun _=>True) () (Wk.fr (by simp[Ac])) trivial ?_)
     rintro _ _
     by_cases hN0:0<N
     .refine Ae (an hodd hN0) ?_;intro K hK
      refine zk ?_;clear hK K
      refine zn ?_
      refine W.exit ?_
      refine zs ?_
      refine zs ?_
      refine⟨(i+1,q+N,acc),by simp only;omega,⟨by simp only;omega,?_⟩,Wk.fr (by simp[Ac])⟩
      refine .inl ⟨by simp only;omega,?_⟩
      simp only
      rw[hinv,hdl,A0,if_neg (by simp only[List.length_drop];omega),hz,Int.toNat_natCast,List.drop_drop,Hb,hev]
      cases A0 (bl.drop (i+1)) (ref.drop (q+N)) (!false)<;>simp
     .have hN00:N=0:=by omega
      refine Ae (an hodd (an hN0 hN00)) ?_;intro K hK
      refine zk ?_;clear hK K
      refine zn ?_
      refine W.exit ?_
      refine zs ?_
      refine zs ?_
      refine⟨(i+1,q+N,acc),by simp only;omega,⟨by simp only;omega,?_⟩,Wk.fr (by simp[Ac,hN00])⟩
      refine .inl ⟨by simp only;omega,?_⟩
      simp only
      rw[hinv,hdl,A0,if_neg (by simp only[List.length_drop];omega),hz,Int.toNat_natCast,List.drop_drop,Hb,hev]
      cases A0 (bl.drop (i+1)) (ref.drop (q+N)) (!false)<;>simp
    .have hevn:(i:Int)%2=0:=by simp only[ED,decide_eq_true_eq] at hev;omega
     rw[show acc=acc++(ref.drop q).take 0 by simp]
     (repeat refine W.seq ?_);refine W.block (W.loopS (fun k:Nat=> [(0,.ro ref.length (Ad ref)),(1,.ro bl.length (Ad bl)),(2,.ro rest.length (Ad rest)),(8,.ptr 0 0 0),(9,.int .i64 q),(10,.int .i64 i),(11,.int .i64 N),(12,.int .i64 k)]) (fun k=> [.live 0 (Az (AD (CZ (acc++(ref.drop q).take k))))]) (fun k=>N-k) (fun k=>k≤N) 0 (Wk.fr (by simp[Ac])) (Nat.zero_le _) ?_)
     intro k hk
     by_cases hkN:k<N
     .refine Ae (an hevn hkN) ?_;intro K hK
      refine zk ?_;clear hK K
      refine zt ?_
      refine W.skip ?_
      have hql:q+k<ref.length:=by omega
      have hw:=hmem _ (List.getElem_mem hql)
      obtain⟨w,hwe⟩:=Int.eq_ofNat_of_zero_le hw.1
      have hw16:w<16:=by omega
      have hti:((q:Int)+k).toNat=q+k:=by omega
      have hset:∀p:Int→Bool,(Az (AD p)).set w (.bool true)=Az (AD (D7 p (w:Int))):=fun p=>by rw[Ei,Fv _ _ hw16]
      have hto:(ref.drop q).take (k+1)=(ref.drop q).take k++[(w:Int)]:=by rw[List.take_add_one];simp[hql,hwe]
      have e5:AD (D7 (CZ (acc++(ref.drop q).take k)) (w:Int))=AD (CZ (acc++(ref.drop q).take (k+1))):=by rw[LL,hto,List.append_assoc]
      refine zb ?_
      refine Ae (an hti (an hwe (an hset (an hql hw16)))) ?_;intro K hK
      refine⟨by omega,?_⟩
      refine zk ?_;clear hK K
      refine zs ?_
      rw[e5]
      exact⟨k+1,by omega,by omega,Wk.fr (by simp[Ac])⟩
     .refine Ae (an hevn hkN) ?_;intro K hK
      refine zk ?_;clear hK K
      refine zn ?_
      refine W.exit ?_
      have hk' :k=N:=by omega
      subst hk'
      refine zs ?_
      refine zs ?_
      refine⟨(i+1,q+k,acc++(ref.drop q).take k),by simp only;omega,⟨by simp only;omega,?_⟩,Wk.fr (by simp[Ac])⟩
      refine .inl ⟨by simp only;omega,?_⟩
      simp only
      rw[hinv,hdl,A0,if_neg (by simp only[List.length_drop];omega),hz,Int.toNat_natCast,List.drop_drop,Hb,hev]
      cases A0 (bl.drop (i+1)) (ref.drop (q+k)) (!true)<;>simp
  .have hie:i=bl.length:=by omega
   have hdl:bl.drop i=[]:=List.drop_eq_nil_of_le (by omega)
   refine Ae hlb ?_;intro K hK
   refine zk ?_;clear hK K
   refine zn ?_
   refine W.skip ?_
   obtain⟨N,hz⟩:=Int.eq_ofNat_of_zero_le (show 0≤(ref.length:Int)-q by omega)
   have hNq:q+N≤ref.length:=by omega
   have f1:¬((N:Int)<0):=by omega
   have f2:¬((N:Int)<(N:Int)):=by omega
   rw[hz]
   refine Ae (an hz (an f1 f2)) ?_;intro K hK
   refine zk ?_;clear hK K
   refine zn ?_
   refine W.skip ?_
   refine zs ?_
   have hmem:∀w∈ref,0≤w∧w<16:=fun w hw=>c1.1 w hw
   cases hev:ED i
   .have hodd:¬(i:Int)%2=0:=by simp only[ED,decide_eq_false_iff_not] at hev;omega
    (repeat refine W.seq ?_);refine W.block (W.loopS (fun _:Unit=> [(0,.ro ref.length (Ad ref)),(1,.ro bl.length (Ad bl)),(2,.ro rest.length (Ad rest)),(8,.ptr 0 0 0),(9,.int .i64 q),(10,.int .i64 i),(11,.int .i64 N),(12,.int .i64 0)]) (fun _=> [.live 0 (Az (AD (CZ acc)))]) (fun _=>0) (fun _=>True) () (Wk.fr (by simp[Ac])) trivial ?_)
    rintro _ _
    by_cases hN0:0<N
    .refine Ae (an hodd hN0) ?_;intro K hK
     refine zk ?_;clear hK K
     refine zn ?_
     refine W.exit ?_
     refine zs ?_
     refine zs ?_
     refine⟨(i+1,q+N,acc),by simp only;omega,⟨by simp only;omega,?_⟩,Wk.fr (by simp[Ac])⟩
     refine .inr ⟨by simp only;omega,?_⟩
     simp only
     rw[hinv,hdl,A0,hev]
     simp
    .have hN00:N=0:=by omega
     refine Ae (an hodd (an hN0 hN00)) ?_;intro K hK
     refine zk ?_;clear hK K
     refine zn ?_
     refine W.exit ?_
     refine zs ?_
     refine zs ?_
     refine⟨(i+1,q+N,acc),by simp only;omega,⟨by simp only;omega,?_⟩,Wk.fr (by simp[Ac,hN00])⟩
     refine .inr ⟨by simp only;omega,?_⟩
     simp only
     rw[hinv,hdl,A0,hev]
     simp
   .have hevn:(i:Int)%2=0:=by simp only[ED,decide_eq_true_eq] at hev;omega
    rw[show acc=acc++(ref.drop q).take 0 by simp]
    (repeat refine W.seq ?_);refine W.block (W.loopS (fun k:Nat=> [(0,.ro ref.length (Ad ref)),(1,.ro bl.length (Ad bl)),(2,.ro rest.length (Ad rest)),(8,.ptr 0 0 0),(9,.int .i64 q),(10,.int .i64 i),(11,.int .i64 N),(12,.int .i64 k)]) (fun k=> [.live 0 (Az (AD (CZ (acc++(ref.drop q).take k))))]) (fun k=>N-k) (fun k=>k≤N) 0 (Wk.fr (by simp[Ac])) (Nat.zero_le _) ?_)
    intro k hk
    by_cases hkN:k<N
    .refine Ae (an hevn hkN) ?_;intro K hK
     refine zk ?_;clear hK K
     refine zt ?_
     refine W.skip ?_
     have hql:q+k<ref.length:=by omega
     have hw:=hmem _ (List.getElem_mem hql)
     obtain⟨w,hwe⟩:=Int.eq_ofNat_of_zero_le hw.1
     have hw16:w<16:=by omega
     have hti:((q:Int)+k).toNat=q+k:=by omega
     have hset:∀p:Int→Bool,(Az (AD p)).set w (.bool true)=Az (AD (D7 p (w:Int))):=fun p=>by rw[Ei,Fv _ _ hw16]
     have hto:(ref.drop q).take (k+1)=(ref.drop q).take k++[(w:Int)]:=by rw[List.take_add_one];simp[hql,hwe]
     have e5:AD (D7 (CZ (acc++(ref.drop q).take k)) (w:Int))=AD (CZ (acc++(ref.drop q).take (k+1))):=by rw[LL,hto,List.append_assoc]
     refine zb ?_
     refine Ae (an hti (an hwe (an hset (an hql hw16)))) ?_;intro K hK
     refine⟨by omega,?_⟩
     refine zk ?_;clear hK K
     refine zs ?_
     rw[e5]
     exact⟨k+1,by omega,by omega,Wk.fr (by simp[Ac])⟩
    .refine Ae (an hevn hkN) ?_;intro K hK
     refine zk ?_;clear hK K
     refine zn ?_
     refine W.exit ?_
     have hk' :k=N:=by omega
     subst hk'
     refine zs ?_
     refine zs ?_
     refine⟨(i+1,q+k,acc++(ref.drop q).take k),by simp only;omega,⟨by simp only;omega,?_⟩,Wk.fr (by simp[Ac])⟩
     refine .inr ⟨by simp only;omega,?_⟩
     simp only
     rw[hinv,hdl,A0,hev]
     simp
     rw[List.take_of_length_le (by simp;omega)]
 .have hil:i=bl.length+1:=by
   rcases hinv with h|h<;>omega
  have hcg:A0 bl ref true=some acc:=by
   rcases hinv with h|h
   .omega
   .exact h.2
  rw[hcg]
  simp only
  have hgt:¬(i:Int)≤(bl.length:Int):=by omega
  refine Ae hgt ?_;intro K hK
  refine zk ?_;clear hK K
  refine zn ?_
  refine W.exit ?_
  refine zs ?_
  have e4:AD (CZ acc)=AD (CY (CZ acc) (rest.take 0)):=Dc fun j _ _=>by simp[CY]
  rw[e4]
  (repeat refine W.seq ?_);refine W.block (W.loopS (fun k:Nat=> [(0,.ro ref.length (Ad ref)),(1,.ro bl.length (Ad bl)),(2,.ro rest.length (Ad rest)),(8,.ptr 0 0 0),(13,.int .i64 k)]) (fun k=> [.live 0 (Az (AD (CY (CZ acc) (rest.take k))))]) (fun k=>rest.length-k) (fun k=>k≤rest.length) 0 (Wk.fr (by simp[Ac])) (Nat.zero_le _) ?_)
  intro k hk
  refine zs ?_
  refine zc ?_ ?_<;>intro h
  .refine W.skip ?_
   have hkl:k<rest.length:=by omega
   have hw:=c2.1 _ (List.getElem_mem hkl)
   obtain⟨w,hwe⟩:=Int.eq_ofNat_of_zero_le hw.1
   have hw16:w<16:=by omega
   have hset:∀p:Int→Bool,(Az (AD p)).set w (.bool true)=Az (AD (D7 p (w:Int))):=fun p=>by rw[Ei,Fv _ _ hw16]
   have hto2:rest.take (k+1)=rest.take k++[(w:Int)]:=by rw[List.take_add_one];simp[hkl,hwe]
   have e5:AD (D7 (CY (CZ acc) (rest.take k)) (w:Int))=AD (CY (CZ acc) (rest.take (k+1))):=by rw[Qc,hto2]
   refine zb ?_
   refine Ae (an hkl (an hwe (an hset hw16))) ?_;intro K hK
   refine zk ?_;clear hK K
   refine zs ?_
   rw[e5]
   exact⟨k+1,by omega,by omega,Wk.fr (by simp[Ac])⟩
  .refine W.exit ?_
   have hk' :k=rest.length:=by omega
   subst hk'
   rw[List.take_length]
   generalize CY (CZ acc) rest=pr
   refine zs ?_
   refine zs ?_
   (repeat refine W.seq ?_);refine W.block (W.loopS (fun k:Nat=> [(0,.ro ref.length (Ad ref)),(1,.ro bl.length (Ad bl)),(2,.ro rest.length (Ad rest)),(8,.ptr 0 0 0),(14,.tok 1 (BD pr k).length 1 0 (BD pr k).length),(15,.int .i64 k)]) (fun k=> [.live 0 (Az (AD pr)),.live (BD pr k).length (Ad (BD pr k))]) (fun k=>16-k) (fun k=>k≤16) 0 ((Wk.nil (t:=14) (s:=1) (by simp)).trans (Wk.fr (by simp[Ac,BD]))) (by simp) ?_)
   intro k hk
   have htl:=IM pr k
   refine zs ?_
   refine zc ?_ ?_<;>intro h
   .refine W.skip ?_
    have hlt:k<16:=by omega
    have hget:(AD pr)[k]?=some (pr (k:Int)):=H7 _ _ hlt
    have hsu:=H9 pr k
    refine zb ?_
    cases hq:pr (k:Int)
    .rw[hq] at hget hsu
     refine Ae (an hget hlt) ?_;intro K hK
     refine zk ?_;clear hK K
     refine zn ?_
     refine W.skip ?_
     refine zs ?_
     refine⟨k+1,by omega,by omega,?_⟩
     rw[hsu]
     simp only[Bool.false_eq_true,if_false,List.append_nil]
     exact Wk.fr (by simp[Ac])
    .rw[hq] at hget hsu
     refine Ae (an hget hlt) ?_;intro K hK
     refine zk ?_;clear hK K
     refine zt ?_
     refine z1 ?_;intro K hK
     refine⟨by omega,by omega,?_⟩
     refine zk ?_;clear hK K
     refine zs ?_
     refine⟨k+1,by omega,by omega,?_⟩
     rw[hsu]
     simp only[if_true,List.length_append,List.length_singleton]
     refine Wk.cutM (k:=2) (by simp[Ac]) ?_ (by simp) (by simp) (by simp) (by simp)
     simp[Ad]
   .refine W.exit ?_
    have hk' :k=16:=by omega
    subst hk'
    obtain⟨L,hL⟩:∃L,L=BD pr 16:=⟨_,rfl⟩
    rw[←hL] at htl ⊢
    have spC:=Qb ref L (by omega) (by omega)
    have hbl:(blocks ref L).length<4611686018427387904:=by have:=O4 ref L;omega
    have hol:(Bi ref L).length≤L.length:=List.length_filter_le _ _
    obtain⟨X,hX⟩:∃X,X=blocks ref L:=⟨_,rfl⟩
    obtain⟨Y,hY⟩:∃Y,Y=Bi ref L:=⟨_,rfl⟩
    rw[←hX,←hY] at spC
    rw[←hX] at hbl
    rw[←hY] at hol
    rw[←hX,←hY]
    refine z0 ?_;intro K hK
    refine Ab.eq spC (by simp) (by simp) ?_
    refine zx ?_
    refine zk ?_;clear hK K
    have sE1:=B4 X bl hbl
    have sE2:=B4 Y rest (by omega)
    by_cases d1:X=bl
    .rw[decide_eq_true d1] at sE1
     refine z0 ?_;intro K hK
     refine Ab.eq sE1 (by simp) (by simp) ?_
     refine zx ?_
     refine Ab.eq sE2 (by simp) (by simp) ?_
     refine zx ?_
     refine zk ?_;clear hK K
     refine zr ?_
     simp[d1]
    .rw[decide_eq_false d1] at sE1
     refine z0 ?_;intro K hK
     refine Ab.eq sE1 (by simp) (by simp) ?_
     refine zx ?_
     refine zk ?_;clear hK K
     refine zr ?_
     simp[d1]
end Go.Abs
set_option maxRecDepth 100000
namespace Go.Abs
open Go.Proofs
theorem IN {bs:List Bool} {p:Nat} {v:Int} {r:List Int×Nat} (hv:-100000≤v∧v≤100000) (h:Bo bs p v=some r):AI r.1∧r.1.length≤16∧p<r.2∧r.2≤bs.length:=by
 rw[Ft] at h
 exact HE hv h
theorem Qd (bs:List Bool) (p:Nat) (v:Int) (ref:List Int) (hb:bs.length<1000000000) (hp:p≤bs.length) (hv:0≤v∧v≤16) (hr:ref.length<1000000):Aa pg 146 [.ro bs.length (AK bs),.int .i64 p,.int .i64 v,.ro ref.length (Ad ref)] [] (fun r _=>r=CS (DJ bs p v ref)):=by
 refine Aa.start (fn:=Tryz.f146) [.tmp 8,.tmp 9,.tmp 10] tk rfl rfl rfl (by kernel_rfl) (Nat.le_of_ble_eq_true rfl) rfl (by kernel_rfl) ?_
 rw[Ik]
 refine zs ?_
 refine z0 ?_;intro K hK
 have sp:=En bs p hb hp
 cases hg:AH bs p with
 |none=>
  simp only[hg,ES] at sp
  refine Ab.eq sp (by simp) (by simp) ?_
  refine zx ?_
  refine zk ?_;clear hK K
  refine zs ?_
  refine zt ?_
  refine zs ?_
  refine zr ?_
  simp[DJ,hg,CS]
 |some x=>
  simp only[hg,ES] at sp
  obtain⟨hx1,hx2,hx3,hx4,_⟩:=AJ hg
  refine Ab.eq sp (by simp) (by simp) ?_
  refine zx ?_
  refine zk ?_;clear hK K
  by_cases hle:x.1≤17
  rotate_left
  .have h1:¬(x.1:Int)<1:=by omega
   have h2:(16:Int)<(x.1:Int)-1:=by omega
   refine Ae (an h1 h2) ?_;intro K hK
   refine zk ?_;clear hK K
   refine zt ?_
   refine zs ?_
   refine zr ?_
   simp only[DJ,hg];rw[if_neg hle];simp[CS]
  have h1:¬(x.1:Int)<1:=by omega
  have h2:¬(16:Int)<(x.1:Int)-1:=by omega
  refine Ae (an h1 h2) ?_;intro K hK
  refine zk ?_;clear hK K
  refine zn ?_
  refine W.skip ?_
  refine zs ?_
  refine zs ?_
  (repeat refine W.seq ?_);refine W.block (W.loopS (fun s:Nat×List Int×Nat=> [(0,.ro bs.length (AK bs)),(1,.int .i64 s.2.2),(2,.int .i64 v),(3,.ro ref.length (Ad ref)),(11,.int .i64 x.1),(12,.tok 0 s.1 1 0 s.1),(13,.int .i64 s.1)]) (fun s=> [.live s.1 (Ad s.2.1)]) (fun s=>x.1-1-s.1)
    (fun s=>s.1≤x.1-1∧s.2.1.length=s.1∧s.2.2≤bs.length∧(∀q∈s.2.1,-1000000000000≤q∧q≤1000000000000)∧Bj bs (x.1-1) true x.2=(Bj bs (x.1-1-s.1) (decide (s.1=0)) s.2.2).map fun r=>(s.2.1++r.1,r.2)) (0,[],x.2) ((Wk.nil (t:=12) (s:=1) (by simp)).trans (Wk.fr (by simp[Ac]))) ⟨by omega,rfl,hx4,by simp,by simp⟩ ?_)
  rintro⟨k,acc,q⟩ ⟨hk,hacc,hq,hbnd,hinv⟩
  simp only at hk hacc hq hinv hbnd
  refine zs ?_
  refine zc ?_ ?_<;>intro h
  .refine W.skip ?_
   obtain⟨m,hm⟩:∃m,x.1-1-k=m+1:=⟨x.1-1-k-1,by omega⟩
   have hm' :x.1-1-(k+1)=m:=by omega
   rw[hm] at hinv
   refine zb ?_
   have sp2:=En bs q hb hq
   refine z0 ?_;intro K hK
   cases hg2:AH bs q with
   |none=>
    simp only[hg2,ES] at sp2
    refine Ab.eq sp2 (by simp) (by simp) ?_
    refine zx ?_
    refine zk ?_;clear hK K
    refine zs ?_
    refine zt ?_
    refine zs ?_
    refine zr ?_
    simp only[Bj,hg2] at hinv
    simp[DJ,hg,hinv,CS]
   |some y=>
    simp only[hg2,ES] at sp2
    obtain⟨hy1,hy2,hy3,hy4,_⟩:=AJ hg2
    refine Ab.eq sp2 (by simp) (by simp) ?_
    have h3:¬(y.1:Int)<1:=by omega
    simp only[Bj,hg2] at hinv
    refine zx ?_
    refine zk ?_;clear hK K
    by_cases hy17:y.1≤17
    rotate_left
    .have h4:(17:Int)<(y.1:Int):=by omega
     refine Ae (an h3 h4) ?_;intro K hK
     refine zk ?_;clear hK K
     refine zt ?_
     refine zs ?_
     refine zr ?_
     rw[if_neg hy17] at hinv
     simp[DJ,hg,hinv,CS]
    have h4:¬(17:Int)<(y.1:Int):=by omega
    rw[if_pos hy17] at hinv
    refine Ae (an h3 h4) ?_;intro K hK
    refine zk ?_;clear hK K
    refine zn ?_
    refine W.skip ?_
    refine zs ?_
    by_cases h0:k=0
    .subst h0
     have ha:acc=[]:=by simpa using hacc
     subst ha
     simp only[if_true,decide_true] at hinv
     refine zs ?_
     refine zt ?_
     refine zs ?_
     refine z1 ?_;intro K hK
     refine zk ?_;clear hK K
     refine zs ?_
     refine⟨(1,[(y.1:Int)-1],y.2),by simp only;omega,⟨by simp only;omega,by simp,by simp only;omega,by simp;omega,?_⟩,Wk.cutM (k:=1) (by simp[Ac]) ?_ (by simp) (by simp) (by simp) (by simp)⟩
     .rw[hinv,hm']
      simp
      cases Bj bs m false y.2<;>simp
     .simp[Ad]
    .simp only[h0,if_false,decide_false,Bool.false_eq_true] at hinv
     refine Ae h0 ?_;intro K hK
     refine zk ?_;clear hK K
     refine zn ?_
     refine W.skip ?_
     refine z1 ?_;intro K hK
     refine⟨by omega,by omega,?_⟩
     refine zk ?_;clear hK K
     refine zs ?_
     refine⟨(k+1,acc++[(y.1:Int)],y.2),by simp only;omega,⟨by simp only;omega,by simp[hacc],by simp only;omega,?_,?_⟩,Wk.cutM (k:=1) (by simp[Ac]) ?_ (by simp) (by simp) (by simp) (by simp)⟩
     .intro w hw
      simp only[List.mem_append,List.mem_singleton] at hw
      rcases hw with hw|rfl
      .exact hbnd w hw
      .omega
     .rw[hinv,hm']
      simp
      cases Bj bs m false y.2<;>simp
     .simp[Ad]
  .refine W.exit ?_
   have hk' :x.1-1-k=0:=by omega
   rw[hk'] at hinv
   simp only[Bj,Option.map_some,List.append_nil] at hinv
   subst hacc
   have spG:=Ju bs q v hb hq hv
   have htr:DJ bs p v ref=match Bo bs q v with
    |none=>none
    |some r=>match DT ref acc r.1 with
     |some l=>some (l,r.2)
     |none=>none:=by
    unfold DJ
    rw[hg]
    simp only
    rw[if_pos hle,hinv]
    rfl
   rw[htr]
   clear htr
   cases hgp:Bo bs q v with
   |none=>
    rw[hgp] at spG
    simp only[CS] at spG
    refine z0 ?_;intro K hK
    refine Ab.eq spG (by simp) (by simp) ?_
    refine zx ?_
    refine zk ?_;clear hK K
    refine zs ?_
    refine zt ?_
    refine zs ?_
    refine zr ?_
    rfl
   |some g=>
    rw[hgp] at spG
    simp only[CS] at spG
    obtain⟨g1,g2,g3,g4⟩:=IN (by omega) hgp
    refine z0 ?_;intro K hK
    refine Ab.eq spG (by simp) (by simp) ?_
    refine zx ?_
    refine zk ?_;clear hK K
    refine zs ?_
    refine zn ?_
    refine W.skip ?_
    have spJ:=LM ref acc g.1 hr (by omega) (by omega) hbnd
    simp only
    rw[Ui]
    obtain⟨l,hl⟩:∃l,l=(GS ref acc g.1).1:=⟨_,rfl⟩
    rw[←hl] at spJ ⊢
    cases hj:(GS ref acc g.1).2
    .rw[hj] at spJ
     refine z0 ?_;intro K hK
     refine Ab.eq spJ (by simp) (by simp) ?_
     refine zx ?_
     refine zk ?_;clear hK K
     refine zs ?_
     refine zt ?_
     refine zs ?_
     refine zr ?_
     rfl
    .rw[hj] at spJ
     refine z0 ?_;intro K hK
     refine Ab.eq spJ (by simp) (by simp) ?_
     refine zx ?_
     refine zk ?_;clear hK K
     refine zs ?_
     refine zn ?_
     refine W.skip ?_
     refine zs ?_
     refine zr ?_
     rfl
end Go.Abs
set_option maxRecDepth 100000
namespace Go.Abs
open Go.Proofs
theorem Ns (hR:Bh) (s:AP) (hs:AZ s) (hx:CO s):Aa pg 23 [.agg (Ay false s)] [] (fun r _=>r= .tup [.int .i64 (if Bm s then Ct s.vers else 0),.int .i64 (if Bm s then 0 else 1)]):=by
 refine Aa.start (fn:=Tryz.f23) [.tmp 2,.tmp 3] tk rfl rfl rfl (by kernel_rfl) (Nat.le_of_ble_eq_true rfl) rfl (by kernel_rfl) ?_
 rw[At]
 refine z1 ?_;intro K hK;refine zk ?_;clear hK K
 by_cases h:Bm s
 .refine z0 ?_;intro K hK
  refine Ab.eq (BW hR s hs hx) (by simp) (by simp) ?_
  rw[decide_eq_true h]
  refine zx ?_
  refine zk ?_;clear hK K
  refine zn ?_
  refine W.skip ?_
  refine z0 ?_;intro K hK
  refine Ab.eq (IA s hs) (by simp) (by simp) ?_
  refine zx ?_
  refine zk ?_;clear hK K
  refine zr ?_
  simp[h]
 .refine z0 ?_;intro K hK
  refine Ab.eq (BW hR s hs hx) (by simp) (by simp) ?_
  rw[decide_eq_false h]
  refine zx ?_
  refine zk ?_;clear hK K
  refine zt ?_
  refine zs ?_
  refine zr ?_
  simp[h]
theorem Vm (hR:Bh) (s:AP) (hs:AZ s) (hx:CO s):Aa pg 16 [.agg (Ay false s)] [] (fun r _=>r= .tup [if Bm s then .own 1 (BY s.vers).length (Ad (BY s.vers)) else .own 1 0 [],.int .i64 (if Bm s then 0 else 1)]):=by
 refine Aa.start (fn:=Tryz.f16) [.tmp 2,.tmp 3] tk rfl rfl rfl (by kernel_rfl) (Nat.le_of_ble_eq_true rfl) rfl (by kernel_rfl) ?_
 rw[At]
 refine z1 ?_;intro K hK;refine zk ?_;clear hK K
 by_cases h:Bm s
 .refine z0 ?_;intro K hK
  refine Ab.eq (BW hR s hs hx) (by simp) (by simp) ?_
  rw[decide_eq_true h]
  refine zx ?_
  refine zk ?_;clear hK K
  refine zn ?_
  refine W.skip ?_
  refine z0 ?_;intro K hK
  refine Ab.eq (P4 s hs) (by simp) (by simp) ?_
  refine zx ?_
  refine zk ?_;clear hK K
  refine zr ?_
  simp[h]
 .refine z0 ?_;intro K hK
  refine Ab.eq (BW hR s hs hx) (by simp) (by simp) ?_
  rw[decide_eq_false h]
  refine zx ?_
  refine zk ?_;clear hK K
  refine zt ?_
  refine zs ?_
  refine zr ?_
  simp[h]
theorem Uj (hR:Bh) (s:AP) (hs:AZ s) (hx:CO s):Aa pg 15 [.agg (Ay false s)] [] (fun r _=>r= .tup [if Bm s then .own 1 (BZ s true).length (Ad (BZ s true)) else .own 1 0 [],.int .i64 (if Bm s then 0 else 1)]):=by
 refine Aa.start (fn:=Tryz.f15) [.tmp 2,.tmp 3] tk rfl rfl rfl (by kernel_rfl) (Nat.le_of_ble_eq_true rfl) rfl (by kernel_rfl) ?_
 rw[At]
 refine z1 ?_;intro K hK;refine zk ?_;clear hK K
 by_cases h:Bm s
 .have hk:=h.1.1
  refine z0 ?_;intro K hK
  refine Ab.eq (BW hR s hs hx) (by simp) (by simp) ?_
  rw[decide_eq_true h]
  refine zx ?_
  refine zk ?_;clear hK K
  refine zn ?_
  refine W.skip ?_
  refine z0 ?_;intro K hK
  refine Ab.eq (MG s true hs ⟨by have:=hk.1;omega,by have:=hk.2.1;omega⟩) (by simp) (by simp) ?_
  refine zx ?_
  refine zk ?_;clear hK K
  refine zr ?_
  simp[h]
 .refine z0 ?_;intro K hK
  refine Ab.eq (BW hR s hs hx) (by simp) (by simp) ?_
  rw[decide_eq_false h]
  refine zx ?_
  refine zk ?_;clear hK K
  refine zt ?_
  refine zs ?_
  refine zr ?_
  simp[h]
def AR (b k:Int):AP:=⟨k,b,[],[Cm,Cm,Cm]⟩
theorem RG (hR:Bh) (b k:Int) (h:Bm (AR b k)):Aa pg 41 [.int .i64 b,.int .i64 k] [] (fun r _=>r= .tup [.agg (Ay true (AR b k)),.int .i64 0]):=by
 have hs:AZ (AR b k):=⟨by simp[AR],by simp[AR],by simp[AR]⟩
 have hx:CO (AR b k):=by
  intro x hx
  have:x=Cm:=by simpa[AR] using hx
  subst this
  simp[Db,Et,HH,Cm,Au,B5]
 have sp:=BW hR (AR b k) hs hx
 rw[decide_eq_true h] at sp
 refine Aa.start (fn:=Tryz.f41) [.cell 4 38,.tmp 5] tk rfl rfl rfl (by kernel_rfl) (Nat.le_of_ble_eq_true rfl) rfl (by kernel_rfl) ?_
 rw[Am]
 refine z1 ?_;intro K hK;refine zk ?_;clear hK K
 refine z2 ?_;intro K hK
 refine⟨by show(3:Int)≤9223372036854775807;decide,?_⟩
 have e:Dn 3 [AV.bool false,AV.int .i64 0,AV.bool false,AV.int .i64 0,AV.int .i64 0,AV.own 1 0 [],AV.int .i64 0,AV.int .i64 0,AV.int .i64 0,AV.bool false,AV.own 1 0 [],AV.own 1 0 []]=Af (AG true) [Cm,Cm,Cm]:=rfl
 rw[e]
 refine zk ?_;clear hK K
 refine W.weak (Wk.thaw (B:=2) (v:=0) (j:=2) (s:=8) (n:=0) (xs:=[]) (by rfl) (by rfl)) ?_
 refine z0 ?_;intro K hK
 refine Ab.eq sp (by simp[AR];rfl) (by simp[AR]) ?_
 refine zx ?_
 refine zk ?_;clear hK K
 refine zn ?_
 refine W.skip ?_
 refine z0 ?_;intro K hK
 refine zk ?_;clear hK K
 refine zr ?_
 exact(rfl:AV.tup [.agg (Ay true (AR b k)),.int .i64 0]=_)
end Go.Abs
set_option maxRecDepth 100000
namespace Go.Abs
open Go.Proofs
theorem Sg (g:Gr) (h1:g.out.length<1000000000) (h2:Cl g.out<4611686018427387904):Aa pg 88 [.agg (AQ false g)] [] (fun r _=>r= .int .i64 (Cl g.out)):=by
 refine Aa.start (fn:=Tryz.f88) [.tmp 2] tk rfl rfl rfl (by kernel_rfl) (Nat.le_of_ble_eq_true rfl) rfl (by kernel_rfl) ?_
 rw[At]
 refine z1 ?_;intro K hK;refine zk ?_;clear hK K
 refine zs ?_
 refine zs ?_
 (repeat refine W.seq ?_);refine W.block (W.loopS (fun k:Nat=> [(1,.ptr 0 0 0),(3,.int .i64 (Cl (g.out.take k))),(4,.int .i64 k)]) (fun _=> [.live 0 (AQ false g)]) (fun k=>g.out.length-k) (fun k=>k≤g.out.length) 0 (Wk.fr (by simp[Ac,Cl])) (by simp) ?_)
 intro k hk
 refine zs ?_
 refine zc ?_ ?_<;>intro h
 .refine W.skip ?_
  have hlt:k<g.out.length:=by omega
  have hs:=JX hlt
  have ht:=JW g.out (k+1)
  refine zb ?_
  (repeat refine W.seq ?_);refine W.reg 0 rfl fun K hK=>?_;simp -implicitDefEqProofs (maxSteps:=999999) (disch:=omega) [hlt]
  refine zk ?_;clear hK K
  refine zs ?_
  refine⟨k+1,by omega,by omega,Wk.fr (by simp[Ac,hs])⟩
 .refine W.exit ?_
  have:k=g.out.length:=by omega
  subst this
  refine zs ?_
  exact zR
theorem IH (g:Gr) (hg:Et g):Aa pg 44 [.agg (AQ false g)] [] (fun r _=>r= .bool (decide (AY g))):=by
 obtain⟨h1,h2⟩:=hg
 have spN:=HG g.n 16
 refine Aa.start (fn:=Tryz.f44) [.tmp 2] tk rfl rfl rfl (by kernel_rfl) (Nat.le_of_ble_eq_true rfl) rfl (by kernel_rfl) ?_
 rw[At]
 refine z1 ?_;intro K hK;refine zk ?_;clear hK K
 by_cases c1:0≤g.n∧g.n≤16
 rotate_left
 .rw[decide_eq_false c1] at spN
  refine z0 ?_;intro K hK
  refine Ab.eq spN (by simp) (by simp) ?_
  refine zx ?_
  refine zk ?_;clear hK K
  refine zt ?_
  refine zs ?_
  refine zr ?_
  exact fun h=>c1 ⟨h.1,h.2.1⟩
 rw[decide_eq_true c1] at spN
 by_cases c2:(g.out.length:Int)=g.n
 rotate_left
 .refine z0 ?_;intro K hK
  refine Ab.eq spN (by simp) (by simp) ?_
  refine AM c2 ?_
  refine zk ?_;clear hK K
  refine zt ?_
  refine zs ?_
  refine zr ?_
  exact fun h=>c2 h.2.2.1
 refine z0 ?_;intro K hK
 refine Ab.eq spN (by simp) (by simp) ?_
 refine AM c2 ?_
 refine zk ?_;clear hK K
 refine zn ?_
 refine W.skip ?_
 refine zs ?_
 (repeat refine W.seq ?_);refine W.block (W.loopS (fun k:Nat=> [(1,.ptr 0 0 0),(3,.int .i64 k)]) (fun _=> [.live 0 (AQ false g)]) (fun k=>g.out.length-k) (fun k=>k≤g.out.length∧∀l∈g.out.take k,E5 g.n l) 0 (Wk.fr (by simp[Ac])) (by simp) ?_)
 rintro k ⟨hk,hinv⟩
 by_cases hlt:k<g.out.length
 .have hlt2:(k:Int)<g.n:=by omega
  refine Ae hlt2 ?_;intro K hK
  refine zk ?_;clear hK K
  refine zt ?_
  refine W.skip ?_
  have hl2:=h2 _ (List.getElem_mem hlt)
  have hmem:=List.getElem_mem hlt
  refine zb ?_
  have hmi:=HT hlt
  obtain⟨l,hl⟩:∃l,l=g.out[k]:=⟨_,rfl⟩
  rw[←hl] at hl2 hmem hmi
  (repeat refine W.seq ?_);refine W.midS (fun b:Bool=> [(1,.ptr 0 0 0),(3,.int .i64 k),(56,.bool b)]) (fun _=> [.live 0 (AQ false g)]) (fun b=>b=false↔E5 g.n l) ?_ ?_
  .by_cases hm:AI l
   .by_cases h0:0<l.length
    .have hla:=Lb (n:=g.n) hm h0
     have h0' :(0:Int)<(l.length:Int):=by omega
     have spM:=FC l (by omega)
     rw[decide_eq_true hm] at spM
     (repeat refine W.seq ?_);refine W.regd 0 rfl true Cq (by kernel_rfl) fun K hK=>?_;simp -implicitDefEqProofs (maxSteps:=999999) (disch:=omega) [hlt,←hl]
     refine Ah.eq spM (by simp) (by simp) ?_
     simp only[DQ];simp -implicitDefEqProofs (maxSteps:=999999) (disch:=omega) [hlt,←hl,h0]
     refine⟨by omega,?_⟩
     refine zk ?_;clear hK K
     exact⟨decide (g.n≤l[l.length-1]),by rw[hla];simp,Wk.fr (by simp[Ac])⟩
    .have hl0:l=[]:=List.eq_nil_of_length_eq_zero (by omega)
     have spM:=FC l (by omega)
     rw[decide_eq_true hm] at spM
     (repeat refine W.seq ?_);refine W.regd 0 rfl true Cq (by kernel_rfl) fun K hK=>?_;simp -implicitDefEqProofs (maxSteps:=999999) (disch:=omega) [hlt,←hl]
     refine Ah.eq spM (by simp) (by simp) ?_
     simp only[DQ];simp -implicitDefEqProofs (maxSteps:=999999) (disch:=omega) [hlt,←hl,h0]
     refine zk ?_;clear hK K
     exact⟨false,by rw[hl0];simp[E5,AI],Wk.fr (by simp[Ac])⟩
   .have spM:=FC l (by omega)
    rw[decide_eq_false hm] at spM
    (repeat refine W.seq ?_);refine W.regd 0 rfl true Cq (by kernel_rfl) fun K hK=>?_;simp -implicitDefEqProofs (maxSteps:=999999) (disch:=omega) [hlt,←hl]
    refine Ah.eq spM (by simp) (by simp) ?_
    refine zx ?_
    refine zk ?_;clear hK K
    exact⟨true,by simp[E5,hm],Wk.fr (by simp[Ac])⟩
  .intro b hb
   refine zc ?_ ?_<;>intro h
   .refine zs ?_
    refine zr ?_
    intro h'
    have h3:=h'.2.2.2.1 l hmem
    have h4:=hb.2 h3
    have h5:b=true:=by assumption
    rw[h4] at h5;cases h5
   .refine W.skip ?_
    refine zs ?_
    refine⟨k+1,by omega,⟨by omega,fun x hx=>?_⟩,Wk.fr (by simp[Ac])⟩
    rcases(hmi x).1 hx with h6|h6
    .exact hinv x h6
    .rw[h6];exact hb.1 (by assumption)
 .have:k=g.out.length:=by omega
  subst this
  rw[List.take_length] at hinv
  have hge:¬(g.out.length:Int)<g.n:=by omega
  refine Ae hge ?_;intro K hK
  refine zk ?_;clear hK K
  refine zn ?_
  refine W.exit ?_
  refine z0 ?_;intro K hK
  refine Ab.eq (Sg g h1 (by have:=Iy hinv;omega)) (by simp) (by simp) ?_
  refine zx ?_
  refine zk ?_;clear hK K
  refine zr ?_
  exact⟨fun h=>⟨c1.1,c1.2,c2,hinv,by omega⟩,fun h=>by have:=h.2.2.2.2;omega⟩
theorem O5 (n:Nat) (hn:n<1000000):Aa pg 144 [.int .i64 n] [] (fun r _=>r= .agg (AQ true ⟨n,List.replicate n []⟩)):=by
 refine Aa.start (fn:=Tryz.f144) [.cell 2 51] tk rfl rfl rfl (by kernel_rfl) (Nat.le_of_ble_eq_true rfl) rfl (by kernel_rfl) ?_
 rw[At]
 refine z1 ?_;intro K hK;refine zk ?_;clear hK K
 refine z1 ?_;intro K hK
 refine zk ?_;clear hK K
 refine zr ?_
 simp[Mw]
theorem Qe (g:Gr) (v:Nat) (h:v<g.out.length) (h2:(v:Int)<g.n):Aa pg 147 [.agg (AQ false g),.int .i64 v] [] (fun r _=>r= .ro g.out[v].length (Ad g.out[v])):=by
 refine Aa.start (fn:=Tryz.f147) [.tmp 4] tk rfl rfl rfl (by kernel_rfl) (Nat.le_of_ble_eq_true rfl) rfl (by kernel_rfl) ?_
 rw[Am]
 refine z1 ?_;intro K hK;refine zk ?_;clear hK K
 refine Ae h2 ?_;intro K hK
 refine zk ?_;clear hK K
 refine zt ?_
 (repeat refine W.seq ?_);refine W.reg 0 rfl fun K hK=>?_;simp -implicitDefEqProofs (maxSteps:=999999) (disch:=omega) [h]
 refine zk ?_;clear hK K
 exact zR
theorem Qf (g:Gr) (v:Nat) (h2:g.n≤(v:Int)):Aa pg 147 [.agg (AQ false g),.int .i64 v] [] (fun r _=>r= .own 1 0 []):=by
 have h3:¬(v:Int)<g.n:=by omega
 refine Aa.start (fn:=Tryz.f147) [.tmp 4] tk rfl rfl rfl (by kernel_rfl) (Nat.le_of_ble_eq_true rfl) rfl (by kernel_rfl) ?_
 rw[Am]
 refine z1 ?_;intro K hK;refine zk ?_;clear hK K
 refine Ae h3 ?_;intro K hK
 refine zk ?_;clear hK K
 refine zn ?_
 refine W.skip ?_
 refine zs ?_
 exact zR
theorem Lt (l:List Obj) (id:Int) (hl:l.length<1000000000):Aa pg 105 [.ro l.length (Af Av l),.int .i64 id] [] (fun r _=>r= .int .i64 (BM (fun o=>decide (o.id=id)) l)):=by
 refine Aa.start (fn:=Tryz.f105) [.tmp 4] tk rfl rfl rfl (by kernel_rfl) (Nat.le_of_ble_eq_true rfl) rfl (by kernel_rfl) ?_
 rw[Am]
 refine zs ?_
 refine zs ?_
 (repeat refine W.seq ?_);refine W.block (W.loopS (fun k:Nat=> [(0,.ro l.length (Af Av l)),(1,.int .i64 id),(5,.int .i64 k)]) (fun _=> []) (fun k=>l.length-k) (fun k=>k≤l.length∧∀i (h:i<l.length),i<k→l[i].id≠id) 0 (Wk.fr (by simp[Ac])) (by simp) ?_)
 rintro k ⟨hk,ht⟩
 refine zs ?_
 refine zc ?_ ?_<;>intro h
 .refine W.skip ?_
  have hlt:k<l.length:=by omega
  refine zb ?_
  (repeat refine W.seq ?_);refine W.reg 0 rfl fun K hK=>?_;simp -implicitDefEqProofs (maxSteps:=999999) (disch:=omega) [hlt]
  refine zk ?_;clear hK K
  refine zc ?_ ?_<;>intro h
  .refine zs ?_
   refine zr ?_
   exact(Eg hlt (by simp[h]) fun i hi hik=>by simpa using ht i hi hik).symm
  .refine W.skip ?_
   refine zs ?_
   refine⟨k+1,by omega,⟨by omega,?_⟩,Wk.fr (by simp[Ac])⟩
   intro i hi hik
   by_cases e:i=k
   .subst e;exact fun e=>h e
   .exact ht i hi (by omega)
 .refine W.exit ?_
  refine zs ?_
  refine zr ?_
  exact(DK fun i hi=>by simpa using ht i hi (by omega)).symm
end Go.Abs
set_option maxRecDepth 100000
namespace Go.Abs
open Go.Proofs
def EV (o:Option Gr):AV:=match o with|some g=> .tup [.agg (AQ true g),.bool true] |none=> .tup [.agg (AQ true Au),.bool false]
theorem MT (bs:List Bool) (hb:bs.length<1000000000):Aa pg 108 [.ro bs.length (AK bs)] [] (fun r _=>r=EV (Ee bs)):=by
 refine Aa.start (fn:=Tryz.f108) [.cell 2 51,.tmp 3] tk rfl rfl rfl (by kernel_rfl) (Nat.le_of_ble_eq_true rfl) rfl (by kernel_rfl) ?_
 rw[At]
 refine z1 ?_;intro K hK;refine zk ?_;clear hK K
 refine z0 ?_;intro K hK
 have sp:=En bs 0 hb (Nat.zero_le _)
 have hbad0:∀c:Prop,c→c:=fun _ h=>h
 cases hg:AH bs 0 with
 |none=>
  simp only[hg,ES] at sp
  refine Ab.eq sp (by simp) (by simp) ?_
  refine zx ?_
  refine zk ?_;clear hK K
  refine zs ?_
  refine zt ?_
  refine zs ?_
  refine W.weak (Wk.thaw (B:=0) (v:=0) (j:=1) (s:=1) (n:=0) (cs:=[.int .i64 0,.own 1 0 []]) (xs:=[]) rfl rfl) ?_
  refine zr ?_
  simp[Ee,CA,hg,EV,Au]
 |some x=>
  simp only[hg,ES] at sp
  obtain⟨hx1,hx2,hx3,hx4,_⟩:=AJ hg
  refine Ab.eq sp (by simp) (by simp) ?_
  refine zx ?_
  refine zk ?_;clear hK K
  by_cases hle:x.1≤17
  rotate_left
  .have h1:¬(x.1:Int)<1:=by omega
   have h2:(16:Int)<(x.1:Int)-1:=by omega
   refine Ae (an h1 h2) ?_;intro K hK
   refine zk ?_;clear hK K
   refine zt ?_
   refine zs ?_
   refine W.weak (Wk.thaw (B:=0) (v:=0) (j:=1) (s:=1) (n:=0) (cs:=[.int .i64 0,.own 1 0 []]) (xs:=[]) rfl rfl) ?_
   refine zr ?_
   simp only[Ee,CA,hg];rw[if_neg hle];simp[EV,Au]
  have h1:¬(x.1:Int)<1:=by omega
  have h2:¬(16:Int)<(x.1:Int)-1:=by omega
  obtain⟨n,hn⟩:∃n,x.1=n+1:=⟨x.1-1,by omega⟩
  have hxn:(x.1:Int)-1=(n:Int):=by omega
  have hgr:Ee bs=match A2 (Bo bs) n 0 x.2 with
   |none=>none
   |some r=>if r.2=bs.length∧AY ⟨(n:Int),r.1⟩ then some ⟨(n:Int),r.1⟩ else none:=by
   simp only[Ee,CA,hg]
   rw[if_pos hle,hn,Nat.add_sub_cancel]
   simp only[Int.natCast_add,Int.natCast_one,Int.add_sub_cancel]
   rfl
  rw[hgr]
  clear hgr
  refine Ae (an h1 h2) ?_;intro K hK
  refine zk ?_;clear hK K
  refine zn ?_
  refine W.skip ?_
  refine z1 ?_;intro K hK
  refine Ab.eq (O5 n (by omega)) (by simp[hxn]) (by simp) ?_
  refine zx ?_
  refine zk ?_;clear hK K
  refine zs ?_
  (repeat refine W.seq ?_);refine W.block (W.loopS (fun s:Nat×List (List Int)×Nat=> [(0,.ro bs.length (AK bs)),(2,.ptr 0 0 0),(6,.ptr 1 0 0),(5,.int .i64 s.2.2),(7,.int .i64 s.1)]) (fun s=> [.live 0 [.int .i64 0,.own 1 0 []],.live 0 [.int .i64 n,.tok 2 0 1 0 n],.live 0 (Aw true (s.2.1++List.replicate (n-s.1) []))]) (fun s=>n-s.1)
    (fun s=>s.1≤n∧s.2.1.length=s.1∧s.2.2≤bs.length∧(∀l∈s.2.1,AI l)∧A2 (Bo bs) n 0 x.2=(A2 (Bo bs) (n-s.1) s.1 s.2.2).map fun r=>(s.2.1++r.1,r.2)) (0,[],x.2) (Wk.fr (by simp[Ac])) ⟨by simp,rfl,hx4,by simp,by simp⟩ ?_)
  rintro⟨k,acc,q⟩ ⟨hk,hacc,hq,hml,hinv⟩
  simp only at hk hacc hq hml hinv
  refine zs ?_
  refine zc ?_ ?_<;>intro h
  .refine W.skip ?_
   have hkn:k<n:=by omega
   obtain⟨m,hm⟩:∃m,n-k=m+1:=⟨n-k-1,by omega⟩
   have hm' :n-(k+1)=m:=by omega
   rw[hm] at hinv
   refine zb ?_
   have spR:=Ju bs q k hb hq (by omega)
   cases hr:(Bo bs) q k with
   |none=>
    rw[hr] at spR
    simp only[CS] at spR
    have hnone:A2 (Bo bs) n 0 x.2=none:=by rw[hinv,A2,hr];rfl
    rw[hnone]
    refine z0 ?_;intro K hK
    refine Ab.eq spR (by simp) (by simp) ?_
    refine zx ?_
    refine zk ?_;clear hK K
    refine zs ?_
    refine zt ?_
    refine zs ?_
    refine W.weak (Wk.thaw (B:=0) (v:=0) (j:=1) (s:=1) (n:=0) (cs:=[.int .i64 0,.own 1 0 []]) (xs:=[]) (by rfl) (by rfl)) ?_
    refine zr ?_
    simp[EV,Au]
   |some g=>
    rw[hr] at spR
    simp only[CS] at spR
    obtain⟨g1,g2,g3,g4⟩:=IN (by omega) hr
    simp only[A2,hr] at hinv
    refine z0 ?_;intro K hK
    refine Ab.eq spR (by simp) (by simp) ?_
    refine zx ?_
    refine zk ?_;clear hK K
    refine zs ?_
    refine zn ?_
    refine W.skip ?_
    rw[hm]
    have hkl:k<n:=by omega
    have hll:(Aw true (acc++List.replicate (m+1) [])).length=n:=by simp[hacc];omega
    refine Ae hkl ?_;intro K hK
    refine zk ?_;clear hK K
    refine zs ?_
    refine⟨(k+1,acc++[g.1],g.2),by simp only;omega,⟨by simp only;omega,by simp[hacc],g4,?_,?_⟩,?_⟩
    .intro w hw
     simp only[List.mem_append,List.mem_singleton] at hw
     rcases hw with hw|rfl
     .exact hml w hw
     .exact g1
    .rw[hinv,hm']
     simp only
     have:(k:Int)+1=((k+1:Nat):Int):=by omega
     rw[this]
     cases A2 (Bo bs) m ((k+1:Nat):Int) g.2<;>simp
    .subst hacc
     refine Wk.trans (Wk.intern (B:=2) (v:=0) (j:=acc.length) (T:=3) (u:=0) (s:=1) (off:=0) (n:=g.1.length) (xs:=Ad g.1) (by rfl) (by simp) (by rfl) (by simp) (by simp) (by simp)) ?_
     refine Wk.cutM (k:=3) (by simp[Ac]) ?_ (by simp) (by simp) (by simp) (by simp)
     simp only[hm']
     simp[List.replicate_succ,Aw]
  .refine W.exit ?_
   have hkn:k=n:=by omega
   subst hkn
   rw[Nat.sub_self] at hinv ⊢
   simp only[A2,Option.map_some,List.append_nil] at hinv
   rw[hinv]
   simp only[List.replicate_zero,List.append_nil]
   subst hacc
   have hGi:Et ⟨(acc.length:Int),acc⟩:=⟨by simp only;omega,fun l hl=>by have:=BQ (hml l hl);omega⟩
   have spG:=IH ⟨(acc.length:Int),acc⟩ hGi
   by_cases hqb:q=bs.length
   rotate_left
   .have hqb' :¬(q:Int)=(bs.length:Int):=by omega
    refine Ae hqb' ?_;intro K hK
    refine zk ?_;clear hK K
    refine zt ?_
    refine zs ?_
    refine W.weak (Wk.thaw (B:=0) (v:=0) (j:=1) (s:=1) (n:=0) (cs:=[.int .i64 0,.own 1 0 []]) (xs:=[]) (by rfl) (by rfl)) ?_
    refine zr ?_
    rw[if_neg (fun h=>hqb h.1)];simp[EV,Au]
   subst hqb
   by_cases hmg:AY ⟨(acc.length:Int),acc⟩
   .rw[decide_eq_true hmg] at spG
    refine z0 ?_;intro K hK
    refine Ab.eq spG (by simp) (by simp) ?_
    refine zx ?_
    refine zk ?_;clear hK K
    refine zn ?_
    refine W.skip ?_
    refine zs ?_
    refine zr ?_
    simp[hmg,EV]
   .rw[decide_eq_false hmg] at spG
    refine z0 ?_;intro K hK
    refine Ab.eq spG (by simp) (by simp) ?_
    refine zx ?_
    refine zk ?_;clear hK K
    refine zt ?_
    refine zs ?_
    refine W.weak (Wk.thaw (B:=0) (v:=0) (j:=1) (s:=1) (n:=0) (cs:=[.int .i64 0,.own 1 0 []]) (xs:=[]) (by rfl) (by rfl)) ?_
    refine zr ?_
    simp[hmg,EV,Au]
theorem KH {a:Gr} {bs:List Bool} {p:Nat} {v:Int} {r:List Int×Nat} (ha:AY a) (hv:-100000≤v∧v≤100000) (h:DJ bs p v (AC a v)=some r):AI r.1∧r.1.length≤16∧r.2≤r.2∧r.2≤bs.length:=by
 rw[Lp _ _ _ _ (ID ha v)] at h
 have:=JZ hv h
 exact⟨this.1,this.2.1,Nat.le_refl _,this.2.2⟩
theorem MU (a:Gr) (bs:List Bool) (hb:bs.length<1000000000) (ha:AY a):Aa pg 109 [.agg (AQ false a),.ro bs.length (AK bs)] [] (fun r _=>r=EV (Gw a bs)):=by
 refine Aa.start (fn:=Tryz.f109) [.cell 4 51,.tmp 5] tk rfl rfl rfl (by kernel_rfl) (Nat.le_of_ble_eq_true rfl) rfl (by kernel_rfl) ?_
 rw[Am]
 obtain⟨rd,hrdd⟩:∃rd:Rd,rd=fun p v=>DJ bs p v (AC a v):=⟨_,rfl⟩
 have hrd:∀q v,rd q v=DJ bs q v (AC a v):=fun q v=>by rw[hrdd]
 have htd:Gw a bs=CA bs rd:=by rw[hrdd];rfl
 rw[htd]
 clear htd hrdd
 refine z2 ?_;intro K hK;refine zk ?_;clear hK K
 refine z0 ?_;intro K hK
 have sp:=En bs 0 hb (Nat.zero_le _)
 have hbad0:∀c:Prop,c→c:=fun _ h=>h
 cases hg:AH bs 0 with
 |none=>
  simp only[hg,ES] at sp
  refine Ab.eq sp (by simp) (by simp) ?_
  refine zx ?_
  refine zk ?_;clear hK K
  refine zs ?_
  refine zt ?_
  refine zs ?_
  refine W.weak (Wk.thaw (B:=1) (v:=0) (j:=1) (s:=1) (n:=0) (cs:=[.int .i64 0,.own 1 0 []]) (xs:=[]) rfl rfl) ?_
  refine zr ?_
  simp[CA,CA,hg,EV,Au]
 |some x=>
  simp only[hg,ES] at sp
  obtain⟨hx1,hx2,hx3,hx4,_⟩:=AJ hg
  refine Ab.eq sp (by simp) (by simp) ?_
  refine zx ?_
  refine zk ?_;clear hK K
  by_cases hle:x.1≤17
  rotate_left
  .have h1:¬(x.1:Int)<1:=by omega
   have h2:(16:Int)<(x.1:Int)-1:=by omega
   refine Ae (an h1 h2) ?_;intro K hK
   refine zk ?_;clear hK K
   refine zt ?_
   refine zs ?_
   refine W.weak (Wk.thaw (B:=1) (v:=0) (j:=1) (s:=1) (n:=0) (cs:=[.int .i64 0,.own 1 0 []]) (xs:=[]) rfl rfl) ?_
   refine zr ?_
   simp only[CA,CA,hg];rw[if_neg hle];simp[EV,Au]
  have h1:¬(x.1:Int)<1:=by omega
  have h2:¬(16:Int)<(x.1:Int)-1:=by omega
  obtain⟨n,hn⟩:∃n,x.1=n+1:=⟨x.1-1,by omega⟩
  have hxn:(x.1:Int)-1=(n:Int):=by omega
  have hgr:CA bs rd=match A2 rd n 0 x.2 with
   |none=>none
   |some r=>if r.2=bs.length∧AY ⟨(n:Int),r.1⟩ then some ⟨(n:Int),r.1⟩ else none:=by
   simp only[CA,CA,hg]
   rw[if_pos hle,hn,Nat.add_sub_cancel]
   simp only[Int.natCast_add,Int.natCast_one,Int.add_sub_cancel]
   rfl
  rw[hgr]
  clear hgr
  refine Ae (an h1 h2) ?_;intro K hK
  refine zk ?_;clear hK K
  refine zn ?_
  refine W.skip ?_
  refine z1 ?_;intro K hK
  refine Ab.eq (O5 n (by omega)) (by simp[hxn]) (by simp) ?_
  refine zx ?_
  refine zk ?_;clear hK K
  refine zs ?_
  (repeat refine W.seq ?_);refine W.block (W.loopS (fun s:Nat×List (List Int)×Nat=> [(1,.ro bs.length (AK bs)),(2,.ptr 0 0 0),(4,.ptr 1 0 0),(8,.ptr 2 0 0),(7,.int .i64 s.2.2),(9,.int .i64 s.1)]) (fun s=> [.live 0 (AQ false a),.live 0 [.int .i64 0,.own 1 0 []],.live 0 [.int .i64 n,.tok 3 0 1 0 n],.live 0 (Aw true (s.2.1++List.replicate (n-s.1) []))]) (fun s=>n-s.1)
    (fun s=>s.1≤n∧s.2.1.length=s.1∧s.2.2≤bs.length∧(∀l∈s.2.1,AI l)∧A2 rd n 0 x.2=(A2 rd (n-s.1) s.1 s.2.2).map fun r=>(s.2.1++r.1,r.2)) (0,[],x.2) (Wk.fr (by simp[Ac])) ⟨by simp,rfl,hx4,by simp,by simp⟩ ?_)
  rintro⟨k,acc,q⟩ ⟨hk,hacc,hq,hml,hinv⟩
  simp only at hk hacc hq hml hinv
  refine zs ?_
  refine zc ?_ ?_<;>intro h
  .refine W.skip ?_
   have hkn:k<n:=by omega
   obtain⟨m,hm⟩:∃m,n-k=m+1:=⟨n-k-1,by omega⟩
   have hm' :n-(k+1)=m:=by omega
   rw[hm] at hinv
   refine zb ?_
   have hba:(AC a k).length<1000000:=by have:=CE ha (k:Int);omega
   have spR:=Qd bs q k (AC a k) hb hq (by omega) hba
   rw[←hrd] at spR
   have spB:(∃_:k<a.out.length,Aa pg 147 [.agg (AQ false a),.int .i64 k] [] (fun r _=>r= .ro (AC a k).length (Ad (AC a k))))∨(AC a k=[]∧Aa pg 147 [.agg (AQ false a),.int .i64 k] [] (fun r _=>r= .own 1 0 [])):=by
    have han:=ha.2.2.1
    by_cases h:k<a.out.length
    .left
     rw[Be h]
     exact⟨h,Qe a k h (by omega)⟩
    .right
     exact⟨by simp[AC,List.getD_eq_getElem?_getD,List.getElem?_eq_none (show a.out.length≤k by omega)],Qf a k (by omega)⟩
   rcases spB with⟨hk3,spB⟩ | ⟨hbe,spB⟩
   .cases hr:rd q k with
    |none=>
     rw[hr] at spR
     simp only[CS] at spR
     have hnone:A2 rd n 0 x.2=none:=by rw[hinv,A2,hr];rfl
     rw[hnone]
     refine z0 ?_;intro K hK
     refine Ab.eqr spB (by simp) ?_
     refine zx ?_
     refine Ab.eq spR (by simp) (by simp) ?_
     refine zx ?_
     refine zk ?_;clear hK K
     refine zs ?_
     refine zt ?_
     refine zs ?_
     refine W.weak (Wk.thaw (B:=1) (v:=0) (j:=1) (s:=1) (n:=0) (cs:=[.int .i64 0,.own 1 0 []]) (xs:=[]) (by rfl) (by rfl)) ?_
     refine zr ?_
     simp[EV,Au]
    |some g=>
     rw[hr] at spR
     simp only[CS] at spR
     obtain⟨g1,g2,g3,g4⟩:=KH ha (show-100000≤(k:Int)∧(k:Int)≤100000 by omega) (hrd q k ▸ hr)
     simp only[A2,hr] at hinv
     refine z0 ?_;intro K hK
     refine Ab.eqr spB (by simp) ?_
     refine zx ?_
     refine Ab.eq spR (by simp) (by simp) ?_
     refine zx ?_
     refine zk ?_;clear hK K
     refine zs ?_
     refine zn ?_
     refine W.skip ?_
     rw[hm]
     have hkl:k<n:=by omega
     have hll:(Aw true (acc++List.replicate (m+1) [])).length=n:=by simp[hacc];omega
     refine Ae hkl ?_;intro K hK
     refine zk ?_;clear hK K
     refine zs ?_
     refine⟨(k+1,acc++[g.1],g.2),by simp only;omega,⟨by simp only;omega,by simp[hacc],g4,?_,?_⟩,?_⟩
     .intro w hw
      simp only[List.mem_append,List.mem_singleton] at hw
      rcases hw with hw|rfl
      .exact hml w hw
      .exact g1
     .rw[hinv,hm']
      simp only
      have:(k:Int)+1=((k+1:Nat):Int):=by omega
      rw[this]
      cases A2 rd m ((k+1:Nat):Int) g.2<;>simp
     .subst hacc
      refine Wk.trans (Wk.intern (B:=3) (v:=0) (j:=acc.length) (T:=4) (u:=0) (s:=1) (off:=0) (n:=g.1.length) (xs:=Ad g.1) (by rfl) (by simp) (by rfl) (by simp) (by simp) (by simp)) ?_
      refine Wk.cutM (k:=4) (by simp[Ac]) ?_ (by simp) (by simp) (by simp) (by simp)
      simp only[hm']
      simp[List.replicate_succ,Aw]
   .cases hr:rd q k with
    |none=>
     rw[hr] at spR
     simp only[CS] at spR
     have hnone:A2 rd n 0 x.2=none:=by rw[hinv,A2,hr];rfl
     rw[hnone]
     refine z0 ?_;intro K hK
     refine Ab.eq spB (by simp) (by simp) ?_
     refine zx ?_
     refine Ab.eq spR (by simp[hbe]) (by simp) ?_
     refine zx ?_
     refine zk ?_;clear hK K
     refine zs ?_
     refine zt ?_
     refine zs ?_
     refine W.weak (Wk.thaw (B:=1) (v:=0) (j:=1) (s:=1) (n:=0) (cs:=[.int .i64 0,.own 1 0 []]) (xs:=[]) (by rfl) (by rfl)) ?_
     refine zr ?_
     simp[EV,Au]
    |some g=>
     rw[hr] at spR
     simp only[CS] at spR
     obtain⟨g1,g2,g3,g4⟩:=KH ha (show-100000≤(k:Int)∧(k:Int)≤100000 by omega) (hrd q k ▸ hr)
     simp only[A2,hr] at hinv
     refine z0 ?_;intro K hK
     refine Ab.eq spB (by simp) (by simp) ?_
     refine zx ?_
     refine Ab.eq spR (by simp[hbe]) (by simp) ?_
     refine zx ?_
     refine zk ?_;clear hK K
     refine zs ?_
     refine zn ?_
     refine W.skip ?_
     rw[hm]
     have hkl:k<n:=by omega
     have hll:(Aw true (acc++List.replicate (m+1) [])).length=n:=by simp[hacc];omega
     refine Ae hkl ?_;intro K hK
     refine zk ?_;clear hK K
     refine zs ?_
     refine⟨(k+1,acc++[g.1],g.2),by simp only;omega,⟨by simp only;omega,by simp[hacc],g4,?_,?_⟩,?_⟩
     .intro w hw
      simp only[List.mem_append,List.mem_singleton] at hw
      rcases hw with hw|rfl
      .exact hml w hw
      .exact g1
     .rw[hinv,hm']
      simp only
      have:(k:Int)+1=((k+1:Nat):Int):=by omega
      rw[this]
      cases A2 rd m ((k+1:Nat):Int) g.2<;>simp
     .subst hacc
      refine Wk.trans (Wk.intern (B:=3) (v:=0) (j:=acc.length) (T:=5) (u:=0) (s:=1) (off:=0) (n:=g.1.length) (xs:=Ad g.1) (by rfl) (by simp) (by rfl) (by simp) (by simp) (by simp)) ?_
      refine Wk.cutM (k:=4) (by simp[Ac]) ?_ (by simp) (by simp) (by simp) (by simp)
      simp only[hm']
      simp[List.replicate_succ,Aw]
  .refine W.exit ?_
   have hkn:k=n:=by omega
   subst hkn
   rw[Nat.sub_self] at hinv ⊢
   simp only[A2,Option.map_some,List.append_nil] at hinv
   rw[hinv]
   simp only[List.replicate_zero,List.append_nil]
   subst hacc
   have hGi:Et ⟨(acc.length:Int),acc⟩:=⟨by simp only;omega,fun l hl=>by have:=BQ (hml l hl);omega⟩
   have spG:=IH ⟨(acc.length:Int),acc⟩ hGi
   by_cases hqb:q=bs.length
   rotate_left
   .have hqb' :¬(q:Int)=(bs.length:Int):=by omega
    refine Ae hqb' ?_;intro K hK
    refine zk ?_;clear hK K
    refine zt ?_
    refine zs ?_
    refine W.weak (Wk.thaw (B:=1) (v:=0) (j:=1) (s:=1) (n:=0) (cs:=[.int .i64 0,.own 1 0 []]) (xs:=[]) (by rfl) (by rfl)) ?_
    refine zr ?_
    rw[if_neg (fun h=>hqb h.1)];simp[EV,Au]
   subst hqb
   by_cases hmg:AY ⟨(acc.length:Int),acc⟩
   .rw[decide_eq_true hmg] at spG
    refine z0 ?_;intro K hK
    refine Ab.eq spG (by simp) (by simp) ?_
    refine zx ?_
    refine zk ?_;clear hK K
    refine zn ?_
    refine W.skip ?_
    refine zs ?_
    refine zr ?_
    simp[hmg,EV]
   .rw[decide_eq_false hmg] at spG
    refine z0 ?_;intro K hK
    refine Ab.eq spG (by simp) (by simp) ?_
    refine zx ?_
    refine zk ?_;clear hK K
    refine zt ?_
    refine zs ?_
    refine W.weak (Wk.thaw (B:=1) (v:=0) (j:=1) (s:=1) (n:=0) (cs:=[.int .i64 0,.own 1 0 []]) (xs:=[]) (by rfl) (by rfl)) ?_
    refine zr ?_
    simp[hmg,EV,Au]
end Go.Abs
set_option maxRecDepth 100000
namespace Go.Abs
open Go.Proofs
theorem Uk (l:List Obj) (id:Int):(0≤BM (fun o=>decide (o.id=id)) l)↔∃q∈l,q.id=id:=by
 rw[Cw];simp
set_option maxHeartbeats 2000000 in
theorem O6 (l:List Obj) (hl:D4 l):Aa pg 66 [.ro l.length (Af Av l)] [] (fun r _=>r= .bool (decide (CQ l))):=by
 have hl1:=hl.1
 refine Aa.start (fn:=Tryz.f66) [.tmp 2] tk rfl rfl rfl (by kernel_rfl) (Nat.le_of_ble_eq_true rfl) rfl (by kernel_rfl) ?_
 rw[At]
 refine zs ?_
 by_cases c0:l.length≤12
 rotate_left
 .have c0' :(12:Int)<(l.length:Int):=by omega
  refine Ae c0' ?_;intro K hK
  refine zk ?_;clear hK K
  refine zt ?_
  refine zs ?_
  refine zr ?_
  exact fun h=>c0 h.1
 have c0' :¬(12:Int)<(l.length:Int):=by omega
 have hmi:=Ji l
 refine Ae c0' ?_;intro K hK
 refine zk ?_;clear hK K
 refine zn ?_
 refine W.skip ?_
 refine zs ?_
 (repeat refine W.seq ?_);refine W.block (W.loopS (fun k:Nat=> [(0,.ro l.length (Af Av l)),(3,.int .i64 k)]) (fun _=> []) (fun k=>l.length-k) (fun k=>k≤l.length∧∀i (h:i<l.length),i<k→J0 l l[i]∧(0<i→l[i-1].id<l[i].id)) 0 (Wk.fr (by simp[Ac])) ⟨by simp,fun i h h2=>by omega⟩ ?_)
 rintro k ⟨hk,hok⟩
 refine zs ?_
 refine zc ?_ ?_<;>intro h
 .refine W.skip ?_
  have hlt:k<l.length:=by omega
  refine zb ?_
  (repeat refine W.seq ?_);refine W.reg 1 rfl fun K hK=>?_;simp -implicitDefEqProofs (maxSteps:=999999) (disch:=omega) [hlt]
  refine zk ?_;clear hK K
  have hsz:=hl.2 _ (List.getElem_mem hlt)
  have spB:=DA l[k].id 1 1048576
  have spA:=Lt l l[k].base (by omega)
  have hA:=Uk l l[k].base
  obtain⟨z,hz⟩:∃z,z=BM (fun o=>decide (o.id=l[k].base)) l:=⟨_,rfl⟩
  rw[←hz] at spA hA
  have spD:=TY l[k].data hsz
  (repeat refine W.seq ?_);refine W.midS (fun b:Bool=> [(0,.ro l.length (Af Av l)),(3,.int .i64 k),(61,.bool b)]) (fun _=> []) (fun b=>b=false↔J0 l l[k]∧(0<k→l[k-1].id<l[k].id)) ?_ ?_
  .by_cases c1:1≤l[k].id∧l[k].id≤1048576
   rotate_left
   .rw[decide_eq_false c1] at spB
    refine B8 ?_;intro K hK
    refine Ah.eq spB (by simp) (by simp) ?_
    refine zx ?_
    refine zk ?_;clear hK K
    exact⟨true,by simp only[Bool.true_eq_false,false_iff];exact fun h=>c1 ⟨h.1.1,h.1.2.1⟩,Wk.cutM (k:=0) (by simp[Ac]) (by simp) (by simp) (by simp) (by simp) (by simp)⟩
   rw[decide_eq_true c1] at spB
   by_cases c2:0<k
   .by_cases c3:l[k].id≤l[k-1].id
    .refine B8 ?_;intro K hK
     refine Ah.eq spB (by simp) (by simp) ?_
     refine AM (an c2 (an c3 hlt)) ?_
     refine⟨by omega,?_⟩
     refine zk ?_;clear hK K
     exact⟨true,by simp only[Bool.true_eq_false,false_iff];exact fun h=>by have:=h.2 c2;omega,Wk.cutM (k:=0) (by simp[Ac]) (by simp) (by simp) (by simp) (by simp) (by simp)⟩
    .by_cases c4:l[k].base=l[k].id
     .refine B8 ?_;intro K hK
      refine Ah.eq spB (by simp) (by simp) ?_
      refine AM (an c2 (an c3 (an hlt c4))) ?_
      refine⟨by omega,?_⟩
      refine zk ?_;clear hK K
      exact⟨true,by simp only[Bool.true_eq_false,false_iff];exact fun h=>h.1.2.2.2.1 c4,Wk.cutM (k:=0) (by simp[Ac]) (by simp) (by simp) (by simp) (by simp) (by simp)⟩
     by_cases c5:l[k].base=0
     .by_cases c7:DI l[k].data
      .rw[decide_eq_true c7] at spD
       refine B8 ?_;intro K hK
       refine Ah.eq spB (by simp) (by simp) ?_
       refine AM (an c2 (an c3 (an hlt (an c4 c5)))) ?_
       refine⟨by omega,?_⟩
       refine Ah.eq spD (by simp) (by simp) ?_
       refine zx ?_
       refine zk ?_;clear hK K
       exact⟨false,by simp only[true_iff];exact⟨⟨c1.1,c1.2,c7,c4,.inl c5⟩,fun _=>by omega⟩,Wk.cutM (k:=0) (by simp[Ac]) (by simp) (by simp) (by simp) (by simp) (by simp)⟩
      .rw[decide_eq_false c7] at spD
       refine B8 ?_;intro K hK
       refine Ah.eq spB (by simp) (by simp) ?_
       refine AM (an c2 (an c3 (an hlt (an c4 c5)))) ?_
       refine⟨by omega,?_⟩
       refine Ah.eq spD (by simp) (by simp) ?_
       refine zx ?_
       refine zk ?_;clear hK K
       exact⟨true,by simp only[Bool.true_eq_false,false_iff];exact fun h=>c7 h.1.2.2.1,Wk.cutM (k:=0) (by simp[Ac]) (by simp) (by simp) (by simp) (by simp) (by simp)⟩
     by_cases c6:z<0
     .refine B8 ?_;intro K hK
      refine Ah.eq spB (by simp) (by simp) ?_
      refine AM (an c2 (an c3 (an hlt (an c4 (an c5 hlt))))) ?_
      refine⟨by omega,?_⟩
      refine Ah.eq spA (by simp) (by simp) ?_
      refine AM c6 ?_
      refine zk ?_;clear hK K
      exact⟨true,by simp only[Bool.true_eq_false,false_iff];exact fun h=>by rcases h.1.2.2.2.2 with h|h;exact c5 h;have:=hA.2 h;omega,Wk.cutM (k:=0) (by simp[Ac]) (by simp) (by simp) (by simp) (by simp) (by simp)⟩
     by_cases c7:DI l[k].data
     .rw[decide_eq_true c7] at spD
      refine B8 ?_;intro K hK
      refine Ah.eq spB (by simp) (by simp) ?_
      refine AM (an c2 (an c3 (an hlt (an c4 (an c5 hlt))))) ?_
      refine⟨by omega,?_⟩
      refine Ah.eq spA (by simp) (by simp) ?_
      refine AM c6 ?_
      refine Ah.eq spD (by simp) (by simp) ?_
      refine zx ?_
      refine zk ?_;clear hK K
      exact⟨false,by simp only[true_iff];exact⟨⟨c1.1,c1.2,c7,c4,.inr (hA.1 (by omega))⟩,fun _=>by omega⟩,Wk.cutM (k:=0) (by simp[Ac]) (by simp) (by simp) (by simp) (by simp) (by simp)⟩
     .rw[decide_eq_false c7] at spD
      refine B8 ?_;intro K hK
      refine Ah.eq spB (by simp) (by simp) ?_
      refine AM (an c2 (an c3 (an hlt (an c4 (an c5 hlt))))) ?_
      refine⟨by omega,?_⟩
      refine Ah.eq spA (by simp) (by simp) ?_
      refine AM c6 ?_
      refine Ah.eq spD (by simp) (by simp) ?_
      refine zx ?_
      refine zk ?_;clear hK K
      exact⟨true,by simp only[Bool.true_eq_false,false_iff];exact fun h=>c7 h.1.2.2.1,Wk.cutM (k:=0) (by simp[Ac]) (by simp) (by simp) (by simp) (by simp) (by simp)⟩
   .by_cases c4:l[k].base=l[k].id
    .refine B8 ?_;intro K hK
     refine Ah.eq spB (by simp) (by simp) ?_
     refine AM (an c2 c4) ?_
     refine zk ?_;clear hK K
     exact⟨true,by simp only[Bool.true_eq_false,false_iff];exact fun h=>h.1.2.2.2.1 c4,Wk.cutM (k:=0) (by simp[Ac]) (by simp) (by simp) (by simp) (by simp) (by simp)⟩
    by_cases c5:l[k].base=0
    .by_cases c7:DI l[k].data
     .rw[decide_eq_true c7] at spD
      refine B8 ?_;intro K hK
      refine Ah.eq spB (by simp) (by simp) ?_
      refine AM (an c2 (an c4 c5)) ?_
      refine Ah.eq spD (by simp) (by simp) ?_
      refine zx ?_
      refine zk ?_;clear hK K
      exact⟨false,by simp only[true_iff];exact⟨⟨c1.1,c1.2,c7,c4,.inl c5⟩,fun h=>absurd h c2⟩,Wk.cutM (k:=0) (by simp[Ac]) (by simp) (by simp) (by simp) (by simp) (by simp)⟩
     .rw[decide_eq_false c7] at spD
      refine B8 ?_;intro K hK
      refine Ah.eq spB (by simp) (by simp) ?_
      refine AM (an c2 (an c4 c5)) ?_
      refine Ah.eq spD (by simp) (by simp) ?_
      refine zx ?_
      refine zk ?_;clear hK K
      exact⟨true,by simp only[Bool.true_eq_false,false_iff];exact fun h=>c7 h.1.2.2.1,Wk.cutM (k:=0) (by simp[Ac]) (by simp) (by simp) (by simp) (by simp) (by simp)⟩
    by_cases c6:z<0
    .refine B8 ?_;intro K hK
     refine Ah.eq spB (by simp) (by simp) ?_
     refine AM (an c2 (an c4 (an c5 hlt))) ?_
     refine Ah.eq spA (by simp) (by simp) ?_
     refine AM c6 ?_
     refine zk ?_;clear hK K
     exact⟨true,by simp only[Bool.true_eq_false,false_iff];exact fun h=>by rcases h.1.2.2.2.2 with h|h;exact c5 h;have:=hA.2 h;omega,Wk.cutM (k:=0) (by simp[Ac]) (by simp) (by simp) (by simp) (by simp) (by simp)⟩
    by_cases c7:DI l[k].data
    .rw[decide_eq_true c7] at spD
     refine B8 ?_;intro K hK
     refine Ah.eq spB (by simp) (by simp) ?_
     refine AM (an c2 (an c4 (an c5 hlt))) ?_
     refine Ah.eq spA (by simp) (by simp) ?_
     refine AM c6 ?_
     refine Ah.eq spD (by simp) (by simp) ?_
     refine zx ?_
     refine zk ?_;clear hK K
     exact⟨false,by simp only[true_iff];exact⟨⟨c1.1,c1.2,c7,c4,.inr (hA.1 (by omega))⟩,fun h=>absurd h c2⟩,Wk.cutM (k:=0) (by simp[Ac]) (by simp) (by simp) (by simp) (by simp) (by simp)⟩
    .rw[decide_eq_false c7] at spD
     refine B8 ?_;intro K hK
     refine Ah.eq spB (by simp) (by simp) ?_
     refine AM (an c2 (an c4 (an c5 hlt))) ?_
     refine Ah.eq spA (by simp) (by simp) ?_
     refine AM c6 ?_
     refine Ah.eq spD (by simp) (by simp) ?_
     refine zx ?_
     refine zk ?_;clear hK K
     exact⟨true,by simp only[Bool.true_eq_false,false_iff];exact fun h=>c7 h.1.2.2.1,Wk.cutM (k:=0) (by simp[Ac]) (by simp) (by simp) (by simp) (by simp) (by simp)⟩
  .intro b hb
   refine zc ?_ ?_<;>intro h
   .refine zs ?_
    refine zr ?_
    intro hM
    have h3:=(hmi.1 hM).2 k hlt
    have h4:=hb.2 h3
    have h5:b=true:=by assumption
    rw[h4] at h5;cases h5
   .refine W.skip ?_
    refine zs ?_
    refine⟨k+1,by omega,⟨by omega,fun i hi h2=>?_⟩,Wk.fr (by simp[Ac])⟩
    by_cases e:i=k
    .subst e;exact hb.1 (by assumption)
    .exact hok i hi (by omega)
 .refine W.exit ?_
  refine zs ?_
  refine zr ?_
  exact hmi.2 ⟨c0,fun i h=>hok i h (by omega)⟩
end Go.Abs
