/- References: runs and others joined. -/
import Derived.Test.YtoklapibcmnaeaaGreatP10
set_option linter.unusedVariables false
set_option linter.unusedSimpArgs false
set_option maxRecDepth 100000
namespace Go.Abs
open Go.Proofs
def AB (p:Int→Bool):List Bool:=(List.range 16).map fun(i:Nat)=>p (i:Int)
@[simp] theorem OH (p:Int→Bool):(AB p).length=16:=by simp[AB]
theorem HX (p:Int→Bool) (i:Nat) (h:i<16):(AB p)[i]?=some (p i):=by simp[AB,h]
theorem NB (p:Int→Bool) (i:Nat) (h:i<16):(AB p).set i true=AB fun j=>p j||decide (j=(i:Int)):=by
 refine List.ext_getElem (by simp) fun j h1 h2=>?_
 simp only[OH] at h2
 rw[List.getElem_set]
 by_cases e:i=j
 .subst e;simp[AB]
 .rw[if_neg e]
  simp only[AB,List.getElem_map,List.getElem_range]
  have:¬(j:Int)=(i:Int):=by omega
  simp[this]
def HY (p:Int→Bool) (a:Int) (k:Nat):Int→Bool:=fun j=>p j||decide (a≤j∧j<a+(k:Int))
def CQ (p:Int→Bool) (l:List Int):Int→Bool:=fun j=>p j||l.contains j
def Bx (p:Int→Bool) (i:Nat):List Int:=((List.range i).map fun i=>((i:Nat):Int)).filter p
theorem HZ (p:Int→Bool) (i:Nat):Bx p (i+1)=Bx p i++if p i=true then [(i:Int)] else []:=by
 unfold Bx
 rw[List.range_succ,List.map_append,List.filter_append]
 congr 1
 simp only[List.map_cons,List.map_nil,List.filter_cons,List.filter_nil]
theorem IE (p:Int→Bool) (i:Nat):(Bx p i).length≤i:=by
 unfold Bx
 exact Nat.le_trans (List.length_filter_le _ _) (by simp)
def DZ (p:Int→Bool) (i:Int):Int→Bool:=fun j=>p j||decide (j=i)
theorem C1 {p q:Int→Bool} (h:∀i,0≤i→i<16→p i=q i):AB p=AB q:=by
 unfold AB
 refine List.map_congr_left fun i hi=>h _ (by omega) (by simp at hi;omega)
theorem Fo (p:Int→Bool) (i:Nat) (h:i<16):(AB p).set i true=AB (DZ p i):=NB p i h
def G2 (r:List (Int×Int)) (i:Nat) (h:i<r.length):Prop:=0≤r[i].1∧r[i].1<16∧3≤r[i].2∧r[i].2≤16-r[i].1∧(0<i→r[i-1].1+r[i-1].2<r[i].1)
theorem Jk:∀(r:List (Int×Int)) (e:Int),Dm r e↔((∀h:0<r.length,e<r[0].1)∧∀i (h:i<r.length),G2 r i h)
 | [],e=>by simp[Dm]
 | (a,n)::t,e=>by
   simp only[Dm,Jk t (a+n)]
   constructor
   .rintro⟨h1,h2,h3,h4,h5,h6,h7⟩
    refine⟨fun _=>h5,fun i h=>?_⟩
    cases i with
    |zero=>exact⟨h1,h2,h3,h4,fun h=>by omega⟩
    |succ i=>
     have hi:i<t.length:=by simpa using h
     obtain⟨k1,k2,k3,k4,k5⟩:=h7 i hi
     refine⟨by simpa using k1,by simpa using k2,by simpa using k3,by simpa using k4,fun _=>?_⟩
     cases i with
     |zero=>simpa using h6 hi
     |succ i=>simpa using k5 (by omega)
   .rintro⟨h0,h⟩
    obtain⟨h1,h2,h3,h4,_⟩:=h 0 (by simp)
    refine⟨by simpa using h1,by simpa using h2,by simpa using h3,by simpa using h4,h0 (by simp),fun hp=>?_,fun i hi=>?_⟩
    .have:=(h 1 (by simpa using hp)).2.2.2.2 (by omega)
     simpa using this
    .obtain⟨k1,k2,k3,k4,k5⟩:=h (i+1) (by simpa using hi)
     refine⟨by simpa using k1,by simpa using k2,by simpa using k3,by simpa using k4,fun hpos=>?_⟩
     have:=k5 (by omega)
     cases i with
     |zero=>omega
     |succ i=>simpa using this
theorem Jl (r:List (Int×Int)):Dm r (-1)↔∀i (h:i<r.length),G2 r i h:=by
 rw[Jk]
 exact⟨fun h=>h.2,fun h=>⟨fun hp=>by have:=(h 0 hp).1;omega,h⟩⟩
def TP (o:Option (List Int)):AV:=match o with|some l=> .tup [.own 1 l.length (Ac l),.bool true] |none=> .tup [.own 1 0 [],.bool false]
theorem TQ (r:List (Int×Int)) (rest:List Int) (hr:r.length<1000000) (hb:∀q∈r,-1000000000000≤q.1∧q.1≤1000000000000∧-1000000000000≤q.2∧q.2≤1000000000000) (hrl:rest.length<1000000):Aa pg 184 [.ro r.length (Ag Av r),.ro rest.length (Ac rest)] [] (fun x _=>x=TP (CW r rest)):=by
 refine Aa.start (fn:=Tryz.f184) [.tmp 4,.tmp 5] tk rfl rfl rfl (by kernel_rfl) (Nat.le_of_ble_eq_true rfl) rfl (by kernel_rfl) ?_
 rw[Aq]
 refine zs ?_
 by_cases hm:AG rest
 rotate_left
 .refine z0 ?_;intro K hK
  refine Ab.eq (Fv rest (by omega)) (by simp) (by simp) ?_
  rw[decide_eq_false hm]
  refine zx ?_
  refine zk ?_;clear hK K
  refine zt ?_
  refine zs ?_
  refine zr ?_
  rw[CW,if_neg (fun h=>hm h.1)];rfl
 have hml:=BK hm
 refine z0 ?_;intro K hK
 refine Ab.eq (Fv rest (by omega)) (by simp) (by simp) ?_
 rw[decide_eq_true hm]
 refine zx ?_
 refine zk ?_;clear hK K
 refine zn ?_
 refine W.skip ?_
 refine z1 ?_;intro K hK
 have e0:[AV.bool false,AV.bool false,AV.bool false,AV.bool false,AV.bool false,AV.bool false,AV.bool false,AV.bool false,AV.bool false,AV.bool false,AV.bool false,AV.bool false,AV.bool false,AV.bool false,AV.bool false,AV.bool false]=AA (AB (Br (r.take 0))):=rfl
 rw[e0]
 refine zk ?_;clear hK K
 refine zs ?_
 (repeat refine W.seq ?_);refine W.block (W.loopS (fun k:Nat=> [(0,.ro r.length (Ag Av r)),(1,.ro rest.length (Ac rest)),(6,.ptr 0 0 0),(7,.int .i64 k)]) (fun k=> [.live 0 (AA (AB (Br (r.take k))))]) (fun k=>r.length-k) (fun k=>k≤r.length∧∀i (h:i<r.length),i<k→G2 r i h) 0 (Wk.fr (by simp[Ad])) ⟨by omega,fun i h h2=>by omega⟩ ?_)
 .rintro i ⟨hi,hok⟩
  refine zs ?_
  refine zc ?_ ?_<;>intro h
  .refine W.skip ?_
   have hlt:i<r.length:=by omega
   have hbi:=hb _ (List.getElem_mem hlt)
   have bad:¬G2 r i hlt→¬Dm r (-1):=fun g w=>g ((Jl r).1 w i hlt)
   have hto:r.take (i+1)=r.take i++[r[i]]:=by rw[List.take_add_one];simp[hlt]
   refine zb ?_
   (repeat refine W.seq ?_);refine W.reg 1 rfl fun K hK=>?_;simp -implicitDefEqProofs (maxSteps:=999999) (disch:=omega) [hlt]
   refine zk ?_;clear hK K
   have spO:=Mo r[i].1
   by_cases c1:0≤r[i].1∧r[i].1≤15
   rotate_left
   .have hbad:=bad (fun g=>c1 (by have:=g.1;have:=g.2.1;omega))
    rw[decide_eq_false c1] at spO
    refine Co ?_;intro K hK
    refine Ah.eq spO (by simp) (by simp) ?_
    refine zx ?_
    refine zk ?_;clear hK K
    refine zt ?_
    refine zs ?_
    refine zr ?_
    rw[CW,if_neg (fun h=>hbad h.2.1)];rfl
   rw[decide_eq_true c1] at spO
   by_cases c2:r[i].2<3
   .have hbad:=bad (fun g=>by have:=g.2.2.1;omega)
    refine Co ?_;intro K hK
    refine Ah.eq spO (by simp) (by simp) ?_
    refine AJ c2 ?_
    refine zk ?_;clear hK K
    refine zt ?_
    refine zs ?_
    refine zr ?_
    rw[CW,if_neg (fun h=>hbad h.2.1)];rfl
   by_cases c3:16-r[i].1<r[i].2
   .have hbad:=bad (fun g=>by have:=g.2.2.2.1;omega)
    refine Co ?_;intro K hK
    refine Ah.eq spO (by simp) (by simp) ?_
    refine AJ (an c2 c3) ?_
    refine zk ?_;clear hK K
    refine zt ?_
    refine zs ?_
    refine zr ?_
    rw[CW,if_neg (fun h=>hbad h.2.1)];rfl
   have hbody:G2 r i hlt→True:=fun _=>trivial
   (repeat refine W.seq ?_);refine W.midS (fun b:Bool=> [(0,.ro r.length (Ag Av r)),(1,.ro rest.length (Ac rest)),(6,.ptr 0 0 0),(7,.int .i64 i),(8,.ptr 1 0 0),(64,.bool b)]) (fun _=> [.live 0 (AA (AB (Br (r.take i)))),.live 0 [.int .i64 r[i].1,.int .i64 r[i].2]]) (fun b=>b=true↔¬G2 r i hlt) ?_ ?_
   .by_cases c4:0<i
    .have hbp:=hb _ (List.getElem_mem (show i-1<r.length by omega))
     have hw:IntKind.i64.wrap (r[i-1].1+r[i-1].2)=r[i-1].1+r[i-1].2:=wrap_i64 (by omega) (by omega)
     by_cases c5:r[i].1≤r[i-1].1+r[i-1].2
     .refine Co ?_;intro K hK
      refine Ah.eq spO (by simp) (by simp) ?_
      refine AJ (an c2 (an c3 (an c4 (an c5 (an hlt hw))))) ?_
      refine⟨by omega,?_⟩
      refine zk ?_;clear hK K
      exact⟨true,by simp only[true_iff];exact fun g=>by have:=g.2.2.2.2 c4;omega,Wk.fr (by simp[Ad];rw[hw];exact c5)⟩
     .refine Co ?_;intro K hK
      refine Ah.eq spO (by simp) (by simp) ?_
      refine AJ (an c2 (an c3 (an c4 (an c5 (an hlt hw))))) ?_
      refine⟨by omega,?_⟩
      refine zk ?_;clear hK K
      exact⟨false,by simp only[Bool.false_eq_true,false_iff,Classical.not_not];exact⟨c1.1,by omega,by omega,by omega,fun _=>by omega⟩,Wk.fr (by simp[Ad];rw[hw];omega)⟩
    .refine Co ?_;intro K hK
     refine Ah.eq spO (by simp) (by simp) ?_
     refine AJ (an c2 (an c3 c4)) ?_
     refine zk ?_;clear hK K
     exact⟨false,by simp only[Bool.false_eq_true,false_iff,Classical.not_not];exact⟨c1.1,by omega,by omega,by omega,fun _=>by omega⟩,Wk.fr (by simp[Ad])⟩
   .intro b hbb
    cases b
    rotate_left
    .have hbad:=bad (hbb.1 rfl)
     refine zt ?_
     refine zs ?_
     refine zr ?_
     rw[CW,if_neg (fun h=>hbad h.2.1)];rfl
    .have hgood:G2 r i hlt:=Classical.byContradiction fun g=>by have:=hbb.2 g;simp at this
     refine zn ?_
     refine W.skip ?_
     obtain⟨a,ha⟩:=Int.eq_ofNat_of_zero_le hgood.1
     obtain⟨n,hn⟩:=Int.eq_ofNat_of_zero_le (show 0≤r[i].2 by have:=hgood.2.2.1;omega)
     have han:a+n≤16:=by have:=hgood.2.2.2.1;omega
     refine zs ?_
     have e1:(AB (Br (r.take i)))=AB (HY (Br (r.take i)) a 0):=C1 fun j _ _=>by
      have:decide ((a:Int)≤j∧j<(a:Int)+((0:Nat):Int))=false:=by simp
      rw[HY,this,Bool.or_false]
     rw[e1,ha,hn]
     (repeat refine W.seq ?_);refine W.block (W.loopS (fun k:Nat=> [(0,.ro r.length (Ag Av r)),(1,.ro rest.length (Ac rest)),(6,.ptr 0 0 0),(7,.int .i64 i),(8,.ptr 1 0 0),(9,.int .i64 k)]) (fun k=> [.live 0 (AA (AB (HY (Br (r.take i)) a k))),.live 0 [.int .i64 a,.int .i64 n]]) (fun k=>n-k) (fun k=>k≤n) 0 (Wk.fr (by simp[Ad])) (Nat.zero_le _) ?_)
     intro k hk
     refine zs ?_
     refine zc ?_ ?_<;>intro h
     .refine W.skip ?_
      have hkn:k<n:=by omega
      have hak:a+k<16:=by omega
      have hti:((a:Int)+k).toNat=a+k:=by omega
      have hset:∀p:Int→Bool,(AA (AB p)).set (a+k) (.bool true)=AA (AB (DZ p ((a:Int)+(k:Int)))):=fun p=>by rw[EJ,Fo _ _ hak,Int.natCast_add]
      refine zb ?_
      refine Af (an hti (an hset hak)) ?_;intro K hK
      refine⟨by omega,?_⟩
      refine zk ?_;clear hK K
      refine zs ?_
      have e2:AB (DZ (HY (Br (r.take i)) a k) ((a:Int)+(k:Int)))=AB (HY (Br (r.take i)) a (k+1)):=C1 fun j _ _=>by
       simp only[DZ,HY]
       rw[Bool.or_assoc]
       congr 1
       rw[←Bool.decide_or,decide_eq_decide]
       omega
      rw[e2]
      exact⟨k+1,by omega,by omega,Wk.fr (by simp[Ad])⟩
     .refine W.exit ?_
      have hk' :k=n:=by omega
      subst hk'
      have e3:(AB (HY (Br (r.take i)) a k))=AB (Br (r.take (i+1))):=C1 fun j _ _=>by
       rw[hto]
       simp only[HY,Br,List.any_append,List.any_cons,List.any_nil,Bool.or_false,ha,hn]
      rw[e3]
      refine zs ?_
      exact⟨i+1,by omega,⟨by omega,fun t ht h2=>by
       by_cases e:t=i
       .subst e;exact hgood
       .exact hok t ht (by omega)⟩,Wk.cutM (k:=1) (by simp[Ad]) (by simp) (by simp) (by simp) (by simp) (by simp)⟩
  .refine W.exit ?_
   have hi' :i=r.length:=by omega
   subst hi'
   have hR:Dm r (-1):=(Jl r).2 fun t ht=>hok t ht ht
   have e4:AB (Br (r.take r.length))=AB (CQ (Br r) (rest.take 0)):=C1 fun j _ _=>by simp[CQ]
   rw[e4]
   refine zs ?_
   (repeat refine W.seq ?_);refine W.block (W.loopS (fun k:Nat=> [(1,.ro rest.length (Ac rest)),(6,.ptr 0 0 0),(10,.int .i64 k)]) (fun k=> [.live 0 (AA (AB (CQ (Br r) (rest.take k))))]) (fun k=>rest.length-k) (fun k=>k≤rest.length∧∀t (h:t<rest.length),t<k→Br r rest[t]=false) 0 (Wk.fr (by simp[Ad])) ⟨by omega,fun t h h2=>by omega⟩ ?_)
   .rintro k ⟨hk,hno⟩
    refine zs ?_
    refine zc ?_ ?_<;>intro h
    .refine W.skip ?_
     have hkl:k<rest.length:=by omega
     have hw:=hm.1 _ (List.getElem_mem hkl)
     obtain⟨w,hwe⟩:=Int.eq_ofNat_of_zero_le hw.1
     have hw16:w<16:=by omega
     have hnc:(rest.take k).contains (w:Int)=false:=by
      rw[Bool.eq_false_iff]
      intro hc
      simp only[List.contains_eq_mem,decide_eq_true_eq] at hc
      obtain⟨t,ht,hte⟩:=List.mem_iff_getElem.1 hc
      simp at ht hte
      have:=List.pairwise_iff_getElem.1 hm.2 t k (by omega) hkl (by omega)
      omega
     have hto2:rest.take (k+1)=rest.take k++[(w:Int)]:=by rw[List.take_add_one];simp[hkl,hwe]
     have hget:(AB (CQ (Br r) (rest.take k)))[w]?=some (Br r (w:Int)):=by rw[HX _ _ hw16];simp only[CQ,hnc,Bool.or_false]
     refine zb ?_
     cases hin:Br r (w:Int)
     .rw[hin] at hget
      refine Af (an hkl (an hwe hget)) ?_;intro K hK
      refine zk ?_;clear hK K
      refine zn ?_
      refine W.skip ?_
      have hset:∀p:Int→Bool,(AA (AB p)).set w (.bool true)=AA (AB (DZ p (w:Int))):=fun p=>by rw[EJ,Fo _ _ hw16]
      have e5:AB (DZ (CQ (Br r) (rest.take k)) (w:Int))=AB (CQ (Br r) (rest.take (k+1))):=C1 fun j _ _=>by
       rw[hto2]
       simp only[DZ,CQ,Bool.or_assoc]
       congr 1
       rw[Bool.eq_iff_iff]
       simp
      refine Af (an hkl (an hwe (an hset hw16))) ?_;intro K hK
      refine zk ?_;clear hK K
      refine zs ?_
      rw[e5]
      refine⟨k+1,by omega,⟨by omega,fun t ht h2=>?_⟩,Wk.fr (by simp[Ad])⟩
      by_cases e:t=k
      .subst e;rw[hwe];exact hin
      .exact hno t ht (by omega)
     .rw[hin] at hget
      refine Af (an hkl (an hwe hget)) ?_;intro K hK
      refine zk ?_;clear hK K
      refine zt ?_
      refine zs ?_
      refine zr ?_
      rw[CW,if_neg]
      .rfl
      .intro h
       have:=h.2.2 _ (List.getElem_mem hkl)
       rw[hwe,hin] at this
       simp at this
    .refine W.exit ?_
     have hk' :k=rest.length:=by omega
     subst hk'
     rw[List.take_length]
     have hj:CW r rest=some (Bx (CQ (Br r) rest) 16):=by
      rw[CW,if_pos ⟨hm,hR,fun x hx=>by
       obtain⟨t,ht,rfl⟩:=List.mem_iff_getElem.1 hx
       exact hno t ht ht⟩]
      rfl
     rw[hj]
     generalize CQ (Br r) rest=q
     refine zs ?_
     refine zs ?_
     (repeat refine W.seq ?_);refine W.block (W.loopS (fun k:Nat=> [(6,.ptr 0 0 0),(11,.tok 1 (Bx q k).length 1 0 (Bx q k).length),(12,.int .i64 k)]) (fun k=> [.live 0 (AA (AB q)),.live (Bx q k).length (Ac (Bx q k))]) (fun k=>16-k) (fun k=>k≤16) 0 ((Wk.nil (t:=11) (s:=1) (by simp)).trans (Wk.fr (by simp[Ad,Bx]))) (by simp) ?_)
     intro k hk
     have htl:=IE q k
     refine zs ?_
     refine zc ?_ ?_<;>intro h
     .refine W.skip ?_
      have hlt:k<16:=by omega
      have hget:(AB q)[k]?=some (q (k:Int)):=HX _ _ hlt
      have hsu:=HZ q k
      refine zb ?_
      cases hq:q (k:Int)
      .rw[hq] at hget hsu
       refine Af (an hget hlt) ?_;intro K hK
       refine zk ?_;clear hK K
       refine zn ?_
       refine W.skip ?_
       refine zs ?_
       refine⟨k+1,by omega,by omega,?_⟩
       rw[hsu]
       simp only[Bool.false_eq_true,if_false,List.append_nil]
       exact Wk.fr (by simp[Ad])
      .rw[hq] at hget hsu
       refine Af (an hget hlt) ?_;intro K hK
       refine zk ?_;clear hK K
       refine zt ?_
       refine z1 ?_;intro K hK
       refine⟨by omega,by omega,?_⟩
       refine zk ?_;clear hK K
       refine zs ?_
       refine⟨k+1,by omega,by omega,?_⟩
       rw[hsu]
       simp only[if_true,List.length_append,List.length_singleton]
       refine Wk.cutM (k:=2) (by simp[Ad]) ?_ (by simp) (by simp) (by simp) (by simp)
       simp[Ac]
     .refine W.exit ?_
      have hk' :k=16:=by omega
      subst hk'
      refine zs ?_
      refine zr ?_
      rfl
end Go.Abs
set_option maxRecDepth 100000
namespace Go.Abs
open Go.Proofs
theorem RG (v:Int) (l:List Int) (hv:0≤v∧v≤16) (hl:AG l):Aa pg 167 [.own 1 0 [],.int .i64 v,.ro l.length (Ac l)] [] (fun r _=>r= .own 1 (BF v l).length (AI (BF v l))):=by
 have h:=Aa.nil (by simpa using TO [] 0 v l (by simp) hv hl)
 simpa using h
theorem OI {r:List (Int×Int)} {g l:List Int} (h:CW r g=some l):AG l:=by
 unfold CW at h
 split at h
 .simp at h;subst h;exact K5 _
 .simp at h
theorem Jm (bs:List Bool) (p:Nat) (v:Int) (hb:bs.length<1000000000) (hp:p≤bs.length) (hv:0≤v∧v≤16):Aa pg 145 [.ro bs.length (AI bs),.int .i64 p,.int .i64 v] [] (fun r _=>r=CL (Bk bs p v)):=by
 refine Aa.start (fn:=Tryz.f145) [.tmp 6,.tmp 7,.tmp 8] tk rfl rfl rfl (by kernel_rfl) (Nat.le_of_ble_eq_true rfl) rfl (by kernel_rfl) ?_
 rw[Bm]
 refine zs ?_
 refine zs ?_
 refine z0 ?_;intro K hK
 have sp:=Eh bs p hb hp
 cases hg:AF bs p with
 |none=>
  simp only[hg,EL] at sp
  refine Ab.eq sp (by simp) (by simp) ?_
  refine zx ?_
  refine zk ?_;clear hK K
  refine zs ?_
  refine zt ?_
  refine zs ?_
  refine zr ?_
  simp[Bk,hg,CL]
 |some x=>
  simp only[hg,EL] at sp
  obtain⟨hx1,hx2,hx3,hx4,_⟩:=AH hg
  refine Ab.eq sp (by simp) (by simp) ?_
  refine zx ?_
  refine zk ?_;clear hK K
  by_cases hle:x.1≤17
  rotate_left
  .have h1:¬(x.1:Int)<1:=by omega
   have h2:(16:Int)<(x.1:Int)-1:=by omega
   refine Af (an h1 h2) ?_;intro K hK
   refine zk ?_;clear hK K
   refine zt ?_
   refine zs ?_
   refine zr ?_
   simp only[Bk,hg];rw[if_neg hle];simp[CL]
  have h1:¬(x.1:Int)<1:=by omega
  have h2:¬(16:Int)<(x.1:Int)-1:=by omega
  refine Af (an h1 h2) ?_;intro K hK
  refine zk ?_;clear hK K
  refine zn ?_
  refine W.skip ?_
  refine zs ?_
  refine zs ?_
  refine zs ?_
  (repeat refine W.seq ?_);refine W.block (W.loopS (fun s:Nat×List (Int×Int)×Nat×Int=> [(0,.ro bs.length (AI bs)),(1,.int .i64 s.2.2.1),(2,.int .i64 v),(9,.int .i64 p),(10,.int .i64 x.1),(11,.tok 0 s.1 2 0 s.1),(12,.int .i64 s.2.2.2),(13,.int .i64 s.1)]) (fun s=> [.live s.1 (Ag Av s.2.1)]) (fun s=>x.1-1-s.1)
    (fun s=>s.1≤x.1-1∧s.2.1.length=s.1∧(p≤s.2.2.1∧s.2.2.1≤bs.length)∧(-(4294967296*((s.1:Int)+1))≤s.2.2.2∧s.2.2.2≤4294967296*((s.1:Int)+1))∧(∀q∈s.2.1,-1000000000000≤q.1∧q.1≤1000000000000∧-1000000000000≤q.2∧q.2≤1000000000000)∧BC bs (x.1-1) true x.2 v=(BC bs (x.1-1-s.1) (decide (s.1=0)) s.2.2.1 (if s.1=0 then v else s.2.2.2)).map fun r=>(s.2.1++r.1,r.2)) (0,[],x.2,0) ((Wk.nil (t:=11) (s:=2) (by simp)).trans (Wk.fr (by simp[Ad]))) ⟨by omega,rfl,⟨by simp only;omega,hx4⟩,by simp only;omega,by simp,by simp⟩ ?_)
  rintro⟨k,acc,q,last⟩ ⟨hk,hacc,⟨hpq,hq⟩,hlast,hbnd,hinv⟩
  simp only at hk hacc hpq hq hlast hinv hbnd
  refine zs ?_
  refine zc ?_ ?_<;>intro h
  .refine W.skip ?_
   obtain⟨m,hm⟩:∃m,x.1-1-k=m+1:=⟨x.1-1-k-1,by omega⟩
   have hm' :x.1-1-(k+1)=m:=by omega
   rw[hm] at hinv
   refine zb ?_
   have sp2:=Eh bs q hb hq
   refine z0 ?_;intro K hK
   cases hg2:AF bs q with
   |none=>
    simp only[hg2,EL] at sp2
    refine Ab.eq sp2 (by simp) (by simp) ?_
    refine zx ?_
    refine zk ?_;clear hK K
    refine zs ?_
    refine zt ?_
    refine zs ?_
    refine zr ?_
    simp only[BC,hg2] at hinv
    simp[Bk,hg,hinv,CL]
   |some y=>
    simp only[hg2,EL] at sp2
    obtain⟨hy1,hy2,hy3,hy4,_⟩:=AH hg2
    refine Ab.eq sp2 (by simp) (by simp) ?_
    have h3:¬(y.1:Int)<1:=by omega
    refine zx ?_
    refine zk ?_;clear hK K
    refine Af h3 ?_;intro K hK
    refine zk ?_;clear hK K
    refine zn ?_
    refine W.skip ?_
    have sp3:=Eh bs y.2 hb hy4
    refine z0 ?_;intro K hK
    cases hg3:AF bs y.2 with
    |none=>
     simp only[hg3,EL] at sp3
     refine Ab.eq sp3 (by simp) (by simp) ?_
     refine zx ?_
     refine zk ?_;clear hK K
     refine zs ?_
     refine zt ?_
     refine zs ?_
     refine zr ?_
     simp only[BC,hg2,hg3] at hinv
     simp[Bk,hg,hinv,CL]
    |some z=>
     simp only[hg3,EL] at sp3
     obtain⟨hz1,hz2,hz3,hz4,_⟩:=AH hg3
     refine Ab.eq sp3 (by simp) (by simp) ?_
     have h4:¬(z.1:Int)<1:=by omega
     simp only[BC,hg2,hg3] at hinv
     refine zx ?_
     refine zk ?_;clear hK K
     by_cases hz16:z.1≤16
     rotate_left
     .have h5:(16:Int)<z.1:=by omega
      refine Af (an h4 h5) ?_;intro K hK
      refine zk ?_;clear hK K
      refine zt ?_
      refine zs ?_
      refine zr ?_
      rw[if_neg hz16] at hinv
      simp[Bk,hg,hinv,CL]
     have h5:¬(16:Int)<z.1:=by omega
     rw[if_pos hz16] at hinv
     refine Af (an h4 h5) ?_;intro K hK
     refine zk ?_;clear hK K
     refine zn ?_
     refine W.skip ?_
     refine zs ?_
     refine z1 ?_;intro K hK
     refine zk ?_;clear hK K
     by_cases h0:k=0
     .subst h0
      have ha:acc=[]:=by simpa using hacc
      subst ha
      have hzg:-1073741825≤B5 ((y.1:Int)-1)∧B5 ((y.1:Int)-1)≤1073741825:=by unfold B5;split<;>omega
      simp only[if_true,decide_true] at hinv
      refine zs ?_
      refine zt ?_
      refine z0 ?_;intro K hK
      refine Ab.eq (Rt ((y.1:Int)-1) (by omega) (by omega)) (by simp) (by simp) ?_
      generalize B5 ((y.1:Int)-1)=zz at*
      refine zx ?_
      refine zk ?_;clear hK K
      refine z1 ?_;intro K hK
      refine zk ?_;clear hK K
      refine zs ?_
      refine zs ?_
      refine⟨(1,[(v+zz,(z.1:Int)-1+3)],z.2,v+zz+((z.1:Int)-1+3)),by simp only;omega,⟨by simp only;omega,by simp,by simp only;omega,by simp only;omega,by simp;omega,?_⟩,Wk.cutM (k:=1) (by simp[Ad]) ?_ (by simp) (by simp) (by simp) (by simp)⟩
      .rw[hinv,hm']
       simp
       cases BC bs m false z.2 (v+zz+((z.1:Int)-1+3))<;>simp
      .simp[AM,Av]
     .simp only[h0,if_false,decide_false,Bool.false_eq_true] at hinv
      refine Af h0 ?_;intro K hK
      refine zk ?_;clear hK K
      refine zn ?_
      refine W.skip ?_
      refine z1 ?_;intro K hK
      refine⟨by omega,by omega,?_⟩
      refine zk ?_;clear hK K
      refine zs ?_
      refine zs ?_
      refine⟨(k+1,acc++[(last+y.1,(z.1:Int)-1+3)],z.2,last+y.1+((z.1:Int)-1+3)),by simp only;omega,⟨by simp only;omega,by simp[hacc],by simp only;omega,by simp only;omega,?_,?_⟩,Wk.cutM (k:=1) (by simp[Ad]) ?_ (by simp) (by simp) (by simp) (by simp)⟩
      .intro w hw
       simp only[List.mem_append,List.mem_singleton] at hw
       rcases hw with hw|rfl
       .exact hbnd w hw
       .simp only;omega
      .rw[hinv,hm']
       simp
       cases BC bs m false z.2 (last+y.1+((z.1:Int)-1+3))<;>simp
      .simp[CS,AM,Av]
  .refine W.exit ?_
   have hk' :x.1-1-k=0:=by omega
   rw[hk'] at hinv
   simp only[BC,Option.map_some,List.append_nil] at hinv
   subst hacc
   have hv' :0≤v∧v<100000:=by omega
   have spG:=NA bs q v hb hq hv'
   rw[Ev] at spG
   have htr:Bk bs p v=match Ds bs q v with
    |none=>none
    |some g=>match CW acc g.1 with
     |none=>none
     |some l=>if (BF v l).length=g.2-p∧(bs.drop p).take (BF v l).length=BF v l then some (l,g.2) else none:=by
    unfold Bk
    rw[hg]
    simp only
    rw[if_pos hle,hinv]
    rfl
   rw[htr,Ev]
   clear htr
   cases hgp:Dl bs q v with
   |none=>
    rw[hgp] at spG
    simp only[CL] at spG
    refine z0 ?_;intro K hK
    refine Ab.eq spG (by simp) (by simp) ?_
    refine zx ?_
    refine zk ?_;clear hK K
    refine zs ?_
    refine zt ?_
    refine zs ?_
    refine zr ?_
    rfl
   |some g=>
    rw[hgp] at spG
    simp only[CL] at spG
    obtain⟨g1,g2,g3,g4⟩:=Hq hgp
    refine z0 ?_;intro K hK
    refine Ab.eq spG (by simp) (by simp) ?_
    refine zx ?_
    refine zk ?_;clear hK K
    refine zs ?_
    refine zn ?_
    refine W.skip ?_
    have spJ:=TQ acc g.1 (by omega) hbnd (by omega)
    simp only
    cases hj:CW acc g.1 with
    |none=>
     rw[hj] at spJ
     simp only[TP] at spJ
     refine z0 ?_;intro K hK
     refine Ab.eq spJ (by simp) (by simp) ?_
     refine zx ?_
     refine zk ?_;clear hK K
     refine z0 ?_;intro K hK
     refine zk ?_;clear hK K
     refine zt ?_
     refine zs ?_
     refine zr ?_
     rfl
    |some l=>
     rw[hj] at spJ
     simp only[TP] at spJ
     have hml:=OI hj
     have hll:=BK hml
     simp only
     obtain⟨ys,hys⟩:∃ys,ys=BF v l:=⟨_,rfl⟩
     have spR:=RG v l hv hml
     rw[←hys] at spR ⊢
     refine z0 ?_;intro K hK
     refine Ab.eq spJ (by simp) (by simp) ?_
     refine zx ?_
     refine zk ?_;clear hK K
     have hl16:¬(16:Int)<(l.length:Int):=by omega
     refine Af hl16 ?_;intro K hK
     refine zk ?_;clear hK K
     refine zn ?_
     refine W.skip ?_
     refine z0 ?_;intro K hK
     refine Ab.eqN spR (by simp[Nm]) (by simp) ?_
     refine zx ?_
     refine zk ?_;clear hK K
     by_cases c1:(ys.length:Int)=(g.2:Int)-p
     rotate_left
     .refine Af c1 ?_;intro K hK
      refine zk ?_;clear hK K
      refine zt ?_
      refine zs ?_
      refine zr ?_
      rw[if_neg (fun h=>c1 (by omega))];rfl
     have c1t:((ys.length:Int)=(g.2:Int)-p)=True:=eq_true c1
     have spM:=RF bs ys p hb (by omega) (by omega)
     by_cases c2:(bs.drop p).take ys.length=ys
     .rw[decide_eq_true c2] at spM
      refine Af c1t ?_;intro K hK
      refine Ab.eq spM (by simp) (by simp) ?_
      refine zx ?_
      refine zk ?_;clear hK K
      refine zn ?_
      refine W.skip ?_
      refine zs ?_
      refine zr ?_
      rw[if_pos ⟨by omega,c2⟩];rfl
     .rw[decide_eq_false c2] at spM
      refine Af c1t ?_;intro K hK
      refine Ab.eq spM (by simp) (by simp) ?_
      refine zx ?_
      refine zk ?_;clear hK K
      refine zt ?_
      refine zs ?_
      refine zr ?_
      rw[if_neg (fun h=>c2 h.2)];rfl
end Go.Abs
set_option maxRecDepth 100000
namespace Go.Abs
open Go.Proofs
theorem D0 (xs:List Int) (x:Int):(0≤BX (fun y=>decide (y=x)) xs)↔xs.contains x=true:=by
 rw[Cl]
 simp
theorem OJ {l ref:List Int} {i:Nat} (h:i<ref.length) (b:Bool) (n:Nat):A9 l (ref.drop i) b n=if l.contains ref[i]=b then A9 l (ref.drop (i+1)) b (n+1) else n::A9 l (ref.drop (i+1)) (!b) 1:=by
 rw[List.drop_eq_getElem_cons h,A9]
theorem Mv {ref l:List Int} {i:Nat} (h:i<l.length):Bd ref (l.take (i+1))=Bd ref (l.take i)++if ref.contains l[i]=true then [] else [l[i]]:=by
 have hto:l.take (i+1)=l.take i++[l[i]]:=by rw[List.take_add_one];simp[h]
 rw[hto,Bd,List.filter_append]
 congr 1
 cases hc:ref.contains l[i]<;>simp_all
theorem PS (ref l:List Int) (hr:ref.length<1000000) (hl:l.length<1000000):Aa pg 207 [.ro ref.length (Ac ref),.ro l.length (Ac l)] [] (fun r _=>r= .tup [.own 1 (blocks ref l).length (Ac (blocks ref l)),.own 1 (Bd ref l).length (Ac (Bd ref l))]):=by
 refine Aa.start (fn:=Tryz.f207) [.tmp 4,.tmp 5] tk rfl rfl rfl (by kernel_rfl) (Nat.le_of_ble_eq_true rfl) rfl (by kernel_rfl) ?_
 rw[Aq]
 refine zs ?_
 refine zs ?_
 refine zs ?_
 refine zs ?_
 (repeat refine W.seq ?_);refine W.block (W.loopS (fun s:Nat×List Nat×Bool×Nat=> [(0,.ro ref.length (Ac ref)),(1,.ro l.length (Ac l)),(6,.tok 0 s.2.1.length 1 0 s.2.1.length),(7,.own 1 0 []),(8,.bool s.2.2.1),(9,.int .i64 s.2.2.2),(10,.int .i64 s.1)]) (fun s=> [.live s.2.1.length (Ac (s.2.1.map fun n=>((n:Nat):Int)))]) (fun s=>ref.length-s.1)
   (fun s=>s.1≤ref.length∧s.2.1.length≤s.1∧s.2.2.2≤s.1∧A9 l ref true 0=s.2.1++A9 l (ref.drop s.1) s.2.2.1 s.2.2.2) (0,[],true,0) ((Wk.nil (t:=6) (s:=1) (by simp)).trans (Wk.fr (by simp[Ad]))) ⟨by simp,by simp,by simp,by simp⟩ ?_)
 rintro⟨i,acc,b,n⟩ ⟨hi,hacc,hn,hinv⟩
 simp only at hi hacc hn hinv
 refine zs ?_
 refine zc ?_ ?_<;>intro h
 .refine W.skip ?_
  have hlt:i<ref.length:=by omega
  rw[OJ hlt] at hinv
  have sp:=Ja l ref[i] (by omega)
  have hix:=D0 l ref[i]
  refine zb ?_
  obtain⟨z,hz⟩:∃z,z=BX (fun y=>decide (y=ref[i])) l:=⟨_,rfl⟩
  obtain⟨c,hcd⟩:∃c,c=l.contains ref[i]:=⟨_,rfl⟩
  rw[←hz] at sp hix
  rw[←hcd] at hix hinv
  have hdz:decide (0≤z)=c:=by rw[Bool.eq_iff_iff];simp[hix]
  (repeat refine W.seq ?_);refine W.reg 0 rfl fun K hK=>?_;simp -implicitDefEqProofs (maxSteps:=999999) (disch:=omega) [hlt]
  refine Ab.eq sp (by simp) (by simp) ?_
  refine AJ hdz ?_
  refine zk ?_;clear hK K
  by_cases hc:c=b
  .rw[if_pos hc] at hinv
   refine Af hc ?_;intro K hK
   refine zk ?_;clear hK K
   refine zn ?_
   refine W.skip ?_
   refine zs ?_
   refine zs ?_
   exact⟨(i+1,acc,b,n+1),by simp only;omega,⟨by simp only;omega,by simp only;omega,by simp only;omega,hinv⟩,Wk.fr (by simp[Ad])⟩
  .rw[if_neg hc] at hinv
   have hcb:c= !b:=by cases c<;>cases b<;>simp_all
   have e:Ac (acc.map fun n=>((n:Nat):Int))++[AV.int .i64 n]=Ac ((acc++[n]).map fun n=>((n:Nat):Int)):=by simp[Ac]
   refine Af hc ?_;intro K hK
   refine zk ?_;clear hK K
   refine zt ?_
   refine z1 ?_;intro K hK
   refine⟨by omega,by omega,?_⟩
   refine zk ?_;clear hK K
   refine zs ?_
   refine zs ?_
   refine zs ?_
   refine⟨(i+1,acc++[n],!b,1),by simp only;omega,⟨by simp only;omega,by simp;omega,by simp only;omega,by simp only;rw[hinv];simp⟩,Wk.cutM (k:=1) (by simp[Ad,hcb]) ?_ (by simp) (by simp) (by simp) (by simp)⟩
   simp[Ac]
 .refine W.exit ?_
  have hi' :i=ref.length:=by omega
  subst hi'
  rw[List.drop_length,A9,List.append_nil] at hinv
  have hbl:blocks ref l=acc.map fun n=>((n:Nat):Int):=by rw[blocks,hinv]
  have hal:acc.length=(blocks ref l).length:=by rw[hbl];simp
  rw[←hbl,hal]
  rw[hal] at hacc
  generalize blocks ref l=bl at*
  refine zs ?_
  have hoN:∀k,(Bd ref (l.take k)).length≤k:=fun k=>Nat.le_trans (List.length_filter_le _ _) (by simp;omega)
  (repeat refine W.seq ?_);refine W.block (W.loopS (fun k:Nat=> [(0,.ro ref.length (Ac ref)),(1,.ro l.length (Ac l)),(6,.tok 0 bl.length 1 0 bl.length),(7,.tok 1 (Bd ref (l.take k)).length 1 0 (Bd ref (l.take k)).length),(12,.int .i64 k)]) (fun k=> [.live bl.length (Ac bl),.live (Bd ref (l.take k)).length (Ac (Bd ref (l.take k)))]) (fun k=>l.length-k) (fun k=>k≤l.length) 0 ((Wk.nil (t:=7) (s:=1) (by simp)).trans (Wk.fr (by simp[Ad,Bd]))) (by simp) ?_)
  intro k hk
  refine zs ?_
  refine zc ?_ ?_<;>intro h
  .refine W.skip ?_
   have hlt:k<l.length:=by omega
   have hst:=Mv (ref:=ref) hlt
   have hok:=hoN k
   have sp:=Ja ref l[k] (by omega)
   have hix:=D0 ref l[k]
   refine zb ?_
   obtain⟨z,hz⟩:∃z,z=BX (fun y=>decide (y=l[k])) ref:=⟨_,rfl⟩
   rw[←hz] at sp hix
   by_cases hc:ref.contains l[k]=true
   .have hz0:¬z<0:=by have:=hix.2 hc;omega
    rw[if_pos hc,List.append_nil] at hst
    (repeat refine W.seq ?_);refine W.reg 0 rfl fun K hK=>?_;simp -implicitDefEqProofs (maxSteps:=999999) (disch:=omega) [hlt]
    refine Ab.eq sp (by simp) (by simp) ?_
    refine AJ hz0 ?_
    refine zk ?_;clear hK K
    refine zn ?_
    refine W.skip ?_
    refine zs ?_
    refine⟨k+1,by omega,by omega,?_⟩
    rw[hst]
    exact Wk.fr (by simp[Ad])
   .have hz0:z<0:=by have:=mt hix.1 hc;omega
    rw[if_neg hc] at hst
    (repeat refine W.seq ?_);refine W.reg 0 rfl fun K hK=>?_;simp -implicitDefEqProofs (maxSteps:=999999) (disch:=omega) [hlt]
    refine Ab.eq sp (by simp) (by simp) ?_
    refine AJ hz0 ?_
    refine zk ?_;clear hK K
    refine zt ?_
    (repeat refine W.seq ?_);refine W.reg 1 rfl fun K hK=>?_;simp -implicitDefEqProofs (maxSteps:=999999) (disch:=omega) [hlt]
    refine⟨by omega,by omega,?_⟩
    refine zk ?_;clear hK K
    refine zs ?_
    refine⟨k+1,by omega,by omega,?_⟩
    rw[hst]
    simp only[List.length_append,List.length_singleton]
    refine Wk.cutM (k:=2) (by simp[Ad]) ?_ (by simp) (by simp) (by simp) (by simp)
    simp[Ac]
  .refine W.exit ?_
   have hk' :k=l.length:=by omega
   subst hk'
   rw[List.take_length]
   refine zs ?_
   exact zR
end Go.Abs
set_option maxRecDepth 100000
namespace Go.Abs
open Go.Proofs
def CR (l:List Int):Int→Bool:=fun j=>l.contains j
def GL (ref bl rest:List Int):List Int×Bool:=
 if¬(AG ref∧AG rest∧bl.length≤16) then([],false) else match AX bl ref true with
  |none=>([],false)
  |some l=>(Bx (CQ (CR l) rest) 16,decide (blocks ref (Bx (CQ (CR l) rest) 16)=bl∧Bd ref (Bx (CQ (CR l) rest) 16)=rest))
theorem TR (ref bl rest:List Int):DK ref bl rest=if (GL ref bl rest).2=true then some (GL ref bl rest).1 else none:=by
 unfold DK GL
 split
 .simp
 .cases AX bl ref true with
  |none=>simp
  |some l=>
   simp only[decide_eq_true_eq]
   rfl
theorem GA (l:List Int):∀(ref:List Int) (b:Bool) (n:Nat),(A9 l ref b n).length≤ref.length
 | [],_,_=>by simp[A9]
 |x::ref,b,n=>by
  rw[A9]
  split
  .have:=GA l ref b (n+1);simp;omega
  .have:=GA l ref (!b) 1;simp;omega
theorem OK (ref l:List Int):(blocks ref l).length≤ref.length:=by
 unfold blocks
 rw[List.length_map]
 exact GA l ref true 0
def Ew (i:Nat):Bool:=decide (i%2=0)
theorem G3 (i:Nat):Ew (i+1)= !Ew i:=by
 unfold Ew
 rw[←decide_not,decide_eq_decide]
 omega
theorem Lv (l:List Int) (x:Int):AB (DZ (CR l) x)=AB (CR (l++[x])):=C1 fun j _ _=>by
 simp only[DZ,CR]
 rw[Bool.eq_iff_iff]
 simp
theorem PT (p:Int→Bool) (l:List Int) (x:Int):AB (DZ (CQ p l) x)=AB (CQ p (l++[x])):=C1 fun j _ _=>by
 simp only[DZ,CQ,Bool.or_assoc]
 congr 1
 rw[Bool.eq_iff_iff]
 simp
theorem Lw (ref bl rest:List Int) (h1:ref.length<1000000) (h2:bl.length<1000000) (h3:rest.length<1000000) (hb:∀x∈bl,-1000000000000≤x∧x≤1000000000000):Aa pg 186 [.ro ref.length (Ac ref),.ro bl.length (Ac bl),.ro rest.length (Ac rest)] [] (fun r _=>r= .tup [.own 1 (GL ref bl rest).1.length (Ac (GL ref bl rest).1),.bool (GL ref bl rest).2]):=by
 refine Aa.start (fn:=Tryz.f186) [.tmp 6,.tmp 7] tk rfl rfl rfl (by kernel_rfl) (Nat.le_of_ble_eq_true rfl) rfl (by kernel_rfl) ?_
 rw[Bm]
 refine zs ?_
 have sp1:=Fv ref (by omega)
 have sp2:=Fv rest (by omega)
 by_cases c1:AG ref
 rotate_left
 .rw[GL,if_pos (fun h=>c1 h.1)]
  rw[decide_eq_false c1] at sp1
  refine z0 ?_;intro K hK
  refine Ab.eq sp1 (by simp) (by simp) ?_
  refine zx ?_
  refine zk ?_;clear hK K
  refine zt ?_
  refine zs ?_
  exact zR
 by_cases c2:AG rest
 rotate_left
 .rw[GL,if_pos (fun h=>c2 h.2.1)]
  rw[decide_eq_true c1] at sp1
  rw[decide_eq_false c2] at sp2
  refine z0 ?_;intro K hK
  refine Ab.eq sp1 (by simp) (by simp) ?_
  refine zx ?_
  refine Ab.eq sp2 (by simp) (by simp) ?_
  refine zx ?_
  refine zk ?_;clear hK K
  refine zt ?_
  refine zs ?_
  exact zR
 rw[decide_eq_true c1] at sp1
 rw[decide_eq_true c2] at sp2
 by_cases c3:bl.length≤16
 rotate_left
 .have c3' :(16:Int)<(bl.length:Int):=by omega
  rw[GL,if_pos (fun h=>c3 h.2.2)]
  refine z0 ?_;intro K hK
  refine Ab.eq sp1 (by simp) (by simp) ?_
  refine zx ?_
  refine Ab.eq sp2 (by simp) (by simp) ?_
  refine AJ c3' ?_
  refine zk ?_;clear hK K
  refine zt ?_
  refine zs ?_
  exact zR
 have c3' :¬(16:Int)<(bl.length:Int):=by omega
 have hjc:GL ref bl rest=match AX bl ref true with
  |none=>([],false)
  |some l=>(Bx (CQ (CR l) rest) 16,decide (blocks ref (Bx (CQ (CR l) rest) 16)=bl∧Bd ref (Bx (CQ (CR l) rest) 16)=rest)):=by rw[GL,if_neg (fun h=>h ⟨c1,c2,c3⟩)]
 rw[hjc]
 clear hjc
 have hl1:=BK c1
 have hl2:=BK c2
 refine z0 ?_;intro K hK
 refine Ab.eq sp1 (by simp) (by simp) ?_
 refine zx ?_
 refine Ab.eq sp2 (by simp) (by simp) ?_
 refine AJ c3' ?_
 refine zk ?_;clear hK K
 refine zn ?_
 refine W.skip ?_
 refine z1 ?_;intro K hK
 have e0:[AV.bool false,AV.bool false,AV.bool false,AV.bool false,AV.bool false,AV.bool false,AV.bool false,AV.bool false,AV.bool false,AV.bool false,AV.bool false,AV.bool false,AV.bool false,AV.bool false,AV.bool false,AV.bool false]=AA (AB (CR [])):=rfl
 rw[e0]
 refine zk ?_;clear hK K
 refine zs ?_
 refine zs ?_
 (repeat refine W.seq ?_);refine W.block (W.loopS (fun s:Nat×Nat×List Int=> [(0,.ro ref.length (Ac ref)),(1,.ro bl.length (Ac bl)),(2,.ro rest.length (Ac rest)),(8,.ptr 0 0 0),(9,.int .i64 s.2.1),(10,.int .i64 s.1)]) (fun s=> [.live 0 (AA (AB (CR s.2.2)))]) (fun s=>bl.length+1-s.1)
   (fun s=>s.2.1≤ref.length∧((s.1≤bl.length∧AX bl ref true=(AX (bl.drop s.1) (ref.drop s.2.1) (Ew s.1)).map fun l=>s.2.2++l)∨(s.1=bl.length+1∧AX bl ref true=some s.2.2))) (0,0,[]) (Wk.fr (by simp[Ad])) ⟨by simp,.inl ⟨by simp,by simp[Ew]⟩⟩ ?_)
 rintro⟨i,q,acc⟩ ⟨hq,hinv⟩
 simp only at hq hinv
 by_cases hle:i≤bl.length
 .have hinv:AX bl ref true=(AX (bl.drop i) (ref.drop q) (Ew i)).map fun l=>acc++l:=by
   rcases hinv with h|h
   .exact h.2
   .omega
  refine zs ?_
  refine zt ?_
  refine W.skip ?_
  refine zb ?_
  refine zs ?_
  by_cases hlb:i<bl.length
  .have hbi:=hb _ (List.getElem_mem hlb)
   have hdl:bl.drop i=bl[i]::bl.drop (i+1):=List.drop_eq_getElem_cons hlb
   refine zs ?_
   refine zt ?_
   (repeat refine W.seq ?_);refine W.reg 0 rfl fun K hK=>?_;simp -implicitDefEqProofs (maxSteps:=999999) (disch:=omega) [hlb]
   refine zk ?_;clear hK K
   by_cases hbad:bl[i]<0∨(ref.length:Int)-q<bl[i]
   .have hnone:AX bl ref true=none:=by
     rw[hinv,hdl,AX,if_pos (by simp only[List.length_drop];omega)];rfl
    rw[hnone]
    by_cases hneg:bl[i]<0
    .refine Af hneg ?_;intro K hK
     refine zk ?_;clear hK K
     refine zt ?_
     refine zs ?_
     exact zR
    .have hbig:(ref.length:Int)-q<bl[i]:=by omega
     refine Af (an hneg hbig) ?_;intro K hK
     refine zk ?_;clear hK K
     refine zt ?_
     refine zs ?_
     exact zR
   .obtain⟨N,hz⟩:=Int.eq_ofNat_of_zero_le (show 0≤bl[i] by omega)
    rw[hz] at hbad
    have hNq:q+N≤ref.length:=by omega
    have f1:¬((N:Int)<0):=by omega
    have f2:¬((ref.length:Int)-q<N):=by omega
    rw[hz]
    refine Af (an f1 f2) ?_;intro K hK
    refine zk ?_;clear hK K
    refine zn ?_
    refine W.skip ?_
    refine zs ?_
    have hmem:∀w∈ref,0≤w∧w<16:=fun w hw=>c1.1 w hw
    cases hev:Ew i
    .have hodd:¬(i:Int)%2=0:=by simp only[Ew,decide_eq_false_iff_not] at hev;omega
     (repeat refine W.seq ?_);refine W.block (W.loopS (fun _:Unit=> [(0,.ro ref.length (Ac ref)),(1,.ro bl.length (Ac bl)),(2,.ro rest.length (Ac rest)),(8,.ptr 0 0 0),(9,.int .i64 q),(10,.int .i64 i),(11,.int .i64 N),(12,.int .i64 0)]) (fun _=> [.live 0 (AA (AB (CR acc)))]) (fun _=>0) (fun _=>True) () (Wk.fr (by simp[Ad])) trivial ?_)
     rintro _ _
     by_cases hN0:0<N
     .refine Af (an hodd hN0) ?_;intro K hK
      refine zk ?_;clear hK K
      refine zn ?_
      refine W.exit ?_
      refine zs ?_
      refine zs ?_
      refine⟨(i+1,q+N,acc),by simp only;omega,⟨by simp only;omega,?_⟩,Wk.fr (by simp[Ad])⟩
      refine .inl ⟨by simp only;omega,?_⟩
      simp only
      rw[hinv,hdl,AX,if_neg (by simp only[List.length_drop];omega),hz,Int.toNat_natCast,List.drop_drop,G3,hev]
      cases AX (bl.drop (i+1)) (ref.drop (q+N)) (!false)<;>simp
     .have hN00:N=0:=by omega
      refine Af (an hodd (an hN0 hN00)) ?_;intro K hK
      refine zk ?_;clear hK K
      refine zn ?_
      refine W.exit ?_
      refine zs ?_
      refine zs ?_
      refine⟨(i+1,q+N,acc),by simp only;omega,⟨by simp only;omega,?_⟩,Wk.fr (by simp[Ad,hN00])⟩
      refine .inl ⟨by simp only;omega,?_⟩
      simp only
      rw[hinv,hdl,AX,if_neg (by simp only[List.length_drop];omega),hz,Int.toNat_natCast,List.drop_drop,G3,hev]
      cases AX (bl.drop (i+1)) (ref.drop (q+N)) (!false)<;>simp
    .have hevn:(i:Int)%2=0:=by simp only[Ew,decide_eq_true_eq] at hev;omega
     rw[show acc=acc++(ref.drop q).take 0 by simp]
     (repeat refine W.seq ?_);refine W.block (W.loopS (fun k:Nat=> [(0,.ro ref.length (Ac ref)),(1,.ro bl.length (Ac bl)),(2,.ro rest.length (Ac rest)),(8,.ptr 0 0 0),(9,.int .i64 q),(10,.int .i64 i),(11,.int .i64 N),(12,.int .i64 k)]) (fun k=> [.live 0 (AA (AB (CR (acc++(ref.drop q).take k))))]) (fun k=>N-k) (fun k=>k≤N) 0 (Wk.fr (by simp[Ad])) (Nat.zero_le _) ?_)
     intro k hk
     by_cases hkN:k<N
     .refine Af (an hevn hkN) ?_;intro K hK
      refine zk ?_;clear hK K
      refine zt ?_
      refine W.skip ?_
      have hql:q+k<ref.length:=by omega
      have hw:=hmem _ (List.getElem_mem hql)
      obtain⟨w,hwe⟩:=Int.eq_ofNat_of_zero_le hw.1
      have hw16:w<16:=by omega
      have hti:((q:Int)+k).toNat=q+k:=by omega
      have hset:∀p:Int→Bool,(AA (AB p)).set w (.bool true)=AA (AB (DZ p (w:Int))):=fun p=>by rw[EJ,Fo _ _ hw16]
      have hto:(ref.drop q).take (k+1)=(ref.drop q).take k++[(w:Int)]:=by rw[List.take_add_one];simp[hql,hwe]
      have e5:AB (DZ (CR (acc++(ref.drop q).take k)) (w:Int))=AB (CR (acc++(ref.drop q).take (k+1))):=by rw[Lv,hto,List.append_assoc]
      refine zb ?_
      refine Af (an hti (an hwe (an hset (an hql hw16)))) ?_;intro K hK
      refine⟨by omega,?_⟩
      refine zk ?_;clear hK K
      refine zs ?_
      rw[e5]
      exact⟨k+1,by omega,by omega,Wk.fr (by simp[Ad])⟩
     .refine Af (an hevn hkN) ?_;intro K hK
      refine zk ?_;clear hK K
      refine zn ?_
      refine W.exit ?_
      have hk' :k=N:=by omega
      subst hk'
      refine zs ?_
      refine zs ?_
      refine⟨(i+1,q+k,acc++(ref.drop q).take k),by simp only;omega,⟨by simp only;omega,?_⟩,Wk.fr (by simp[Ad])⟩
      refine .inl ⟨by simp only;omega,?_⟩
      simp only
      rw[hinv,hdl,AX,if_neg (by simp only[List.length_drop];omega),hz,Int.toNat_natCast,List.drop_drop,G3,hev]
      cases AX (bl.drop (i+1)) (ref.drop (q+k)) (!true)<;>simp
  .have hie:i=bl.length:=by omega
   have hdl:bl.drop i=[]:=List.drop_eq_nil_of_le (by omega)
   refine Af hlb ?_;intro K hK
   refine zk ?_;clear hK K
   refine zn ?_
   refine W.skip ?_
   obtain⟨N,hz⟩:=Int.eq_ofNat_of_zero_le (show 0≤(ref.length:Int)-q by omega)
   have hNq:q+N≤ref.length:=by omega
   have f1:¬((N:Int)<0):=by omega
   have f2:¬((N:Int)<(N:Int)):=by omega
   rw[hz]
   refine Af (an hz (an f1 f2)) ?_;intro K hK
   refine zk ?_;clear hK K
   refine zn ?_
   refine W.skip ?_
   refine zs ?_
   have hmem:∀w∈ref,0≤w∧w<16:=fun w hw=>c1.1 w hw
   cases hev:Ew i
   .have hodd:¬(i:Int)%2=0:=by simp only[Ew,decide_eq_false_iff_not] at hev;omega
    (repeat refine W.seq ?_);refine W.block (W.loopS (fun _:Unit=> [(0,.ro ref.length (Ac ref)),(1,.ro bl.length (Ac bl)),(2,.ro rest.length (Ac rest)),(8,.ptr 0 0 0),(9,.int .i64 q),(10,.int .i64 i),(11,.int .i64 N),(12,.int .i64 0)]) (fun _=> [.live 0 (AA (AB (CR acc)))]) (fun _=>0) (fun _=>True) () (Wk.fr (by simp[Ad])) trivial ?_)
    rintro _ _
    by_cases hN0:0<N
    .refine Af (an hodd hN0) ?_;intro K hK
     refine zk ?_;clear hK K
     refine zn ?_
     refine W.exit ?_
     refine zs ?_
     refine zs ?_
     refine⟨(i+1,q+N,acc),by simp only;omega,⟨by simp only;omega,?_⟩,Wk.fr (by simp[Ad])⟩
     refine .inr ⟨by simp only;omega,?_⟩
     simp only
     rw[hinv,hdl,AX,hev]
     simp
    .have hN00:N=0:=by omega
     refine Af (an hodd (an hN0 hN00)) ?_;intro K hK
     refine zk ?_;clear hK K
     refine zn ?_
     refine W.exit ?_
     refine zs ?_
     refine zs ?_
     refine⟨(i+1,q+N,acc),by simp only;omega,⟨by simp only;omega,?_⟩,Wk.fr (by simp[Ad,hN00])⟩
     refine .inr ⟨by simp only;omega,?_⟩
     simp only
     rw[hinv,hdl,AX,hev]
     simp
   .have hevn:(i:Int)%2=0:=by simp only[Ew,decide_eq_true_eq] at hev;omega
    rw[show acc=acc++(ref.drop q).take 0 by simp]
    (repeat refine W.seq ?_);refine W.block (W.loopS (fun k:Nat=> [(0,.ro ref.length (Ac ref)),(1,.ro bl.length (Ac bl)),(2,.ro rest.length (Ac rest)),(8,.ptr 0 0 0),(9,.int .i64 q),(10,.int .i64 i),(11,.int .i64 N),(12,.int .i64 k)]) (fun k=> [.live 0 (AA (AB (CR (acc++(ref.drop q).take k))))]) (fun k=>N-k) (fun k=>k≤N) 0 (Wk.fr (by simp[Ad])) (Nat.zero_le _) ?_)
    intro k hk
    by_cases hkN:k<N
    .refine Af (an hevn hkN) ?_;intro K hK
     refine zk ?_;clear hK K
     refine zt ?_
     refine W.skip ?_
     have hql:q+k<ref.length:=by omega
     have hw:=hmem _ (List.getElem_mem hql)
     obtain⟨w,hwe⟩:=Int.eq_ofNat_of_zero_le hw.1
     have hw16:w<16:=by omega
     have hti:((q:Int)+k).toNat=q+k:=by omega
     have hset:∀p:Int→Bool,(AA (AB p)).set w (.bool true)=AA (AB (DZ p (w:Int))):=fun p=>by rw[EJ,Fo _ _ hw16]
     have hto:(ref.drop q).take (k+1)=(ref.drop q).take k++[(w:Int)]:=by rw[List.take_add_one];simp[hql,hwe]
     have e5:AB (DZ (CR (acc++(ref.drop q).take k)) (w:Int))=AB (CR (acc++(ref.drop q).take (k+1))):=by rw[Lv,hto,List.append_assoc]
     refine zb ?_
     refine Af (an hti (an hwe (an hset (an hql hw16)))) ?_;intro K hK
     refine⟨by omega,?_⟩
     refine zk ?_;clear hK K
     refine zs ?_
     rw[e5]
     exact⟨k+1,by omega,by omega,Wk.fr (by simp[Ad])⟩
    .refine Af (an hevn hkN) ?_;intro K hK
     refine zk ?_;clear hK K
     refine zn ?_
     refine W.exit ?_
     have hk' :k=N:=by omega
     subst hk'
     refine zs ?_
     refine zs ?_
     refine⟨(i+1,q+k,acc++(ref.drop q).take k),by simp only;omega,⟨by simp only;omega,?_⟩,Wk.fr (by simp[Ad])⟩
     refine .inr ⟨by simp only;omega,?_⟩
     simp only
     rw[hinv,hdl,AX,hev]
     simp
     rw[List.take_of_length_le (by simp;omega)]
 .have hil:i=bl.length+1:=by
   rcases hinv with h|h<;>omega
  have hcg:AX bl ref true=some acc:=by
   rcases hinv with h|h
   .omega
   .exact h.2
  rw[hcg]
  simp only
  have hgt:¬(i:Int)≤(bl.length:Int):=by omega
  refine Af hgt ?_;intro K hK
  refine zk ?_;clear hK K
  refine zn ?_
  refine W.exit ?_
  refine zs ?_
  have e4:AB (CR acc)=AB (CQ (CR acc) (rest.take 0)):=C1 fun j _ _=>by simp[CQ]
  rw[e4]
  (repeat refine W.seq ?_);refine W.block (W.loopS (fun k:Nat=> [(0,.ro ref.length (Ac ref)),(1,.ro bl.length (Ac bl)),(2,.ro rest.length (Ac rest)),(8,.ptr 0 0 0),(13,.int .i64 k)]) (fun k=> [.live 0 (AA (AB (CQ (CR acc) (rest.take k))))]) (fun k=>rest.length-k) (fun k=>k≤rest.length) 0 (Wk.fr (by simp[Ad])) (Nat.zero_le _) ?_)
  intro k hk
  refine zs ?_
  refine zc ?_ ?_<;>intro h
  .refine W.skip ?_
   have hkl:k<rest.length:=by omega
   have hw:=c2.1 _ (List.getElem_mem hkl)
   obtain⟨w,hwe⟩:=Int.eq_ofNat_of_zero_le hw.1
   have hw16:w<16:=by omega
   have hset:∀p:Int→Bool,(AA (AB p)).set w (.bool true)=AA (AB (DZ p (w:Int))):=fun p=>by rw[EJ,Fo _ _ hw16]
   have hto2:rest.take (k+1)=rest.take k++[(w:Int)]:=by rw[List.take_add_one];simp[hkl,hwe]
   have e5:AB (DZ (CQ (CR acc) (rest.take k)) (w:Int))=AB (CQ (CR acc) (rest.take (k+1))):=by rw[PT,hto2]
   refine zb ?_
   refine Af (an hkl (an hwe (an hset hw16))) ?_;intro K hK
   refine zk ?_;clear hK K
   refine zs ?_
   rw[e5]
   exact⟨k+1,by omega,by omega,Wk.fr (by simp[Ad])⟩
  .refine W.exit ?_
   have hk' :k=rest.length:=by omega
   subst hk'
   rw[List.take_length]
   generalize CQ (CR acc) rest=pr
   refine zs ?_
   refine zs ?_
   (repeat refine W.seq ?_);refine W.block (W.loopS (fun k:Nat=> [(0,.ro ref.length (Ac ref)),(1,.ro bl.length (Ac bl)),(2,.ro rest.length (Ac rest)),(8,.ptr 0 0 0),(14,.tok 1 (Bx pr k).length 1 0 (Bx pr k).length),(15,.int .i64 k)]) (fun k=> [.live 0 (AA (AB pr)),.live (Bx pr k).length (Ac (Bx pr k))]) (fun k=>16-k) (fun k=>k≤16) 0 ((Wk.nil (t:=14) (s:=1) (by simp)).trans (Wk.fr (by simp[Ad,Bx]))) (by simp) ?_)
   intro k hk
   have htl:=IE pr k
   refine zs ?_
   refine zc ?_ ?_<;>intro h
   .refine W.skip ?_
    have hlt:k<16:=by omega
    have hget:(AB pr)[k]?=some (pr (k:Int)):=HX _ _ hlt
    have hsu:=HZ pr k
    refine zb ?_
    cases hq:pr (k:Int)
    .rw[hq] at hget hsu
     refine Af (an hget hlt) ?_;intro K hK
     refine zk ?_;clear hK K
     refine zn ?_
     refine W.skip ?_
     refine zs ?_
     refine⟨k+1,by omega,by omega,?_⟩
     rw[hsu]
     simp only[Bool.false_eq_true,if_false,List.append_nil]
     exact Wk.fr (by simp[Ad])
    .rw[hq] at hget hsu
     refine Af (an hget hlt) ?_;intro K hK
     refine zk ?_;clear hK K
     refine zt ?_
     refine z1 ?_;intro K hK
     refine⟨by omega,by omega,?_⟩
     refine zk ?_;clear hK K
     refine zs ?_
     refine⟨k+1,by omega,by omega,?_⟩
     rw[hsu]
     simp only[if_true,List.length_append,List.length_singleton]
     refine Wk.cutM (k:=2) (by simp[Ad]) ?_ (by simp) (by simp) (by simp) (by simp)
     simp[Ac]
   .refine W.exit ?_
    have hk' :k=16:=by omega
    subst hk'
    obtain⟨L,hL⟩:∃L,L=Bx pr 16:=⟨_,rfl⟩
    rw[←hL] at htl ⊢
    have spC:=PS ref L (by omega) (by omega)
    have hbl:(blocks ref L).length<4611686018427387904:=by have:=OK ref L;omega
    have hol:(Bd ref L).length≤L.length:=List.length_filter_le _ _
    obtain⟨X,hX⟩:∃X,X=blocks ref L:=⟨_,rfl⟩
    obtain⟨Y,hY⟩:∃Y,Y=Bd ref L:=⟨_,rfl⟩
    rw[←hX,←hY] at spC
    rw[←hX] at hbl
    rw[←hY] at hol
    rw[←hX,←hY]
    refine z0 ?_;intro K hK
    refine Ab.eq spC (by simp) (by simp) ?_
    refine zx ?_
    refine zk ?_;clear hK K
    have sE1:=DA X bl hbl
    have sE2:=DA Y rest (by omega)
    by_cases d1:X=bl
    .rw[decide_eq_true d1] at sE1
     refine z0 ?_;intro K hK
     refine Ab.eq sE1 (by simp) (by simp) ?_
     refine zx ?_
     refine Ab.eq sE2 (by simp) (by simp) ?_
     refine zx ?_
     refine zk ?_;clear hK K
     refine zr ?_
     simp[d1]
    .rw[decide_eq_false d1] at sE1
     refine z0 ?_;intro K hK
     refine Ab.eq sE1 (by simp) (by simp) ?_
     refine zx ?_
     refine zk ?_;clear hK K
     refine zr ?_
     simp[d1]
end Go.Abs
set_option maxRecDepth 100000
namespace Go.Abs
open Go.Proofs
theorem IF {bs:List Bool} {p:Nat} {v:Int} {r:List Int×Nat} (hv:-100000≤v∧v≤100000) (h:Bk bs p v=some r):AG r.1∧r.1.length≤16∧p<r.2∧r.2≤bs.length:=by
 rw[Fm] at h
 exact Hr hv h
theorem PU (bs:List Bool) (p:Nat) (v:Int) (ref:List Int) (hb:bs.length<1000000000) (hp:p≤bs.length) (hv:0≤v∧v≤16) (hr:ref.length<1000000):Aa pg 146 [.ro bs.length (AI bs),.int .i64 p,.int .i64 v,.ro ref.length (Ac ref)] [] (fun r _=>r=CL (DB bs p v ref)):=by
 refine Aa.start (fn:=Tryz.f146) [.tmp 8,.tmp 9,.tmp 10] tk rfl rfl rfl (by kernel_rfl) (Nat.le_of_ble_eq_true rfl) rfl (by kernel_rfl) ?_
 rw[H9]
 refine zs ?_
 refine z0 ?_;intro K hK
 have sp:=Eh bs p hb hp
 cases hg:AF bs p with
 |none=>
  simp only[hg,EL] at sp
  refine Ab.eq sp (by simp) (by simp) ?_
  refine zx ?_
  refine zk ?_;clear hK K
  refine zs ?_
  refine zt ?_
  refine zs ?_
  refine zr ?_
  simp[DB,hg,CL]
 |some x=>
  simp only[hg,EL] at sp
  obtain⟨hx1,hx2,hx3,hx4,_⟩:=AH hg
  refine Ab.eq sp (by simp) (by simp) ?_
  refine zx ?_
  refine zk ?_;clear hK K
  by_cases hle:x.1≤17
  rotate_left
  .have h1:¬(x.1:Int)<1:=by omega
   have h2:(16:Int)<(x.1:Int)-1:=by omega
   refine Af (an h1 h2) ?_;intro K hK
   refine zk ?_;clear hK K
   refine zt ?_
   refine zs ?_
   refine zr ?_
   simp only[DB,hg];rw[if_neg hle];simp[CL]
  have h1:¬(x.1:Int)<1:=by omega
  have h2:¬(16:Int)<(x.1:Int)-1:=by omega
  refine Af (an h1 h2) ?_;intro K hK
  refine zk ?_;clear hK K
  refine zn ?_
  refine W.skip ?_
  refine zs ?_
  refine zs ?_
  (repeat refine W.seq ?_);refine W.block (W.loopS (fun s:Nat×List Int×Nat=> [(0,.ro bs.length (AI bs)),(1,.int .i64 s.2.2),(2,.int .i64 v),(3,.ro ref.length (Ac ref)),(11,.int .i64 x.1),(12,.tok 0 s.1 1 0 s.1),(13,.int .i64 s.1)]) (fun s=> [.live s.1 (Ac s.2.1)]) (fun s=>x.1-1-s.1)
    (fun s=>s.1≤x.1-1∧s.2.1.length=s.1∧s.2.2≤bs.length∧(∀q∈s.2.1,-1000000000000≤q∧q≤1000000000000)∧Bf bs (x.1-1) true x.2=(Bf bs (x.1-1-s.1) (decide (s.1=0)) s.2.2).map fun r=>(s.2.1++r.1,r.2)) (0,[],x.2) ((Wk.nil (t:=12) (s:=1) (by simp)).trans (Wk.fr (by simp[Ad]))) ⟨by omega,rfl,hx4,by simp,by simp⟩ ?_)
  rintro⟨k,acc,q⟩ ⟨hk,hacc,hq,hbnd,hinv⟩
  simp only at hk hacc hq hinv hbnd
  refine zs ?_
  refine zc ?_ ?_<;>intro h
  .refine W.skip ?_
   obtain⟨m,hm⟩:∃m,x.1-1-k=m+1:=⟨x.1-1-k-1,by omega⟩
   have hm' :x.1-1-(k+1)=m:=by omega
   rw[hm] at hinv
   refine zb ?_
   have sp2:=Eh bs q hb hq
   refine z0 ?_;intro K hK
   cases hg2:AF bs q with
   |none=>
    simp only[hg2,EL] at sp2
    refine Ab.eq sp2 (by simp) (by simp) ?_
    refine zx ?_
    refine zk ?_;clear hK K
    refine zs ?_
    refine zt ?_
    refine zs ?_
    refine zr ?_
    simp only[Bf,hg2] at hinv
    simp[DB,hg,hinv,CL]
   |some y=>
    simp only[hg2,EL] at sp2
    obtain⟨hy1,hy2,hy3,hy4,_⟩:=AH hg2
    refine Ab.eq sp2 (by simp) (by simp) ?_
    have h3:¬(y.1:Int)<1:=by omega
    simp only[Bf,hg2] at hinv
    refine zx ?_
    refine zk ?_;clear hK K
    by_cases hy17:y.1≤17
    rotate_left
    .have h4:(17:Int)<(y.1:Int):=by omega
     refine Af (an h3 h4) ?_;intro K hK
     refine zk ?_;clear hK K
     refine zt ?_
     refine zs ?_
     refine zr ?_
     rw[if_neg hy17] at hinv
     simp[DB,hg,hinv,CL]
    have h4:¬(17:Int)<(y.1:Int):=by omega
    rw[if_pos hy17] at hinv
    refine Af (an h3 h4) ?_;intro K hK
    refine zk ?_;clear hK K
    refine zn ?_
    refine W.skip ?_
    refine zs ?_
    by_cases h0:k=0
    .subst h0
     have ha:acc=[]:=by simpa using hacc
     subst ha
     simp only[if_true,decide_true] at hinv
     refine zs ?_
     refine zt ?_
     refine zs ?_
     refine z1 ?_;intro K hK
     refine zk ?_;clear hK K
     refine zs ?_
     refine⟨(1,[(y.1:Int)-1],y.2),by simp only;omega,⟨by simp only;omega,by simp,by simp only;omega,by simp;omega,?_⟩,Wk.cutM (k:=1) (by simp[Ad]) ?_ (by simp) (by simp) (by simp) (by simp)⟩
     .rw[hinv,hm']
      simp
      cases Bf bs m false y.2<;>simp
     .simp[Ac]
    .simp only[h0,if_false,decide_false,Bool.false_eq_true] at hinv
     refine Af h0 ?_;intro K hK
     refine zk ?_;clear hK K
     refine zn ?_
     refine W.skip ?_
     refine z1 ?_;intro K hK
     refine⟨by omega,by omega,?_⟩
     refine zk ?_;clear hK K
     refine zs ?_
     refine⟨(k+1,acc++[(y.1:Int)],y.2),by simp only;omega,⟨by simp only;omega,by simp[hacc],by simp only;omega,?_,?_⟩,Wk.cutM (k:=1) (by simp[Ad]) ?_ (by simp) (by simp) (by simp) (by simp)⟩
     .intro w hw
      simp only[List.mem_append,List.mem_singleton] at hw
      rcases hw with hw|rfl
      .exact hbnd w hw
      .omega
     .rw[hinv,hm']
      simp
      cases Bf bs m false y.2<;>simp
     .simp[Ac]
  .refine W.exit ?_
   have hk' :x.1-1-k=0:=by omega
   rw[hk'] at hinv
   simp only[Bf,Option.map_some,List.append_nil] at hinv
   subst hacc
   have spG:=Jm bs q v hb hq hv
   have htr:DB bs p v ref=match Bk bs q v with
    |none=>none
    |some r=>match DK ref acc r.1 with
     |some l=>some (l,r.2)
     |none=>none:=by
    unfold DB
    rw[hg]
    simp only
    rw[if_pos hle,hinv]
    rfl
   rw[htr]
   clear htr
   cases hgp:Bk bs q v with
   |none=>
    rw[hgp] at spG
    simp only[CL] at spG
    refine z0 ?_;intro K hK
    refine Ab.eq spG (by simp) (by simp) ?_
    refine zx ?_
    refine zk ?_;clear hK K
    refine zs ?_
    refine zt ?_
    refine zs ?_
    refine zr ?_
    rfl
   |some g=>
    rw[hgp] at spG
    simp only[CL] at spG
    obtain⟨g1,g2,g3,g4⟩:=IF (by omega) hgp
    refine z0 ?_;intro K hK
    refine Ab.eq spG (by simp) (by simp) ?_
    refine zx ?_
    refine zk ?_;clear hK K
    refine zs ?_
    refine zn ?_
    refine W.skip ?_
    have spJ:=Lw ref acc g.1 hr (by omega) (by omega) hbnd
    simp only
    rw[TR]
    obtain⟨l,hl⟩:∃l,l=(GL ref acc g.1).1:=⟨_,rfl⟩
    rw[←hl] at spJ ⊢
    cases hj:(GL ref acc g.1).2
    .rw[hj] at spJ
     refine z0 ?_;intro K hK
     refine Ab.eq spJ (by simp) (by simp) ?_
     refine zx ?_
     refine zk ?_;clear hK K
     refine zs ?_
     refine zt ?_
     refine zs ?_
     refine zr ?_
     rfl
    .rw[hj] at spJ
     refine z0 ?_;intro K hK
     refine Ab.eq spJ (by simp) (by simp) ?_
     refine zx ?_
     refine zk ?_;clear hK K
     refine zs ?_
     refine zn ?_
     refine W.skip ?_
     refine zs ?_
     refine zr ?_
     rfl
end Go.Abs
set_option maxRecDepth 100000
namespace Go.Abs
open Go.Proofs
theorem RH (hR:BV) (s:AS) (hs:Be s) (hx:Dv s):Aa pg 23 [.agg (AC false s)] [] (fun r _=>r= .tup [.int .i64 (if BT s then B1 s.vers else 0),.int .i64 (if BT s then 0 else 1)]):=by
 refine Aa.start (fn:=Tryz.f23) [.tmp 2,.tmp 3] tk rfl rfl rfl (by kernel_rfl) (Nat.le_of_ble_eq_true rfl) rfl (by kernel_rfl) ?_
 rw[As]
 refine z1 ?_;intro K hK;refine zk ?_;clear hK K
 by_cases h:BT s
 .refine z0 ?_;intro K hK
  refine Ab.eq (Ey hR s hs hx) (by simp) (by simp) ?_
  rw[decide_eq_true h]
  refine zx ?_
  refine zk ?_;clear hK K
  refine zn ?_
  refine W.skip ?_
  refine z0 ?_;intro K hK
  refine Ab.eq (Ip s hs) (by simp) (by simp) ?_
  refine zx ?_
  refine zk ?_;clear hK K
  refine zr ?_
  simp[h]
 .refine z0 ?_;intro K hK
  refine Ab.eq (Ey hR s hs hx) (by simp) (by simp) ?_
  rw[decide_eq_false h]
  refine zx ?_
  refine zk ?_;clear hK K
  refine zt ?_
  refine zs ?_
  refine zr ?_
  simp[h]
theorem Rh (hR:BV) (s:AS) (hs:Be s) (hx:Dv s):Aa pg 16 [.agg (AC false s)] [] (fun r _=>r= .tup [if BT s then .own 1 (BU s.vers).length (Ac (BU s.vers)) else .own 1 0 [],.int .i64 (if BT s then 0 else 1)]):=by
 refine Aa.start (fn:=Tryz.f16) [.tmp 2,.tmp 3] tk rfl rfl rfl (by kernel_rfl) (Nat.le_of_ble_eq_true rfl) rfl (by kernel_rfl) ?_
 rw[As]
 refine z1 ?_;intro K hK;refine zk ?_;clear hK K
 by_cases h:BT s
 .refine z0 ?_;intro K hK
  refine Ab.eq (Ey hR s hs hx) (by simp) (by simp) ?_
  rw[decide_eq_true h]
  refine zx ?_
  refine zk ?_;clear hK K
  refine zn ?_
  refine W.skip ?_
  refine z0 ?_;intro K hK
  refine Ab.eq (PL s hs) (by simp) (by simp) ?_
  refine zx ?_
  refine zk ?_;clear hK K
  refine zr ?_
  simp[h]
 .refine z0 ?_;intro K hK
  refine Ab.eq (Ey hR s hs hx) (by simp) (by simp) ?_
  rw[decide_eq_false h]
  refine zx ?_
  refine zk ?_;clear hK K
  refine zt ?_
  refine zs ?_
  refine zr ?_
  simp[h]
theorem OL (hR:BV) (s:AS) (hs:Be s) (hx:Dv s):Aa pg 15 [.agg (AC false s)] [] (fun r _=>r= .tup [if BT s then .own 1 (Ct s true).length (Ac (Ct s true)) else .own 1 0 [],.int .i64 (if BT s then 0 else 1)]):=by
 refine Aa.start (fn:=Tryz.f15) [.tmp 2,.tmp 3] tk rfl rfl rfl (by kernel_rfl) (Nat.le_of_ble_eq_true rfl) rfl (by kernel_rfl) ?_
 rw[As]
 refine z1 ?_;intro K hK;refine zk ?_;clear hK K
 by_cases h:BT s
 .have hk:=h.1.1
  refine z0 ?_;intro K hK
  refine Ab.eq (Ey hR s hs hx) (by simp) (by simp) ?_
  rw[decide_eq_true h]
  refine zx ?_
  refine zk ?_;clear hK K
  refine zn ?_
  refine W.skip ?_
  refine z0 ?_;intro K hK
  refine Ab.eq (Q5 s true hs ⟨by have:=hk.1;omega,by have:=hk.2.1;omega⟩) (by simp) (by simp) ?_
  refine zx ?_
  refine zk ?_;clear hK K
  refine zr ?_
  simp[h]
 .refine z0 ?_;intro K hK
  refine Ab.eq (Ey hR s hs hx) (by simp) (by simp) ?_
  rw[decide_eq_false h]
  refine zx ?_
  refine zk ?_;clear hK K
  refine zt ?_
  refine zs ?_
  refine zr ?_
  simp[h]
def BG (b k:Int):AS:=⟨k,b,[],[Du,Du,Du]⟩
theorem UT (hR:BV) (b k:Int) (h:BT (BG b k)):Aa pg 41 [.int .i64 b,.int .i64 k] [] (fun r _=>r= .tup [.agg (AC true (BG b k)),.int .i64 0]):=by
 have hs:Be (BG b k):=⟨by simp[BG],by simp[BG],by simp[BG]⟩
 have hx:Dv (BG b k):=by
  intro x hx
  have:x=Du:=by simpa[BG] using hx
  subst this
  simp[DN,EA,IA,Du,AD,B6]
 have sp:=Ey hR (BG b k) hs hx
 rw[decide_eq_true h] at sp
 refine Aa.start (fn:=Tryz.f41) [.cell 4 38,.tmp 5] tk rfl rfl rfl (by kernel_rfl) (Nat.le_of_ble_eq_true rfl) rfl (by kernel_rfl) ?_
 rw[Aq]
 refine z1 ?_;intro K hK;refine zk ?_;clear hK K
 refine z2 ?_;intro K hK
 refine⟨by show(3:Int)≤9223372036854775807;decide,?_⟩
 have e:Dw 3 [AV.bool false,AV.int .i64 0,AV.bool false,AV.int .i64 0,AV.int .i64 0,AV.own 1 0 [],AV.int .i64 0,AV.int .i64 0,AV.int .i64 0,AV.bool false,AV.own 1 0 [],AV.own 1 0 []]=Ag (AQ true) [Du,Du,Du]:=rfl
 rw[e]
 refine zk ?_;clear hK K
 refine W.weak (Wk.thaw (B:=2) (v:=0) (j:=2) (s:=8) (n:=0) (xs:=[]) (by rfl) (by rfl)) ?_
 refine z0 ?_;intro K hK
 refine Ab.eq sp (by simp[BG];rfl) (by simp[BG]) ?_
 refine zx ?_
 refine zk ?_;clear hK K
 refine zn ?_
 refine W.skip ?_
 refine z0 ?_;intro K hK
 refine zk ?_;clear hK K
 refine zr ?_
 exact(rfl:AV.tup [.agg (AC true (BG b k)),.int .i64 0]=_)
end Go.Abs
set_option maxRecDepth 100000
namespace Go.Abs
open Go.Proofs
theorem RI (g:Gr) (h1:g.out.length<1000000000) (h2:Cg g.out<4611686018427387904):Aa pg 88 [.agg (AO false g)] [] (fun r _=>r= .int .i64 (Cg g.out)):=by
 refine Aa.start (fn:=Tryz.f88) [.tmp 2] tk rfl rfl rfl (by kernel_rfl) (Nat.le_of_ble_eq_true rfl) rfl (by kernel_rfl) ?_
 rw[As]
 refine z1 ?_;intro K hK;refine zk ?_;clear hK K
 refine zs ?_
 refine zs ?_
 (repeat refine W.seq ?_);refine W.block (W.loopS (fun k:Nat=> [(1,.ptr 0 0 0),(3,.int .i64 (Cg (g.out.take k))),(4,.int .i64 k)]) (fun _=> [.live 0 (AO false g)]) (fun k=>g.out.length-k) (fun k=>k≤g.out.length) 0 (Wk.fr (by simp[Ad,Cg])) (by simp) ?_)
 intro k hk
 refine zs ?_
 refine zc ?_ ?_<;>intro h
 .refine W.skip ?_
  have hlt:k<g.out.length:=by omega
  have hs:=JO hlt
  have ht:=JN g.out (k+1)
  refine zb ?_
  (repeat refine W.seq ?_);refine W.reg 0 rfl fun K hK=>?_;simp -implicitDefEqProofs (maxSteps:=999999) (disch:=omega) [hlt]
  refine zk ?_;clear hK K
  refine zs ?_
  refine⟨k+1,by omega,by omega,Wk.fr (by simp[Ad,hs])⟩
 .refine W.exit ?_
  have:k=g.out.length:=by omega
  subst this
  refine zs ?_
  exact zR
theorem Ix (g:Gr) (hg:EA g):Aa pg 44 [.agg (AO false g)] [] (fun r _=>r= .bool (decide (A1 g))):=by
 obtain⟨h1,h2⟩:=hg
 have spN:=Hw g.n 16
 refine Aa.start (fn:=Tryz.f44) [.tmp 2] tk rfl rfl rfl (by kernel_rfl) (Nat.le_of_ble_eq_true rfl) rfl (by kernel_rfl) ?_
 rw[As]
 refine z1 ?_;intro K hK;refine zk ?_;clear hK K
 by_cases c1:0≤g.n∧g.n≤16
 rotate_left
 .rw[decide_eq_false c1] at spN
  refine z0 ?_;intro K hK
  refine Ab.eq spN (by simp) (by simp) ?_
  refine zx ?_
  refine zk ?_;clear hK K
  refine zt ?_
  refine zs ?_
  refine zr ?_
  exact fun h=>c1 ⟨h.1,h.2.1⟩
 rw[decide_eq_true c1] at spN
 by_cases c2:(g.out.length:Int)=g.n
 rotate_left
 .refine z0 ?_;intro K hK
  refine Ab.eq spN (by simp) (by simp) ?_
  refine AJ c2 ?_
  refine zk ?_;clear hK K
  refine zt ?_
  refine zs ?_
  refine zr ?_
  exact fun h=>c2 h.2.2.1
 refine z0 ?_;intro K hK
 refine Ab.eq spN (by simp) (by simp) ?_
 refine AJ c2 ?_
 refine zk ?_;clear hK K
 refine zn ?_
 refine W.skip ?_
 refine zs ?_
 (repeat refine W.seq ?_);refine W.block (W.loopS (fun k:Nat=> [(1,.ptr 0 0 0),(3,.int .i64 k)]) (fun _=> [.live 0 (AO false g)]) (fun k=>g.out.length-k) (fun k=>k≤g.out.length∧∀l∈g.out.take k,EZ g.n l) 0 (Wk.fr (by simp[Ad])) (by simp) ?_)
 rintro k ⟨hk,hinv⟩
 by_cases hlt:k<g.out.length
 .have hlt2:(k:Int)<g.n:=by omega
  refine Af hlt2 ?_;intro K hK
  refine zk ?_;clear hK K
  refine zt ?_
  refine W.skip ?_
  have hl2:=h2 _ (List.getElem_mem hlt)
  have hmem:=List.getElem_mem hlt
  refine zb ?_
  have hmi:=HJ hlt
  obtain⟨l,hl⟩:∃l,l=g.out[k]:=⟨_,rfl⟩
  rw[←hl] at hl2 hmem hmi
  (repeat refine W.seq ?_);refine W.midS (fun b:Bool=> [(1,.ptr 0 0 0),(3,.int .i64 k),(56,.bool b)]) (fun _=> [.live 0 (AO false g)]) (fun b=>b=false↔EZ g.n l) ?_ ?_
  .by_cases hm:AG l
   .by_cases h0:0<l.length
    .have hla:=KU (n:=g.n) hm h0
     have h0' :(0:Int)<(l.length:Int):=by omega
     have spM:=Fv l (by omega)
     rw[decide_eq_true hm] at spM
     (repeat refine W.seq ?_);refine W.regd 0 rfl true Cc (by kernel_rfl) fun K hK=>?_;simp -implicitDefEqProofs (maxSteps:=999999) (disch:=omega) [hlt,←hl]
     refine Ah.eq spM (by simp) (by simp) ?_
     simp only[D6];simp -implicitDefEqProofs (maxSteps:=999999) (disch:=omega) [hlt,←hl,h0]
     refine⟨by omega,?_⟩
     refine zk ?_;clear hK K
     exact⟨decide (g.n≤l[l.length-1]),by rw[hla];simp,Wk.fr (by simp[Ad])⟩
    .have hl0:l=[]:=List.eq_nil_of_length_eq_zero (by omega)
     have spM:=Fv l (by omega)
     rw[decide_eq_true hm] at spM
     (repeat refine W.seq ?_);refine W.regd 0 rfl true Cc (by kernel_rfl) fun K hK=>?_;simp -implicitDefEqProofs (maxSteps:=999999) (disch:=omega) [hlt,←hl]
     refine Ah.eq spM (by simp) (by simp) ?_
     simp only[D6];simp -implicitDefEqProofs (maxSteps:=999999) (disch:=omega) [hlt,←hl,h0]
     refine zk ?_;clear hK K
     exact⟨false,by rw[hl0];simp[EZ,AG],Wk.fr (by simp[Ad])⟩
   .have spM:=Fv l (by omega)
    rw[decide_eq_false hm] at spM
    (repeat refine W.seq ?_);refine W.regd 0 rfl true Cc (by kernel_rfl) fun K hK=>?_;simp -implicitDefEqProofs (maxSteps:=999999) (disch:=omega) [hlt,←hl]
    refine Ah.eq spM (by simp) (by simp) ?_
    refine zx ?_
    refine zk ?_;clear hK K
    exact⟨true,by simp[EZ,hm],Wk.fr (by simp[Ad])⟩
  .intro b hb
   refine zc ?_ ?_<;>intro h
   .refine zs ?_
    refine zr ?_
    intro h'
    have h3:=h'.2.2.2.1 l hmem
    have h4:=hb.2 h3
    have h5:b=true:=by assumption
    rw[h4] at h5;cases h5
   .refine W.skip ?_
    refine zs ?_
    refine⟨k+1,by omega,⟨by omega,fun x hx=>?_⟩,Wk.fr (by simp[Ad])⟩
    rcases(hmi x).1 hx with h6|h6
    .exact hinv x h6
    .rw[h6];exact hb.1 (by assumption)
 .have:k=g.out.length:=by omega
  subst this
  rw[List.take_length] at hinv
  have hge:¬(g.out.length:Int)<g.n:=by omega
  refine Af hge ?_;intro K hK
  refine zk ?_;clear hK K
  refine zn ?_
  refine W.exit ?_
  refine z0 ?_;intro K hK
  refine Ab.eq (RI g h1 (by have:=In hinv;omega)) (by simp) (by simp) ?_
  refine zx ?_
  refine zk ?_;clear hK K
  refine zr ?_
  exact⟨fun h=>⟨c1.1,c1.2,c2,hinv,by omega⟩,fun h=>by have:=h.2.2.2.2;omega⟩
theorem OM (n:Nat) (hn:n<1000000):Aa pg 144 [.int .i64 n] [] (fun r _=>r= .agg (AO true ⟨n,List.replicate n []⟩)):=by
 refine Aa.start (fn:=Tryz.f144) [.cell 2 51] tk rfl rfl rfl (by kernel_rfl) (Nat.le_of_ble_eq_true rfl) rfl (by kernel_rfl) ?_
 rw[As]
 refine z1 ?_;intro K hK;refine zk ?_;clear hK K
 refine z1 ?_;intro K hK
 refine zk ?_;clear hK K
 refine zr ?_
 simp[Mf]
theorem PV (g:Gr) (v:Nat) (h:v<g.out.length) (h2:(v:Int)<g.n):Aa pg 147 [.agg (AO false g),.int .i64 v] [] (fun r _=>r= .ro g.out[v].length (Ac g.out[v])):=by
 refine Aa.start (fn:=Tryz.f147) [.tmp 4] tk rfl rfl rfl (by kernel_rfl) (Nat.le_of_ble_eq_true rfl) rfl (by kernel_rfl) ?_
 rw[Aq]
 refine z1 ?_;intro K hK;refine zk ?_;clear hK K
 refine Af h2 ?_;intro K hK
 refine zk ?_;clear hK K
 refine zt ?_
 (repeat refine W.seq ?_);refine W.reg 0 rfl fun K hK=>?_;simp -implicitDefEqProofs (maxSteps:=999999) (disch:=omega) [h]
 refine zk ?_;clear hK K
 exact zR
theorem PW (g:Gr) (v:Nat) (h2:g.n≤(v:Int)):Aa pg 147 [.agg (AO false g),.int .i64 v] [] (fun r _=>r= .own 1 0 []):=by
 have h3:¬(v:Int)<g.n:=by omega
 refine Aa.start (fn:=Tryz.f147) [.tmp 4] tk rfl rfl rfl (by kernel_rfl) (Nat.le_of_ble_eq_true rfl) rfl (by kernel_rfl) ?_
 rw[Aq]
 refine z1 ?_;intro K hK;refine zk ?_;clear hK K
 refine Af h3 ?_;intro K hK
 refine zk ?_;clear hK K
 refine zn ?_
 refine W.skip ?_
 refine zs ?_
 exact zR
theorem Ld (l:List Obj) (id:Int) (hl:l.length<1000000000):Aa pg 105 [.ro l.length (Ag Au l),.int .i64 id] [] (fun r _=>r= .int .i64 (BX (fun o=>decide (o.id=id)) l)):=by
 refine Aa.start (fn:=Tryz.f105) [.tmp 4] tk rfl rfl rfl (by kernel_rfl) (Nat.le_of_ble_eq_true rfl) rfl (by kernel_rfl) ?_
 rw[Aq]
 refine zs ?_
 refine zs ?_
 (repeat refine W.seq ?_);refine W.block (W.loopS (fun k:Nat=> [(0,.ro l.length (Ag Au l)),(1,.int .i64 id),(5,.int .i64 k)]) (fun _=> []) (fun k=>l.length-k) (fun k=>k≤l.length∧∀i (h:i<l.length),i<k→l[i].id≠id) 0 (Wk.fr (by simp[Ad])) (by simp) ?_)
 rintro k ⟨hk,ht⟩
 refine zs ?_
 refine zc ?_ ?_<;>intro h
 .refine W.skip ?_
  have hlt:k<l.length:=by omega
  refine zb ?_
  (repeat refine W.seq ?_);refine W.reg 0 rfl fun K hK=>?_;simp -implicitDefEqProofs (maxSteps:=999999) (disch:=omega) [hlt]
  refine zk ?_;clear hK K
  refine zc ?_ ?_<;>intro h
  .refine zs ?_
   refine zr ?_
   exact(Ea hlt (by simp[h]) fun i hi hik=>by simpa using ht i hi hik).symm
  .refine W.skip ?_
   refine zs ?_
   refine⟨k+1,by omega,⟨by omega,?_⟩,Wk.fr (by simp[Ad])⟩
   intro i hi hik
   by_cases e:i=k
   .subst e;exact fun e=>h e
   .exact ht i hi (by omega)
 .refine W.exit ?_
  refine zs ?_
  refine zr ?_
  exact(DC fun i hi=>by simpa using ht i hi (by omega)).symm
end Go.Abs
set_option maxRecDepth 100000
namespace Go.Abs
open Go.Proofs
def EO (o:Option Gr):AV:=match o with|some g=> .tup [.agg (AO true g),.bool true] |none=> .tup [.agg (AO true AD),.bool false]
theorem Mw (bs:List Bool) (hb:bs.length<1000000000):Aa pg 108 [.ro bs.length (AI bs)] [] (fun r _=>r=EO (D8 bs)):=by
 refine Aa.start (fn:=Tryz.f108) [.cell 2 51,.tmp 3] tk rfl rfl rfl (by kernel_rfl) (Nat.le_of_ble_eq_true rfl) rfl (by kernel_rfl) ?_
 rw[As]
 refine z1 ?_;intro K hK;refine zk ?_;clear hK K
 refine z0 ?_;intro K hK
 have sp:=Eh bs 0 hb (Nat.zero_le _)
 have hbad0:∀c:Prop,c→c:=fun _ h=>h
 cases hg:AF bs 0 with
 |none=>
  simp only[hg,EL] at sp
  refine Ab.eq sp (by simp) (by simp) ?_
  refine zx ?_
  refine zk ?_;clear hK K
  refine zs ?_
  refine zt ?_
  refine zs ?_
  refine W.weak (Wk.thaw (B:=0) (v:=0) (j:=1) (s:=1) (n:=0) (cs:=[.int .i64 0,.own 1 0 []]) (xs:=[]) rfl rfl) ?_
  refine zr ?_
  simp[D8,Cp,hg,EO,AD]
 |some x=>
  simp only[hg,EL] at sp
  obtain⟨hx1,hx2,hx3,hx4,_⟩:=AH hg
  refine Ab.eq sp (by simp) (by simp) ?_
  refine zx ?_
  refine zk ?_;clear hK K
  by_cases hle:x.1≤17
  rotate_left
  .have h1:¬(x.1:Int)<1:=by omega
   have h2:(16:Int)<(x.1:Int)-1:=by omega
   refine Af (an h1 h2) ?_;intro K hK
   refine zk ?_;clear hK K
   refine zt ?_
   refine zs ?_
   refine W.weak (Wk.thaw (B:=0) (v:=0) (j:=1) (s:=1) (n:=0) (cs:=[.int .i64 0,.own 1 0 []]) (xs:=[]) rfl rfl) ?_
   refine zr ?_
   simp only[D8,Cp,hg];rw[if_neg hle];simp[EO,AD]
  have h1:¬(x.1:Int)<1:=by omega
  have h2:¬(16:Int)<(x.1:Int)-1:=by omega
  obtain⟨n,hn⟩:∃n,x.1=n+1:=⟨x.1-1,by omega⟩
  have hxn:(x.1:Int)-1=(n:Int):=by omega
  have hgr:D8 bs=match AZ (Bk bs) n 0 x.2 with
   |none=>none
   |some r=>if r.2=bs.length∧A1 ⟨(n:Int),r.1⟩ then some ⟨(n:Int),r.1⟩ else none:=by
   simp only[D8,Cp,hg]
   rw[if_pos hle,hn,Nat.add_sub_cancel]
   simp only[Int.natCast_add,Int.natCast_one,Int.add_sub_cancel]
   rfl
  rw[hgr]
  clear hgr
  refine Af (an h1 h2) ?_;intro K hK
  refine zk ?_;clear hK K
  refine zn ?_
  refine W.skip ?_
  refine z1 ?_;intro K hK
  refine Ab.eq (OM n (by omega)) (by simp[hxn]) (by simp) ?_
  refine zx ?_
  refine zk ?_;clear hK K
  refine zs ?_
  (repeat refine W.seq ?_);refine W.block (W.loopS (fun s:Nat×List (List Int)×Nat=> [(0,.ro bs.length (AI bs)),(2,.ptr 0 0 0),(6,.ptr 1 0 0),(5,.int .i64 s.2.2),(7,.int .i64 s.1)]) (fun s=> [.live 0 [.int .i64 0,.own 1 0 []],.live 0 [.int .i64 n,.tok 2 0 1 0 n],.live 0 (Ax true (s.2.1++List.replicate (n-s.1) []))]) (fun s=>n-s.1)
    (fun s=>s.1≤n∧s.2.1.length=s.1∧s.2.2≤bs.length∧(∀l∈s.2.1,AG l)∧AZ (Bk bs) n 0 x.2=(AZ (Bk bs) (n-s.1) s.1 s.2.2).map fun r=>(s.2.1++r.1,r.2)) (0,[],x.2) (Wk.fr (by simp[Ad])) ⟨by simp,rfl,hx4,by simp,by simp⟩ ?_)
  rintro⟨k,acc,q⟩ ⟨hk,hacc,hq,hml,hinv⟩
  simp only at hk hacc hq hml hinv
  refine zs ?_
  refine zc ?_ ?_<;>intro h
  .refine W.skip ?_
   have hkn:k<n:=by omega
   obtain⟨m,hm⟩:∃m,n-k=m+1:=⟨n-k-1,by omega⟩
   have hm' :n-(k+1)=m:=by omega
   rw[hm] at hinv
   refine zb ?_
   have spR:=Jm bs q k hb hq (by omega)
   cases hr:(Bk bs) q k with
   |none=>
    rw[hr] at spR
    simp only[CL] at spR
    have hnone:AZ (Bk bs) n 0 x.2=none:=by rw[hinv,AZ,hr];rfl
    rw[hnone]
    refine z0 ?_;intro K hK
    refine Ab.eq spR (by simp) (by simp) ?_
    refine zx ?_
    refine zk ?_;clear hK K
    refine zs ?_
    refine zt ?_
    refine zs ?_
    refine W.weak (Wk.thaw (B:=0) (v:=0) (j:=1) (s:=1) (n:=0) (cs:=[.int .i64 0,.own 1 0 []]) (xs:=[]) (by rfl) (by rfl)) ?_
    refine zr ?_
    simp[EO,AD]
   |some g=>
    rw[hr] at spR
    simp only[CL] at spR
    obtain⟨g1,g2,g3,g4⟩:=IF (by omega) hr
    simp only[AZ,hr] at hinv
    refine z0 ?_;intro K hK
    refine Ab.eq spR (by simp) (by simp) ?_
    refine zx ?_
    refine zk ?_;clear hK K
    refine zs ?_
    refine zn ?_
    refine W.skip ?_
    rw[hm]
    have hkl:k<n:=by omega
    have hll:(Ax true (acc++List.replicate (m+1) [])).length=n:=by simp[hacc];omega
    refine Af hkl ?_;intro K hK
    refine zk ?_;clear hK K
    refine zs ?_
    refine⟨(k+1,acc++[g.1],g.2),by simp only;omega,⟨by simp only;omega,by simp[hacc],g4,?_,?_⟩,?_⟩
    .intro w hw
     simp only[List.mem_append,List.mem_singleton] at hw
     rcases hw with hw|rfl
     .exact hml w hw
     .exact g1
    .rw[hinv,hm']
     simp only
     have:(k:Int)+1=((k+1:Nat):Int):=by omega
     rw[this]
     cases AZ (Bk bs) m ((k+1:Nat):Int) g.2<;>simp
    .subst hacc
     refine Wk.trans (Wk.intern (B:=2) (v:=0) (j:=acc.length) (T:=3) (u:=0) (s:=1) (off:=0) (n:=g.1.length) (xs:=Ac g.1) (by rfl) (by simp) (by rfl) (by simp) (by simp) (by simp)) ?_
     refine Wk.cutM (k:=3) (by simp[Ad]) ?_ (by simp) (by simp) (by simp) (by simp)
     simp only[hm']
     simp[List.replicate_succ,Ax]
  .refine W.exit ?_
   have hkn:k=n:=by omega
   subst hkn
   rw[Nat.sub_self] at hinv ⊢
   simp only[AZ,Option.map_some,List.append_nil] at hinv
   rw[hinv]
   simp only[List.replicate_zero,List.append_nil]
   subst hacc
   have hGi:EA ⟨(acc.length:Int),acc⟩:=⟨by simp only;omega,fun l hl=>by have:=BK (hml l hl);omega⟩
   have spG:=Ix ⟨(acc.length:Int),acc⟩ hGi
   by_cases hqb:q=bs.length
   rotate_left
   .have hqb' :¬(q:Int)=(bs.length:Int):=by omega
    refine Af hqb' ?_;intro K hK
    refine zk ?_;clear hK K
    refine zt ?_
    refine zs ?_
    refine W.weak (Wk.thaw (B:=0) (v:=0) (j:=1) (s:=1) (n:=0) (cs:=[.int .i64 0,.own 1 0 []]) (xs:=[]) (by rfl) (by rfl)) ?_
    refine zr ?_
    rw[if_neg (fun h=>hqb h.1)];simp[EO,AD]
   subst hqb
   by_cases hmg:A1 ⟨(acc.length:Int),acc⟩
   .rw[decide_eq_true hmg] at spG
    refine z0 ?_;intro K hK
    refine Ab.eq spG (by simp) (by simp) ?_
    refine zx ?_
    refine zk ?_;clear hK K
    refine zn ?_
    refine W.skip ?_
    refine zs ?_
    refine zr ?_
    simp[hmg,EO]
   .rw[decide_eq_false hmg] at spG
    refine z0 ?_;intro K hK
    refine Ab.eq spG (by simp) (by simp) ?_
    refine zx ?_
    refine zk ?_;clear hK K
    refine zt ?_
    refine zs ?_
    refine W.weak (Wk.thaw (B:=0) (v:=0) (j:=1) (s:=1) (n:=0) (cs:=[.int .i64 0,.own 1 0 []]) (xs:=[]) (by rfl) (by rfl)) ?_
    refine zr ?_
    simp[hmg,EO,AD]
theorem Kr {a:Gr} {bs:List Bool} {p:Nat} {v:Int} {r:List Int×Nat} (ha:A1 a) (hv:-100000≤v∧v≤100000) (h:DB bs p v (Az a v)=some r):AG r.1∧r.1.length≤16∧r.2≤r.2∧r.2≤bs.length:=by
 rw[K8 _ _ _ _ (It ha v)] at h
 have:=JQ hv h
 exact⟨this.1,this.2.1,Nat.le_refl _,this.2.2⟩
theorem My (a:Gr) (bs:List Bool) (hb:bs.length<1000000000) (ha:A1 a):Aa pg 109 [.agg (AO false a),.ro bs.length (AI bs)] [] (fun r _=>r=EO (Gk a bs)):=by
 refine Aa.start (fn:=Tryz.f109) [.cell 4 51,.tmp 5] tk rfl rfl rfl (by kernel_rfl) (Nat.le_of_ble_eq_true rfl) rfl (by kernel_rfl) ?_
 rw[Aq]
 obtain⟨rd,hrdd⟩:∃rd:Rd,rd=fun p v=>DB bs p v (Az a v):=⟨_,rfl⟩
 have hrd:∀q v,rd q v=DB bs q v (Az a v):=fun q v=>by rw[hrdd]
 have htd:Gk a bs=Cp bs rd:=by rw[hrdd];rfl
 rw[htd]
 clear htd hrdd
 refine z2 ?_;intro K hK;refine zk ?_;clear hK K
 refine z0 ?_;intro K hK
 have sp:=Eh bs 0 hb (Nat.zero_le _)
 have hbad0:∀c:Prop,c→c:=fun _ h=>h
 cases hg:AF bs 0 with
 |none=>
  simp only[hg,EL] at sp
  refine Ab.eq sp (by simp) (by simp) ?_
  refine zx ?_
  refine zk ?_;clear hK K
  refine zs ?_
  refine zt ?_
  refine zs ?_
  refine W.weak (Wk.thaw (B:=1) (v:=0) (j:=1) (s:=1) (n:=0) (cs:=[.int .i64 0,.own 1 0 []]) (xs:=[]) rfl rfl) ?_
  refine zr ?_
  simp[Cp,Cp,hg,EO,AD]
 |some x=>
  simp only[hg,EL] at sp
  obtain⟨hx1,hx2,hx3,hx4,_⟩:=AH hg
  refine Ab.eq sp (by simp) (by simp) ?_
  refine zx ?_
  refine zk ?_;clear hK K
  by_cases hle:x.1≤17
  rotate_left
  .have h1:¬(x.1:Int)<1:=by omega
   have h2:(16:Int)<(x.1:Int)-1:=by omega
   refine Af (an h1 h2) ?_;intro K hK
   refine zk ?_;clear hK K
   refine zt ?_
   refine zs ?_
   refine W.weak (Wk.thaw (B:=1) (v:=0) (j:=1) (s:=1) (n:=0) (cs:=[.int .i64 0,.own 1 0 []]) (xs:=[]) rfl rfl) ?_
   refine zr ?_
   simp only[Cp,Cp,hg];rw[if_neg hle];simp[EO,AD]
  have h1:¬(x.1:Int)<1:=by omega
  have h2:¬(16:Int)<(x.1:Int)-1:=by omega
  obtain⟨n,hn⟩:∃n,x.1=n+1:=⟨x.1-1,by omega⟩
  have hxn:(x.1:Int)-1=(n:Int):=by omega
  have hgr:Cp bs rd=match AZ rd n 0 x.2 with
   |none=>none
   |some r=>if r.2=bs.length∧A1 ⟨(n:Int),r.1⟩ then some ⟨(n:Int),r.1⟩ else none:=by
   simp only[Cp,Cp,hg]
   rw[if_pos hle,hn,Nat.add_sub_cancel]
   simp only[Int.natCast_add,Int.natCast_one,Int.add_sub_cancel]
   rfl
  rw[hgr]
  clear hgr
  refine Af (an h1 h2) ?_;intro K hK
  refine zk ?_;clear hK K
  refine zn ?_
  refine W.skip ?_
  refine z1 ?_;intro K hK
  refine Ab.eq (OM n (by omega)) (by simp[hxn]) (by simp) ?_
  refine zx ?_
  refine zk ?_;clear hK K
  refine zs ?_
  (repeat refine W.seq ?_);refine W.block (W.loopS (fun s:Nat×List (List Int)×Nat=> [(1,.ro bs.length (AI bs)),(2,.ptr 0 0 0),(4,.ptr 1 0 0),(8,.ptr 2 0 0),(7,.int .i64 s.2.2),(9,.int .i64 s.1)]) (fun s=> [.live 0 (AO false a),.live 0 [.int .i64 0,.own 1 0 []],.live 0 [.int .i64 n,.tok 3 0 1 0 n],.live 0 (Ax true (s.2.1++List.replicate (n-s.1) []))]) (fun s=>n-s.1)
    (fun s=>s.1≤n∧s.2.1.length=s.1∧s.2.2≤bs.length∧(∀l∈s.2.1,AG l)∧AZ rd n 0 x.2=(AZ rd (n-s.1) s.1 s.2.2).map fun r=>(s.2.1++r.1,r.2)) (0,[],x.2) (Wk.fr (by simp[Ad])) ⟨by simp,rfl,hx4,by simp,by simp⟩ ?_)
  rintro⟨k,acc,q⟩ ⟨hk,hacc,hq,hml,hinv⟩
  simp only at hk hacc hq hml hinv
  refine zs ?_
  refine zc ?_ ?_<;>intro h
  .refine W.skip ?_
   have hkn:k<n:=by omega
   obtain⟨m,hm⟩:∃m,n-k=m+1:=⟨n-k-1,by omega⟩
   have hm' :n-(k+1)=m:=by omega
   rw[hm] at hinv
   refine zb ?_
   have hba:(Az a k).length<1000000:=by have:=Cu ha (k:Int);omega
   have spR:=PU bs q k (Az a k) hb hq (by omega) hba
   rw[←hrd] at spR
   have spB:(∃_:k<a.out.length,Aa pg 147 [.agg (AO false a),.int .i64 k] [] (fun r _=>r= .ro (Az a k).length (Ac (Az a k))))∨(Az a k=[]∧Aa pg 147 [.agg (AO false a),.int .i64 k] [] (fun r _=>r= .own 1 0 [])):=by
    have han:=ha.2.2.1
    by_cases h:k<a.out.length
    .left
     rw[Bb h]
     exact⟨h,PV a k h (by omega)⟩
    .right
     exact⟨by simp[Az,List.getD_eq_getElem?_getD,List.getElem?_eq_none (show a.out.length≤k by omega)],PW a k (by omega)⟩
   rcases spB with⟨hk3,spB⟩ | ⟨hbe,spB⟩
   .cases hr:rd q k with
    |none=>
     rw[hr] at spR
     simp only[CL] at spR
     have hnone:AZ rd n 0 x.2=none:=by rw[hinv,AZ,hr];rfl
     rw[hnone]
     refine z0 ?_;intro K hK
     refine Ab.eqr spB (by simp) ?_
     refine zx ?_
     refine Ab.eq spR (by simp) (by simp) ?_
     refine zx ?_
     refine zk ?_;clear hK K
     refine zs ?_
     refine zt ?_
     refine zs ?_
     refine W.weak (Wk.thaw (B:=1) (v:=0) (j:=1) (s:=1) (n:=0) (cs:=[.int .i64 0,.own 1 0 []]) (xs:=[]) (by rfl) (by rfl)) ?_
     refine zr ?_
     simp[EO,AD]
    |some g=>
     rw[hr] at spR
     simp only[CL] at spR
     obtain⟨g1,g2,g3,g4⟩:=Kr ha (show-100000≤(k:Int)∧(k:Int)≤100000 by omega) (hrd q k ▸ hr)
     simp only[AZ,hr] at hinv
     refine z0 ?_;intro K hK
     refine Ab.eqr spB (by simp) ?_
     refine zx ?_
     refine Ab.eq spR (by simp) (by simp) ?_
     refine zx ?_
     refine zk ?_;clear hK K
     refine zs ?_
     refine zn ?_
     refine W.skip ?_
     rw[hm]
     have hkl:k<n:=by omega
     have hll:(Ax true (acc++List.replicate (m+1) [])).length=n:=by simp[hacc];omega
     refine Af hkl ?_;intro K hK
     refine zk ?_;clear hK K
     refine zs ?_
     refine⟨(k+1,acc++[g.1],g.2),by simp only;omega,⟨by simp only;omega,by simp[hacc],g4,?_,?_⟩,?_⟩
     .intro w hw
      simp only[List.mem_append,List.mem_singleton] at hw
      rcases hw with hw|rfl
      .exact hml w hw
      .exact g1
     .rw[hinv,hm']
      simp only
      have:(k:Int)+1=((k+1:Nat):Int):=by omega
      rw[this]
      cases AZ rd m ((k+1:Nat):Int) g.2<;>simp
     .subst hacc
      refine Wk.trans (Wk.intern (B:=3) (v:=0) (j:=acc.length) (T:=4) (u:=0) (s:=1) (off:=0) (n:=g.1.length) (xs:=Ac g.1) (by rfl) (by simp) (by rfl) (by simp) (by simp) (by simp)) ?_
      refine Wk.cutM (k:=4) (by simp[Ad]) ?_ (by simp) (by simp) (by simp) (by simp)
      simp only[hm']
      simp[List.replicate_succ,Ax]
   .cases hr:rd q k with
    |none=>
     rw[hr] at spR
     simp only[CL] at spR
     have hnone:AZ rd n 0 x.2=none:=by rw[hinv,AZ,hr];rfl
     rw[hnone]
     refine z0 ?_;intro K hK
     refine Ab.eq spB (by simp) (by simp) ?_
     refine zx ?_
     refine Ab.eq spR (by simp[hbe]) (by simp) ?_
     refine zx ?_
     refine zk ?_;clear hK K
     refine zs ?_
     refine zt ?_
     refine zs ?_
     refine W.weak (Wk.thaw (B:=1) (v:=0) (j:=1) (s:=1) (n:=0) (cs:=[.int .i64 0,.own 1 0 []]) (xs:=[]) (by rfl) (by rfl)) ?_
     refine zr ?_
     simp[EO,AD]
    |some g=>
     rw[hr] at spR
     simp only[CL] at spR
     obtain⟨g1,g2,g3,g4⟩:=Kr ha (show-100000≤(k:Int)∧(k:Int)≤100000 by omega) (hrd q k ▸ hr)
     simp only[AZ,hr] at hinv
     refine z0 ?_;intro K hK
     refine Ab.eq spB (by simp) (by simp) ?_
     refine zx ?_
     refine Ab.eq spR (by simp[hbe]) (by simp) ?_
     refine zx ?_
     refine zk ?_;clear hK K
     refine zs ?_
     refine zn ?_
     refine W.skip ?_
     rw[hm]
     have hkl:k<n:=by omega
     have hll:(Ax true (acc++List.replicate (m+1) [])).length=n:=by simp[hacc];omega
     refine Af hkl ?_;intro K hK
     refine zk ?_;clear hK K
     refine zs ?_
     refine⟨(k+1,acc++[g.1],g.2),by simp only;omega,⟨by simp only;omega,by simp[hacc],g4,?_,?_⟩,?_⟩
     .intro w hw
      simp only[List.mem_append,List.mem_singleton] at hw
      rcases hw with hw|rfl
      .exact hml w hw
      .exact g1
     .rw[hinv,hm']
      simp only
      have:(k:Int)+1=((k+1:Nat):Int):=by omega
      rw[this]
      cases AZ rd m ((k+1:Nat):Int) g.2<;>simp
     .subst hacc
      refine Wk.trans (Wk.intern (B:=3) (v:=0) (j:=acc.length) (T:=5) (u:=0) (s:=1) (off:=0) (n:=g.1.length) (xs:=Ac g.1) (by rfl) (by simp) (by rfl) (by simp) (by simp) (by simp)) ?_
      refine Wk.cutM (k:=4) (by simp[Ad]) ?_ (by simp) (by simp) (by simp) (by simp)
      simp only[hm']
      simp[List.replicate_succ,Ax]
  .refine W.exit ?_
   have hkn:k=n:=by omega
   subst hkn
   rw[Nat.sub_self] at hinv ⊢
   simp only[AZ,Option.map_some,List.append_nil] at hinv
   rw[hinv]
   simp only[List.replicate_zero,List.append_nil]
   subst hacc
   have hGi:EA ⟨(acc.length:Int),acc⟩:=⟨by simp only;omega,fun l hl=>by have:=BK (hml l hl);omega⟩
   have spG:=Ix ⟨(acc.length:Int),acc⟩ hGi
   by_cases hqb:q=bs.length
   rotate_left
   .have hqb' :¬(q:Int)=(bs.length:Int):=by omega
    refine Af hqb' ?_;intro K hK
    refine zk ?_;clear hK K
    refine zt ?_
    refine zs ?_
    refine W.weak (Wk.thaw (B:=1) (v:=0) (j:=1) (s:=1) (n:=0) (cs:=[.int .i64 0,.own 1 0 []]) (xs:=[]) (by rfl) (by rfl)) ?_
    refine zr ?_
    rw[if_neg (fun h=>hqb h.1)];simp[EO,AD]
   subst hqb
   by_cases hmg:A1 ⟨(acc.length:Int),acc⟩
   .rw[decide_eq_true hmg] at spG
    refine z0 ?_;intro K hK
    refine Ab.eq spG (by simp) (by simp) ?_
    refine zx ?_
    refine zk ?_;clear hK K
    refine zn ?_
    refine W.skip ?_
    refine zs ?_
    refine zr ?_
    simp[hmg,EO]
   .rw[decide_eq_false hmg] at spG
    refine z0 ?_;intro K hK
    refine Ab.eq spG (by simp) (by simp) ?_
    refine zx ?_
    refine zk ?_;clear hK K
    refine zt ?_
    refine zs ?_
    refine W.weak (Wk.thaw (B:=1) (v:=0) (j:=1) (s:=1) (n:=0) (cs:=[.int .i64 0,.own 1 0 []]) (xs:=[]) (by rfl) (by rfl)) ?_
    refine zr ?_
    simp[hmg,EO,AD]
end Go.Abs
set_option maxRecDepth 100000
namespace Go.Abs
open Go.Proofs
theorem TS (l:List Obj) (id:Int):(0≤BX (fun o=>decide (o.id=id)) l)↔∃q∈l,q.id=id:=by
 rw[Cl];simp
set_option maxHeartbeats 2000000 in
theorem ON (l:List Obj) (hl:DW l):Aa pg 66 [.ro l.length (Ag Au l)] [] (fun r _=>r= .bool (decide (CT l))):=by
 have hl1:=hl.1
 refine Aa.start (fn:=Tryz.f66) [.tmp 2] tk rfl rfl rfl (by kernel_rfl) (Nat.le_of_ble_eq_true rfl) rfl (by kernel_rfl) ?_
 rw[As]
 refine zs ?_
 by_cases c0:l.length≤12
 rotate_left
 .have c0' :(12:Int)<(l.length:Int):=by omega
  refine Af c0' ?_;intro K hK
  refine zk ?_;clear hK K
  refine zt ?_
  refine zs ?_
  refine zr ?_
  exact fun h=>c0 h.1
 have c0' :¬(12:Int)<(l.length:Int):=by omega
 have hmi:=I9 l
 refine Af c0' ?_;intro K hK
 refine zk ?_;clear hK K
 refine zn ?_
 refine W.skip ?_
 refine zs ?_
 (repeat refine W.seq ?_);refine W.block (W.loopS (fun k:Nat=> [(0,.ro l.length (Ag Au l)),(3,.int .i64 k)]) (fun _=> []) (fun k=>l.length-k) (fun k=>k≤l.length∧∀i (h:i<l.length),i<k→JR l l[i]∧(0<i→l[i-1].id<l[i].id)) 0 (Wk.fr (by simp[Ad])) ⟨by simp,fun i h h2=>by omega⟩ ?_)
 rintro k ⟨hk,hok⟩
 refine zs ?_
 refine zc ?_ ?_<;>intro h
 .refine W.skip ?_
  have hlt:k<l.length:=by omega
  refine zb ?_
  (repeat refine W.seq ?_);refine W.reg 1 rfl fun K hK=>?_;simp -implicitDefEqProofs (maxSteps:=999999) (disch:=omega) [hlt]
  refine zk ?_;clear hK K
  have hsz:=hl.2 _ (List.getElem_mem hlt)
  have spB:=Ed l[k].id 1 1048576
  have spA:=Ld l l[k].base (by omega)
  have hA:=TS l l[k].base
  obtain⟨z,hz⟩:∃z,z=BX (fun o=>decide (o.id=l[k].base)) l:=⟨_,rfl⟩
  rw[←hz] at spA hA
  have spD:=Tv l[k].data hsz
  (repeat refine W.seq ?_);refine W.midS (fun b:Bool=> [(0,.ro l.length (Ag Au l)),(3,.int .i64 k),(61,.bool b)]) (fun _=> []) (fun b=>b=false↔JR l l[k]∧(0<k→l[k-1].id<l[k].id)) ?_ ?_
  .by_cases c1:1≤l[k].id∧l[k].id≤1048576
   rotate_left
   .rw[decide_eq_false c1] at spB
    refine Co ?_;intro K hK
    refine Ah.eq spB (by simp) (by simp) ?_
    refine zx ?_
    refine zk ?_;clear hK K
    exact⟨true,by simp only[Bool.true_eq_false,false_iff];exact fun h=>c1 ⟨h.1.1,h.1.2.1⟩,Wk.cutM (k:=0) (by simp[Ad]) (by simp) (by simp) (by simp) (by simp) (by simp)⟩
   rw[decide_eq_true c1] at spB
   by_cases c2:0<k
   .by_cases c3:l[k].id≤l[k-1].id
    .refine Co ?_;intro K hK
     refine Ah.eq spB (by simp) (by simp) ?_
     refine AJ (an c2 (an c3 hlt)) ?_
     refine⟨by omega,?_⟩
     refine zk ?_;clear hK K
     exact⟨true,by simp only[Bool.true_eq_false,false_iff];exact fun h=>by have:=h.2 c2;omega,Wk.cutM (k:=0) (by simp[Ad]) (by simp) (by simp) (by simp) (by simp) (by simp)⟩
    .by_cases c4:l[k].base=l[k].id
     .refine Co ?_;intro K hK
      refine Ah.eq spB (by simp) (by simp) ?_
      refine AJ (an c2 (an c3 (an hlt c4))) ?_
      refine⟨by omega,?_⟩
      refine zk ?_;clear hK K
      exact⟨true,by simp only[Bool.true_eq_false,false_iff];exact fun h=>h.1.2.2.2.1 c4,Wk.cutM (k:=0) (by simp[Ad]) (by simp) (by simp) (by simp) (by simp) (by simp)⟩
     by_cases c5:l[k].base=0
     .by_cases c7:DR l[k].data
      .rw[decide_eq_true c7] at spD
       refine Co ?_;intro K hK
       refine Ah.eq spB (by simp) (by simp) ?_
       refine AJ (an c2 (an c3 (an hlt (an c4 c5)))) ?_
       refine⟨by omega,?_⟩
       refine Ah.eq spD (by simp) (by simp) ?_
       refine zx ?_
       refine zk ?_;clear hK K
       exact⟨false,by simp only[true_iff];exact⟨⟨c1.1,c1.2,c7,c4,.inl c5⟩,fun _=>by omega⟩,Wk.cutM (k:=0) (by simp[Ad]) (by simp) (by simp) (by simp) (by simp) (by simp)⟩
      .rw[decide_eq_false c7] at spD
       refine Co ?_;intro K hK
       refine Ah.eq spB (by simp) (by simp) ?_
       refine AJ (an c2 (an c3 (an hlt (an c4 c5)))) ?_
       refine⟨by omega,?_⟩
       refine Ah.eq spD (by simp) (by simp) ?_
       refine zx ?_
       refine zk ?_;clear hK K
       exact⟨true,by simp only[Bool.true_eq_false,false_iff];exact fun h=>c7 h.1.2.2.1,Wk.cutM (k:=0) (by simp[Ad]) (by simp) (by simp) (by simp) (by simp) (by simp)⟩
     by_cases c6:z<0
     .refine Co ?_;intro K hK
      refine Ah.eq spB (by simp) (by simp) ?_
      refine AJ (an c2 (an c3 (an hlt (an c4 (an c5 hlt))))) ?_
      refine⟨by omega,?_⟩
      refine Ah.eq spA (by simp) (by simp) ?_
      refine AJ c6 ?_
      refine zk ?_;clear hK K
      exact⟨true,by simp only[Bool.true_eq_false,false_iff];exact fun h=>by rcases h.1.2.2.2.2 with h|h;exact c5 h;have:=hA.2 h;omega,Wk.cutM (k:=0) (by simp[Ad]) (by simp) (by simp) (by simp) (by simp) (by simp)⟩
     by_cases c7:DR l[k].data
     .rw[decide_eq_true c7] at spD
      refine Co ?_;intro K hK
      refine Ah.eq spB (by simp) (by simp) ?_
      refine AJ (an c2 (an c3 (an hlt (an c4 (an c5 hlt))))) ?_
      refine⟨by omega,?_⟩
      refine Ah.eq spA (by simp) (by simp) ?_
      refine AJ c6 ?_
      refine Ah.eq spD (by simp) (by simp) ?_
      refine zx ?_
      refine zk ?_;clear hK K
      exact⟨false,by simp only[true_iff];exact⟨⟨c1.1,c1.2,c7,c4,.inr (hA.1 (by omega))⟩,fun _=>by omega⟩,Wk.cutM (k:=0) (by simp[Ad]) (by simp) (by simp) (by simp) (by simp) (by simp)⟩
     .rw[decide_eq_false c7] at spD
      refine Co ?_;intro K hK
      refine Ah.eq spB (by simp) (by simp) ?_
      refine AJ (an c2 (an c3 (an hlt (an c4 (an c5 hlt))))) ?_
      refine⟨by omega,?_⟩
      refine Ah.eq spA (by simp) (by simp) ?_
      refine AJ c6 ?_
      refine Ah.eq spD (by simp) (by simp) ?_
      refine zx ?_
      refine zk ?_;clear hK K
      exact⟨true,by simp only[Bool.true_eq_false,false_iff];exact fun h=>c7 h.1.2.2.1,Wk.cutM (k:=0) (by simp[Ad]) (by simp) (by simp) (by simp) (by simp) (by simp)⟩
   .by_cases c4:l[k].base=l[k].id
    .refine Co ?_;intro K hK
     refine Ah.eq spB (by simp) (by simp) ?_
     refine AJ (an c2 c4) ?_
     refine zk ?_;clear hK K
     exact⟨true,by simp only[Bool.true_eq_false,false_iff];exact fun h=>h.1.2.2.2.1 c4,Wk.cutM (k:=0) (by simp[Ad]) (by simp) (by simp) (by simp) (by simp) (by simp)⟩
    by_cases c5:l[k].base=0
    .by_cases c7:DR l[k].data
     .rw[decide_eq_true c7] at spD
      refine Co ?_;intro K hK
      refine Ah.eq spB (by simp) (by simp) ?_
      refine AJ (an c2 (an c4 c5)) ?_
      refine Ah.eq spD (by simp) (by simp) ?_
      refine zx ?_
      refine zk ?_;clear hK K
      exact⟨false,by simp only[true_iff];exact⟨⟨c1.1,c1.2,c7,c4,.inl c5⟩,fun h=>absurd h c2⟩,Wk.cutM (k:=0) (by simp[Ad]) (by simp) (by simp) (by simp) (by simp) (by simp)⟩
     .rw[decide_eq_false c7] at spD
      refine Co ?_;intro K hK
      refine Ah.eq spB (by simp) (by simp) ?_
      refine AJ (an c2 (an c4 c5)) ?_
      refine Ah.eq spD (by simp) (by simp) ?_
      refine zx ?_
      refine zk ?_;clear hK K
      exact⟨true,by simp only[Bool.true_eq_false,false_iff];exact fun h=>c7 h.1.2.2.1,Wk.cutM (k:=0) (by simp[Ad]) (by simp) (by simp) (by simp) (by simp) (by simp)⟩
    by_cases c6:z<0
    .refine Co ?_;intro K hK
     refine Ah.eq spB (by simp) (by simp) ?_
     refine AJ (an c2 (an c4 (an c5 hlt))) ?_
     refine Ah.eq spA (by simp) (by simp) ?_
     refine AJ c6 ?_
     refine zk ?_;clear hK K
     exact⟨true,by simp only[Bool.true_eq_false,false_iff];exact fun h=>by rcases h.1.2.2.2.2 with h|h;exact c5 h;have:=hA.2 h;omega,Wk.cutM (k:=0) (by simp[Ad]) (by simp) (by simp) (by simp) (by simp) (by simp)⟩
    by_cases c7:DR l[k].data
    .rw[decide_eq_true c7] at spD
     refine Co ?_;intro K hK
     refine Ah.eq spB (by simp) (by simp) ?_
     refine AJ (an c2 (an c4 (an c5 hlt))) ?_
     refine Ah.eq spA (by simp) (by simp) ?_
     refine AJ c6 ?_
     refine Ah.eq spD (by simp) (by simp) ?_
     refine zx ?_
     refine zk ?_;clear hK K
     exact⟨false,by simp only[true_iff];exact⟨⟨c1.1,c1.2,c7,c4,.inr (hA.1 (by omega))⟩,fun h=>absurd h c2⟩,Wk.cutM (k:=0) (by simp[Ad]) (by simp) (by simp) (by simp) (by simp) (by simp)⟩
    .rw[decide_eq_false c7] at spD
     refine Co ?_;intro K hK
     refine Ah.eq spB (by simp) (by simp) ?_
     refine AJ (an c2 (an c4 (an c5 hlt))) ?_
     refine Ah.eq spA (by simp) (by simp) ?_
     refine AJ c6 ?_
     refine Ah.eq spD (by simp) (by simp) ?_
     refine zx ?_
     refine zk ?_;clear hK K
     exact⟨true,by simp only[Bool.true_eq_false,false_iff];exact fun h=>c7 h.1.2.2.1,Wk.cutM (k:=0) (by simp[Ad]) (by simp) (by simp) (by simp) (by simp) (by simp)⟩
  .intro b hb
   refine zc ?_ ?_<;>intro h
   .refine zs ?_
    refine zr ?_
    intro hM
    have h3:=(hmi.1 hM).2 k hlt
    have h4:=hb.2 h3
    have h5:b=true:=by assumption
    rw[h4] at h5;cases h5
   .refine W.skip ?_
    refine zs ?_
    refine⟨k+1,by omega,⟨by omega,fun i hi h2=>?_⟩,Wk.fr (by simp[Ad])⟩
    by_cases e:i=k
    .subst e;exact hb.1 (by assumption)
    .exact hok i hi (by omega)
 .refine W.exit ?_
  refine zs ?_
  refine zr ?_
  exact hmi.2 ⟨c0,fun i h=>hok i h (by omega)⟩
end Go.Abs
