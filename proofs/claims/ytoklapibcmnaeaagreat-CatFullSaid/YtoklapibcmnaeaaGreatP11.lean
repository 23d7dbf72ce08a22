/- References: runs and others joined. -/
import Derived.Test.YtoklapibcmnaeaaGreatP10
set_option linter.unusedVariables false
set_option linter.unusedSimpArgs false
set_option maxRecDepth 100000
namespace Go.Abs
open Go.Proofs
def AF (p:Int→Bool):List Bool:=(List.range 16).map fun(i:Nat)=>p (i:Int)
@[simp] theorem PA (p:Int→Bool):(AF p).length=16:=by simp[AF]
theorem Ie (p:Int→Bool) (i:Nat) (h:i<16):(AF p)[i]?=some (p i):=by simp[AF,h]
theorem Ow (p:Int→Bool) (i:Nat) (h:i<16):(AF p).set i true=AF fun j=>p j||decide (j=(i:Int)):=by
 refine List.ext_getElem (by simp) fun j h1 h2=>?_
 simp only[PA] at h2
 rw[List.getElem_set]
 by_cases e:i=j
 .subst e;simp[AF]
 .rw[if_neg e]
  simp only[AF,List.getElem_map,List.getElem_range]
  have:¬(j:Int)=(i:Int):=by omega
  simp[this]
def If (p:Int→Bool) (a:Int) (k:Nat):Int→Bool:=fun j=>p j||decide (a≤j∧j<a+(k:Int))
def CY (p:Int→Bool) (l:List Int):Int→Bool:=fun j=>p j||l.contains j
def BF (p:Int→Bool) (i:Nat):List Int:=((List.range i).map fun i=>((i:Nat):Int)).filter p
theorem Ig (p:Int→Bool) (i:Nat):BF p (i+1)=BF p i++if p i=true then [(i:Int)] else []:=by
 unfold BF
 rw[List.range_succ,List.map_append,List.filter_append]
 congr 1
 simp only[List.map_cons,List.map_nil,List.filter_cons,List.filter_nil]
theorem I5 (p:Int→Bool) (i:Nat):(BF p i).length≤i:=by
 unfold BF
 exact Nat.le_trans (List.length_filter_le _ _) (by simp)
def D9 (p:Int→Bool) (i:Int):Int→Bool:=fun j=>p j||decide (j=i)
theorem Da {p q:Int→Bool} (h:∀i,0≤i→i<16→p i=q i):AF p=AF q:=by
 unfold AF
 refine List.map_congr_left fun i hi=>h _ (by omega) (by simp at hi;omega)
theorem FA (p:Int→Bool) (i:Nat) (h:i<16):(AF p).set i true=AF (D9 p i):=Ow p i h
def Hj (r:List (Int×Int)) (i:Nat) (h:i<r.length):Prop:=0≤r[i].1∧r[i].1<16∧3≤r[i].2∧r[i].2≤16-r[i].1∧(0<i→r[i-1].1+r[i-1].2<r[i].1)
theorem JN:∀(r:List (Int×Int)) (e:Int),Dw r e↔((∀h:0<r.length,e<r[0].1)∧∀i (h:i<r.length),Hj r i h)
 | [],e=>by simp[Dw]
 | (a,n)::t,e=>by
   simp only[Dw,JN t (a+n)]
   constructor
   .rintro⟨h1,h2,h3,h4,h5,h6,h7⟩
    refine⟨fun _=>h5,fun i h=>?_⟩
    cases i with
    |zero=>exact⟨h1,h2,h3,h4,fun h=>by omega⟩
    |succ i=>
     have hi:i<t.length:=by simpa using h
     obtain⟨k1,k2,k3,k4,k5⟩:=h7 i hi
     refine⟨by simpa using k1,by simpa using k2,by simpa using k3,by simpa using k4,fun _=>?_⟩
     cases i with
     |zero=>simpa using h6 hi
     |succ i=>simpa using k5 (by omega)
   .rintro⟨h0,h⟩
    obtain⟨h1,h2,h3,h4,_⟩:=h 0 (by simp)
    refine⟨by simpa using h1,by simpa using h2,by simpa using h3,by simpa using h4,h0 (by simp),fun hp=>?_,fun i hi=>?_⟩
    .have:=(h 1 (by simpa using hp)).2.2.2.2 (by omega)
     simpa using this
    .obtain⟨k1,k2,k3,k4,k5⟩:=h (i+1) (by simpa using hi)
     refine⟨by simpa using k1,by simpa using k2,by simpa using k3,by simpa using k4,fun hpos=>?_⟩
     have:=k5 (by omega)
     cases i with
     |zero=>omega
     |succ i=>simpa using this
theorem JO (r:List (Int×Int)):Dw r (-1)↔∀i (h:i<r.length),Hj r i h:=by
 rw[JN]
 exact⟨fun h=>h.2,fun h=>⟨fun hp=>by have:=(h 0 hp).1;omega,h⟩⟩
def U1 (o:Option (List Int)):AV:=match o with|some l=> .tup [.own 1 l.length (Ac l),.bool true] |none=> .tup [.own 1 0 [],.bool false]
theorem U2 (r:List (Int×Int)) (rest:List Int) (hr:r.length<1000000) (hb:∀q∈r,-1000000000000≤q.1∧q.1≤1000000000000∧-1000000000000≤q.2∧q.2≤1000000000000) (hrl:rest.length<1000000):Aa pg 184 [.ro r.length (Af At r),.ro rest.length (Ac rest)] [] (fun x _=>x=U1 (C6 r rest)):=by
 refine Aa.start (fn:=Tryz.f184) [.tmp 4,.tmp 5] tk rfl rfl rfl (by kernel_rfl) (Nat.le_of_ble_eq_true rfl) rfl (by kernel_rfl) ?_
 rw[Ar]
 refine zs ?_
 by_cases hm:AL rest
 rotate_left
 .refine z0 ?_;intro K hK
  refine Ab.eq (FG rest (by omega)) (by simp) (by simp) ?_
  rw[decide_eq_false hm]
  refine zx ?_
  refine zk ?_;clear hK K
  refine zt ?_
  refine zs ?_
  refine zr ?_
  rw[C6,if_neg (fun h=>hm h.1)];rfl
 have hml:=BU hm
 refine z0 ?_;intro K hK
 refine Ab.eq (FG rest (by omega)) (by simp) (by simp) ?_
 rw[decide_eq_true hm]
 refine zx ?_
 refine zk ?_;clear hK K
 refine zn ?_
 refine W.skip ?_
 refine z1 ?_;intro K hK
 have e0:[AV.bool false,AV.bool false,AV.bool false,AV.bool false,AV.bool false,AV.bool false,AV.bool false,AV.bool false,AV.bool false,AV.bool false,AV.bool false,AV.bool false,AV.bool false,AV.bool false,AV.bool false,AV.bool false]=AA (AF (Bz (r.take 0))):=rfl
 rw[e0]
 refine zk ?_;clear hK K
 refine zs ?_
 (repeat refine W.seq ?_);refine W.block (W.loopS (fun k:Nat=> [(0,.ro r.length (Af At r)),(1,.ro rest.length (Ac rest)),(6,.ptr 0 0 0),(7,.int .i64 k)]) (fun k=> [.live 0 (AA (AF (Bz (r.take k))))]) (fun k=>r.length-k) (fun k=>k≤r.length∧∀i (h:i<r.length),i<k→Hj r i h) 0 (Wk.fr (by simp[Ad])) ⟨by omega,fun i h h2=>by omega⟩ ?_)
 .rintro i ⟨hi,hok⟩
  refine zs ?_
  refine zc ?_ ?_<;>intro h
  .refine W.skip ?_
   have hlt:i<r.length:=by omega
   have hbi:=hb _ (List.getElem_mem hlt)
   have bad:¬Hj r i hlt→¬Dw r (-1):=fun g w=>g ((JO r).1 w i hlt)
   have hto:r.take (i+1)=r.take i++[r[i]]:=by rw[List.take_add_one];simp[hlt]
   refine zb ?_
   (repeat refine W.seq ?_);refine W.reg 1 rfl fun K hK=>?_;simp -implicitDefEqProofs (maxSteps:=999999) (disch:=omega) [hlt]
   refine zk ?_;clear hK K
   have spO:=Nn r[i].1
   by_cases c1:0≤r[i].1∧r[i].1≤15
   rotate_left
   .have hbad:=bad (fun g=>c1 (by have:=g.1;have:=g.2.1;omega))
    rw[decide_eq_false c1] at spO
    refine B4 ?_;intro K hK
    refine Ah.eq spO (by simp) (by simp) ?_
    refine zx ?_
    refine zk ?_;clear hK K
    refine zt ?_
    refine zs ?_
    refine zr ?_
    rw[C6,if_neg (fun h=>hbad h.2.1)];rfl
   rw[decide_eq_true c1] at spO
   by_cases c2:r[i].2<3
   .have hbad:=bad (fun g=>by have:=g.2.2.1;omega)
    refine B4 ?_;intro K hK
    refine Ah.eq spO (by simp) (by simp) ?_
    refine AI c2 ?_
    refine zk ?_;clear hK K
    refine zt ?_
    refine zs ?_
    refine zr ?_
    rw[C6,if_neg (fun h=>hbad h.2.1)];rfl
   by_cases c3:16-r[i].1<r[i].2
   .have hbad:=bad (fun g=>by have:=g.2.2.2.1;omega)
    refine B4 ?_;intro K hK
    refine Ah.eq spO (by simp) (by simp) ?_
    refine AI (an c2 c3) ?_
    refine zk ?_;clear hK K
    refine zt ?_
    refine zs ?_
    refine zr ?_
    rw[C6,if_neg (fun h=>hbad h.2.1)];rfl
   have hbody:Hj r i hlt→True:=fun _=>trivial
   (repeat refine W.seq ?_);refine W.midS (fun b:Bool=> [(0,.ro r.length (Af At r)),(1,.ro rest.length (Ac rest)),(6,.ptr 0 0 0),(7,.int .i64 i),(8,.ptr 1 0 0),(64,.bool b)]) (fun _=> [.live 0 (AA (AF (Bz (r.take i)))),.live 0 [.int .i64 r[i].1,.int .i64 r[i].2]]) (fun b=>b=true↔¬Hj r i hlt) ?_ ?_
   .by_cases c4:0<i
    .have hbp:=hb _ (List.getElem_mem (show i-1<r.length by omega))
     have hw:IntKind.i64.wrap (r[i-1].1+r[i-1].2)=r[i-1].1+r[i-1].2:=wrap_i64 (by omega) (by omega)
     by_cases c5:r[i].1≤r[i-1].1+r[i-1].2
     .refine B4 ?_;intro K hK
      refine Ah.eq spO (by simp) (by simp) ?_
      refine AI (an c2 (an c3 (an c4 (an c5 (an hlt hw))))) ?_
      refine⟨by omega,?_⟩
      refine zk ?_;clear hK K
      exact⟨true,by simp only[true_iff];exact fun g=>by have:=g.2.2.2.2 c4;omega,Wk.fr (by simp[Ad];rw[hw];exact c5)⟩
     .refine B4 ?_;intro K hK
      refine Ah.eq spO (by simp) (by simp) ?_
      refine AI (an c2 (an c3 (an c4 (an c5 (an hlt hw))))) ?_
      refine⟨by omega,?_⟩
      refine zk ?_;clear hK K
      exact⟨false,by simp only[Bool.false_eq_true,false_iff,Classical.not_not];exact⟨c1.1,by omega,by omega,by omega,fun _=>by omega⟩,Wk.fr (by simp[Ad];rw[hw];omega)⟩
    .refine B4 ?_;intro K hK
     refine Ah.eq spO (by simp) (by simp) ?_
     refine AI (an c2 (an c3 c4)) ?_
     refine zk ?_;clear hK K
     exact⟨false,by simp only[Bool.false_eq_true,false_iff,Classical.not_not];exact⟨c1.1,by omega,by omega,by omega,fun _=>by omega⟩,Wk.fr (by simp[Ad])⟩
   .intro b hbb
    cases b
    rotate_left
    .have hbad:=bad (hbb.1 rfl)
     refine zt ?_
     refine zs ?_
     refine zr ?_
     rw[C6,if_neg (fun h=>hbad h.2.1)];rfl
    .have hgood:Hj r i hlt:=Classical.byContradiction fun g=>by have:=hbb.2 g;simp at this
     refine zn ?_
     refine W.skip ?_
     obtain⟨a,ha⟩:=Int.eq_ofNat_of_zero_le hgood.1
     obtain⟨n,hn⟩:=Int.eq_ofNat_of_zero_le (show 0≤r[i].2 by have:=hgood.2.2.1;omega)
     have han:a+n≤16:=by have:=hgood.2.2.2.1;omega
     refine zs ?_
     have e1:(AF (Bz (r.take i)))=AF (If (Bz (r.take i)) a 0):=Da fun j _ _=>by
      have:decide ((a:Int)≤j∧j<(a:Int)+((0:Nat):Int))=false:=by simp
      rw[If,this,Bool.or_false]
     rw[e1,ha,hn]
     (repeat refine W.seq ?_);refine W.block (W.loopS (fun k:Nat=> [(0,.ro r.length (Af At r)),(1,.ro rest.length (Ac rest)),(6,.ptr 0 0 0),(7,.int .i64 i),(8,.ptr 1 0 0),(9,.int .i64 k)]) (fun k=> [.live 0 (AA (AF (If (Bz (r.take i)) a k))),.live 0 [.int .i64 a,.int .i64 n]]) (fun k=>n-k) (fun k=>k≤n) 0 (Wk.fr (by simp[Ad])) (Nat.zero_le _) ?_)
     intro k hk
     refine zs ?_
     refine zc ?_ ?_<;>intro h
     .refine W.skip ?_
      have hkn:k<n:=by omega
      have hak:a+k<16:=by omega
      have hti:((a:Int)+k).toNat=a+k:=by omega
      have hset:∀p:Int→Bool,(AA (AF p)).set (a+k) (.bool true)=AA (AF (D9 p ((a:Int)+(k:Int)))):=fun p=>by rw[EV,FA _ _ hak,Int.natCast_add]
      refine zb ?_
      refine Ag (an hti (an hset hak)) ?_;intro K hK
      refine⟨by omega,?_⟩
      refine zk ?_;clear hK K
      refine zs ?_
      have e2:AF (D9 (If (Bz (r.take i)) a k) ((a:Int)+(k:Int)))=AF (If (Bz (r.take i)) a (k+1)):=Da fun j _ _=>by
       simp only[D9,If]
       rw[Bool.or_assoc]
       congr 1
       rw[←Bool.decide_or,decide_eq_decide]
       omega
      rw[e2]
      exact⟨k+1,by omega,by omega,Wk.fr (by simp[Ad])⟩
     .refine W.exit ?_
      have hk' :k=n:=by omega
      subst hk'
      have e3:(AF (If (Bz (r.take i)) a k))=AF (Bz (r.take (i+1))):=Da fun j _ _=>by
       rw[hto]
       simp only[If,Bz,List.any_append,List.any_cons,List.any_nil,Bool.or_false,ha,hn]
      rw[e3]
      refine zs ?_
      exact⟨i+1,by omega,⟨by omega,fun t ht h2=>by
       by_cases e:t=i
       .subst e;exact hgood
       .exact hok t ht (by omega)⟩,Wk.cutM (k:=1) (by simp[Ad]) (by simp) (by simp) (by simp) (by simp) (by simp)⟩
  .refine W.exit ?_
   have hi' :i=r.length:=by omega
   subst hi'
   have hR:Dw r (-1):=(JO r).2 fun t ht=>hok t ht ht
   have e4:AF (Bz (r.take r.length))=AF (CY (Bz r) (rest.take 0)):=Da fun j _ _=>by simp[CY]
   rw[e4]
   refine zs ?_
   (repeat refine W.seq ?_);refine W.block (W.loopS (fun k:Nat=> [(1,.ro rest.length (Ac rest)),(6,.ptr 0 0 0),(10,.int .i64 k)]) (fun k=> [.live 0 (AA (AF (CY (Bz r) (rest.take k))))]) (fun k=>rest.length-k) (fun k=>k≤rest.length∧∀t (h:t<rest.length),t<k→Bz r rest[t]=false) 0 (Wk.fr (by simp[Ad])) ⟨by omega,fun t h h2=>by omega⟩ ?_)
   .rintro k ⟨hk,hno⟩
    refine zs ?_
    refine zc ?_ ?_<;>intro h
    .refine W.skip ?_
     have hkl:k<rest.length:=by omega
     have hw:=hm.1 _ (List.getElem_mem hkl)
     obtain⟨w,hwe⟩:=Int.eq_ofNat_of_zero_le hw.1
     have hw16:w<16:=by omega
     have hnc:(rest.take k).contains (w:Int)=false:=by
      rw[Bool.eq_false_iff]
      intro hc
      simp only[List.contains_eq_mem,decide_eq_true_eq] at hc
      obtain⟨t,ht,hte⟩:=List.mem_iff_getElem.1 hc
      simp at ht hte
      have:=List.pairwise_iff_getElem.1 hm.2 t k (by omega) hkl (by omega)
      omega
     have hto2:rest.take (k+1)=rest.take k++[(w:Int)]:=by rw[List.take_add_one];simp[hkl,hwe]
     have hget:(AF (CY (Bz r) (rest.take k)))[w]?=some (Bz r (w:Int)):=by rw[Ie _ _ hw16];simp only[CY,hnc,Bool.or_false]
     refine zb ?_
     cases hin:Bz r (w:Int)
     .rw[hin] at hget
      refine Ag (an hkl (an hwe hget)) ?_;intro K hK
      refine zk ?_;clear hK K
      refine zn ?_
      refine W.skip ?_
      have hset:∀p:Int→Bool,(AA (AF p)).set w (.bool true)=AA (AF (D9 p (w:Int))):=fun p=>by rw[EV,FA _ _ hw16]
      have e5:AF (D9 (CY (Bz r) (rest.take k)) (w:Int))=AF (CY (Bz r) (rest.take (k+1))):=Da fun j _ _=>by
       rw[hto2]
       simp only[D9,CY,Bool.or_assoc]
       congr 1
       rw[Bool.eq_iff_iff]
       simp
      refine Ag (an hkl (an hwe (an hset hw16))) ?_;intro K hK
      refine zk ?_;clear hK K
      refine zs ?_
      rw[e5]
      refine⟨k+1,by omega,⟨by omega,fun t ht h2=>?_⟩,Wk.fr (by simp[Ad])⟩
      by_cases e:t=k
      .subst e;rw[hwe];exact hin
      .exact hno t ht (by omega)
     .rw[hin] at hget
      refine Ag (an hkl (an hwe hget)) ?_;intro K hK
      refine zk ?_;clear hK K
      refine zt ?_
      refine zs ?_
      refine zr ?_
      rw[C6,if_neg]
      .rfl
      .intro h
       have:=h.2.2 _ (List.getElem_mem hkl)
       rw[hwe,hin] at this
       simp at this
    .refine W.exit ?_
     have hk' :k=rest.length:=by omega
     subst hk'
     rw[List.take_length]
     have hj:C6 r rest=some (BF (CY (Bz r) rest) 16):=by
      rw[C6,if_pos ⟨hm,hR,fun x hx=>by
       obtain⟨t,ht,rfl⟩:=List.mem_iff_getElem.1 hx
       exact hno t ht ht⟩]
      rfl
     rw[hj]
     generalize CY (Bz r) rest=q
     refine zs ?_
     refine zs ?_
     (repeat refine W.seq ?_);refine W.block (W.loopS (fun k:Nat=> [(6,.ptr 0 0 0),(11,.tok 1 (BF q k).length 1 0 (BF q k).length),(12,.int .i64 k)]) (fun k=> [.live 0 (AA (AF q)),.live (BF q k).length (Ac (BF q k))]) (fun k=>16-k) (fun k=>k≤16) 0 ((Wk.nil (t:=11) (s:=1) (by simp)).trans (Wk.fr (by simp[Ad,BF]))) (by simp) ?_)
     intro k hk
     have htl:=I5 q k
     refine zs ?_
     refine zc ?_ ?_<;>intro h
     .refine W.skip ?_
      have hlt:k<16:=by omega
      have hget:(AF q)[k]?=some (q (k:Int)):=Ie _ _ hlt
      have hsu:=Ig q k
      refine zb ?_
      cases hq:q (k:Int)
      .rw[hq] at hget hsu
       refine Ag (an hget hlt) ?_;intro K hK
       refine zk ?_;clear hK K
       refine zn ?_
       refine W.skip ?_
       refine zs ?_
       refine⟨k+1,by omega,by omega,?_⟩
       rw[hsu]
       simp only[Bool.false_eq_true,if_false,List.append_nil]
       exact Wk.fr (by simp[Ad])
      .rw[hq] at hget hsu
       refine Ag (an hget hlt) ?_;intro K hK
       refine zk ?_;clear hK K
       refine zt ?_
       refine z1 ?_;intro K hK
       refine⟨by omega,by omega,?_⟩
       refine zk ?_;clear hK K
       refine zs ?_
       refine⟨k+1,by omega,by omega,?_⟩
       rw[hsu]
       simp only[if_true,List.length_append,List.length_singleton]
       refine Wk.cutM (k:=2) (by simp[Ad]) ?_ (by simp) (by simp) (by simp) (by simp)
       simp[Ac]
     .refine W.exit ?_
      have hk' :k=16:=by omega
      subst hk'
      refine zs ?_
      refine zr ?_
      rfl
end Go.Abs
set_option maxRecDepth 100000
namespace Go.Abs
open Go.Proofs
theorem SY (v:Int) (l:List Int) (hv:0≤v∧v≤16) (hl:AL l):Aa pg 167 [.own 1 0 [],.int .i64 v,.ro l.length (Ac l)] [] (fun r _=>r= .own 1 (BL v l).length (AO (BL v l))):=by
 have h:=Aa.nil (by simpa using U0 [] 0 v l (by simp) hv hl)
 simpa using h
theorem PB {r:List (Int×Int)} {g l:List Int} (h:C6 r g=some l):AL l:=by
 unfold C6 at h
 split at h
 .simp at h;subst h;exact LN _
 .simp at h
theorem JP (bs:List Bool) (p:Nat) (v:Int) (hb:bs.length<1000000000) (hp:p≤bs.length) (hv:0≤v∧v≤16):Aa pg 145 [.ro bs.length (AO bs),.int .i64 p,.int .i64 v] [] (fun r _=>r=CT (Br bs p v)):=by
 refine Aa.start (fn:=Tryz.f145) [.tmp 6,.tmp 7,.tmp 8] tk rfl rfl rfl (by kernel_rfl) (Nat.le_of_ble_eq_true rfl) rfl (by kernel_rfl) ?_
 rw[Bg]
 refine zs ?_
 refine zs ?_
 refine z0 ?_;intro K hK
 have sp:=Er bs p hb hp
 cases hg:AK bs p with
 |none=>
  simp only[hg,EX] at sp
  refine Ab.eq sp (by simp) (by simp) ?_
  refine zx ?_
  refine zk ?_;clear hK K
  refine zs ?_
  refine zt ?_
  refine zs ?_
  refine zr ?_
  simp[Br,hg,CT]
 |some x=>
  simp only[hg,EX] at sp
  obtain⟨hx1,hx2,hx3,hx4,_⟩:=AN hg
  refine Ab.eq sp (by simp) (by simp) ?_
  refine zx ?_
  refine zk ?_;clear hK K
  by_cases hle:x.1≤17
  rotate_left
  .have h1:¬(x.1:Int)<1:=by omega
   have h2:(16:Int)<(x.1:Int)-1:=by omega
   refine Ag (an h1 h2) ?_;intro K hK
   refine zk ?_;clear hK K
   refine zt ?_
   refine zs ?_
   refine zr ?_
   simp only[Br,hg];rw[if_neg hle];simp[CT]
  have h1:¬(x.1:Int)<1:=by omega
  have h2:¬(16:Int)<(x.1:Int)-1:=by omega
  refine Ag (an h1 h2) ?_;intro K hK
  refine zk ?_;clear hK K
  refine zn ?_
  refine W.skip ?_
  refine zs ?_
  refine zs ?_
  refine zs ?_
  (repeat refine W.seq ?_);refine W.block (W.loopS (fun s:Nat×List (Int×Int)×Nat×Int=> [(0,.ro bs.length (AO bs)),(1,.int .i64 s.2.2.1),(2,.int .i64 v),(9,.int .i64 p),(10,.int .i64 x.1),(11,.tok 0 s.1 2 0 s.1),(12,.int .i64 s.2.2.2),(13,.int .i64 s.1)]) (fun s=> [.live s.1 (Af At s.2.1)]) (fun s=>x.1-1-s.1)
    (fun s=>s.1≤x.1-1∧s.2.1.length=s.1∧(p≤s.2.2.1∧s.2.2.1≤bs.length)∧(-(4294967296*((s.1:Int)+1))≤s.2.2.2∧s.2.2.2≤4294967296*((s.1:Int)+1))∧(∀q∈s.2.1,-1000000000000≤q.1∧q.1≤1000000000000∧-1000000000000≤q.2∧q.2≤1000000000000)∧BJ bs (x.1-1) true x.2 v=(BJ bs (x.1-1-s.1) (decide (s.1=0)) s.2.2.1 (if s.1=0 then v else s.2.2.2)).map fun r=>(s.2.1++r.1,r.2)) (0,[],x.2,0) ((Wk.nil (t:=11) (s:=2) (by simp)).trans (Wk.fr (by simp[Ad]))) ⟨by omega,rfl,⟨by simp only;omega,hx4⟩,by simp only;omega,by simp,by simp⟩ ?_)
  rintro⟨k,acc,q,last⟩ ⟨hk,hacc,⟨hpq,hq⟩,hlast,hbnd,hinv⟩
  simp only at hk hacc hpq hq hlast hinv hbnd
  refine zs ?_
  refine zc ?_ ?_<;>intro h
  .refine W.skip ?_
   obtain⟨m,hm⟩:∃m,x.1-1-k=m+1:=⟨x.1-1-k-1,by omega⟩
   have hm' :x.1-1-(k+1)=m:=by omega
   rw[hm] at hinv
   refine zb ?_
   have sp2:=Er bs q hb hq
   refine z0 ?_;intro K hK
   cases hg2:AK bs q with
   |none=>
    simp only[hg2,EX] at sp2
    refine Ab.eq sp2 (by simp) (by simp) ?_
    refine zx ?_
    refine zk ?_;clear hK K
    refine zs ?_
    refine zt ?_
    refine zs ?_
    refine zr ?_
    simp only[BJ,hg2] at hinv
    simp[Br,hg,hinv,CT]
   |some y=>
    simp only[hg2,EX] at sp2
    obtain⟨hy1,hy2,hy3,hy4,_⟩:=AN hg2
    refine Ab.eq sp2 (by simp) (by simp) ?_
    have h3:¬(y.1:Int)<1:=by omega
    refine zx ?_
    refine zk ?_;clear hK K
    refine Ag h3 ?_;intro K hK
    refine zk ?_;clear hK K
    refine zn ?_
    refine W.skip ?_
    have sp3:=Er bs y.2 hb hy4
    refine z0 ?_;intro K hK
    cases hg3:AK bs y.2 with
    |none=>
     simp only[hg3,EX] at sp3
     refine Ab.eq sp3 (by simp) (by simp) ?_
     refine zx ?_
     refine zk ?_;clear hK K
     refine zs ?_
     refine zt ?_
     refine zs ?_
     refine zr ?_
     simp only[BJ,hg2,hg3] at hinv
     simp[Br,hg,hinv,CT]
    |some z=>
     simp only[hg3,EX] at sp3
     obtain⟨hz1,hz2,hz3,hz4,_⟩:=AN hg3
     refine Ab.eq sp3 (by simp) (by simp) ?_
     have h4:¬(z.1:Int)<1:=by omega
     simp only[BJ,hg2,hg3] at hinv
     refine zx ?_
     refine zk ?_;clear hK K
     by_cases hz16:z.1≤16
     rotate_left
     .have h5:(16:Int)<z.1:=by omega
      refine Ag (an h4 h5) ?_;intro K hK
      refine zk ?_;clear hK K
      refine zt ?_
      refine zs ?_
      refine zr ?_
      rw[if_neg hz16] at hinv
      simp[Br,hg,hinv,CT]
     have h5:¬(16:Int)<z.1:=by omega
     rw[if_pos hz16] at hinv
     refine Ag (an h4 h5) ?_;intro K hK
     refine zk ?_;clear hK K
     refine zn ?_
     refine W.skip ?_
     refine zs ?_
     refine z1 ?_;intro K hK
     refine zk ?_;clear hK K
     by_cases h0:k=0
     .subst h0
      have ha:acc=[]:=by simpa using hacc
      subst ha
      have hzg:-1073741825≤Cb ((y.1:Int)-1)∧Cb ((y.1:Int)-1)≤1073741825:=by unfold Cb;split<;>omega
      simp only[if_true,decide_true] at hinv
      refine zs ?_
      refine zt ?_
      refine z0 ?_;intro K hK
      refine Ab.eq (SL ((y.1:Int)-1) (by omega) (by omega)) (by simp) (by simp) ?_
      generalize Cb ((y.1:Int)-1)=zz at*
      refine zx ?_
      refine zk ?_;clear hK K
      refine z1 ?_;intro K hK
      refine zk ?_;clear hK K
      refine zs ?_
      refine zs ?_
      refine⟨(1,[(v+zz,(z.1:Int)-1+3)],z.2,v+zz+((z.1:Int)-1+3)),by simp only;omega,⟨by simp only;omega,by simp,by simp only;omega,by simp only;omega,by simp;omega,?_⟩,Wk.cutM (k:=1) (by simp[Ad]) ?_ (by simp) (by simp) (by simp) (by simp)⟩
      .rw[hinv,hm']
       simp
       cases BJ bs m false z.2 (v+zz+((z.1:Int)-1+3))<;>simp
      .simp[AD,At]
     .simp only[h0,if_false,decide_false,Bool.false_eq_true] at hinv
      refine Ag h0 ?_;intro K hK
      refine zk ?_;clear hK K
      refine zn ?_
      refine W.skip ?_
      refine z1 ?_;intro K hK
      refine⟨by omega,by omega,?_⟩
      refine zk ?_;clear hK K
      refine zs ?_
      refine zs ?_
      refine⟨(k+1,acc++[(last+y.1,(z.1:Int)-1+3)],z.2,last+y.1+((z.1:Int)-1+3)),by simp only;omega,⟨by simp only;omega,by simp[hacc],by simp only;omega,by simp only;omega,?_,?_⟩,Wk.cutM (k:=1) (by simp[Ad]) ?_ (by simp) (by simp) (by simp) (by simp)⟩
      .intro w hw
       simp only[List.mem_append,List.mem_singleton] at hw
       rcases hw with hw|rfl
       .exact hbnd w hw
       .simp only;omega
      .rw[hinv,hm']
       simp
       cases BJ bs m false z.2 (last+y.1+((z.1:Int)-1+3))<;>simp
      .simp[Co,AD,At]
  .refine W.exit ?_
   have hk' :x.1-1-k=0:=by omega
   rw[hk'] at hinv
   simp only[BJ,Option.map_some,List.append_nil] at hinv
   subst hacc
   have hv' :0≤v∧v<100000:=by omega
   have spG:=Ov bs q v hb hq hv'
   rw[EG] at spG
   have htr:Br bs p v=match DC bs q v with
    |none=>none
    |some g=>match C6 acc g.1 with
     |none=>none
     |some l=>if (BL v l).length=g.2-p∧(bs.drop p).take (BL v l).length=BL v l then some (l,g.2) else none:=by
    unfold Br
    rw[hg]
    simp only
    rw[if_pos hle,hinv]
    rfl
   rw[htr,EG]
   clear htr
   cases hgp:Dv bs q v with
   |none=>
    rw[hgp] at spG
    simp only[CT] at spG
    refine z0 ?_;intro K hK
    refine Ab.eq spG (by simp) (by simp) ?_
    refine zx ?_
    refine zk ?_;clear hK K
    refine zs ?_
    refine zt ?_
    refine zs ?_
    refine zr ?_
    rfl
   |some g=>
    rw[hgp] at spG
    simp only[CT] at spG
    obtain⟨g1,g2,g3,g4⟩:=HN hgp
    refine z0 ?_;intro K hK
    refine Ab.eq spG (by simp) (by simp) ?_
    refine zx ?_
    refine zk ?_;clear hK K
    refine zs ?_
    refine zn ?_
    refine W.skip ?_
    have spJ:=U2 acc g.1 (by omega) hbnd (by omega)
    simp only
    cases hj:C6 acc g.1 with
    |none=>
     rw[hj] at spJ
     simp only[U1] at spJ
     refine z0 ?_;intro K hK
     refine Ab.eq spJ (by simp) (by simp) ?_
     refine zx ?_
     refine zk ?_;clear hK K
     refine z0 ?_;intro K hK
     refine zk ?_;clear hK K
     refine zt ?_
     refine zs ?_
     refine zr ?_
     rfl
    |some l=>
     rw[hj] at spJ
     simp only[U1] at spJ
     have hml:=PB hj
     have hll:=BU hml
     simp only
     obtain⟨ys,hys⟩:∃ys,ys=BL v l:=⟨_,rfl⟩
     have spR:=SY v l hv hml
     rw[←hys] at spR ⊢
     refine z0 ?_;intro K hK
     refine Ab.eq spJ (by simp) (by simp) ?_
     refine zx ?_
     refine zk ?_;clear hK K
     have hl16:¬(16:Int)<(l.length:Int):=by omega
     refine Ag hl16 ?_;intro K hK
     refine zk ?_;clear hK K
     refine zn ?_
     refine W.skip ?_
     refine z0 ?_;intro K hK
     refine Ab.eqN spR (by simp[Of]) (by simp) ?_
     refine zx ?_
     refine zk ?_;clear hK K
     by_cases c1:(ys.length:Int)=(g.2:Int)-p
     rotate_left
     .refine Ag c1 ?_;intro K hK
      refine zk ?_;clear hK K
      refine zt ?_
      refine zs ?_
      refine zr ?_
      rw[if_neg (fun h=>c1 (by omega))];rfl
     have c1t:((ys.length:Int)=(g.2:Int)-p)=True:=eq_true c1
     have spM:=SX bs ys p hb (by omega) (by omega)
     by_cases c2:(bs.drop p).take ys.length=ys
     .rw[decide_eq_true c2] at spM
      refine Ag c1t ?_;intro K hK
      refine Ab.eq spM (by simp) (by simp) ?_
      refine zx ?_
      refine zk ?_;clear hK K
      refine zn ?_
      refine W.skip ?_
      refine zs ?_
      refine zr ?_
      rw[if_pos ⟨by omega,c2⟩];rfl
     .rw[decide_eq_false c2] at spM
      refine Ag c1t ?_;intro K hK
      refine Ab.eq spM (by simp) (by simp) ?_
      refine zx ?_
      refine zk ?_;clear hK K
      refine zt ?_
      refine zs ?_
      refine zr ?_
      rw[if_neg (fun h=>c2 h.2)];rfl
end Go.Abs
set_option maxRecDepth 100000
namespace Go.Abs
open Go.Proofs
theorem Jq (xs:List Int) (x:Int):(0≤BN (fun y=>decide (y=x)) xs)↔xs.contains x=true:=by
 rw[Cv]
 simp
theorem PC {l ref:List Int} {i:Nat} (h:i<ref.length) (b:Bool) (n:Nat):Bd l (ref.drop i) b n=if l.contains ref[i]=b then Bd l (ref.drop (i+1)) b (n+1) else n::Bd l (ref.drop (i+1)) (!b) 1:=by
 rw[List.drop_eq_getElem_cons h,Bd]
theorem Nu {ref l:List Int} {i:Nat} (h:i<l.length):Bk ref (l.take (i+1))=Bk ref (l.take i)++if ref.contains l[i]=true then [] else [l[i]]:=by
 have hto:l.take (i+1)=l.take i++[l[i]]:=by rw[List.take_add_one];simp[h]
 rw[hto,Bk,List.filter_append]
 congr 1
 cases hc:ref.contains l[i]<;>simp_all
theorem QS (ref l:List Int) (hr:ref.length<1000000) (hl:l.length<1000000):Aa pg 207 [.ro ref.length (Ac ref),.ro l.length (Ac l)] [] (fun r _=>r= .tup [.own 1 (blocks ref l).length (Ac (blocks ref l)),.own 1 (Bk ref l).length (Ac (Bk ref l))]):=by
 refine Aa.start (fn:=Tryz.f207) [.tmp 4,.tmp 5] tk rfl rfl rfl (by kernel_rfl) (Nat.le_of_ble_eq_true rfl) rfl (by kernel_rfl) ?_
 rw[Ar]
 refine zs ?_
 refine zs ?_
 refine zs ?_
 refine zs ?_
 (repeat refine W.seq ?_);refine W.block (W.loopS (fun s:Nat×List Nat×Bool×Nat=> [(0,.ro ref.length (Ac ref)),(1,.ro l.length (Ac l)),(6,.tok 0 s.2.1.length 1 0 s.2.1.length),(7,.own 1 0 []),(8,.bool s.2.2.1),(9,.int .i64 s.2.2.2),(10,.int .i64 s.1)]) (fun s=> [.live s.2.1.length (Ac (s.2.1.map fun n=>((n:Nat):Int)))]) (fun s=>ref.length-s.1)
   (fun s=>s.1≤ref.length∧s.2.1.length≤s.1∧s.2.2.2≤s.1∧Bd l ref true 0=s.2.1++Bd l (ref.drop s.1) s.2.2.1 s.2.2.2) (0,[],true,0) ((Wk.nil (t:=6) (s:=1) (by simp)).trans (Wk.fr (by simp[Ad]))) ⟨by simp,by simp,by simp,by simp⟩ ?_)
 rintro⟨i,acc,b,n⟩ ⟨hi,hacc,hn,hinv⟩
 simp only at hi hacc hn hinv
 refine zs ?_
 refine zc ?_ ?_<;>intro h
 .refine W.skip ?_
  have hlt:i<ref.length:=by omega
  rw[PC hlt] at hinv
  have sp:=Sn l ref[i] (by omega)
  have hix:=Jq l ref[i]
  refine zb ?_
  obtain⟨z,hz⟩:∃z,z=BN (fun y=>decide (y=ref[i])) l:=⟨_,rfl⟩
  obtain⟨c,hcd⟩:∃c,c=l.contains ref[i]:=⟨_,rfl⟩
  rw[←hz] at sp hix
  rw[←hcd] at hix hinv
  have hdz:decide (0≤z)=c:=by rw[Bool.eq_iff_iff];simp[hix]
  (repeat refine W.seq ?_);refine W.reg 0 rfl fun K hK=>?_;simp -implicitDefEqProofs (maxSteps:=999999) (disch:=omega) [hlt]
  refine Ab.eq sp (by simp) (by simp) ?_
  refine AI hdz ?_
  refine zk ?_;clear hK K
  by_cases hc:c=b
  .rw[if_pos hc] at hinv
   refine Ag hc ?_;intro K hK
   refine zk ?_;clear hK K
   refine zn ?_
   refine W.skip ?_
   refine zs ?_
   refine zs ?_
   exact⟨(i+1,acc,b,n+1),by simp only;omega,⟨by simp only;omega,by simp only;omega,by simp only;omega,hinv⟩,Wk.fr (by simp[Ad])⟩
  .rw[if_neg hc] at hinv
   have hcb:c= !b:=by cases c<;>cases b<;>simp_all
   have e:Ac (acc.map fun n=>((n:Nat):Int))++[AV.int .i64 n]=Ac ((acc++[n]).map fun n=>((n:Nat):Int)):=by simp[Ac]
   refine Ag hc ?_;intro K hK
   refine zk ?_;clear hK K
   refine zt ?_
   refine z1 ?_;intro K hK
   refine⟨by omega,by omega,?_⟩
   refine zk ?_;clear hK K
   refine zs ?_
   refine zs ?_
   refine zs ?_
   refine⟨(i+1,acc++[n],!b,1),by simp only;omega,⟨by simp only;omega,by simp;omega,by simp only;omega,by simp only;rw[hinv];simp⟩,Wk.cutM (k:=1) (by simp[Ad,hcb]) ?_ (by simp) (by simp) (by simp) (by simp)⟩
   simp[Ac]
 .refine W.exit ?_
  have hi' :i=ref.length:=by omega
  subst hi'
  rw[List.drop_length,Bd,List.append_nil] at hinv
  have hbl:blocks ref l=acc.map fun n=>((n:Nat):Int):=by rw[blocks,hinv]
  have hal:acc.length=(blocks ref l).length:=by rw[hbl];simp
  rw[←hbl,hal]
  rw[hal] at hacc
  generalize blocks ref l=bl at*
  refine zs ?_
  have hoN:∀k,(Bk ref (l.take k)).length≤k:=fun k=>Nat.le_trans (List.length_filter_le _ _) (by simp;omega)
  (repeat refine W.seq ?_);refine W.block (W.loopS (fun k:Nat=> [(0,.ro ref.length (Ac ref)),(1,.ro l.length (Ac l)),(6,.tok 0 bl.length 1 0 bl.length),(7,.tok 1 (Bk ref (l.take k)).length 1 0 (Bk ref (l.take k)).length),(12,.int .i64 k)]) (fun k=> [.live bl.length (Ac bl),.live (Bk ref (l.take k)).length (Ac (Bk ref (l.take k)))]) (fun k=>l.length-k) (fun k=>k≤l.length) 0 ((Wk.nil (t:=7) (s:=1) (by simp)).trans (Wk.fr (by simp[Ad,Bk]))) (by simp) ?_)
  intro k hk
  refine zs ?_
  refine zc ?_ ?_<;>intro h
  .refine W.skip ?_
   have hlt:k<l.length:=by omega
   have hst:=Nu (ref:=ref) hlt
   have hok:=hoN k
   have sp:=Sn ref l[k] (by omega)
   have hix:=Jq ref l[k]
   refine zb ?_
   obtain⟨z,hz⟩:∃z,z=BN (fun y=>decide (y=l[k])) ref:=⟨_,rfl⟩
   rw[←hz] at sp hix
   by_cases hc:ref.contains l[k]=true
   .have hz0:¬z<0:=by have:=hix.2 hc;omega
    rw[if_pos hc,List.append_nil] at hst
    (repeat refine W.seq ?_);refine W.reg 0 rfl fun K hK=>?_;simp -implicitDefEqProofs (maxSteps:=999999) (disch:=omega) [hlt]
    refine Ab.eq sp (by simp) (by simp) ?_
    refine AI hz0 ?_
    refine zk ?_;clear hK K
    refine zn ?_
    refine W.skip ?_
    refine zs ?_
    refine⟨k+1,by omega,by omega,?_⟩
    rw[hst]
    exact Wk.fr (by simp[Ad])
   .have hz0:z<0:=by have:=mt hix.1 hc;omega
    rw[if_neg hc] at hst
    (repeat refine W.seq ?_);refine W.reg 0 rfl fun K hK=>?_;simp -implicitDefEqProofs (maxSteps:=999999) (disch:=omega) [hlt]
    refine Ab.eq sp (by simp) (by simp) ?_
    refine AI hz0 ?_
    refine zk ?_;clear hK K
    refine zt ?_
    (repeat refine W.seq ?_);refine W.reg 1 rfl fun K hK=>?_;simp -implicitDefEqProofs (maxSteps:=999999) (disch:=omega) [hlt]
    refine⟨by omega,by omega,?_⟩
    refine zk ?_;clear hK K
    refine zs ?_
    refine⟨k+1,by omega,by omega,?_⟩
    rw[hst]
    simp only[List.length_append,List.length_singleton]
    refine Wk.cutM (k:=2) (by simp[Ad]) ?_ (by simp) (by simp) (by simp) (by simp)
    simp[Ac]
  .refine W.exit ?_
   have hk' :k=l.length:=by omega
   subst hk'
   rw[List.take_length]
   refine zs ?_
   exact zR
end Go.Abs
set_option maxRecDepth 100000
namespace Go.Abs
open Go.Proofs
def CZ (l:List Int):Int→Bool:=fun j=>l.contains j
def G2 (ref bl rest:List Int):List Int×Bool:=
 if¬(AL ref∧AL rest∧bl.length≤16) then([],false) else match A2 bl ref true with
  |none=>([],false)
  |some l=>(BF (CY (CZ l) rest) 16,decide (blocks ref (BF (CY (CZ l) rest) 16)=bl∧Bk ref (BF (CY (CZ l) rest) 16)=rest))
theorem U3 (ref bl rest:List Int):DX ref bl rest=if (G2 ref bl rest).2=true then some (G2 ref bl rest).1 else none:=by
 unfold DX G2
 split
 .simp
 .cases A2 bl ref true with
  |none=>simp
  |some l=>
   simp only[decide_eq_true_eq]
   rfl
theorem GP (l:List Int):∀(ref:List Int) (b:Bool) (n:Nat),(Bd l ref b n).length≤ref.length
 | [],_,_=>by simp[Bd]
 |x::ref,b,n=>by
  rw[Bd]
  split
  .have:=GP l ref b (n+1);simp;omega
  .have:=GP l ref (!b) 1;simp;omega
theorem PD (ref l:List Int):(blocks ref l).length≤ref.length:=by
 unfold blocks
 rw[List.length_map]
 exact GP l ref true 0
def EH (i:Nat):Bool:=decide (i%2=0)
theorem Hk (i:Nat):EH (i+1)= !EH i:=by
 unfold EH
 rw[←decide_not,decide_eq_decide]
 omega
theorem Mf (l:List Int) (x:Int):AF (D9 (CZ l) x)=AF (CZ (l++[x])):=Da fun j _ _=>by
 simp only[D9,CZ]
 rw[Bool.eq_iff_iff]
 simp
theorem QT (p:Int→Bool) (l:List Int) (x:Int):AF (D9 (CY p l) x)=AF (CY p (l++[x])):=Da fun j _ _=>by
 simp only[D9,CY,Bool.or_assoc]
 congr 1
 rw[Bool.eq_iff_iff]
 simp
theorem Mg (ref bl rest:List Int) (h1:ref.length<1000000) (h2:bl.length<1000000) (h3:rest.length<1000000) (hb:∀x∈bl,-1000000000000≤x∧x≤1000000000000):Aa pg 186 [.ro ref.length (Ac ref),.ro bl.length (Ac bl),.ro rest.length (Ac rest)] [] (fun r _=>r= .tup [.own 1 (G2 ref bl rest).1.length (Ac (G2 ref bl rest).1),.bool (G2 ref bl rest).2]):=by
 refine Aa.start (fn:=Tryz.f186) [.tmp 6,.tmp 7] tk rfl rfl rfl (by kernel_rfl) (Nat.le_of_ble_eq_true rfl) rfl (by kernel_rfl) ?_
 rw[Bg]
 refine zs ?_
 have sp1:=FG ref (by omega)
 have sp2:=FG rest (by omega)
 by_cases c1:AL ref
 rotate_left
 .rw[G2,if_pos (fun h=>c1 h.1)]
  rw[decide_eq_false c1] at sp1
  refine z0 ?_;intro K hK
  refine Ab.eq sp1 (by simp) (by simp) ?_
  refine zx ?_
  refine zk ?_;clear hK K
  refine zt ?_
  refine zs ?_
  exact zR
 by_cases c2:AL rest
 rotate_left
 .rw[G2,if_pos (fun h=>c2 h.2.1)]
  rw[decide_eq_true c1] at sp1
  rw[decide_eq_false c2] at sp2
  refine z0 ?_;intro K hK
  refine Ab.eq sp1 (by simp) (by simp) ?_
  refine zx ?_
  refine Ab.eq sp2 (by simp) (by simp) ?_
  refine zx ?_
  refine zk ?_;clear hK K
  refine zt ?_
  refine zs ?_
  exact zR
 rw[decide_eq_true c1] at sp1
 rw[decide_eq_true c2] at sp2
 by_cases c3:bl.length≤16
 rotate_left
 .have c3' :(16:Int)<(bl.length:Int):=by omega
  rw[G2,if_pos (fun h=>c3 h.2.2)]
  refine z0 ?_;intro K hK
  refine Ab.eq sp1 (by simp) (by simp) ?_
  refine zx ?_
  refine Ab.eq sp2 (by simp) (by simp) ?_
  refine AI c3' ?_
  refine zk ?_;clear hK K
  refine zt ?_
  refine zs ?_
  exact zR
 have c3' :¬(16:Int)<(bl.length:Int):=by omega
 have hjc:G2 ref bl rest=match A2 bl ref true with
  |none=>([],false)
  |some l=>(BF (CY (CZ l) rest) 16,decide (blocks ref (BF (CY (CZ l) rest) 16)=bl∧Bk ref (BF (CY (CZ l) rest) 16)=rest)):=by rw[G2,if_neg (fun h=>h ⟨c1,c2,c3⟩)]
 rw[hjc]
 clear hjc
 have hl1:=BU c1
 have hl2:=BU c2
 refine z0 ?_;intro K hK
 refine Ab.eq sp1 (by simp) (by simp) ?_
 refine zx ?_
 refine Ab.eq sp2 (by simp) (by simp) ?_
 refine AI c3' ?_
 refine zk ?_;clear hK K
 refine zn ?_
 refine W.skip ?_
 refine z1 ?_;intro K hK
 have e0:[AV.bool false,AV.bool false,AV.bool false,AV.bool false,AV.bool false,AV.bool false,AV.bool false,AV.bool false,AV.bool false,AV.bool false,AV.bool false,AV.bool false,AV.bool false,AV.bool false,AV.bool false,AV.bool false]=AA (AF (CZ [])):=rfl
 rw[e0]
 refine zk ?_;clear hK K
 refine zs ?_
 refine zs ?_
 (repeat refine W.seq ?_);refine W.block (W.loopS (fun s:Nat×Nat×List Int=> [(0,.ro ref.length (Ac ref)),(1,.ro bl.length (Ac bl)),(2,.ro rest.length (Ac rest)),(8,.ptr 0 0 0),(9,.int .i64 s.2.1),(10,.int .i64 s.1)]) (fun s=> [.live 0 (AA (AF (CZ s.2.2)))]) (fun s=>bl.length+1-s.1)
   (fun s=>s.2.1≤ref.length∧((s.1≤bl.length∧A2 bl ref true=(A2 (bl.drop s.1) (ref.drop s.2.1) (EH s.1)).map fun l=>s.2.2++l)∨(s.1=bl.length+1∧A2 bl ref true=some s.2.2))) (0,0,[]) (Wk.fr (by simp[Ad])) ⟨by simp,.inl ⟨by simp,by simp[EH]⟩⟩ ?_)
 rintro⟨i,q,acc⟩ ⟨hq,hinv⟩
 simp only at hq hinv
 by_cases hle:i≤bl.length
 .have hinv:A2 bl ref true=(A2 (bl.drop i) (ref.drop q) (EH i)).map fun l=>acc++l:=by
   rcases hinv with h|h
   .exact h.2
   .omega
  refine zs ?_
  refine zt ?_
  refine W.skip ?_
  refine zb ?_
  refine zs ?_
  by_cases hlb:i<bl.length
  .have hbi:=hb _ (List.getElem_mem hlb)
   have hdl:bl.drop i=bl[i]::bl.drop (i+1):=List.drop_eq_getElem_cons hlb
   refine zs ?_
   refine zt ?_
   (repeat refine W.seq ?_);refine W.reg 0 rfl fun K hK=>?_;simp -implicitDefEqProofs (maxSteps:=999999) (disch:=omega) [hlb]
   refine zk ?_;clear hK K
   by_cases hbad:bl[i]<0∨(ref.length:Int)-q<bl[i]
   .have hnone:A2 bl ref true=none:=by
     rw[hinv,hdl,A2,if_pos (by simp only[List.length_drop];omega)];rfl
    rw[hnone]
    by_cases hneg:bl[i]<0
    .refine Ag hneg ?_;intro K hK
     refine zk ?_;clear hK K
     refine zt ?_
     refine zs ?_
     exact zR
    .have hbig:(ref.length:Int)-q<bl[i]:=by omega
     refine Ag (an hneg hbig) ?_;intro K hK
     refine zk ?_;clear hK K
     refine zt ?_
     refine zs ?_
     exact zR
   .obtain⟨N,hz⟩:=Int.eq_ofNat_of_zero_le (show 0≤bl[i] by omega)
    rw[hz] at hbad
    have hNq:q+N≤ref.length:=by omega
    have f1:¬((N:Int)<0):=by omega
    have f2:¬((ref.length:Int)-q<N):=by omega
    rw[hz]
    refine Ag (an f1 f2) ?_;intro K hK
    refine zk ?_;clear hK K
    refine zn ?_
    refine W.skip ?_
    refine zs ?_
    have hmem:∀w∈ref,0≤w∧w<16:=fun w hw=>c1.1 w hw
    cases hev:EH i
    .have hodd:¬(i:Int)%2=0:=by simp only[EH,decide_eq_false_iff_not] at hev;omega
     (repeat refine W.seq ?_);refine W.block (W.loopS (fun _:Unit=> [(0,.ro ref.length (Ac ref)),(1,.ro bl.length (Ac bl)),(2,.ro rest.length (Ac rest)),(8,.ptr 0 0 0),(9,.int .i64 q),(10,.int .i64 i),(11,.int .i64 N),(12,.int .i64 0)]) (fun _=> [.live 0 (AA (AF (CZ acc)))]) (fun _=>0) (fun _=>True) () (Wk.fr (by simp[Ad])) trivial ?_)
     rintro _ _
     by_cases hN0:0<N
     .refine Ag (an hodd hN0) ?_;intro K hK
      refine zk ?_;clear hK K
      refine zn ?_
      refine W.exit ?_
      refine zs ?_
      refine zs ?_
      refine⟨(i+1,q+N,acc),by simp only;omega,⟨by simp only;omega,?_⟩,Wk.fr (by simp[Ad])⟩
      refine .inl ⟨by simp only;omega,?_⟩
      simp only
      rw[hinv,hdl,A2,if_neg (by simp only[List.length_drop];omega),hz,Int.toNat_natCast,List.drop_drop,Hk,hev]
      cases A2 (bl.drop (i+1)) (ref.drop (q+N)) (!false)<;>simp
     .have hN00:N=0:=by omega
      refine Ag (an hodd (an hN0 hN00)) ?_;intro K hK
      refine zk ?_;clear hK K
      refine zn ?_
      refine W.exit ?_
      refine zs ?_
      refine zs ?_
      refine⟨(i+1,q+N,acc),by simp only;omega,⟨by simp only;omega,?_⟩,Wk.fr (by simp[Ad,hN00])⟩
      refine .inl ⟨by simp only;omega,?_⟩
      simp only
      rw[hinv,hdl,A2,if_neg (by simp only[List.length_drop];omega),hz,Int.toNat_natCast,List.drop_drop,Hk,hev]
      cases A2 (bl.drop (i+1)) (ref.drop (q+N)) (!false)<;>simp
    .have hevn:(i:Int)%2=0:=by simp only[EH,decide_eq_true_eq] at hev;omega
     rw[show acc=acc++(ref.drop q).take 0 by simp]
     (repeat refine W.seq ?_);refine W.block (W.loopS (fun k:Nat=> [(0,.ro ref.length (Ac ref)),(1,.ro bl.length (Ac bl)),(2,.ro rest.length (Ac rest)),(8,.ptr 0 0 0),(9,.int .i64 q),(10,.int .i64 i),(11,.int .i64 N),(12,.int .i64 k)]) (fun k=> [.live 0 (AA (AF (CZ (acc++(ref.drop q).take k))))]) (fun k=>N-k) (fun k=>k≤N) 0 (Wk.fr (by simp[Ad])) (Nat.zero_le _) ?_)
     intro k hk
     by_cases hkN:k<N
     .refine Ag (an hevn hkN) ?_;intro K hK
      refine zk ?_;clear hK K
      refine zt ?_
      refine W.skip ?_
      have hql:q+k<ref.length:=by omega
      have hw:=hmem _ (List.getElem_mem hql)
      obtain⟨w,hwe⟩:=Int.eq_ofNat_of_zero_le hw.1
      have hw16:w<16:=by omega
      have hti:((q:Int)+k).toNat=q+k:=by omega
      have hset:∀p:Int→Bool,(AA (AF p)).set w (.bool true)=AA (AF (D9 p (w:Int))):=fun p=>by rw[EV,FA _ _ hw16]
      have hto:(ref.drop q).take (k+1)=(ref.drop q).take k++[(w:Int)]:=by rw[List.take_add_one];simp[hql,hwe]
      have e5:AF (D9 (CZ (acc++(ref.drop q).take k)) (w:Int))=AF (CZ (acc++(ref.drop q).take (k+1))):=by rw[Mf,hto,List.append_assoc]
      refine zb ?_
      refine Ag (an hti (an hwe (an hset (an hql hw16)))) ?_;intro K hK
      refine⟨by omega,?_⟩
      refine zk ?_;clear hK K
      refine zs ?_
      rw[e5]
      exact⟨k+1,by omega,by omega,Wk.fr (by simp[Ad])⟩
     .refine Ag (an hevn hkN) ?_;intro K hK
      refine zk ?_;clear hK K
      refine zn ?_
      refine W.exit ?_
      have hk' :k=N:=by omega
      subst hk'
      refine zs ?_
      refine zs ?_
      refine⟨(i+1,q+k,acc++(ref.drop q).take k),by simp only;omega,⟨by simp only;omega,?_⟩,Wk.fr (by simp[Ad])⟩
      refine .inl ⟨by simp only;omega,?_⟩
      simp only
      rw[hinv,hdl,A2,if_neg (by simp only[List.length_drop];omega),hz,Int.toNat_natCast,List.drop_drop,Hk,hev]
      cases A2 (bl.drop (i+1)) (ref.drop (q+k)) (!true)<;>simp
  .have hie:i=bl.length:=by omega
   have hdl:bl.drop i=[]:=List.drop_eq_nil_of_le (by omega)
   refine Ag hlb ?_;intro K hK
   refine zk ?_;clear hK K
   refine zn ?_
   refine W.skip ?_
   obtain⟨N,hz⟩:=Int.eq_ofNat_of_zero_le (show 0≤(ref.length:Int)-q by omega)
   have hNq:q+N≤ref.length:=by omega
   have f1:¬((N:Int)<0):=by omega
   have f2:¬((N:Int)<(N:Int)):=by omega
   rw[hz]
   refine Ag (an hz (an f1 f2)) ?_;intro K hK
   refine zk ?_;clear hK K
   refine zn ?_
   refine W.skip ?_
   refine zs ?_
   have hmem:∀w∈ref,0≤w∧w<16:=fun w hw=>c1.1 w hw
   cases hev:EH i
   .have hodd:¬(i:Int)%2=0:=by simp only[EH,decide_eq_false_iff_not] at hev;omega
    (repeat refine W.seq ?_);refine W.block (W.loopS (fun _:Unit=> [(0,.ro ref.length (Ac ref)),(1,.ro bl.length (Ac bl)),(2,.ro rest.length (Ac rest)),(8,.ptr 0 0 0),(9,.int .i64 q),(10,.int .i64 i),(11,.int .i64 N),(12,.int .i64 0)]) (fun _=> [.live 0 (AA (AF (CZ acc)))]) (fun _=>0) (fun _=>True) () (Wk.fr (by simp[Ad])) trivial ?_)
    rintro _ _
    by_cases hN0:0<N
    .refine Ag (an hodd hN0) ?_;intro K hK
     refine zk ?_;clear hK K
     refine zn ?_
     refine W.exit ?_
     refine zs ?_
     refine zs ?_
     refine⟨(i+1,q+N,acc),by simp only;omega,⟨by simp only;omega,?_⟩,Wk.fr (by simp[Ad])⟩
     refine .inr ⟨by simp only;omega,?_⟩
     simp only
     rw[hinv,hdl,A2,hev]
     simp
    .have hN00:N=0:=by omega
     refine Ag (an hodd (an hN0 hN00)) ?_;intro K hK
     refine zk ?_;clear hK K
     refine zn ?_
     refine W.exit ?_
     refine zs ?_
     refine zs ?_
     refine⟨(i+1,q+N,acc),by simp only;omega,⟨by simp only;omega,?_⟩,Wk.fr (by simp[Ad,hN00])⟩
     refine .inr ⟨by simp only;omega,?_⟩
     simp only
     rw[hinv,hdl,A2,hev]
     simp
   .have hevn:(i:Int)%2=0:=by simp only[EH,decide_eq_true_eq] at hev;omega
    rw[show acc=acc++(ref.drop q).take 0 by simp]
    (repeat refine W.seq ?_);refine W.block (W.loopS (fun k:Nat=> [(0,.ro ref.length (Ac ref)),(1,.ro bl.length (Ac bl)),(2,.ro rest.length (Ac rest)),(8,.ptr 0 0 0),(9,.int .i64 q),(10,.int .i64 i),(11,.int .i64 N),(12,.int .i64 k)]) (fun k=> [.live 0 (AA (AF (CZ (acc++(ref.drop q).take k))))]) (fun k=>N-k) (fun k=>k≤N) 0 (Wk.fr (by simp[Ad])) (Nat.zero_le _) ?_)
    intro k hk
    by_cases hkN:k<N
    .refine Ag (an hevn hkN) ?_;intro K hK
     refine zk ?_;clear hK K
     refine zt ?_
     refine W.skip ?_
     have hql:q+k<ref.length:=by omega
     have hw:=hmem _ (List.getElem_mem hql)
     obtain⟨w,hwe⟩:=Int.eq_ofNat_of_zero_le hw.1
     have hw16:w<16:=by omega
     have hti:((q:Int)+k).toNat=q+k:=by omega
     have hset:∀p:Int→Bool,(AA (AF p)).set w (.bool true)=AA (AF (D9 p (w:Int))):=fun p=>by rw[EV,FA _ _ hw16]
     have hto:(ref.drop q).take (k+1)=(ref.drop q).take k++[(w:Int)]:=by rw[List.take_add_one];simp[hql,hwe]
     have e5:AF (D9 (CZ (acc++(ref.drop q).take k)) (w:Int))=AF (CZ (acc++(ref.drop q).take (k+1))):=by rw[Mf,hto,List.append_assoc]
     refine zb ?_
     refine Ag (an hti (an hwe (an hset (an hql hw16)))) ?_;intro K hK
     refine⟨by omega,?_⟩
     refine zk ?_;clear hK K
     refine zs ?_
     rw[e5]
     exact⟨k+1,by omega,by omega,Wk.fr (by simp[Ad])⟩
    .refine Ag (an hevn hkN) ?_;intro K hK
     refine zk ?_;clear hK K
     refine zn ?_
     refine W.exit ?_
     have hk' :k=N:=by omega
     subst hk'
     refine zs ?_
     refine zs ?_
     refine⟨(i+1,q+k,acc++(ref.drop q).take k),by simp only;omega,⟨by simp only;omega,?_⟩,Wk.fr (by simp[Ad])⟩
     refine .inr ⟨by simp only;omega,?_⟩
     simp only
     rw[hinv,hdl,A2,hev]
     simp
     rw[List.take_of_length_le (by simp;omega)]
 .have hil:i=bl.length+1:=by
   rcases hinv with h|h<;>omega
  have hcg:A2 bl ref true=some acc:=by
   rcases hinv with h|h
   .omega
   .exact h.2
  rw[hcg]
  simp only
  have hgt:¬(i:Int)≤(bl.length:Int):=by omega
  refine Ag hgt ?_;intro K hK
  refine zk ?_;clear hK K
  refine zn ?_
  refine W.exit ?_
  refine zs ?_
  have e4:AF (CZ acc)=AF (CY (CZ acc) (rest.take 0)):=Da fun j _ _=>by simp[CY]
  rw[e4]
  (repeat refine W.seq ?_);refine W.block (W.loopS (fun k:Nat=> [(0,.ro ref.length (Ac ref)),(1,.ro bl.length (Ac bl)),(2,.ro rest.length (Ac rest)),(8,.ptr 0 0 0),(13,.int .i64 k)]) (fun k=> [.live 0 (AA (AF (CY (CZ acc) (rest.take k))))]) (fun k=>rest.length-k) (fun k=>k≤rest.length) 0 (Wk.fr (by simp[Ad])) (Nat.zero_le _) ?_)
  intro k hk
  refine zs ?_
  refine zc ?_ ?_<;>intro h
  .refine W.skip ?_
   have hkl:k<rest.length:=by omega
   have hw:=c2.1 _ (List.getElem_mem hkl)
   obtain⟨w,hwe⟩:=Int.eq_ofNat_of_zero_le hw.1
   have hw16:w<16:=by omega
   have hset:∀p:Int→Bool,(AA (AF p)).set w (.bool true)=AA (AF (D9 p (w:Int))):=fun p=>by rw[EV,FA _ _ hw16]
   have hto2:rest.take (k+1)=rest.take k++[(w:Int)]:=by rw[List.take_add_one];simp[hkl,hwe]
   have e5:AF (D9 (CY (CZ acc) (rest.take k)) (w:Int))=AF (CY (CZ acc) (rest.take (k+1))):=by rw[QT,hto2]
   refine zb ?_
   refine Ag (an hkl (an hwe (an hset hw16))) ?_;intro K hK
   refine zk ?_;clear hK K
   refine zs ?_
   rw[e5]
   exact⟨k+1,by omega,by omega,Wk.fr (by simp[Ad])⟩
  .refine W.exit ?_
   have hk' :k=rest.length:=by omega
   subst hk'
   rw[List.take_length]
   generalize CY (CZ acc) rest=pr
   refine zs ?_
   refine zs ?_
   (repeat refine W.seq ?_);refine W.block (W.loopS (fun k:Nat=> [(0,.ro ref.length (Ac ref)),(1,.ro bl.length (Ac bl)),(2,.ro rest.length (Ac rest)),(8,.ptr 0 0 0),(14,.tok 1 (BF pr k).length 1 0 (BF pr k).length),(15,.int .i64 k)]) (fun k=> [.live 0 (AA (AF pr)),.live (BF pr k).length (Ac (BF pr k))]) (fun k=>16-k) (fun k=>k≤16) 0 ((Wk.nil (t:=14) (s:=1) (by simp)).trans (Wk.fr (by simp[Ad,BF]))) (by simp) ?_)
   intro k hk
   have htl:=I5 pr k
   refine zs ?_
   refine zc ?_ ?_<;>intro h
   .refine W.skip ?_
    have hlt:k<16:=by omega
    have hget:(AF pr)[k]?=some (pr (k:Int)):=Ie _ _ hlt
    have hsu:=Ig pr k
    refine zb ?_
    cases hq:pr (k:Int)
    .rw[hq] at hget hsu
     refine Ag (an hget hlt) ?_;intro K hK
     refine zk ?_;clear hK K
     refine zn ?_
     refine W.skip ?_
     refine zs ?_
     refine⟨k+1,by omega,by omega,?_⟩
     rw[hsu]
     simp only[Bool.false_eq_true,if_false,List.append_nil]
     exact Wk.fr (by simp[Ad])
    .rw[hq] at hget hsu
     refine Ag (an hget hlt) ?_;intro K hK
     refine zk ?_;clear hK K
     refine zt ?_
     refine z1 ?_;intro K hK
     refine⟨by omega,by omega,?_⟩
     refine zk ?_;clear hK K
     refine zs ?_
     refine⟨k+1,by omega,by omega,?_⟩
     rw[hsu]
     simp only[if_true,List.length_append,List.length_singleton]
     refine Wk.cutM (k:=2) (by simp[Ad]) ?_ (by simp) (by simp) (by simp) (by simp)
     simp[Ac]
   .refine W.exit ?_
    have hk' :k=16:=by omega
    subst hk'
    obtain⟨L,hL⟩:∃L,L=BF pr 16:=⟨_,rfl⟩
    rw[←hL] at htl ⊢
    have spC:=QS ref L (by omega) (by omega)
    have hbl:(blocks ref L).length<4611686018427387904:=by have:=PD ref L;omega
    have hol:(Bk ref L).length≤L.length:=List.length_filter_le _ _
    obtain⟨X,hX⟩:∃X,X=blocks ref L:=⟨_,rfl⟩
    obtain⟨Y,hY⟩:∃Y,Y=Bk ref L:=⟨_,rfl⟩
    rw[←hX,←hY] at spC
    rw[←hX] at hbl
    rw[←hY] at hol
    rw[←hX,←hY]
    refine z0 ?_;intro K hK
    refine Ab.eq spC (by simp) (by simp) ?_
    refine zx ?_
    refine zk ?_;clear hK K
    have sE1:=DN X bl hbl
    have sE2:=DN Y rest (by omega)
    by_cases d1:X=bl
    .rw[decide_eq_true d1] at sE1
     refine z0 ?_;intro K hK
     refine Ab.eq sE1 (by simp) (by simp) ?_
     refine zx ?_
     refine Ab.eq sE2 (by simp) (by simp) ?_
     refine zx ?_
     refine zk ?_;clear hK K
     refine zr ?_
     simp[d1]
    .rw[decide_eq_false d1] at sE1
     refine z0 ?_;intro K hK
     refine Ab.eq sE1 (by simp) (by simp) ?_
     refine zx ?_
     refine zk ?_;clear hK K
     refine zr ?_
     simp[d1]
end Go.Abs
set_option maxRecDepth 100000
namespace Go.Abs
open Go.Proofs
theorem I6 {bs:List Bool} {p:Nat} {v:Int} {r:List Int×Nat} (hv:-100000≤v∧v≤100000) (h:Br bs p v=some r):AL r.1∧r.1.length≤16∧p<r.2∧r.2≤bs.length:=by
 rw[Fy] at h
 exact HO hv h
theorem QU (bs:List Bool) (p:Nat) (v:Int) (ref:List Int) (hb:bs.length<1000000000) (hp:p≤bs.length) (hv:0≤v∧v≤16) (hr:ref.length<1000000):Aa pg 146 [.ro bs.length (AO bs),.int .i64 p,.int .i64 v,.ro ref.length (Ac ref)] [] (fun r _=>r=CT (DO bs p v ref)):=by
 refine Aa.start (fn:=Tryz.f146) [.tmp 8,.tmp 9,.tmp 10] tk rfl rfl rfl (by kernel_rfl) (Nat.le_of_ble_eq_true rfl) rfl (by kernel_rfl) ?_
 rw[Ix]
 refine zs ?_
 refine z0 ?_;intro K hK
 have sp:=Er bs p hb hp
 cases hg:AK bs p with
 |none=>
  simp only[hg,EX] at sp
  refine Ab.eq sp (by simp) (by simp) ?_
  refine zx ?_
  refine zk ?_;clear hK K
  refine zs ?_
  refine zt ?_
  refine zs ?_
  refine zr ?_
  simp[DO,hg,CT]
 |some x=>
  simp only[hg,EX] at sp
  obtain⟨hx1,hx2,hx3,hx4,_⟩:=AN hg
  refine Ab.eq sp (by simp) (by simp) ?_
  refine zx ?_
  refine zk ?_;clear hK K
  by_cases hle:x.1≤17
  rotate_left
  .have h1:¬(x.1:Int)<1:=by omega
   have h2:(16:Int)<(x.1:Int)-1:=by omega
   refine Ag (an h1 h2) ?_;intro K hK
   refine zk ?_;clear hK K
   refine zt ?_
   refine zs ?_
   refine zr ?_
   simp only[DO,hg];rw[if_neg hle];simp[CT]
  have h1:¬(x.1:Int)<1:=by omega
  have h2:¬(16:Int)<(x.1:Int)-1:=by omega
  refine Ag (an h1 h2) ?_;intro K hK
  refine zk ?_;clear hK K
  refine zn ?_
  refine W.skip ?_
  refine zs ?_
  refine zs ?_
  (repeat refine W.seq ?_);refine W.block (W.loopS (fun s:Nat×List Int×Nat=> [(0,.ro bs.length (AO bs)),(1,.int .i64 s.2.2),(2,.int .i64 v),(3,.ro ref.length (Ac ref)),(11,.int .i64 x.1),(12,.tok 0 s.1 1 0 s.1),(13,.int .i64 s.1)]) (fun s=> [.live s.1 (Ac s.2.1)]) (fun s=>x.1-1-s.1)
    (fun s=>s.1≤x.1-1∧s.2.1.length=s.1∧s.2.2≤bs.length∧(∀q∈s.2.1,-1000000000000≤q∧q≤1000000000000)∧Bm bs (x.1-1) true x.2=(Bm bs (x.1-1-s.1) (decide (s.1=0)) s.2.2).map fun r=>(s.2.1++r.1,r.2)) (0,[],x.2) ((Wk.nil (t:=12) (s:=1) (by simp)).trans (Wk.fr (by simp[Ad]))) ⟨by omega,rfl,hx4,by simp,by simp⟩ ?_)
  rintro⟨k,acc,q⟩ ⟨hk,hacc,hq,hbnd,hinv⟩
  simp only at hk hacc hq hinv hbnd
  refine zs ?_
  refine zc ?_ ?_<;>intro h
  .refine W.skip ?_
   obtain⟨m,hm⟩:∃m,x.1-1-k=m+1:=⟨x.1-1-k-1,by omega⟩
   have hm' :x.1-1-(k+1)=m:=by omega
   rw[hm] at hinv
   refine zb ?_
   have sp2:=Er bs q hb hq
   refine z0 ?_;intro K hK
   cases hg2:AK bs q with
   |none=>
    simp only[hg2,EX] at sp2
    refine Ab.eq sp2 (by simp) (by simp) ?_
    refine zx ?_
    refine zk ?_;clear hK K
    refine zs ?_
    refine zt ?_
    refine zs ?_
    refine zr ?_
    simp only[Bm,hg2] at hinv
    simp[DO,hg,hinv,CT]
   |some y=>
    simp only[hg2,EX] at sp2
    obtain⟨hy1,hy2,hy3,hy4,_⟩:=AN hg2
    refine Ab.eq sp2 (by simp) (by simp) ?_
    have h3:¬(y.1:Int)<1:=by omega
    simp only[Bm,hg2] at hinv
    refine zx ?_
    refine zk ?_;clear hK K
    by_cases hy17:y.1≤17
    rotate_left
    .have h4:(17:Int)<(y.1:Int):=by omega
     refine Ag (an h3 h4) ?_;intro K hK
     refine zk ?_;clear hK K
     refine zt ?_
     refine zs ?_
     refine zr ?_
     rw[if_neg hy17] at hinv
     simp[DO,hg,hinv,CT]
    have h4:¬(17:Int)<(y.1:Int):=by omega
    rw[if_pos hy17] at hinv
    refine Ag (an h3 h4) ?_;intro K hK
    refine zk ?_;clear hK K
    refine zn ?_
    refine W.skip ?_
    refine zs ?_
    by_cases h0:k=0
    .subst h0
     have ha:acc=[]:=by simpa using hacc
     subst ha
     simp only[if_true,decide_true] at hinv
     refine zs ?_
     refine zt ?_
     refine zs ?_
     refine z1 ?_;intro K hK
     refine zk ?_;clear hK K
     refine zs ?_
     refine⟨(1,[(y.1:Int)-1],y.2),by simp only;omega,⟨by simp only;omega,by simp,by simp only;omega,by simp;omega,?_⟩,Wk.cutM (k:=1) (by simp[Ad]) ?_ (by simp) (by simp) (by simp) (by simp)⟩
     .rw[hinv,hm']
      simp
      cases Bm bs m false y.2<;>simp
     .simp[Ac]
    .simp only[h0,if_false,decide_false,Bool.false_eq_true] at hinv
     refine Ag h0 ?_;intro K hK
     refine zk ?_;clear hK K
     refine zn ?_
     refine W.skip ?_
     refine z1 ?_;intro K hK
     refine⟨by omega,by omega,?_⟩
     refine zk ?_;clear hK K
     refine zs ?_
     refine⟨(k+1,acc++[(y.1:Int)],y.2),by simp only;omega,⟨by simp only;omega,by simp[hacc],by simp only;omega,?_,?_⟩,Wk.cutM (k:=1) (by simp[Ad]) ?_ (by simp) (by simp) (by simp) (by simp)⟩
     .intro w hw
      simp only[List.mem_append,List.mem_singleton] at hw
      rcases hw with hw|rfl
      .exact hbnd w hw
      .omega
     .rw[hinv,hm']
      simp
      cases Bm bs m false y.2<;>simp
     .simp[Ac]
  .refine W.exit ?_
   have hk' :x.1-1-k=0:=by omega
   rw[hk'] at hinv
   simp only[Bm,Option.map_some,List.append_nil] at hinv
   subst hacc
   have spG:=JP bs q v hb hq hv
   have htr:DO bs p v ref=match Br bs q v with
    |none=>none
    |some r=>match DX ref acc r.1 with
     |some l=>some (l,r.2)
     |none=>none:=by
    unfold DO
    rw[hg]
    simp only
    rw[if_pos hle,hinv]
    rfl
   rw[htr]
   clear htr
   cases hgp:Br bs q v with
   |none=>
    rw[hgp] at spG
    simp only[CT] at spG
    refine z0 ?_;intro K hK
    refine Ab.eq spG (by simp) (by simp) ?_
    refine zx ?_
    refine zk ?_;clear hK K
    refine zs ?_
    refine zt ?_
    refine zs ?_
    refine zr ?_
    rfl
   |some g=>
    rw[hgp] at spG
    simp only[CT] at spG
    obtain⟨g1,g2,g3,g4⟩:=I6 (by omega) hgp
    refine z0 ?_;intro K hK
    refine Ab.eq spG (by simp) (by simp) ?_
    refine zx ?_
    refine zk ?_;clear hK K
    refine zs ?_
    refine zn ?_
    refine W.skip ?_
    have spJ:=Mg ref acc g.1 hr (by omega) (by omega) hbnd
    simp only
    rw[U3]
    obtain⟨l,hl⟩:∃l,l=(G2 ref acc g.1).1:=⟨_,rfl⟩
    rw[←hl] at spJ ⊢
    cases hj:(G2 ref acc g.1).2
    .rw[hj] at spJ
     refine z0 ?_;intro K hK
     refine Ab.eq spJ (by simp) (by simp) ?_
     refine zx ?_
     refine zk ?_;clear hK K
     refine zs ?_
     refine zt ?_
     refine zs ?_
     refine zr ?_
     rfl
    .rw[hj] at spJ
     refine z0 ?_;intro K hK
     refine Ab.eq spJ (by simp) (by simp) ?_
     refine zx ?_
     refine zk ?_;clear hK K
     refine zs ?_
     refine zn ?_
     refine W.skip ?_
     refine zs ?_
     refine zr ?_
     rfl
end Go.Abs
set_option maxRecDepth 100000
namespace Go.Abs
open Go.Proofs
theorem SZ (hR:B1) (s:AT) (hs:Bp s) (hx:Dn s):Aa pg 23 [.agg (AJ false s)] [] (fun r _=>r= .tup [.int .i64 (if C9 s then AP s.vers else 0),.int .i64 (if C9 s then 0 else 1)]):=by
 refine Aa.start (fn:=Tryz.f23) [.tmp 2,.tmp 3] tk rfl rfl rfl (by kernel_rfl) (Nat.le_of_ble_eq_true rfl) rfl (by kernel_rfl) ?_
 rw[As]
 refine z1 ?_;intro K hK;refine zk ?_;clear hK K
 by_cases h:C9 s
 .refine z0 ?_;intro K hK
  refine Ab.eq (Hi hR s hs hx) (by simp) (by simp) ?_
  rw[decide_eq_true h]
  refine zx ?_
  refine zk ?_;clear hK K
  refine zn ?_
  refine W.skip ?_
  refine z0 ?_;intro K hK
  refine Ab.eq (Fa s hs) (by simp) (by simp) ?_
  refine zx ?_
  refine zk ?_;clear hK K
  refine zr ?_
  simp[h]
 .refine z0 ?_;intro K hK
  refine Ab.eq (Hi hR s hs hx) (by simp) (by simp) ?_
  rw[decide_eq_false h]
  refine zx ?_
  refine zk ?_;clear hK K
  refine zt ?_
  refine zs ?_
  refine zr ?_
  simp[h]
def BM (b k:Int):AT:=⟨k,b,[],[DG,DG,DG]⟩
theorem Wb (hR:B1) (b k:Int) (h:C9 (BM b k)):Aa pg 41 [.int .i64 b,.int .i64 k] [] (fun r _=>r= .tup [.agg (AJ true (BM b k)),.int .i64 0]):=by
 have hs:Bp (BM b k):=⟨by simp[BM],by simp[BM],by simp[BM]⟩
 have hx:Dn (BM b k):=by
  intro x hx
  have:x=DG:=by simpa[BM] using hx
  subst this
  simp[DZ,Ex,IZ,DG,AG,Cc]
 have sp:=Hi hR (BM b k) hs hx
 rw[decide_eq_true h] at sp
 refine Aa.start (fn:=Tryz.f41) [.cell 4 38,.tmp 5] tk rfl rfl rfl (by kernel_rfl) (Nat.le_of_ble_eq_true rfl) rfl (by kernel_rfl) ?_
 rw[Ar]
 refine z1 ?_;intro K hK;refine zk ?_;clear hK K
 refine z2 ?_;intro K hK
 refine⟨by show(3:Int)≤9223372036854775807;decide,?_⟩
 have e:DI 3 [AV.bool false,AV.int .i64 0,AV.bool false,AV.int .i64 0,AV.int .i64 0,AV.own 1 0 [],AV.int .i64 0,AV.int .i64 0,AV.int .i64 0,AV.bool false,AV.own 1 0 [],AV.own 1 0 []]=Af (Ay true) [DG,DG,DG]:=rfl
 rw[e]
 refine zk ?_;clear hK K
 refine W.weak (Wk.thaw (B:=2) (v:=0) (j:=2) (s:=8) (n:=0) (xs:=[]) (by rfl) (by rfl)) ?_
 refine z0 ?_;intro K hK
 refine Ab.eq sp (by simp[BM];rfl) (by simp[BM]) ?_
 refine zx ?_
 refine zk ?_;clear hK K
 refine zn ?_
 refine W.skip ?_
 refine z0 ?_;intro K hK
 refine zk ?_;clear hK K
 refine zr ?_
 exact(rfl:AV.tup [.agg (AJ true (BM b k)),.int .i64 0]=_)
end Go.Abs
set_option maxRecDepth 100000
namespace Go.Abs
open Go.Proofs
theorem S0 (g:Gr) (h1:g.out.length<1000000000) (h2:Cm g.out<4611686018427387904):Aa pg 88 [.agg (AX false g)] [] (fun r _=>r= .int .i64 (Cm g.out)):=by
 refine Aa.start (fn:=Tryz.f88) [.tmp 2] tk rfl rfl rfl (by kernel_rfl) (Nat.le_of_ble_eq_true rfl) rfl (by kernel_rfl) ?_
 rw[As]
 refine z1 ?_;intro K hK;refine zk ?_;clear hK K
 refine zs ?_
 refine zs ?_
 (repeat refine W.seq ?_);refine W.block (W.loopS (fun k:Nat=> [(1,.ptr 0 0 0),(3,.int .i64 (Cm (g.out.take k))),(4,.int .i64 k)]) (fun _=> [.live 0 (AX false g)]) (fun k=>g.out.length-k) (fun k=>k≤g.out.length) 0 (Wk.fr (by simp[Ad,Cm])) (by simp) ?_)
 intro k hk
 refine zs ?_
 refine zc ?_ ?_<;>intro h
 .refine W.skip ?_
  have hlt:k<g.out.length:=by omega
  have hs:=Km hlt
  have ht:=Kl g.out (k+1)
  refine zb ?_
  (repeat refine W.seq ?_);refine W.reg 0 rfl fun K hK=>?_;simp -implicitDefEqProofs (maxSteps:=999999) (disch:=omega) [hlt]
  refine zk ?_;clear hK K
  refine zs ?_
  refine⟨k+1,by omega,by omega,Wk.fr (by simp[Ad,hs])⟩
 .refine W.exit ?_
  have:k=g.out.length:=by omega
  subst this
  refine zs ?_
  exact zR
theorem IU (g:Gr) (hg:Ex g):Aa pg 44 [.agg (AX false g)] [] (fun r _=>r= .bool (decide (A5 g))):=by
 obtain⟨h1,h2⟩:=hg
 have spN:=HQ g.n 16
 refine Aa.start (fn:=Tryz.f44) [.tmp 2] tk rfl rfl rfl (by kernel_rfl) (Nat.le_of_ble_eq_true rfl) rfl (by kernel_rfl) ?_
 rw[As]
 refine z1 ?_;intro K hK;refine zk ?_;clear hK K
 by_cases c1:0≤g.n∧g.n≤16
 rotate_left
 .rw[decide_eq_false c1] at spN
  refine z0 ?_;intro K hK
  refine Ab.eq spN (by simp) (by simp) ?_
  refine zx ?_
  refine zk ?_;clear hK K
  refine zt ?_
  refine zs ?_
  refine zr ?_
  exact fun h=>c1 ⟨h.1,h.2.1⟩
 rw[decide_eq_true c1] at spN
 by_cases c2:(g.out.length:Int)=g.n
 rotate_left
 .refine z0 ?_;intro K hK
  refine Ab.eq spN (by simp) (by simp) ?_
  refine AI c2 ?_
  refine zk ?_;clear hK K
  refine zt ?_
  refine zs ?_
  refine zr ?_
  exact fun h=>c2 h.2.2.1
 refine z0 ?_;intro K hK
 refine Ab.eq spN (by simp) (by simp) ?_
 refine AI c2 ?_
 refine zk ?_;clear hK K
 refine zn ?_
 refine W.skip ?_
 refine zs ?_
 (repeat refine W.seq ?_);refine W.block (W.loopS (fun k:Nat=> [(1,.ptr 0 0 0),(3,.int .i64 k)]) (fun _=> [.live 0 (AX false g)]) (fun k=>g.out.length-k) (fun k=>k≤g.out.length∧∀l∈g.out.take k,E9 g.n l) 0 (Wk.fr (by simp[Ad])) (by simp) ?_)
 rintro k ⟨hk,hinv⟩
 by_cases hlt:k<g.out.length
 .have hlt2:(k:Int)<g.n:=by omega
  refine Ag hlt2 ?_;intro K hK
  refine zk ?_;clear hK K
  refine zt ?_
  refine W.skip ?_
  have hl2:=h2 _ (List.getElem_mem hlt)
  have hmem:=List.getElem_mem hlt
  refine zb ?_
  have hmi:=H1 hlt
  obtain⟨l,hl⟩:∃l,l=g.out[k]:=⟨_,rfl⟩
  rw[←hl] at hl2 hmem hmi
  (repeat refine W.seq ?_);refine W.midS (fun b:Bool=> [(1,.ptr 0 0 0),(3,.int .i64 k),(56,.bool b)]) (fun _=> [.live 0 (AX false g)]) (fun b=>b=false↔E9 g.n l) ?_ ?_
  .by_cases hm:AL l
   .by_cases h0:0<l.length
    .have hla:=LE (n:=g.n) hm h0
     have h0' :(0:Int)<(l.length:Int):=by omega
     have spM:=FG l (by omega)
     rw[decide_eq_true hm] at spM
     (repeat refine W.seq ?_);refine W.regd 0 rfl true Ci (by kernel_rfl) fun K hK=>?_;simp -implicitDefEqProofs (maxSteps:=999999) (disch:=omega) [hlt,←hl]
     refine Ah.eq spM (by simp) (by simp) ?_
     simp only[DU];simp -implicitDefEqProofs (maxSteps:=999999) (disch:=omega) [hlt,←hl,h0]
     refine⟨by omega,?_⟩
     refine zk ?_;clear hK K
     exact⟨decide (g.n≤l[l.length-1]),by rw[hla];simp,Wk.fr (by simp[Ad])⟩
    .have hl0:l=[]:=List.eq_nil_of_length_eq_zero (by omega)
     have spM:=FG l (by omega)
     rw[decide_eq_true hm] at spM
     (repeat refine W.seq ?_);refine W.regd 0 rfl true Ci (by kernel_rfl) fun K hK=>?_;simp -implicitDefEqProofs (maxSteps:=999999) (disch:=omega) [hlt,←hl]
     refine Ah.eq spM (by simp) (by simp) ?_
     simp only[DU];simp -implicitDefEqProofs (maxSteps:=999999) (disch:=omega) [hlt,←hl,h0]
     refine zk ?_;clear hK K
     exact⟨false,by rw[hl0];simp[E9,AL],Wk.fr (by simp[Ad])⟩
   .have spM:=FG l (by omega)
    rw[decide_eq_false hm] at spM
    (repeat refine W.seq ?_);refine W.regd 0 rfl true Ci (by kernel_rfl) fun K hK=>?_;simp -implicitDefEqProofs (maxSteps:=999999) (disch:=omega) [hlt,←hl]
    refine Ah.eq spM (by simp) (by simp) ?_
    refine zx ?_
    refine zk ?_;clear hK K
    exact⟨true,by simp[E9,hm],Wk.fr (by simp[Ad])⟩
  .intro b hb
   refine zc ?_ ?_<;>intro h
   .refine zs ?_
    refine zr ?_
    intro h'
    have h3:=h'.2.2.2.1 l hmem
    have h4:=hb.2 h3
    have h5:b=true:=by assumption
    rw[h4] at h5;cases h5
   .refine W.skip ?_
    refine zs ?_
    refine⟨k+1,by omega,⟨by omega,fun x hx=>?_⟩,Wk.fr (by simp[Ad])⟩
    rcases(hmi x).1 hx with h6|h6
    .exact hinv x h6
    .rw[h6];exact hb.1 (by assumption)
 .have:k=g.out.length:=by omega
  subst this
  rw[List.take_length] at hinv
  have hge:¬(g.out.length:Int)<g.n:=by omega
  refine Ag hge ?_;intro K hK
  refine zk ?_;clear hK K
  refine zn ?_
  refine W.exit ?_
  refine z0 ?_;intro K hK
  refine Ab.eq (S0 g h1 (by have:=IL hinv;omega)) (by simp) (by simp) ?_
  refine zx ?_
  refine zk ?_;clear hK K
  refine zr ?_
  exact⟨fun h=>⟨c1.1,c1.2,c2,hinv,by omega⟩,fun h=>by have:=h.2.2.2.2;omega⟩
theorem PE (n:Nat) (hn:n<1000000):Aa pg 144 [.int .i64 n] [] (fun r _=>r= .agg (AX true ⟨n,List.replicate n []⟩)):=by
 refine Aa.start (fn:=Tryz.f144) [.cell 2 51] tk rfl rfl rfl (by kernel_rfl) (Nat.le_of_ble_eq_true rfl) rfl (by kernel_rfl) ?_
 rw[As]
 refine z1 ?_;intro K hK;refine zk ?_;clear hK K
 refine z1 ?_;intro K hK
 refine zk ?_;clear hK K
 refine zr ?_
 simp[Nb]
theorem QV (g:Gr) (v:Nat) (h:v<g.out.length) (h2:(v:Int)<g.n):Aa pg 147 [.agg (AX false g),.int .i64 v] [] (fun r _=>r= .ro g.out[v].length (Ac g.out[v])):=by
 refine Aa.start (fn:=Tryz.f147) [.tmp 4] tk rfl rfl rfl (by kernel_rfl) (Nat.le_of_ble_eq_true rfl) rfl (by kernel_rfl) ?_
 rw[Ar]
 refine z1 ?_;intro K hK;refine zk ?_;clear hK K
 refine Ag h2 ?_;intro K hK
 refine zk ?_;clear hK K
 refine zt ?_
 (repeat refine W.seq ?_);refine W.reg 0 rfl fun K hK=>?_;simp -implicitDefEqProofs (maxSteps:=999999) (disch:=omega) [h]
 refine zk ?_;clear hK K
 exact zR
theorem QW (g:Gr) (v:Nat) (h2:g.n≤(v:Int)):Aa pg 147 [.agg (AX false g),.int .i64 v] [] (fun r _=>r= .own 1 0 []):=by
 have h3:¬(v:Int)<g.n:=by omega
 refine Aa.start (fn:=Tryz.f147) [.tmp 4] tk rfl rfl rfl (by kernel_rfl) (Nat.le_of_ble_eq_true rfl) rfl (by kernel_rfl) ?_
 rw[Ar]
 refine z1 ?_;intro K hK;refine zk ?_;clear hK K
 refine Ag h3 ?_;intro K hK
 refine zk ?_;clear hK K
 refine zn ?_
 refine W.skip ?_
 refine zs ?_
 exact zR
theorem LV (l:List Obj) (id:Int) (hl:l.length<1000000000):Aa pg 105 [.ro l.length (Af Av l),.int .i64 id] [] (fun r _=>r= .int .i64 (BN (fun o=>decide (o.id=id)) l)):=by
 refine Aa.start (fn:=Tryz.f105) [.tmp 4] tk rfl rfl rfl (by kernel_rfl) (Nat.le_of_ble_eq_true rfl) rfl (by kernel_rfl) ?_
 rw[Ar]
 refine zs ?_
 refine zs ?_
 (repeat refine W.seq ?_);refine W.block (W.loopS (fun k:Nat=> [(0,.ro l.length (Af Av l)),(1,.int .i64 id),(5,.int .i64 k)]) (fun _=> []) (fun k=>l.length-k) (fun k=>k≤l.length∧∀i (h:i<l.length),i<k→l[i].id≠id) 0 (Wk.fr (by simp[Ad])) (by simp) ?_)
 rintro k ⟨hk,ht⟩
 refine zs ?_
 refine zc ?_ ?_<;>intro h
 .refine W.skip ?_
  have hlt:k<l.length:=by omega
  refine zb ?_
  (repeat refine W.seq ?_);refine W.reg 0 rfl fun K hK=>?_;simp -implicitDefEqProofs (maxSteps:=999999) (disch:=omega) [hlt]
  refine zk ?_;clear hK K
  refine zc ?_ ?_<;>intro h
  .refine zs ?_
   refine zr ?_
   exact(Ek hlt (by simp[h]) fun i hi hik=>by simpa using ht i hi hik).symm
  .refine W.skip ?_
   refine zs ?_
   refine⟨k+1,by omega,⟨by omega,?_⟩,Wk.fr (by simp[Ad])⟩
   intro i hi hik
   by_cases e:i=k
   .subst e;exact fun e=>h e
   .exact ht i hi (by omega)
 .refine W.exit ?_
  refine zs ?_
  refine zr ?_
  exact(DP fun i hi=>by simpa using ht i hi (by omega)).symm
end Go.Abs
set_option maxRecDepth 100000
namespace Go.Abs
open Go.Proofs
def E0 (o:Option Gr):AV:=match o with|some g=> .tup [.agg (AX true g),.bool true] |none=> .tup [.agg (AX true AG),.bool false]
theorem Nv (bs:List Bool) (hb:bs.length<1000000000):Aa pg 108 [.ro bs.length (AO bs)] [] (fun r _=>r=E0 (Ei bs)):=by
 refine Aa.start (fn:=Tryz.f108) [.cell 2 51,.tmp 3] tk rfl rfl rfl (by kernel_rfl) (Nat.le_of_ble_eq_true rfl) rfl (by kernel_rfl) ?_
 rw[As]
 refine z1 ?_;intro K hK;refine zk ?_;clear hK K
 refine z0 ?_;intro K hK
 have sp:=Er bs 0 hb (Nat.zero_le _)
 have hbad0:∀c:Prop,c→c:=fun _ h=>h
 cases hg:AK bs 0 with
 |none=>
  simp only[hg,EX] at sp
  refine Ab.eq sp (by simp) (by simp) ?_
  refine zx ?_
  refine zk ?_;clear hK K
  refine zs ?_
  refine zt ?_
  refine zs ?_
  refine W.weak (Wk.thaw (B:=0) (v:=0) (j:=1) (s:=1) (n:=0) (cs:=[.int .i64 0,.own 1 0 []]) (xs:=[]) rfl rfl) ?_
  refine zr ?_
  simp[Ei,Cx,hg,E0,AG]
 |some x=>
  simp only[hg,EX] at sp
  obtain⟨hx1,hx2,hx3,hx4,_⟩:=AN hg
  refine Ab.eq sp (by simp) (by simp) ?_
  refine zx ?_
  refine zk ?_;clear hK K
  by_cases hle:x.1≤17
  rotate_left
  .have h1:¬(x.1:Int)<1:=by omega
   have h2:(16:Int)<(x.1:Int)-1:=by omega
   refine Ag (an h1 h2) ?_;intro K hK
   refine zk ?_;clear hK K
   refine zt ?_
   refine zs ?_
   refine W.weak (Wk.thaw (B:=0) (v:=0) (j:=1) (s:=1) (n:=0) (cs:=[.int .i64 0,.own 1 0 []]) (xs:=[]) rfl rfl) ?_
   refine zr ?_
   simp only[Ei,Cx,hg];rw[if_neg hle];simp[E0,AG]
  have h1:¬(x.1:Int)<1:=by omega
  have h2:¬(16:Int)<(x.1:Int)-1:=by omega
  obtain⟨n,hn⟩:∃n,x.1=n+1:=⟨x.1-1,by omega⟩
  have hxn:(x.1:Int)-1=(n:Int):=by omega
  have hgr:Ei bs=match A4 (Br bs) n 0 x.2 with
   |none=>none
   |some r=>if r.2=bs.length∧A5 ⟨(n:Int),r.1⟩ then some ⟨(n:Int),r.1⟩ else none:=by
   simp only[Ei,Cx,hg]
   rw[if_pos hle,hn,Nat.add_sub_cancel]
   simp only[Int.natCast_add,Int.natCast_one,Int.add_sub_cancel]
   rfl
  rw[hgr]
  clear hgr
  refine Ag (an h1 h2) ?_;intro K hK
  refine zk ?_;clear hK K
  refine zn ?_
  refine W.skip ?_
  refine z1 ?_;intro K hK
  refine Ab.eq (PE n (by omega)) (by simp[hxn]) (by simp) ?_
  refine zx ?_
  refine zk ?_;clear hK K
  refine zs ?_
  (repeat refine W.seq ?_);refine W.block (W.loopS (fun s:Nat×List (List Int)×Nat=> [(0,.ro bs.length (AO bs)),(2,.ptr 0 0 0),(6,.ptr 1 0 0),(5,.int .i64 s.2.2),(7,.int .i64 s.1)]) (fun s=> [.live 0 [.int .i64 0,.own 1 0 []],.live 0 [.int .i64 n,.tok 2 0 1 0 n],.live 0 (Au true (s.2.1++List.replicate (n-s.1) []))]) (fun s=>n-s.1)
    (fun s=>s.1≤n∧s.2.1.length=s.1∧s.2.2≤bs.length∧(∀l∈s.2.1,AL l)∧A4 (Br bs) n 0 x.2=(A4 (Br bs) (n-s.1) s.1 s.2.2).map fun r=>(s.2.1++r.1,r.2)) (0,[],x.2) (Wk.fr (by simp[Ad])) ⟨by simp,rfl,hx4,by simp,by simp⟩ ?_)
  rintro⟨k,acc,q⟩ ⟨hk,hacc,hq,hml,hinv⟩
  simp only at hk hacc hq hml hinv
  refine zs ?_
  refine zc ?_ ?_<;>intro h
  .refine W.skip ?_
   have hkn:k<n:=by omega
   obtain⟨m,hm⟩:∃m,n-k=m+1:=⟨n-k-1,by omega⟩
   have hm' :n-(k+1)=m:=by omega
   rw[hm] at hinv
   refine zb ?_
   have spR:=JP bs q k hb hq (by omega)
   cases hr:(Br bs) q k with
   |none=>
    rw[hr] at spR
    simp only[CT] at spR
    have hnone:A4 (Br bs) n 0 x.2=none:=by rw[hinv,A4,hr];rfl
    rw[hnone]
    refine z0 ?_;intro K hK
    refine Ab.eq spR (by simp) (by simp) ?_
    refine zx ?_
    refine zk ?_;clear hK K
    refine zs ?_
    refine zt ?_
    refine zs ?_
    refine W.weak (Wk.thaw (B:=0) (v:=0) (j:=1) (s:=1) (n:=0) (cs:=[.int .i64 0,.own 1 0 []]) (xs:=[]) (by rfl) (by rfl)) ?_
    refine zr ?_
    simp[E0,AG]
   |some g=>
    rw[hr] at spR
    simp only[CT] at spR
    obtain⟨g1,g2,g3,g4⟩:=I6 (by omega) hr
    simp only[A4,hr] at hinv
    refine z0 ?_;intro K hK
    refine Ab.eq spR (by simp) (by simp) ?_
    refine zx ?_
    refine zk ?_;clear hK K
    refine zs ?_
    refine zn ?_
    refine W.skip ?_
    rw[hm]
    have hkl:k<n:=by omega
    have hll:(Au true (acc++List.replicate (m+1) [])).length=n:=by simp[hacc];omega
    refine Ag hkl ?_;intro K hK
    refine zk ?_;clear hK K
    refine zs ?_
    refine⟨(k+1,acc++[g.1],g.2),by simp only;omega,⟨by simp only;omega,by simp[hacc],g4,?_,?_⟩,?_⟩
    .intro w hw
     simp only[List.mem_append,List.mem_singleton] at hw
     rcases hw with hw|rfl
     .exact hml w hw
     .exact g1
    .rw[hinv,hm']
     simp only
     have:(k:Int)+1=((k+1:Nat):Int):=by omega
     rw[this]
     cases A4 (Br bs) m ((k+1:Nat):Int) g.2<;>simp
    .subst hacc
     refine Wk.trans (Wk.intern (B:=2) (v:=0) (j:=acc.length) (T:=3) (u:=0) (s:=1) (off:=0) (n:=g.1.length) (xs:=Ac g.1) (by rfl) (by simp) (by rfl) (by simp) (by simp) (by simp)) ?_
     refine Wk.cutM (k:=3) (by simp[Ad]) ?_ (by simp) (by simp) (by simp) (by simp)
     simp only[hm']
     simp[List.replicate_succ,Au]
  .refine W.exit ?_
   have hkn:k=n:=by omega
   subst hkn
   rw[Nat.sub_self] at hinv ⊢
   simp only[A4,Option.map_some,List.append_nil] at hinv
   rw[hinv]
   simp only[List.replicate_zero,List.append_nil]
   subst hacc
   have hGi:Ex ⟨(acc.length:Int),acc⟩:=⟨by simp only;omega,fun l hl=>by have:=BU (hml l hl);omega⟩
   have spG:=IU ⟨(acc.length:Int),acc⟩ hGi
   by_cases hqb:q=bs.length
   rotate_left
   .have hqb' :¬(q:Int)=(bs.length:Int):=by omega
    refine Ag hqb' ?_;intro K hK
    refine zk ?_;clear hK K
    refine zt ?_
    refine zs ?_
    refine W.weak (Wk.thaw (B:=0) (v:=0) (j:=1) (s:=1) (n:=0) (cs:=[.int .i64 0,.own 1 0 []]) (xs:=[]) (by rfl) (by rfl)) ?_
    refine zr ?_
    rw[if_neg (fun h=>hqb h.1)];simp[E0,AG]
   subst hqb
   by_cases hmg:A5 ⟨(acc.length:Int),acc⟩
   .rw[decide_eq_true hmg] at spG
    refine z0 ?_;intro K hK
    refine Ab.eq spG (by simp) (by simp) ?_
    refine zx ?_
    refine zk ?_;clear hK K
    refine zn ?_
    refine W.skip ?_
    refine zs ?_
    refine zr ?_
    simp[hmg,E0]
   .rw[decide_eq_false hmg] at spG
    refine z0 ?_;intro K hK
    refine Ab.eq spG (by simp) (by simp) ?_
    refine zx ?_
    refine zk ?_;clear hK K
    refine zt ?_
    refine zs ?_
    refine W.weak (Wk.thaw (B:=0) (v:=0) (j:=1) (s:=1) (n:=0) (cs:=[.int .i64 0,.own 1 0 []]) (xs:=[]) (by rfl) (by rfl)) ?_
    refine zr ?_
    simp[hmg,E0,AG]
theorem K5 {a:Gr} {bs:List Bool} {p:Nat} {v:Int} {r:List Int×Nat} (ha:A5 a) (hv:-100000≤v∧v≤100000) (h:DO bs p v (AC a v)=some r):AL r.1∧r.1.length≤16∧r.2≤r.2∧r.2≤bs.length:=by
 rw[LQ _ _ _ _ (IQ ha v)] at h
 have:=Ko hv h
 exact⟨this.1,this.2.1,Nat.le_refl _,this.2.2⟩
theorem Nw (a:Gr) (bs:List Bool) (hb:bs.length<1000000000) (ha:A5 a):Aa pg 109 [.agg (AX false a),.ro bs.length (AO bs)] [] (fun r _=>r=E0 (GE a bs)):=by
 refine Aa.start (fn:=Tryz.f109) [.cell 4 51,.tmp 5] tk rfl rfl rfl (by kernel_rfl) (Nat.le_of_ble_eq_true rfl) rfl (by kernel_rfl) ?_
 rw[Ar]
 obtain⟨rd,hrdd⟩:∃rd:Rd,rd=fun p v=>DO bs p v (AC a v):=⟨_,rfl⟩
 have hrd:∀q v,rd q v=DO bs q v (AC a v):=fun q v=>by rw[hrdd]
 have htd:GE a bs=Cx bs rd:=by rw[hrdd];rfl
 rw[htd]
 clear htd hrdd
 refine z2 ?_;intro K hK;refine zk ?_;clear hK K
 refine z0 ?_;intro K hK
 have sp:=Er bs 0 hb (Nat.zero_le _)
 have hbad0:∀c:Prop,c→c:=fun _ h=>h
 cases hg:AK bs 0 with
 |none=>
  simp only[hg,EX] at sp
  refine Ab.eq sp (by simp) (by simp) ?_
  refine zx ?_
  refine zk ?_;clear hK K
  refine zs ?_
  refine zt ?_
  refine zs ?_
  refine W.weak (Wk.thaw (B:=1) (v:=0) (j:=1) (s:=1) (n:=0) (cs:=[.int .i64 0,.own 1 0 []]) (xs:=[]) rfl rfl) ?_
  refine zr ?_
  simp[Cx,Cx,hg,E0,AG]
 |some x=>
  simp only[hg,EX] at sp
  obtain⟨hx1,hx2,hx3,hx4,_⟩:=AN hg
  refine Ab.eq sp (by simp) (by simp) ?_
  refine zx ?_
  refine zk ?_;clear hK K
  by_cases hle:x.1≤17
  rotate_left
  .have h1:¬(x.1:Int)<1:=by omega
   have h2:(16:Int)<(x.1:Int)-1:=by omega
   refine Ag (an h1 h2) ?_;intro K hK
   refine zk ?_;clear hK K
   refine zt ?_
   refine zs ?_
   refine W.weak (Wk.thaw (B:=1) (v:=0) (j:=1) (s:=1) (n:=0) (cs:=[.int .i64 0,.own 1 0 []]) (xs:=[]) rfl rfl) ?_
   refine zr ?_
   simp only[Cx,Cx,hg];rw[if_neg hle];simp[E0,AG]
  have h1:¬(x.1:Int)<1:=by omega
  have h2:¬(16:Int)<(x.1:Int)-1:=by omega
  obtain⟨n,hn⟩:∃n,x.1=n+1:=⟨x.1-1,by omega⟩
  have hxn:(x.1:Int)-1=(n:Int):=by omega
  have hgr:Cx bs rd=match A4 rd n 0 x.2 with
   |none=>none
   |some r=>if r.2=bs.length∧A5 ⟨(n:Int),r.1⟩ then some ⟨(n:Int),r.1⟩ else none:=by
   simp only[Cx,Cx,hg]
   rw[if_pos hle,hn,Nat.add_sub_cancel]
   simp only[Int.natCast_add,Int.natCast_one,Int.add_sub_cancel]
   rfl
  rw[hgr]
  clear hgr
  refine Ag (an h1 h2) ?_;intro K hK
  refine zk ?_;clear hK K
  refine zn ?_
  refine W.skip ?_
  refine z1 ?_;intro K hK
  refine Ab.eq (PE n (by omega)) (by simp[hxn]) (by simp) ?_
  refine zx ?_
  refine zk ?_;clear hK K
  refine zs ?_
  (repeat refine W.seq ?_);refine W.block (W.loopS (fun s:Nat×List (List Int)×Nat=> [(1,.ro bs.length (AO bs)),(2,.ptr 0 0 0),(4,.ptr 1 0 0),(8,.ptr 2 0 0),(7,.int .i64 s.2.2),(9,.int .i64 s.1)]) (fun s=> [.live 0 (AX false a),.live 0 [.int .i64 0,.own 1 0 []],.live 0 [.int .i64 n,.tok 3 0 1 0 n],.live 0 (Au true (s.2.1++List.replicate (n-s.1) []))]) (fun s=>n-s.1)
    (fun s=>s.1≤n∧s.2.1.length=s.1∧s.2.2≤bs.length∧(∀l∈s.2.1,AL l)∧A4 rd n 0 x.2=(A4 rd (n-s.1) s.1 s.2.2).map fun r=>(s.2.1++r.1,r.2)) (0,[],x.2) (Wk.fr (by simp[Ad])) ⟨by simp,rfl,hx4,by simp,by simp⟩ ?_)
  rintro⟨k,acc,q⟩ ⟨hk,hacc,hq,hml,hinv⟩
  simp only at hk hacc hq hml hinv
  refine zs ?_
  refine zc ?_ ?_<;>intro h
  .refine W.skip ?_
   have hkn:k<n:=by omega
   obtain⟨m,hm⟩:∃m,n-k=m+1:=⟨n-k-1,by omega⟩
   have hm' :n-(k+1)=m:=by omega
   rw[hm] at hinv
   refine zb ?_
   have hba:(AC a k).length<1000000:=by have:=CB ha (k:Int);omega
   have spR:=QU bs q k (AC a k) hb hq (by omega) hba
   rw[←hrd] at spR
   have spB:(∃_:k<a.out.length,Aa pg 147 [.agg (AX false a),.int .i64 k] [] (fun r _=>r= .ro (AC a k).length (Ac (AC a k))))∨(AC a k=[]∧Aa pg 147 [.agg (AX false a),.int .i64 k] [] (fun r _=>r= .own 1 0 [])):=by
    have han:=ha.2.2.1
    by_cases h:k<a.out.length
    .left
     rw[Bf h]
     exact⟨h,QV a k h (by omega)⟩
    .right
     exact⟨by simp[AC,List.getD_eq_getElem?_getD,List.getElem?_eq_none (show a.out.length≤k by omega)],QW a k (by omega)⟩
   rcases spB with⟨hk3,spB⟩ | ⟨hbe,spB⟩
   .cases hr:rd q k with
    |none=>
     rw[hr] at spR
     simp only[CT] at spR
     have hnone:A4 rd n 0 x.2=none:=by rw[hinv,A4,hr];rfl
     rw[hnone]
     refine z0 ?_;intro K hK
     refine Ab.eqr spB (by simp) ?_
     refine zx ?_
     refine Ab.eq spR (by simp) (by simp) ?_
     refine zx ?_
     refine zk ?_;clear hK K
     refine zs ?_
     refine zt ?_
     refine zs ?_
     refine W.weak (Wk.thaw (B:=1) (v:=0) (j:=1) (s:=1) (n:=0) (cs:=[.int .i64 0,.own 1 0 []]) (xs:=[]) (by rfl) (by rfl)) ?_
     refine zr ?_
     simp[E0,AG]
    |some g=>
     rw[hr] at spR
     simp only[CT] at spR
     obtain⟨g1,g2,g3,g4⟩:=K5 ha (show-100000≤(k:Int)∧(k:Int)≤100000 by omega) (hrd q k ▸ hr)
     simp only[A4,hr] at hinv
     refine z0 ?_;intro K hK
     refine Ab.eqr spB (by simp) ?_
     refine zx ?_
     refine Ab.eq spR (by simp) (by simp) ?_
     refine zx ?_
     refine zk ?_;clear hK K
     refine zs ?_
     refine zn ?_
     refine W.skip ?_
     rw[hm]
     have hkl:k<n:=by omega
     have hll:(Au true (acc++List.replicate (m+1) [])).length=n:=by simp[hacc];omega
     refine Ag hkl ?_;intro K hK
     refine zk ?_;clear hK K
     refine zs ?_
     refine⟨(k+1,acc++[g.1],g.2),by simp only;omega,⟨by simp only;omega,by simp[hacc],g4,?_,?_⟩,?_⟩
     .intro w hw
      simp only[List.mem_append,List.mem_singleton] at hw
      rcases hw with hw|rfl
      .exact hml w hw
      .exact g1
     .rw[hinv,hm']
      simp only
      have:(k:Int)+1=((k+1:Nat):Int):=by omega
      rw[this]
      cases A4 rd m ((k+1:Nat):Int) g.2<;>simp
     .subst hacc
      refine Wk.trans (Wk.intern (B:=3) (v:=0) (j:=acc.length) (T:=4) (u:=0) (s:=1) (off:=0) (n:=g.1.length) (xs:=Ac g.1) (by rfl) (by simp) (by rfl) (by simp) (by simp) (by simp)) ?_
      refine Wk.cutM (k:=4) (by simp[Ad]) ?_ (by simp) (by simp) (by simp) (by simp)
      simp only[hm']
      simp[List.replicate_succ,Au]
   .cases hr:rd q k with
    |none=>
     rw[hr] at spR
     simp only[CT] at spR
     have hnone:A4 rd n 0 x.2=none:=by rw[hinv,A4,hr];rfl
     rw[hnone]
     refine z0 ?_;intro K hK
     refine Ab.eq spB (by simp) (by simp) ?_
     refine zx ?_
     refine Ab.eq spR (by simp[hbe]) (by simp) ?_
     refine zx ?_
     refine zk ?_;clear hK K
     refine zs ?_
     refine zt ?_
     refine zs ?_
     refine W.weak (Wk.thaw (B:=1) (v:=0) (j:=1) (s:=1) (n:=0) (cs:=[.int .i64 0,.own 1 0 []]) (xs:=[]) (by rfl) (by rfl)) ?_
     refine zr ?_
     simp[E0,AG]
    |some g=>
     rw[hr] at spR
     simp only[CT] at spR
     obtain⟨g1,g2,g3,g4⟩:=K5 ha (show-100000≤(k:Int)∧(k:Int)≤100000 by omega) (hrd q k ▸ hr)
     simp only[A4,hr] at hinv
     refine z0 ?_;intro K hK
     refine Ab.eq spB (by simp) (by simp) ?_
     refine zx ?_
     refine Ab.eq spR (by simp[hbe]) (by simp) ?_
     refine zx ?_
     refine zk ?_;clear hK K
     refine zs ?_
     refine zn ?_
     refine W.skip ?_
     rw[hm]
     have hkl:k<n:=by omega
     have hll:(Au true (acc++List.replicate (m+1) [])).length=n:=by simp[hacc];omega
     refine Ag hkl ?_;intro K hK
     refine zk ?_;clear hK K
     refine zs ?_
     refine⟨(k+1,acc++[g.1],g.2),by simp only;omega,⟨by simp only;omega,by simp[hacc],g4,?_,?_⟩,?_⟩
     .intro w hw
      simp only[List.mem_append,List.mem_singleton] at hw
      rcases hw with hw|rfl
      .exact hml w hw
      .exact g1
     .rw[hinv,hm']
      simp only
      have:(k:Int)+1=((k+1:Nat):Int):=by omega
      rw[this]
      cases A4 rd m ((k+1:Nat):Int) g.2<;>simp
     .subst hacc
      refine Wk.trans (Wk.intern (B:=3) (v:=0) (j:=acc.length) (T:=5) (u:=0) (s:=1) (off:=0) (n:=g.1.length) (xs:=Ac g.1) (by rfl) (by simp) (by rfl) (by simp) (by simp) (by simp)) ?_
      refine Wk.cutM (k:=4) (by simp[Ad]) ?_ (by simp) (by simp) (by simp) (by simp)
      simp only[hm']
      simp[List.replicate_succ,Au]
  .refine W.exit ?_
   have hkn:k=n:=by omega
   subst hkn
   rw[Nat.sub_self] at hinv ⊢
   simp only[A4,Option.map_some,List.append_nil] at hinv
   rw[hinv]
   simp only[List.replicate_zero,List.append_nil]
   subst hacc
   have hGi:Ex ⟨(acc.length:Int),acc⟩:=⟨by simp only;omega,fun l hl=>by have:=BU (hml l hl);omega⟩
   have spG:=IU ⟨(acc.length:Int),acc⟩ hGi
   by_cases hqb:q=bs.length
   rotate_left
   .have hqb' :¬(q:Int)=(bs.length:Int):=by omega
    refine Ag hqb' ?_;intro K hK
    refine zk ?_;clear hK K
    refine zt ?_
    refine zs ?_
    refine W.weak (Wk.thaw (B:=1) (v:=0) (j:=1) (s:=1) (n:=0) (cs:=[.int .i64 0,.own 1 0 []]) (xs:=[]) (by rfl) (by rfl)) ?_
    refine zr ?_
    rw[if_neg (fun h=>hqb h.1)];simp[E0,AG]
   subst hqb
   by_cases hmg:A5 ⟨(acc.length:Int),acc⟩
   .rw[decide_eq_true hmg] at spG
    refine z0 ?_;intro K hK
    refine Ab.eq spG (by simp) (by simp) ?_
    refine zx ?_
    refine zk ?_;clear hK K
    refine zn ?_
    refine W.skip ?_
    refine zs ?_
    refine zr ?_
    simp[hmg,E0]
   .rw[decide_eq_false hmg] at spG
    refine z0 ?_;intro K hK
    refine Ab.eq spG (by simp) (by simp) ?_
    refine zx ?_
    refine zk ?_;clear hK K
    refine zt ?_
    refine zs ?_
    refine W.weak (Wk.thaw (B:=1) (v:=0) (j:=1) (s:=1) (n:=0) (cs:=[.int .i64 0,.own 1 0 []]) (xs:=[]) (by rfl) (by rfl)) ?_
    refine zr ?_
    simp[hmg,E0,AG]
end Go.Abs
set_option maxRecDepth 100000
namespace Go.Abs
open Go.Proofs
theorem U4 (l:List Obj) (id:Int):(0≤BN (fun o=>decide (o.id=id)) l)↔∃q∈l,q.id=id:=by
 rw[Cv];simp
set_option maxHeartbeats 2000000 in
theorem PF (l:List Obj) (hl:D6 l):Aa pg 66 [.ro l.length (Af Av l)] [] (fun r _=>r= .bool (decide (CK l))):=by
 have hl1:=hl.1
 refine Aa.start (fn:=Tryz.f66) [.tmp 2] tk rfl rfl rfl (by kernel_rfl) (Nat.le_of_ble_eq_true rfl) rfl (by kernel_rfl) ?_
 rw[As]
 refine zs ?_
 by_cases c0:l.length≤12
 rotate_left
 .have c0' :(12:Int)<(l.length:Int):=by omega
  refine Ag c0' ?_;intro K hK
  refine zk ?_;clear hK K
  refine zt ?_
  refine zs ?_
  refine zr ?_
  exact fun h=>c0 h.1
 have c0' :¬(12:Int)<(l.length:Int):=by omega
 have hmi:=JD l
 refine Ag c0' ?_;intro K hK
 refine zk ?_;clear hK K
 refine zn ?_
 refine W.skip ?_
 refine zs ?_
 (repeat refine W.seq ?_);refine W.block (W.loopS (fun k:Nat=> [(0,.ro l.length (Af Av l)),(3,.int .i64 k)]) (fun _=> []) (fun k=>l.length-k) (fun k=>k≤l.length∧∀i (h:i<l.length),i<k→Kp l l[i]∧(0<i→l[i-1].id<l[i].id)) 0 (Wk.fr (by simp[Ad])) ⟨by simp,fun i h h2=>by omega⟩ ?_)
 rintro k ⟨hk,hok⟩
 refine zs ?_
 refine zc ?_ ?_<;>intro h
 .refine W.skip ?_
  have hlt:k<l.length:=by omega
  refine zb ?_
  (repeat refine W.seq ?_);refine W.reg 1 rfl fun K hK=>?_;simp -implicitDefEqProofs (maxSteps:=999999) (disch:=omega) [hlt]
  refine zk ?_;clear hK K
  have hsz:=hl.2 _ (List.getElem_mem hlt)
  have spB:=Em l[k].id 1 1048576
  have spA:=LV l l[k].base (by omega)
  have hA:=U4 l l[k].base
  obtain⟨z,hz⟩:∃z,z=BN (fun o=>decide (o.id=l[k].base)) l:=⟨_,rfl⟩
  rw[←hz] at spA hA
  have spD:=UK l[k].data hsz
  (repeat refine W.seq ?_);refine W.midS (fun b:Bool=> [(0,.ro l.length (Af Av l)),(3,.int .i64 k),(61,.bool b)]) (fun _=> []) (fun b=>b=false↔Kp l l[k]∧(0<k→l[k-1].id<l[k].id)) ?_ ?_
  .by_cases c1:1≤l[k].id∧l[k].id≤1048576
   rotate_left
   .rw[decide_eq_false c1] at spB
    refine B4 ?_;intro K hK
    refine Ah.eq spB (by simp) (by simp) ?_
    refine zx ?_
    refine zk ?_;clear hK K
    exact⟨true,by simp only[Bool.true_eq_false,false_iff];exact fun h=>c1 ⟨h.1.1,h.1.2.1⟩,Wk.cutM (k:=0) (by simp[Ad]) (by simp) (by simp) (by simp) (by simp) (by simp)⟩
   rw[decide_eq_true c1] at spB
   by_cases c2:0<k
   .by_cases c3:l[k].id≤l[k-1].id
    .refine B4 ?_;intro K hK
     refine Ah.eq spB (by simp) (by simp) ?_
     refine AI (an c2 (an c3 hlt)) ?_
     refine⟨by omega,?_⟩
     refine zk ?_;clear hK K
     exact⟨true,by simp only[Bool.true_eq_false,false_iff];exact fun h=>by have:=h.2 c2;omega,Wk.cutM (k:=0) (by simp[Ad]) (by simp) (by simp) (by simp) (by simp) (by simp)⟩
    .by_cases c4:l[k].base=l[k].id
     .refine B4 ?_;intro K hK
      refine Ah.eq spB (by simp) (by simp) ?_
      refine AI (an c2 (an c3 (an hlt c4))) ?_
      refine⟨by omega,?_⟩
      refine zk ?_;clear hK K
      exact⟨true,by simp only[Bool.true_eq_false,false_iff];exact fun h=>h.1.2.2.2.1 c4,Wk.cutM (k:=0) (by simp[Ad]) (by simp) (by simp) (by simp) (by simp) (by simp)⟩
     by_cases c5:l[k].base=0
     .by_cases c7:C2 l[k].data
      .rw[decide_eq_true c7] at spD
       refine B4 ?_;intro K hK
       refine Ah.eq spB (by simp) (by simp) ?_
       refine AI (an c2 (an c3 (an hlt (an c4 c5)))) ?_
       refine⟨by omega,?_⟩
       refine Ah.eq spD (by simp) (by simp) ?_
       refine zx ?_
       refine zk ?_;clear hK K
       exact⟨false,by simp only[true_iff];exact⟨⟨c1.1,c1.2,c7,c4,.inl c5⟩,fun _=>by omega⟩,Wk.cutM (k:=0) (by simp[Ad]) (by simp) (by simp) (by simp) (by simp) (by simp)⟩
      .rw[decide_eq_false c7] at spD
       refine B4 ?_;intro K hK
       refine Ah.eq spB (by simp) (by simp) ?_
       refine AI (an c2 (an c3 (an hlt (an c4 c5)))) ?_
       refine⟨by omega,?_⟩
       refine Ah.eq spD (by simp) (by simp) ?_
       refine zx ?_
       refine zk ?_;clear hK K
       exact⟨true,by simp only[Bool.true_eq_false,false_iff];exact fun h=>c7 h.1.2.2.1,Wk.cutM (k:=0) (by simp[Ad]) (by simp) (by simp) (by simp) (by simp) (by simp)⟩
     by_cases c6:z<0
     .refine B4 ?_;intro K hK
      refine Ah.eq spB (by simp) (by simp) ?_
      refine AI (an c2 (an c3 (an hlt (an c4 (an c5 hlt))))) ?_
      refine⟨by omega,?_⟩
      refine Ah.eq spA (by simp) (by simp) ?_
      refine AI c6 ?_
      refine zk ?_;clear hK K
      exact⟨true,by simp only[Bool.true_eq_false,false_iff];exact fun h=>by rcases h.1.2.2.2.2 with h|h;exact c5 h;have:=hA.2 h;omega,Wk.cutM (k:=0) (by simp[Ad]) (by simp) (by simp) (by simp) (by simp) (by simp)⟩
     by_cases c7:C2 l[k].data
     .rw[decide_eq_true c7] at spD
      refine B4 ?_;intro K hK
      refine Ah.eq spB (by simp) (by simp) ?_
      refine AI (an c2 (an c3 (an hlt (an c4 (an c5 hlt))))) ?_
      refine⟨by omega,?_⟩
      refine Ah.eq spA (by simp) (by simp) ?_
      refine AI c6 ?_
      refine Ah.eq spD (by simp) (by simp) ?_
      refine zx ?_
      refine zk ?_;clear hK K
      exact⟨false,by simp only[true_iff];exact⟨⟨c1.1,c1.2,c7,c4,.inr (hA.1 (by omega))⟩,fun _=>by omega⟩,Wk.cutM (k:=0) (by simp[Ad]) (by simp) (by simp) (by simp) (by simp) (by simp)⟩
     .rw[decide_eq_false c7] at spD
      refine B4 ?_;intro K hK
      refine Ah.eq spB (by simp) (by simp) ?_
      refine AI (an c2 (an c3 (an hlt (an c4 (an c5 hlt))))) ?_
      refine⟨by omega,?_⟩
      refine Ah.eq spA (by simp) (by simp) ?_
      refine AI c6 ?_
      refine Ah.eq spD (by simp) (by simp) ?_
      refine zx ?_
      refine zk ?_;clear hK K
      exact⟨true,by simp only[Bool.true_eq_false,false_iff];exact fun h=>c7 h.1.2.2.1,Wk.cutM (k:=0) (by simp[Ad]) (by simp) (by simp) (by simp) (by simp) (by simp)⟩
   .by_cases c4:l[k].base=l[k].id
    .refine B4 ?_;intro K hK
     refine Ah.eq spB (by simp) (by simp) ?_
     refine AI (an c2 c4) ?_
     refine zk ?_;clear hK K
     exact⟨true,by simp only[Bool.true_eq_false,false_iff];exact fun h=>h.1.2.2.2.1 c4,Wk.cutM (k:=0) (by simp[Ad]) (by simp) (by simp) (by simp) (by simp) (by simp)⟩
    by_cases c5:l[k].base=0
    .by_cases c7:C2 l[k].data
     .rw[decide_eq_true c7] at spD
      refine B4 ?_;intro K hK
      refine Ah.eq spB (by simp) (by simp) ?_
      refine AI (an c2 (an c4 c5)) ?_
      refine Ah.eq spD (by simp) (by simp) ?_
      refine zx ?_
      refine zk ?_;clear hK K
      exact⟨false,by simp only[true_iff];exact⟨⟨c1.1,c1.2,c7,c4,.inl c5⟩,fun h=>absurd h c2⟩,Wk.cutM (k:=0) (by simp[Ad]) (by simp) (by simp) (by simp) (by simp) (by simp)⟩
     .rw[decide_eq_false c7] at spD
      refine B4 ?_;intro K hK
      refine Ah.eq spB (by simp) (by simp) ?_
      refine AI (an c2 (an c4 c5)) ?_
      refine Ah.eq spD (by simp) (by simp) ?_
      refine zx ?_
      refine zk ?_;clear hK K
      exact⟨true,by simp only[Bool.true_eq_false,false_iff];exact fun h=>c7 h.1.2.2.1,Wk.cutM (k:=0) (by simp[Ad]) (by simp) (by simp) (by simp) (by simp) (by simp)⟩
    by_cases c6:z<0
    .refine B4 ?_;intro K hK
     refine Ah.eq spB (by simp) (by simp) ?_
     refine AI (an c2 (an c4 (an c5 hlt))) ?_
     refine Ah.eq spA (by simp) (by simp) ?_
     refine AI c6 ?_
     refine zk ?_;clear hK K
     exact⟨true,by simp only[Bool.true_eq_false,false_iff];exact fun h=>by rcases h.1.2.2.2.2 with h|h;exact c5 h;have:=hA.2 h;omega,Wk.cutM (k:=0) (by simp[Ad]) (by simp) (by simp) (by simp) (by simp) (by simp)⟩
    by_cases c7:C2 l[k].data
    .rw[decide_eq_true c7] at spD
     refine B4 ?_;intro K hK
     refine Ah.eq spB (by simp) (by simp) ?_
     refine AI (an c2 (an c4 (an c5 hlt))) ?_
     refine Ah.eq spA (by simp) (by simp) ?_
     refine AI c6 ?_
     refine Ah.eq spD (by simp) (by simp) ?_
     refine zx ?_
     refine zk ?_;clear hK K
     exact⟨false,by simp only[true_iff];exact⟨⟨c1.1,c1.2,c7,c4,.inr (hA.1 (by omega))⟩,fun h=>absurd h c2⟩,Wk.cutM (k:=0) (by simp[Ad]) (by simp) (by simp) (by simp) (by simp) (by simp)⟩
    .rw[decide_eq_false c7] at spD
     refine B4 ?_;intro K hK
     refine Ah.eq spB (by simp) (by simp) ?_
     refine AI (an c2 (an c4 (an c5 hlt))) ?_
     refine Ah.eq spA (by simp) (by simp) ?_
     refine AI c6 ?_
     refine Ah.eq spD (by simp) (by simp) ?_
     refine zx ?_
     refine zk ?_;clear hK K
     exact⟨true,by simp only[Bool.true_eq_false,false_iff];exact fun h=>c7 h.1.2.2.1,Wk.cutM (k:=0) (by simp[Ad]) (by simp) (by simp) (by simp) (by simp) (by simp)⟩
  .intro b hb
   refine zc ?_ ?_<;>intro h
   .refine zs ?_
    refine zr ?_
    intro hM
    have h3:=(hmi.1 hM).2 k hlt
    have h4:=hb.2 h3
    have h5:b=true:=by assumption
    rw[h4] at h5;cases h5
   .refine W.skip ?_
    refine zs ?_
    refine⟨k+1,by omega,⟨by omega,fun i hi h2=>?_⟩,Wk.fr (by simp[Ad])⟩
    by_cases e:i=k
    .subst e;exact hb.1 (by assumption)
    .exact hok i hi (by omega)
 .refine W.exit ?_
  refine zs ?_
  refine zr ?_
  exact hmi.2 ⟨c0,fun i h=>hok i h (by omega)⟩
end Go.Abs
