/- Questions: may one be asked; is a job over; are two the same. -/
import Derived.Test.YtoklapibcmnaeaaGreatP8
set_option linter.unusedVariables false
set_option linter.unusedSimpArgs false
set_option maxRecDepth 100000
namespace Go.Abs
open Go.Proofs
theorem Rv (k:Int):Aa pg 249 [.int .i64 k] [] (fun r _=>r= .bool (named k)):=by
 refine Aa.start (fn:=Tryz.f249) [.tmp 2] tk rfl rfl rfl (by kernel_rfl) (Nat.le_of_ble_eq_true rfl) rfl (by kernel_rfl) ?_
 rw[Av]
 refine zs ?_
 by_cases h1:k=1
 .refine Af h1 ?_;intro K hK
  refine zk ?_;clear hK K
  refine zr ?_
  simp[named,h1]
 .by_cases h2:k=2
  .refine Af (an h1 h2) ?_;intro K hK
   refine zk ?_;clear hK K
   refine zr ?_
   simp[named,h2]
  .refine Af (an h1 h2) ?_;intro K hK
   refine zk ?_;clear hK K
   refine zr ?_
   simp[named,h1,h2]
theorem YI (g:Gr) (k a:Int) (hg:FF g) (hm:A3 g):Aa pg 237 [.agg (A2 false g),.int .i64 k,.int .i64 a] [] (fun r _=>r= .int .i64 (DN g k a)):=by
 refine Aa.start (fn:=Tryz.f237) [.tmp 6] tk rfl rfl rfl (by kernel_rfl) (Nat.le_of_ble_eq_true rfl) rfl (by kernel_rfl) ?_
 rw[Bd]
 refine z1 ?_;intro K hK;refine zk ?_;clear hK K
 refine zb ?_
 have hM:=MG g hg
 rw[decide_eq_true hm] at hM
 by_cases h1:k<1
 .refine Af h1 ?_;intro K hK
  refine Ab.eq hM (by simp) (by simp) ?_
  refine AM h1 ?_
  refine zk ?_;clear hK K
  refine zt ?_
  refine zs ?_
  refine zr ?_
  rw[DN,if_pos (by omega)]
 .by_cases h2:k≤6
  .refine Af (an h1 h2) ?_;intro K hK
   refine Ab.eq hM (by simp) (by simp) ?_
   refine AM (an h1 h2) ?_
   refine zk ?_;clear hK K
   refine zn ?_
   refine z0 ?_;intro K hK
   refine Ab.eq (Rv k) (by simp) (by simp) ?_
   cases hn:named k
   .refine zx ?_
    refine zk ?_;clear hK K
    refine zn ?_
    refine W.skip ?_
    refine zs ?_
    refine zr ?_
    rw[DN,if_neg (by omega),if_neg (by simp[hn])]
   .refine zx ?_
    refine Ab.eq (Wp g a) (by simp) (by simp) ?_
    by_cases h3:0≤a∧a<g.n
    .rw[decide_eq_true h3]
     refine zx ?_
     refine zk ?_;clear hK K
     refine zn ?_
     refine W.skip ?_
     refine zs ?_
     refine zr ?_
     rw[DN,if_neg (by omega),if_neg (by simp[h3])]
    .rw[decide_eq_false h3]
     refine zx ?_
     refine zk ?_;clear hK K
     refine zt ?_
     refine zs ?_
     refine zr ?_
     rw[DN,if_neg (by omega),if_pos ⟨hn,h3⟩]
  .refine Af (an h1 h2) ?_;intro K hK
   refine Ab.eq hM (by simp) (by simp) ?_
   refine AM (an h1 h2) ?_
   refine zk ?_;clear hK K
   refine zt ?_
   refine zs ?_
   refine zr ?_
   rw[DN,if_pos (by omega)]
theorem Qc (g:Gr) (j:Cq) (hl:j.list.length<1000000000000):Aa pg 194 [.agg (A2 false g),.agg (B2 false j)] [] (fun r _=>r= .bool (BY g j)):=by
 refine Aa.start (fn:=Tryz.f194) [.tmp 4] tk rfl rfl rfl (by kernel_rfl) (Nat.le_of_ble_eq_true rfl) rfl (by kernel_rfl) ?_
 rw[At]
 refine z2 ?_;intro K hK;refine zk ?_;clear hK K
 refine zs ?_
 refine zb ?_
 refine zs ?_
 refine zc ?_ ?_<;>intro h
 .refine zs ?_
  refine zr ?_
  simp[BY,h]
 .have h1:=h;clear h
  refine zs ?_
  refine zc ?_ ?_<;>intro h
  .refine zs ?_
   refine zr ?_
   simp[BY,h]
  .refine W.skip ?_
   refine zs ?_
   refine zr ?_
   simp[BY, *]
theorem Up (a b:Cq) (ha:a.list.length<1000000000000∧a.out.length<1000000000000):Aa pg 218 [.agg (B2 false a),.agg (B2 false b)] [] (fun r _=>r= .bool (decide (a=b))):=by
 have e0:(a=b)↔a.kind=b.kind∧a.a=b.a∧a.at_=b.at_∧a.move=b.move∧a.list=b.list∧a.out=b.out:=Cq.ext_iff
 refine Aa.start (fn:=Tryz.f218) [.tmp 4] tk rfl rfl rfl (by kernel_rfl) (Nat.le_of_ble_eq_true rfl) rfl (by kernel_rfl) ?_
 rw[At]
 refine z2 ?_;intro K hK;refine zk ?_;clear hK K
 by_cases h1:a.kind=b.kind
 .by_cases h2:a.a=b.a
  .by_cases h3:a.at_=b.at_
   .by_cases h4:a.move=b.move
    .refine Af (an h1 (an h2 (an h3 h4))) ?_;intro K hK
     refine Ab.eq (IK a.list b.list (by omega)) (by simp) (by simp) ?_
     by_cases h5:a.list=b.list
     .rw[decide_eq_true h5]
      refine zx ?_
      refine Ab.eq (IK a.out b.out (by omega)) (by simp) (by simp) ?_
      refine zx ?_
      refine zk ?_;clear hK K
      refine zr ?_
      simp[e0,h1,h2,h3,h4,h5]
     .rw[decide_eq_false h5]
      refine zx ?_
      refine zk ?_;clear hK K
      refine zr ?_
      simp[e0,h5]
    .refine Af (an h1 (an h2 (an h3 h4))) ?_;intro K hK
     refine zk ?_;clear hK K
     refine zr ?_
     simp[e0,h4]
   .refine Af (an h1 (an h2 h3)) ?_;intro K hK
    refine zk ?_;clear hK K
    refine zr ?_
    simp[e0,h3]
  .refine Af (an h1 h2) ?_;intro K hK
   refine zk ?_;clear hK K
   refine zr ?_
   simp[e0,h2]
 .refine Af h1 ?_;intro K hK
  refine zk ?_;clear hK K
  refine zr ?_
  simp[e0,h1]
theorem Qd (g:Gr):Aa pg 190 [.agg (A2 false g)] [] (fun r _=>r= .bool (decide (g=AO))):=by
 have e0:(g=AO)↔g.n=0∧g.out=[]:=Gr.ext_iff
 refine Aa.start (fn:=Tryz.f190) [.tmp 2] tk rfl rfl rfl (by kernel_rfl) (Nat.le_of_ble_eq_true rfl) rfl (by kernel_rfl) ?_
 rw[Av]
 refine z1 ?_;intro K hK;refine zk ?_;clear hK K
 by_cases h1:g.n=0
 .refine Af h1 ?_;intro K hK
  refine zk ?_;clear hK K
  refine zr ?_
  simp[e0,h1]
 .refine Af h1 ?_;intro K hK
  refine zk ?_;clear hK K
  refine zr ?_
  simp[e0,h1]
theorem KD (j:Cq) (hj:j.list.length<1000000000000∧j.out.length<1000000000000):Aa pg 191 [.agg (B2 false j)] [] (fun r _=>r= .bool (decide (j=C2))):=by
 have e0:(j=C2)↔j.kind=0∧j.a=0∧j.at_=0∧j.move=false∧j.list=[]∧j.out=[]:=Cq.ext_iff
 refine Aa.start (fn:=Tryz.f191) [.tmp 2] tk rfl rfl rfl (by kernel_rfl) (Nat.le_of_ble_eq_true rfl) rfl (by kernel_rfl) ?_
 rw[Av]
 refine z1 ?_;intro K hK;refine zk ?_;clear hK K
 by_cases h1:j.kind=0
 .by_cases h2:j.a=0
  .by_cases h3:j.at_=0
   .cases h4:j.move
    .refine Af (an h1 (an h2 (an h3 h4))) ?_;intro K hK
     refine zk ?_;clear hK K
     refine zr ?_
     simp[e0,h1,h2,h3,h4]
     rw[←List.length_eq_zero_iff,←List.length_eq_zero_iff]
     omega
    .refine Af (an h1 (an h2 (an h3 h4))) ?_;intro K hK
     refine zk ?_;clear hK K
     refine zr ?_
     simp[e0,h4]
   .refine Af (an h1 (an h2 h3)) ?_;intro K hK
    refine zk ?_;clear hK K
    refine zr ?_
    simp[e0,h3]
  .refine Af (an h1 h2) ?_;intro K hK
   refine zk ?_;clear hK K
   refine zr ?_
   simp[e0,h2]
 .refine Af h1 ?_;intro K hK
  refine zk ?_;clear hK K
  refine zr ?_
  simp[e0,h1]
end Go.Abs
set_option maxRecDepth 100000
namespace Go.Abs
open Go.Proofs
def AS (s:Ax):Prop:=s.vers.length<1000000000∧s.sess.length<1000000000∧∀v∈s.vers,v.data.data.size<1000000000
theorem AS.objs {s:Ax} (h:AS s):DO (Aj s):=by
 refine⟨by have:=h.1;simp[Aj];omega,fun o ho=>?_⟩
 simp only[Aj,List.mem_map] at ho
 obtain⟨v,hv,rfl⟩:=ho
 exact h.2.2 v hv
theorem MN (s:Ax) (hs:AS s):Aa pg 80 [.agg (An false s)] [] (fun r _=>r= .own 4 (Aj s).length (Ac Am (Aj s))):=by
 have h1:=hs.1
 refine Aa.start (fn:=Tryz.f80) [.tmp 2] tk rfl rfl rfl (by kernel_rfl) (Nat.le_of_ble_eq_true rfl) rfl (by kernel_rfl) ?_
 rw[Av]
 refine z1 ?_;intro K hK;refine zk ?_;clear hK K
 refine zs ?_
 (repeat refine W.seq ?_);refine W.block (W.loopS (fun k:Nat=> [(2,.tok 1 k 4 0 k),(6,Hb false s.vers),(7,.int .i64 s.vers.length),(8,.int .i64 k)]) (fun k=> [.live 0 (An false s),.live k (Ac Am ((Aj s).take k))]) (fun k=>s.vers.length-k) (fun k=>k≤s.vers.length) 0 ((Wk.nil (t:=2) (s:=4) ?_).trans (Wk.fr ?_)) (by simp) ?_)
 .simp
 .simp[Ad]
 .intro k hk
  refine zs ?_
  refine zc ?_ ?_<;>intro h
  .refine W.skip ?_
   have hlt:k<s.vers.length:=by omega
   have hto:(Aj s).take (k+1)=(Aj s).take k++[BQ s.vers[k]]:=by
    rw[List.take_add_one];simp[Aj,hlt]
   have hlo:k≤(Aj s).length:=by simp[Aj];omega
   refine zb ?_
   (repeat refine W.seq ?_);refine W.reg 1 rfl fun K hK=>?_;simp -implicitDefEqProofs (maxSteps:=999999) (disch:=omega) [hlt]
   refine zk ?_;clear hK K
   refine JH hlo ?_;intro K hK
   refine⟨by omega,by omega,?_⟩
   refine zk ?_;clear hK K
   refine zs ?_
   refine⟨k+1,by omega,by omega,Wk.cutM (k:=2) (by simp[Ad]) ?_ (by simp) (by simp) (by simp) (by simp)⟩
   rw[hto]
   simp[Bz,AA,BQ]
  .refine W.exit ?_
   have hk' :k=s.vers.length:=by omega
   subst hk'
   have e:(Aj s).take s.vers.length=Aj s:=List.take_of_length_le (by simp[Aj])
   rw[e]
   refine zs ?_
   refine zr ?_
   rw[e]
   simp[Aj]
theorem EP (s:Ax) (hs:AS s):Aa pg 76 [.agg (An false s)] [] (fun r _=>r= .int .i64 (A7 s.vers)):=by
 have h1:=hs.1
 refine Aa.start (fn:=Tryz.f76) [.tmp 2] tk rfl rfl rfl (by kernel_rfl) (Nat.le_of_ble_eq_true rfl) rfl (by kernel_rfl) ?_
 rw[Av]
 refine z1 ?_;intro K hK;refine zk ?_;clear hK K
 refine zs ?_
 refine zc ?_ ?_<;>intro h
 .refine zs ?_
  refine zr ?_
  simp[A7,h]
 .refine W.skip ?_
  have hp:0<s.vers.length:=List.length_pos_iff.2 h
  have hlt:s.vers.length-1<s.vers.length:=by omega
  (repeat refine W.seq ?_);refine W.reg 0 rfl fun K hK=>?_;simp -implicitDefEqProofs (maxSteps:=999999) (disch:=omega) [hlt]
  refine⟨by omega,?_⟩
  refine zk ?_;clear hK K
  refine zr ?_
  rw[A7,List.getLast?_eq_getElem?,List.getElem?_eq_getElem hlt]
theorem V6 (v:Bg) (id:Int):Aa pg 124 ([.agg (Ar v)]++[.rptr [.int .i64 id]]) [] (fun r _=>r= .bool (decide (v.id=id))):=by
 refine Aa.start (fn:=Tryz.f124) [.tmp 3] tk rfl rfl rfl (by kernel_rfl) (Nat.le_of_ble_eq_true rfl) rfl (by kernel_rfl) ?_
 simp only[List.cons_append,List.nil_append]
 rw[At]
 refine z1 ?_;intro K hK;refine zk ?_;clear hK K
 refine zs ?_
 exact zR
theorem Hi (s:Ax) (id:Int) (hs:AS s):Aa pg 82 [.agg (An false s),.int .i64 id] [] (fun r _=>r= .int .i64 (AG (fun v=>decide (v.id=id)) s.vers)):=by
 have h1:=hs.1
 refine Aa.start (fn:=Tryz.f82) [.tmp 4] tk rfl rfl rfl (by kernel_rfl) (Nat.le_of_ble_eq_true rfl) rfl (by kernel_rfl) ?_
 rw[At]
 refine z2 ?_;intro K hK;refine zk ?_;clear hK K
 refine z0 ?_;intro K hK
 refine Ab.eq (Jy s.vers 124 [.rptr [.int .i64 id]] (fun v=>decide (v.id=id)) (by omega) (fun v _=>V6 v id) (by simp)) (by simp) (by simp) ?_
 refine zx ?_
 refine zk ?_;clear hK K
 exact zR
theorem Qe (b:Db) (hb:b.data.size<1000000000):Aa pg 120 [.agg (Ct b)] [] (fun r _=>r= .int .i64 (CO b)):=by
 refine Aa.start (fn:=Tryz.f120) [.tmp 2] tk rfl rfl rfl (by kernel_rfl) (Nat.le_of_ble_eq_true rfl) rfl (by kernel_rfl) ?_
 rw[Av]
 refine z1 ?_;intro K hK;refine zk ?_;clear hK K
 refine z0 ?_;intro K hK
 refine zk ?_;clear hK K
 refine zr ?_
 unfold CO
 congr 1
 omega
theorem Qf (n:Int):Aa pg 160 [.int .i64 n] [] (fun r _=>r= .bool (decide (1≤n∧n≤100))):=by
 refine Aa.start (fn:=Tryz.f160) [.tmp 2] tk rfl rfl rfl (by kernel_rfl) (Nat.le_of_ble_eq_true rfl) rfl (by kernel_rfl) ?_
 rw[Av]
 refine zs ?_
 by_cases h1:1≤n
 .refine Af h1 ?_;intro K hK
  refine zk ?_;clear hK K
  exact zR
 .refine Af h1 ?_;intro K hK
  refine zk ?_;clear hK K
  exact zR
theorem Uq (s:Ax) (id:Int) (hs:AS s) (hm:Cf (Aj s)) (Bm:id≠0):Aa pg 83 [.agg (An false s),.int .i64 id] [] (fun r _=>r= .agg (A2 true (AP (Aj s) id).1)):=by
 have h1:=hs.1
 refine Aa.start (fn:=Tryz.f83) [.cell 4 51] tk rfl rfl rfl (by kernel_rfl) (Nat.le_of_ble_eq_true rfl) rfl (by kernel_rfl) ?_
 rw[At]
 refine z2 ?_;intro K hK;refine zk ?_;clear hK K
 refine Af Bm ?_;intro K hK
 refine zk ?_;clear hK K
 refine zn ?_
 refine W.skip ?_
 refine z1 ?_;intro K hK
 refine Ab.eq (MN s hs) (by simp) (by simp) ?_
 refine zx ?_
 refine Ab.eq (SK (Aj s) id hs.objs hm) (by simp) (by simp) ?_
 refine zx ?_
 refine zk ?_;clear hK K
 refine zs ?_
 exact zR
def mv (x:Int×Int):List AV:=As x
theorem Qg (s:Ax) (hs:AS s):Aa pg 79 [.agg (An false s)] [] (fun r _=>r= .own 2 (AB s).length (Ac As (AB s))):=by
 have h1:=hs.1
 refine Aa.start (fn:=Tryz.f79) [.tmp 2] tk rfl rfl rfl (by kernel_rfl) (Nat.le_of_ble_eq_true rfl) rfl (by kernel_rfl) ?_
 rw[Av]
 refine z1 ?_;intro K hK;refine zk ?_;clear hK K
 refine zs ?_
 (repeat refine W.seq ?_);refine W.block (W.loopS (fun k:Nat=> [(2,.tok 1 k 2 0 k),(6,Hb false s.vers),(7,.int .i64 s.vers.length),(8,.int .i64 k)]) (fun k=> [.live 0 (An false s),.live k (Ac As ((AB s).take k))]) (fun k=>s.vers.length-k) (fun k=>k≤s.vers.length) 0 ((Wk.nil (t:=2) (s:=2) ?_).trans (Wk.fr ?_)) (by simp) ?_)
 .simp
 .simp[Ad]
 .intro k hk
  refine zs ?_
  refine zc ?_ ?_<;>intro h
  .refine W.skip ?_
   have hlt:k<s.vers.length:=by omega
   have hto:(AB s).take (k+1)=(AB s).take k++[(s.vers[k].at_,CO s.vers[k].data)]:=by
    rw[List.take_add_one];simp[AB,hlt]
   have hlo:k≤(AB s).length:=by simp[AB];omega
   have hB:=Qe s.vers[k].data (hs.2.2 _ (List.getElem_mem hlt))
   refine zb ?_
   (repeat refine W.seq ?_);refine W.reg 1 rfl fun K hK=>?_;simp -implicitDefEqProofs (maxSteps:=999999) (disch:=omega) [hlt]
   refine zk ?_;clear hK K
   (repeat refine W.seq ?_);refine W.regd 1 rfl true Ce (by kernel_rfl) fun K hK=>?_;simp -implicitDefEqProofs (maxSteps:=999999) (disch:=omega) [hlo]
   refine Ag.eq hB (by simp) (by simp) ?_
   refine AM hlo ?_
   refine⟨by omega,by omega,?_⟩
   refine zk ?_;clear hK K
   refine zs ?_
   refine⟨k+1,by omega,by omega,Wk.cutM (k:=2) (by simp[Ad]) ?_ (by simp) (by simp) (by simp) (by simp)⟩
   rw[hto]
   simp[Bz,AA,As]
  .refine W.exit ?_
   have hk' :k=s.vers.length:=by omega
   subst hk'
   have e:(AB s).take s.vers.length=AB s:=List.take_of_length_le (by simp[AB])
   rw[e]
   refine zs ?_
   refine zr ?_
   rw[e]
   simp[AB]
end Go.Abs
set_option maxRecDepth 100000
namespace Go.Abs
open Go.Proofs
theorem KE (l:List Bg):Dm l=false↔∀i (h:i<l.length),i=l.length-1→l[i].gone=false:=by
 rw[Dm,List.getLast?_eq_getElem?]
 by_cases h:0<l.length
 .rw[List.getElem?_eq_getElem (by omega)]
  constructor
  .intro g i hi e;subst e;exact g
  .intro g;exact g _ (by omega) rfl
 .rw[List.getElem?_eq_none (by omega)]
  simp
  intro i hi;omega
theorem Nl (s:Ax) (hs:AS s):Aa pg 154 [.agg (An false s)] [] (fun r _=>r= .bool (decide (Gw s))):=by
 have h1:=hs.1
 refine Aa.start (fn:=Tryz.f154) [.tmp 2] tk rfl rfl rfl (by kernel_rfl) (Nat.le_of_ble_eq_true rfl) rfl (by kernel_rfl) ?_
 rw[Av]
 refine z1 ?_;intro K hK;refine zk ?_;clear hK K
 by_cases c1:s.keep<1
 .refine Af c1 ?_;intro K hK
  refine zk ?_;clear hK K
  refine zt ?_
  refine zs ?_
  refine zr ?_
  intro g;have:=g.1;omega
 by_cases c2:s.keep≤8
 rotate_left
 .refine Af (an c1 c2) ?_;intro K hK
  refine zk ?_;clear hK K
  refine zt ?_
  refine zs ?_
  refine zr ?_
  intro g;have:=g.2.1;omega
 by_cases c3:s.blocks<1
 .refine Af (an c1 (an c2 c3)) ?_;intro K hK
  refine zk ?_;clear hK K
  refine zt ?_
  refine zs ?_
  refine zr ?_
  intro g;have:=g.2.2.1;omega
 by_cases c4:s.blocks≤100
 rotate_left
 .refine Af (an c1 (an c2 (an c3 c4))) ?_;intro K hK
  refine zk ?_;clear hK K
  refine zt ?_
  refine zs ?_
  refine zr ?_
  intro g;have:=g.2.2.2.1;omega
 refine Af (an c1 (an c2 (an c3 c4))) ?_;intro K hK
 refine zk ?_;clear hK K
 refine zn ?_
 refine W.skip ?_
 refine zs ?_
 (repeat refine W.seq ?_);refine W.block (W.loopS (fun k:Nat=> [(1,.ptr 0 0 0),(24,Hb false s.vers),(25,.int .i64 s.vers.length),(26,.int .i64 k)]) (fun k=> [.live 0 (An false s)]) (fun k=>s.vers.length-k) (fun k=>k≤s.vers.length∧∀i (h:i<s.vers.length),i<k→F9 s.vers[i]∧(i=s.vers.length-1→s.vers[i].gone=false)) 0 (Wk.fr (by simp[Ad])) (by simp) ?_)
 rintro k ⟨hk,ht⟩
 refine zs ?_
 refine zc ?_ ?_<;>intro h
 .refine W.skip ?_
  have hlt:k<s.vers.length:=by omega
  have bad:¬(F9 s.vers[k]∧(k=s.vers.length-1→s.vers[k].gone=false))→¬Gw s:=fun g w=>g ⟨w.2.2.2.2.1 _ (List.getElem_mem hlt),fun e=>(KE _).1 w.2.2.2.2.2.1 k hlt e⟩
  refine zb ?_
  (repeat refine W.seq ?_);refine W.reg 1 rfl fun K hK=>?_;simp -implicitDefEqProofs (maxSteps:=999999) (disch:=omega) [hlt]
  refine zk ?_;clear hK K
  have fail:¬(F9 s.vers[k]∧(k=s.vers.length-1→s.vers[k].gone=false))→¬Gw s:=bad
  generalize hv:s.vers[k]=v at*
  by_cases d1:v.parent<0
  .refine Af d1 ?_;intro K hK
   refine zk ?_;clear hK K
   refine zt ?_
   refine zs ?_
   refine zr ?_
   exact bad fun g=>by have:=g.1.1;omega
  by_cases d2:v.parent<v.id
  rotate_left
  .refine Af (an d1 d2) ?_;intro K hK
   refine zk ?_;clear hK K
   refine zt ?_
   refine zs ?_
   refine zr ?_
   exact bad fun g=>d2 g.1.2.1
  cases d3:v.gone
  .cases d4:v.tag
   all_goals
    refine Af (an d1 (an d2 (an d3 d4))) ?_;intro K hK
    refine zk ?_;clear hK K
    refine zn ?_
    refine W.skip ?_
    refine zs ?_
    refine⟨k+1,by omega,⟨by omega,fun i hi hik=>?_⟩,Wk.cutM (k:=1) (by simp[Ad]) (by simp) (by simp) (by simp) (by simp) (by simp)⟩
    by_cases e:i=k
    .subst e;rw[hv];exact⟨⟨by omega,d2,by simp[d3]⟩,fun _=>d3⟩
    .exact ht i hi (by omega)
  .cases d4:v.tag
   .by_cases d5:k=s.vers.length-1
    .have d5' :(k:Int)=(s.vers.length:Int)-1:=by omega
     refine Af (an d1 (an d2 (an d3 (an d4 d5')))) ?_;intro K hK
     refine zk ?_;clear hK K
     refine zt ?_
     refine zs ?_
     refine zr ?_
     exact bad fun g=>by have:=g.2 d5;simp[d3] at this
    .have d5' :¬(k:Int)=(s.vers.length:Int)-1:=by omega
     refine Af (an d1 (an d2 (an d3 (an d4 d5')))) ?_;intro K hK
     refine zk ?_;clear hK K
     refine zn ?_
     refine W.skip ?_
     refine zs ?_
     refine⟨k+1,by omega,⟨by omega,fun i hi hik=>?_⟩,Wk.cutM (k:=1) (by simp[Ad]) (by simp) (by simp) (by simp) (by simp) (by simp)⟩
     by_cases e:i=k
     .subst e;rw[hv];exact⟨⟨by omega,d2,by simp[d4]⟩,fun e=>absurd e d5⟩
     .exact ht i hi (by omega)
   .refine Af (an d1 (an d2 (an d3 d4))) ?_;intro K hK
    refine zk ?_;clear hK K
    refine zt ?_
    refine zs ?_
    refine zr ?_
    exact bad fun g=>g.1.2.2 ⟨d4,d3⟩
 .refine W.exit ?_
  have hk' :k=s.vers.length:=by omega
  refine z0 ?_;intro K hK
  refine Ab.eq (MN s hs) (by simp) (by simp) ?_
  refine zx ?_
  refine Ab.eq (Ul (Aj s) hs.objs) (by simp) (by simp) ?_
  refine zx ?_
  refine zk ?_;clear hK K
  refine zr ?_
  constructor
  .intro hm
   exact⟨by omega,c2,by omega,c4,fun v hv=>by
    obtain⟨i,hi,rfl⟩:=List.mem_iff_getElem.1 hv
    exact(ht i hi (by omega)).1,(KE _).2 fun i hi e=>(ht i hi (by omega)).2 e,hm⟩
  .intro w;exact w.2.2.2.2.2.2
end Go.Abs
set_option maxRecDepth 100000
namespace Go.Abs
open Go.Proofs
def AK (xs:List Bool):List AV:=xs.map AV.bool
section
variable (xs ys:List Bool) (M:List Ah) (k:Nat)
@[simp] theorem cc (i:Nat):(AK xs)[i]?=(xs[i]?).map AV.bool:=by simp[AK]
@[simp] theorem cd:(AK xs).length=xs.length:=by simp[AK]
@[simp] theorem ce:AK []=[]:=rfl
@[simp] theorem bg:(AK xs).take k=AK (xs.take k):=by simp[AK,List.map_take]
@[simp] theorem bh:(AK xs).drop k=AK (xs.drop k):=by simp[AK,List.map_drop]
@[simp] theorem eu:EY (AK xs)=true:=by simp[AK,EY,-II]
@[simp] theorem eA:EZ (AK xs)=true:=by simp[AK,EZ,-Kp]
@[simp] theorem eB:DT (AK xs)=true:=by simp[AK,DT,-HC]
@[simp] theorem eC:Da k (AK xs)=true:=by induction xs<;>simp_all[AK]
@[simp] theorem cf:CY (AK xs)=true:=by induction xs<;>simp_all[AK]
@[simp] theorem cj:EX (AK xs)=AK xs:=by induction xs<;>simp_all[AK]
@[simp] theorem ck:(AK xs).map Em=AK xs:=by simp[AK]
@[simp] theorem cm:(AK xs).map (CE M k)=AK xs:=by cases k<;>simp[AK]
theorem Fg (i:Nat) (b:Bool):(AK xs).set i (.bool b)=AK (xs.set i b):=by simp[AK]
theorem MO (n:Nat) (b:Bool):Cs n [.bool b]=AK (List.replicate n b):=by
 unfold Cs AK
 induction n with
 |zero=>rfl
 |succ n ih=>simp[List.replicate_succ]
end
def Eu (l:List (Int×Int)) (i:Int):Bool:=l.any fun x=>decide (x.1≤i∧i<x.1+x.2)
def BI (l:List (Int×Int)) (n:Nat):List Bool:=(List.range n).map fun(j:Nat)=>Eu l (j:Int)
def CV (l:List (Int×Int)) (n:Nat) (a i:Int):List Bool:=(List.range n).map fun(j:Nat)=>Eu l (j:Int) ||decide (a≤(j:Int)∧(j:Int)<i)
@[simp] theorem MP (l:List (Int×Int)) (n:Nat):(BI l n).length=n:=by simp[BI]
@[simp] theorem Z7 (l:List (Int×Int)) (n:Nat):(BI l n).take n=BI l n:=List.take_of_length_le (by simp)
@[simp] theorem Z8 (l:List (Int×Int)) (n:Nat) (a i:Int):(CV l n a i).length=n:=by simp[CV]
theorem QD {l:List (Int×Int)} {n i:Nat} {a:Int} (hi:i<n):(CV l n a i)[i]'(by simpa using hi)=Eu l i:=by simp[CV]
theorem Oq (l:List (Int×Int)) (n:Nat) (a:Int):CV l n a a=BI l n:=by
 unfold CV BI
 refine List.map_congr_left fun j _=>?_
 have:decide (a≤(j:Int)∧(j:Int)<a)=false:=by simp
 rw[this,Bool.or_false]
theorem Lm (l:List (Int×Int)) (n:Nat) (x:Int×Int):CV l n x.1 (x.1+x.2)=BI (l++[x]) n:=by
 unfold CV BI
 refine List.map_congr_left fun j _=>?_
 simp[Eu]
theorem Ln (l:List (Int×Int)) (n i:Nat) (a:Int) (ha:a≤i) (hi:i<n):(CV l n a i).set i true=CV l n a ((i:Int)+1):=by
 refine List.ext_getElem (by simp[CV]) fun j h1 h2=>?_
 simp only[CV,List.length_map,List.length_range] at h2
 rw[List.getElem_set]
 by_cases e:i=j
 .subst e
  rw[if_pos rfl]
  simp[CV]
  right;omega
 .rw[if_neg e]
  simp only[CV,List.getElem_map,List.getElem_range]
  congr 1
  simp only[decide_eq_decide]
  omega
theorem JA {l:List (Int×Int)} {x:Int×Int} (hl:∀y∈l,1≤y.2) (hx:1≤x.2):(l++[x]).Pairwise apart↔l.Pairwise apart∧∀i,x.1≤i→i<x.1+x.2→Eu l i=false:=by
 rw[List.pairwise_append]
 simp only[List.pairwise_singleton,true_and,List.mem_singleton,forall_eq,Eu,List.any_eq_false,decide_eq_true_eq,apart]
 constructor
 .rintro⟨h1,h2⟩
  refine⟨h1,fun i a b y hy c=>?_⟩
  have:=h2 y hy
  omega
 .rintro⟨h1,h2⟩
  refine⟨h1,fun y hy c=>?_⟩
  have hy1:=hl y hy
  by_cases e:y.1≤x.1
  .exact h2 x.1 (by omega) (by omega) y hy (by omega)
  .exact h2 y.1 (by omega) (by omega) y hy (by omega)
def HL (l:List (Int×Int)) (n:Int):AV:=if Cl l n then .tup [.own 1 n.toNat (AK (BI l n.toNat)),.bool true] else .tup [.own 1 0 [],.bool false]
def KF (l:List (Int×Int)) (n:Int):Prop:=(∀x∈l,0≤x.1∧1≤x.2∧x.1+x.2≤n)∧l.Pairwise apart
theorem Ot {l:List (Int×Int)} {n:Int} {x:Int×Int}:KF (l++[x]) n↔KF l n∧(0≤x.1∧1≤x.2∧x.1+x.2≤n)∧∀i,x.1≤i→i<x.1+x.2→Eu l i=false:=by
 unfold KF
 constructor
 .rintro⟨h1,h2⟩
  have hx:=h1 x (by simp)
  have h3:=(JA (fun y hy=>(h1 y (by simp[hy])).2.1) hx.2.1).1 h2
  exact⟨⟨fun y hy=>h1 y (by simp[hy]),h3.1⟩,hx,h3.2⟩
 .rintro⟨⟨h1,h2⟩,hx,h3⟩
  refine⟨fun y hy=>?_,(JA (fun y hy=>(h1 y hy).2.1) hx.2.1).2 ⟨h2,h3⟩⟩
  rcases List.mem_append.1 hy with h|h
  .exact h1 y h
  .simp at h;subst h;exact hx
theorem Ur {l:List (Int×Int)} {n:Int} (k:Nat) (h:KF l n):KF (l.take k) n:=⟨fun x hx=>h.1 x (List.mem_of_mem_take hx),h.2.sublist (List.take_sublist _ _)⟩
theorem Rw (l:List (Int×Int)) (n:Int) (hl:l.length<1000000000):Aa pg 121 [.ro l.length (Ac As l),.int .i64 n] [] (fun r _=>r=HL l n):=by
 refine Aa.start (fn:=Tryz.f121) [.tmp 4,.tmp 5] tk rfl rfl rfl (by kernel_rfl) (Nat.le_of_ble_eq_true rfl) rfl (by kernel_rfl) ?_
 rw[At]
 refine zs ?_
 refine z0 ?_;intro K hK
 refine Ab.eq (Qf n) (by simp) (by simp) ?_
 by_cases c1:1≤n∧n≤100
 rotate_left
 .rw[decide_eq_false c1]
  refine zx ?_
  refine zk ?_;clear hK K
  refine zt ?_
  refine zs ?_
  refine zr ?_
  rw[HL,if_neg (fun g=>c1 ⟨g.1,g.2.1⟩)]
 rw[decide_eq_true c1]
 by_cases c2:l.length≤13
 rotate_left
 .refine AM c2 ?_
  refine zk ?_;clear hK K
  refine zt ?_
  refine zs ?_
  refine zr ?_
  rw[HL,if_neg (fun g=>c2 g.2.2.1)]
 refine AM c2 ?_
 refine zk ?_;clear hK K
 refine zn ?_
 refine W.skip ?_
 refine z1 ?_;intro K hK
 refine⟨by omega,by omega,by show n≤(9223372036854775807:Int);omega,?_⟩
 refine zk ?_;clear hK K
 have e0:Cs n.toNat [.bool false]=AK (BI (l.take 0) n.toNat):=by
  rw[MO];congr 1
  exact List.ext_getElem (by simp[BI]) fun j _ _=>by simp[BI,Eu]
 rw[e0]
 refine zs ?_
 (repeat refine W.seq ?_);refine W.block (W.loopS (fun k:Nat=> [(0,.ro l.length (Ac As l)),(1,.int .i64 n),(6,.tok 0 0 1 0 n.toNat),(20,.ro l.length (Ac As l)),(21,.int .i64 l.length),(22,.int .i64 k)]) (fun k=> [.live 0 (AK (BI (l.take k) n.toNat))]) (fun k=>l.length-k) (fun k=>k≤l.length∧KF (l.take k) n) 0 (Wk.fr (by simp[Ad])) ⟨by omega,by simp[KF]⟩ ?_)
 rintro k ⟨hk,hok⟩
 refine zs ?_
 refine zc ?_ ?_<;>intro h
 .refine W.skip ?_
  have hlt:k<l.length:=by omega
  have hto:l.take (k+1)=l.take k++[l[k]]:=by rw[List.take_add_one];simp[hlt]
  have bad:¬KF (l.take k++[l[k]]) n→HL l n= .tup [.own 1 0 [],.bool false]:=fun g=>by
   rw[HL,if_neg]
   intro w
   rw[←hto] at g
   exact g (Ur (k+1) ⟨w.2.2.2.1,w.2.2.2.2⟩)
  rw[Ot] at bad
  refine zb ?_
  (repeat refine W.seq ?_);refine W.reg 1 rfl fun K hK=>?_;simp -implicitDefEqProofs (maxSteps:=999999) (disch:=omega) [hlt]
  refine zk ?_;clear hK K
  generalize hv:l[k]=x at*
  obtain⟨x1,x2⟩:=x
  simp only at bad
  by_cases d1:x2<1
  .refine Af d1 ?_;intro K hK
   refine zk ?_;clear hK K
   refine zt ?_
   refine zs ?_
   refine zr ?_
   rw[bad (by omega)]
  by_cases d2:x1<0
  .refine Af (an d1 d2) ?_;intro K hK
   refine zk ?_;clear hK K
   refine zt ?_
   refine zs ?_
   refine zr ?_
   rw[bad (by omega)]
  by_cases d3:n≤x1
  .refine Af (an d1 (an d2 d3)) ?_;intro K hK
   refine zk ?_;clear hK K
   refine zt ?_
   refine zs ?_
   refine zr ?_
   rw[bad (by omega)]
  by_cases d4:x2≤n-x1
  rotate_left
  .refine Af (an d1 (an d2 (an d3 d4))) ?_;intro K hK
   refine zk ?_;clear hK K
   refine zt ?_
   refine zs ?_
   refine zr ?_
   rw[bad (by omega)]
  refine Af (an d1 (an d2 (an d3 d4))) ?_;intro K hK
  refine zk ?_;clear hK K
  refine zn ?_
  refine W.skip ?_
  refine zs ?_
  obtain⟨b,rfl⟩:=Int.eq_ofNat_of_zero_le (by omega:0≤x1)
  obtain⟨e,rfl⟩:=Int.eq_ofNat_of_zero_le (by omega:0≤x2)
  rw[←Oq _ _ (b:Int)]
  (repeat refine W.seq ?_);refine W.block (W.loopS (fun i:Nat=> [(0,.ro l.length (Ac As l)),(1,.int .i64 n),(6,.tok 0 0 1 0 n.toNat),(8,.ptr 1 0 0),(9,.int .i64 i),(20,.ro l.length (Ac As l)),(21,.int .i64 l.length),(22,.int .i64 k)]) (fun i=> [.live 0 (AK (CV (l.take k) n.toNat b i)),.live 0 [.int .i64 b,.int .i64 e]]) (fun i=>b+e-i) (fun i=>b≤i∧i≤b+e∧∀j:Int,b≤j→j<i→Eu (l.take k) j=false) b (Wk.fr (by simp[Ad])) ⟨by omega,by omega,fun j h1 h2=>by omega⟩ ?_)
  rintro i ⟨hb,hi,hf⟩
  refine zs ?_
  refine zc ?_ ?_<;>intro h
  .refine W.skip ?_
   have hin:i<n.toNat:=by omega
   refine zb ?_
   have hget:(CV (List.take k l) n.toNat (b:Int) (i:Int))[i]?=some (Eu (l.take k) i):=by rw[List.getElem?_eq_getElem (by simpa using hin),QD hin]
   cases ht:Eu (l.take k) i
   .rw[ht] at hget
    refine Af (an hin hget) ?_;intro K hK
    refine⟨by omega,?_⟩
    refine zk ?_;clear hK K
    refine zn ?_
    refine W.skip ?_
    refine Af (an hin Fg) ?_;intro K hK
    refine⟨by omega,?_⟩
    refine zk ?_;clear hK K
    refine zs ?_
    refine⟨i+1,by omega,⟨by omega,by omega,fun j h1 h2=>?_⟩,?_⟩
    .by_cases e:j=i
     .subst e;exact ht
     .exact hf j h1 (by omega)
    .rw[Ln _ _ _ _ (by omega) hin]
     exact Wk.fr (by simp[Ad])
   .rw[ht] at hget
    refine Af (an hin hget) ?_;intro K hK
    refine⟨by omega,?_⟩
    refine zk ?_;clear hK K
    refine zt ?_
    refine zs ?_
    refine zr ?_
    rw[bad (fun g=>by have:=g.2.2 i (by omega) (by omega);rw[ht] at this;cases this)]
  .refine W.exit ?_
   have hie:i=b+e:=by omega
   subst hie
   refine zs ?_
   refine⟨k+1,by omega,⟨by omega,?_⟩,?_⟩
   .rw[hto,Ot]
    exact⟨hok,⟨by omega,by omega,by omega⟩,fun j h1 h2=>hf j h1 (by simpa using h2)⟩
   .rw[hto]
    have e2:=Lm (l.take k) n.toNat ((b:Int),(e:Int))
    simp only at e2
    rw[e2]
    exact Wk.cutM (k:=1) (by simp[Ad]) (by simp) (by simp) (by simp) (by simp) (by simp)
 .refine W.exit ?_
  have hk' :k=l.length:=by omega
  subst hk'
  rw[List.take_length] at hok
  have e:HL l n= .tup [.own 1 n.toNat (AK (BI l n.toNat)),.bool true]:=by rw[HL,if_pos ⟨c1.1,c1.2,c2,hok.1,hok.2⟩]
  have e2:l.take l.length=l:=List.take_length
  rw[e2]
  refine zs ?_
  refine zr ?_
  rw[e]
end Go.Abs
set_option maxRecDepth 100000
namespace Go.Abs
open Go.Proofs
theorem ZZ (l:List (Int×Int)) (n:Int) (hl:l.length<1000000000):Aa pg 115 [.ro l.length (Ac As l),.int .i64 n] [] (fun r _=>r= .bool (decide (Cl l n))):=by
 have sp:=Rw l n hl
 refine Aa.start (fn:=Tryz.f115) [.tmp 4] tk rfl rfl rfl (by kernel_rfl) (Nat.le_of_ble_eq_true rfl) rfl (by kernel_rfl) ?_
 rw[At]
 refine zs ?_
 refine z0 ?_;intro K hK
 by_cases h:Cl l n
 .rw[HL,if_pos h] at sp
  refine Ab.eq sp (by simp) (by simp) ?_
  refine zx ?_
  refine zk ?_;clear hK K
  refine zs ?_
  refine zr ?_
  simp[h]
 .rw[HL,if_neg h] at sp
  refine Ab.eq sp (by simp) (by simp) ?_
  refine zx ?_
  refine zk ?_;clear hK K
  refine zs ?_
  refine zr ?_
  simp[h]
theorem JJ (xs:List CG) (f:Nat) (caps:List AV) (p:CG→Bool) (hx:xs.length<1000000000000) (hf:∀x∈xs,Aa pg f ([.agg ((Aq false) x)]++caps) [] fun r _=>r= .bool (p x)) (hcv:∀M,caps.map (vw M)=caps) (hcc:∀M k,caps.map (CE M k)=caps):
 Aa pg 155 [.ro xs.length (Ac (Aq false) xs),.fn f caps] [] (fun r _=>r= .bool (xs.any p)):=by
 refine Aa.start (fn:=Tryz.f155) [.tmp 4] tk rfl rfl rfl (by kernel_rfl) (Nat.le_of_ble_eq_true rfl) rfl (by kernel_rfl) ?_
 rw[At]
 refine zs ?_
 refine z0 ?_;intro K hK
 refine Ab.eq (SH xs f caps p hx hf hcv) (by simp[hcc]) (by simp) ?_
 refine zx ?_
 refine zk ?_;clear hK K
 refine zr ?_
 rw[Bool.eq_iff_iff]
 simp[CJ]
theorem Us (x:CG) (id:Int):Aa pg 159 ([.agg (Aq false x)]++[.rptr [.int .i64 id]]) [] (fun r _=>r= .bool (decide (x.pin=id))):=by
 refine Aa.start (fn:=Tryz.f159) [.tmp 3] tk rfl rfl rfl (by kernel_rfl) (Nat.le_of_ble_eq_true rfl) rfl (by kernel_rfl) ?_
 simp only[List.cons_append,List.nil_append]
 rw[At]
 refine z1 ?_;intro K hK;refine zk ?_;clear hK K
 refine zs ?_
 exact zR
def pinned (s:Ax) (id:Int):Bool:=s.sess.any fun x=>decide (x.pin=id)
theorem LK (s:Ax) (id:Int) (hs:AS s):Aa pg 117 [.agg (An false s),.int .i64 id] [] (fun r _=>r= .bool (pinned s id)):=by
 have h1:=hs.2.1
 refine Aa.start (fn:=Tryz.f117) [.tmp 4] tk rfl rfl rfl (by kernel_rfl) (Nat.le_of_ble_eq_true rfl) rfl (by kernel_rfl) ?_
 rw[At]
 refine z2 ?_;intro K hK;refine zk ?_;clear hK K
 refine z0 ?_;intro K hK
 refine Ab.eq (JJ s.sess 159 [.rptr [.int .i64 id]] (fun x=>decide (x.pin=id)) (by omega) (fun x _=>Us x id) (by simp) (by simp)) (by simp) (by simp) ?_
 refine zx ?_
 refine zk ?_;clear hK K
 refine zr ?_
 rfl
def C8 (l:List Bg):List Int:=(l.filter fun v=> !v.gone).map Bg.id
theorem MQ {l:List Bg} {k:Nat} (hk:k<l.length):C8 (l.take (k+1))=C8 (l.take k)++if l[k].gone=true then [] else [l[k].id]:=by
 rw[List.take_add_one,C8,List.filter_append,List.map_append]
 simp only[List.getElem?_eq_getElem hk,Option.toList_some]
 cases h:l[k].gone<;>simp[C8,h]
theorem If (l:List Bg):(C8 l).length≤l.length:=by
 simp only[C8,List.length_map];exact List.length_filter_le _ _
theorem Z0 (s:Ax) (hs:AS s):Aa pg 74 [.agg (An false s)] [] (fun r _=>r= .own 1 (C8 s.vers).length (Ae (C8 s.vers))):=by
 have h1:=hs.1
 refine Aa.start (fn:=Tryz.f74) [.tmp 2] tk rfl rfl rfl (by kernel_rfl) (Nat.le_of_ble_eq_true rfl) rfl (by kernel_rfl) ?_
 rw[Av]
 refine z1 ?_;intro K hK;refine zk ?_;clear hK K
 refine zs ?_
 (repeat refine W.seq ?_);refine W.block (W.loopS (fun s2:Nat×List Int=> [(2,.tok 1 s2.2.length 1 0 s2.2.length),(6,Hb false s.vers),(7,.int .i64 s.vers.length),(8,.int .i64 s2.1)]) (fun s2=> [.live 0 (An false s),.live s2.2.length (Ae s2.2)]) (fun s2=>s.vers.length-s2.1) (fun s2=>s2.1≤s.vers.length∧s2.2=C8 (s.vers.take s2.1)) (0,[]) ((Wk.nil (t:=2) (s:=1) ?_).trans (Wk.fr ?_)) (by simp[C8]) ?_)
 .simp
 .simp[Ad]
 .rintro⟨k,acc⟩ ⟨hk,hacc⟩
  simp only at hk hacc
  have hal:acc.length≤k:=by rw[hacc];exact Nat.le_trans (If _) (by simp;omega)
  refine zs ?_
  refine zc ?_ ?_<;>intro h
  .refine W.skip ?_
   have hlt:k<s.vers.length:=by omega
   have hst:=MQ hlt
   refine zb ?_
   (repeat refine W.seq ?_);refine W.reg 1 rfl fun K hK=>?_;simp -implicitDefEqProofs (maxSteps:=999999) (disch:=omega) [hlt]
   refine zk ?_;clear hK K
   cases hg:s.vers[k].gone
   .rw[hg] at hst
    refine Af hg ?_;intro K hK
    refine zk ?_;clear hK K
    refine zt ?_
    refine z1 ?_;intro K hK
    refine⟨by omega,by omega,?_⟩
    refine zk ?_;clear hK K
    refine zs ?_
    refine⟨(k+1,acc++[s.vers[k].id]),by simp;omega,⟨by simp;omega,?_⟩,Wk.cutM (k:=2) (by simp[Ad]) ?_ (by simp) (by simp) (by simp) (by simp)⟩
    .simp only;rw[hst,hacc];simp
    .simp[BT,Ae]
   .rw[hg] at hst
    refine Af hg ?_;intro K hK
    refine zk ?_;clear hK K
    refine zn ?_
    refine W.skip ?_
    refine zs ?_
    refine⟨(k+1,acc),by simp;omega,⟨by simp;omega,?_⟩,Wk.cutM (k:=2) (by simp[Ad]) (by simp) (by simp) (by simp) (by simp) (by simp)⟩
    simp only;rw[hst,hacc];simp
  .refine W.exit ?_
   have hk' :k=s.vers.length:=by omega
   subst hk'
   rw[List.take_length] at hacc
   subst hacc
   refine zs ?_
   exact zR
def MR (s:Ax):List Int:=(C8 s.vers).drop (max 0 (((C8 s.vers).length:Int)-s.keep)).toNat
def Gd (s:Ax) (v:Bg):Bool:=v.tag|| (MR s).contains v.id||pinned s v.id
def Dv (s:Ax) (want:Bool) (l:List Bg):List Int:=(l.filter fun v=>Gd s v==want).map Bg.id
def C7 (s:Ax) (want:Bool):List Int:=Dv s want s.vers
theorem HM {s:Ax} {want:Bool} {l:List Bg} {k:Nat} (hk:k<l.length):Dv s want (l.take (k+1))=Dv s want (l.take k)++if (Gd s l[k]==want)=true then [l[k].id] else []:=by
 rw[List.take_add_one,Dv,List.filter_append,List.map_append]
 simp only[List.getElem?_eq_getElem hk,Option.toList_some]
 cases h:Gd s l[k]==want<;>simp[Dv,h]
theorem Fy (s:Ax) (want:Bool) (l:List Bg):(Dv s want l).length≤l.length:=by
 simp only[Dv,List.length_map];exact List.length_filter_le _ _
theorem V7 (s:Ax) (want:Bool) (hs:AS s) (hk0:0≤s.keep∧s.keep≤1000000):Aa pg 73 [.agg (An false s),.bool want] [] (fun r _=>r= .own 1 (C7 s want).length (Ae (C7 s want))):=by
 have h1:=hs.1
 have hsl:=If s.vers
 obtain⟨m,hm⟩:∃m:Nat,max 0 (((C8 s.vers).length:Int)-s.keep)=(m:Int):=⟨_,(Int.toNat_of_nonneg (by omega)).symm⟩
 have hml:m≤(C8 s.vers).length:=by omega
 have hla:MR s=(C8 s.vers).drop m:=by rw[MR,hm];rfl
 refine Aa.start (fn:=Tryz.f73) [.tmp 4] tk rfl rfl rfl (by kernel_rfl) (Nat.le_of_ble_eq_true rfl) rfl (by kernel_rfl) ?_
 rw[At]
 refine z1 ?_;intro K hK;refine zk ?_;clear hK K
 refine z0 ?_;intro K hK
 refine Ab.eq (Z0 s hs) (by simp) (by simp) ?_
 refine zx ?_
 refine zk ?_;clear hK K
 generalize C8 s.vers=seen at*
 by_cases hlk:s.keep<(seen.length:Int)
 .have em:(seen.length:Int)-s.keep=m:=by omega
  have hm0:0<m:=by omega
  refine Af (an em (an hlk hm0)) ?_;intro K hK
  refine zk ?_;clear hK K
  refine zs ?_
  (repeat refine W.seq ?_);refine W.block (W.loopS (fun s2:Nat×List Int=> [(1,.bool want),(2,.ptr 0 0 0),(4,.tok 2 s2.2.length 1 0 s2.2.length),(5,.tok 1 0 1 m (seen.length-m)),(19,Hb false s.vers),(20,.int .i64 s.vers.length),(21,.int .i64 s2.1)]) (fun s2=> [.live 0 (An false s),.live 0 (Ae seen),.live s2.2.length (Ae s2.2)]) (fun s2=>s.vers.length-s2.1) (fun s2=>s2.1≤s.vers.length∧s2.2=Dv s want (s.vers.take s2.1)) (0,[]) ((Wk.nil (t:=4) (s:=1) (by simp)).trans (Wk.fr (by simp[Ad,em]))) (by simp[Dv]) ?_)
  rintro⟨k,acc⟩ ⟨hk,hacc⟩
  simp only at hk hacc
  have hal:acc.length≤k:=by rw[hacc];exact Nat.le_trans (Fy _ _ _) (by simp;omega)
  refine zs ?_
  refine zc ?_ ?_<;>intro h
  .refine W.skip ?_
   have hlt:k<s.vers.length:=by omega
   have hst:=HM (s:=s) (want:=want) hlt
   refine zb ?_
   (repeat refine W.seq ?_);refine W.reg 1 rfl fun K hK=>?_;simp -implicitDefEqProofs (maxSteps:=999999) (disch:=omega) [hlt]
   refine zk ?_;clear hK K
   generalize hv:s.vers[k]=v at*
   have hkb:Gd s v=(v.tag|| (seen.drop m).contains v.id||pinned s v.id):=by rw[Gd,hla]
   cases ht:v.tag
   .refine Af ht ?_;intro K hK
    refine Ab.eq (Gb (seen.drop m) v.id (by simp;omega)) (by simp(disch:=omega);rw[List.take_of_length_le (by simp)]) (by simp) ?_
    cases hc:(seen.drop m).contains v.id
    .refine zx ?_
     refine Ab.eq (LK s v.id hs) (by simp) (by simp) ?_
     refine zx ?_
     refine zk ?_;clear hK K
     refine zc ?_ ?_<;>intro h
     .refine z1 ?_;intro K hK
      refine⟨by omega,by omega,?_⟩
      refine zk ?_;clear hK K
      refine zs ?_
      refine⟨(k+1,acc++[v.id]),by simp;omega,⟨by simp;omega,?_⟩,Wk.cutM (k:=3) (by simp[Ad]) ?_ (by simp) (by simp) (by simp) (by simp)⟩
      .simp only;rw[hst,hacc,hkb,ht,hc];simp[h]
      .simp[BT,Ae]
     .refine W.skip ?_
      refine zs ?_
      refine⟨(k+1,acc),by simp;omega,⟨by simp;omega,?_⟩,Wk.cutM (k:=3) (by simp[Ad]) (by simp) (by simp) (by simp) (by simp) (by simp)⟩
      simp only;rw[hst,hacc,hkb,ht,hc];simp[h]
    .refine zx ?_
     refine zk ?_;clear hK K
     refine zc ?_ ?_<;>intro h
     .refine z1 ?_;intro K hK
      refine⟨by omega,by omega,?_⟩
      refine zk ?_;clear hK K
      refine zs ?_
      refine⟨(k+1,acc++[v.id]),by simp;omega,⟨by simp;omega,?_⟩,Wk.cutM (k:=3) (by simp[Ad]) ?_ (by simp) (by simp) (by simp) (by simp)⟩
      .simp only;rw[hst,hacc,hkb,ht,hc];simp[h]
      .simp[BT,Ae]
     .refine W.skip ?_
      refine zs ?_
      refine⟨(k+1,acc),by simp;omega,⟨by simp;omega,?_⟩,Wk.cutM (k:=3) (by simp[Ad]) (by simp) (by simp) (by simp) (by simp) (by simp)⟩
      simp only;rw[hst,hacc,hkb,ht,hc];simp[h]
   .refine Af ht ?_;intro K hK
    refine zk ?_;clear hK K
    refine zc ?_ ?_<;>intro h
    .refine z1 ?_;intro K hK
     refine⟨by omega,by omega,?_⟩
     refine zk ?_;clear hK K
     refine zs ?_
     refine⟨(k+1,acc++[v.id]),by simp;omega,⟨by simp;omega,?_⟩,Wk.cutM (k:=3) (by simp[Ad]) ?_ (by simp) (by simp) (by simp) (by simp)⟩
     .simp only;rw[hst,hacc,hkb,ht];simp[h]
     .simp[BT,Ae]
    .refine W.skip ?_
     refine zs ?_
     refine⟨(k+1,acc),by simp;omega,⟨by simp;omega,?_⟩,Wk.cutM (k:=3) (by simp[Ad]) (by simp) (by simp) (by simp) (by simp) (by simp)⟩
     simp only;rw[hst,hacc,hkb,ht];simp[h]
  .refine W.exit ?_
   have hk' :k=s.vers.length:=by omega
   subst hk'
   rw[List.take_length] at hacc
   have e:C7 s want=acc:=hacc.symm
   rw[e]
   refine zs ?_
   exact zR
 .have em:m=0:=by omega
  refine Af hlk ?_;intro K hK
  refine zk ?_;clear hK K
  refine zs ?_
  (repeat refine W.seq ?_);refine W.block (W.loopS (fun s2:Nat×List Int=> [(1,.bool want),(2,.ptr 0 0 0),(4,.tok 2 s2.2.length 1 0 s2.2.length),(5,.tok 1 0 1 m (seen.length-m)),(19,Hb false s.vers),(20,.int .i64 s.vers.length),(21,.int .i64 s2.1)]) (fun s2=> [.live 0 (An false s),.live 0 (Ae seen),.live s2.2.length (Ae s2.2)]) (fun s2=>s.vers.length-s2.1) (fun s2=>s2.1≤s.vers.length∧s2.2=Dv s want (s.vers.take s2.1)) (0,[]) ((Wk.nil (t:=4) (s:=1) (by simp)).trans (Wk.fr (by simp[Ad,em]))) (by simp[Dv]) ?_)
  rintro⟨k,acc⟩ ⟨hk,hacc⟩
  simp only at hk hacc
  have hal:acc.length≤k:=by rw[hacc];exact Nat.le_trans (Fy _ _ _) (by simp;omega)
  refine zs ?_
  refine zc ?_ ?_<;>intro h
  .refine W.skip ?_
   have hlt:k<s.vers.length:=by omega
   have hst:=HM (s:=s) (want:=want) hlt
   refine zb ?_
   (repeat refine W.seq ?_);refine W.reg 1 rfl fun K hK=>?_;simp -implicitDefEqProofs (maxSteps:=999999) (disch:=omega) [hlt]
   refine zk ?_;clear hK K
   generalize hv:s.vers[k]=v at*
   have hkb:Gd s v=(v.tag|| (seen.drop m).contains v.id||pinned s v.id):=by rw[Gd,hla]
   cases ht:v.tag
   .refine Af ht ?_;intro K hK
    refine Ab.eq (Gb (seen.drop m) v.id (by simp;omega)) (by simp(disch:=omega);rw[List.take_of_length_le (by simp)]) (by simp) ?_
    cases hc:(seen.drop m).contains v.id
    .refine zx ?_
     refine Ab.eq (LK s v.id hs) (by simp) (by simp) ?_
     refine zx ?_
     refine zk ?_;clear hK K
     refine zc ?_ ?_<;>intro h
     .refine z1 ?_;intro K hK
      refine⟨by omega,by omega,?_⟩
      refine zk ?_;clear hK K
      refine zs ?_
      refine⟨(k+1,acc++[v.id]),by simp;omega,⟨by simp;omega,?_⟩,Wk.cutM (k:=3) (by simp[Ad]) ?_ (by simp) (by simp) (by simp) (by simp)⟩
      .simp only;rw[hst,hacc,hkb,ht,hc];simp[h]
      .simp[BT,Ae]
     .refine W.skip ?_
      refine zs ?_
      refine⟨(k+1,acc),by simp;omega,⟨by simp;omega,?_⟩,Wk.cutM (k:=3) (by simp[Ad]) (by simp) (by simp) (by simp) (by simp) (by simp)⟩
      simp only;rw[hst,hacc,hkb,ht,hc];simp[h]
    .refine zx ?_
     refine zk ?_;clear hK K
     refine zc ?_ ?_<;>intro h
     .refine z1 ?_;intro K hK
      refine⟨by omega,by omega,?_⟩
      refine zk ?_;clear hK K
      refine zs ?_
      refine⟨(k+1,acc++[v.id]),by simp;omega,⟨by simp;omega,?_⟩,Wk.cutM (k:=3) (by simp[Ad]) ?_ (by simp) (by simp) (by simp) (by simp)⟩
      .simp only;rw[hst,hacc,hkb,ht,hc];simp[h]
      .simp[BT,Ae]
     .refine W.skip ?_
      refine zs ?_
      refine⟨(k+1,acc),by simp;omega,⟨by simp;omega,?_⟩,Wk.cutM (k:=3) (by simp[Ad]) (by simp) (by simp) (by simp) (by simp) (by simp)⟩
      simp only;rw[hst,hacc,hkb,ht,hc];simp[h]
   .refine Af ht ?_;intro K hK
    refine zk ?_;clear hK K
    refine zc ?_ ?_<;>intro h
    .refine z1 ?_;intro K hK
     refine⟨by omega,by omega,?_⟩
     refine zk ?_;clear hK K
     refine zs ?_
     refine⟨(k+1,acc++[v.id]),by simp;omega,⟨by simp;omega,?_⟩,Wk.cutM (k:=3) (by simp[Ad]) ?_ (by simp) (by simp) (by simp) (by simp)⟩
     .simp only;rw[hst,hacc,hkb,ht];simp[h]
     .simp[BT,Ae]
    .refine W.skip ?_
     refine zs ?_
     refine⟨(k+1,acc),by simp;omega,⟨by simp;omega,?_⟩,Wk.cutM (k:=3) (by simp[Ad]) (by simp) (by simp) (by simp) (by simp) (by simp)⟩
     simp only;rw[hst,hacc,hkb,ht];simp[h]
  .refine W.exit ?_
   have hk' :k=s.vers.length:=by omega
   subst hk'
   rw[List.take_length] at hacc
   have e:C7 s want=acc:=hacc.symm
   rw[e]
   refine zs ?_
   exact zR
end Go.Abs
set_option maxRecDepth 100000
namespace Go.Abs
open Go.Proofs
theorem Ig (n m:Int):Aa pg 62 [.int .i64 n,.int .i64 m] [] (fun r _=>r= .bool (decide (0≤n∧n≤m))):=by
 refine Aa.start (fn:=Tryz.f62) [.tmp 4] tk rfl rfl rfl (by kernel_rfl) (Nat.le_of_ble_eq_true rfl) rfl (by kernel_rfl) ?_
 rw[At]
 refine zs ?_
 by_cases h1:0≤n
 .refine Af h1 ?_;intro K hK
  refine zk ?_;clear hK K
  exact zR
 .refine Af h1 ?_;intro K hK
  refine zk ?_;clear hK K
  exact zR
theorem Ez (n a b:Int):Aa pg 42 [.int .i64 n,.int .i64 a,.int .i64 b] [] (fun r _=>r= .bool (decide (a≤n∧n≤b))):=by
 refine Aa.start (fn:=Tryz.f42) [.tmp 6] tk rfl rfl rfl (by kernel_rfl) (Nat.le_of_ble_eq_true rfl) rfl (by kernel_rfl) ?_
 rw[Bd]
 refine zs ?_
 by_cases h1:a≤n
 . (repeat refine W.seq ?_);refine W.reg 0 rfl fun K hK=>?_;simp -implicitDefEqProofs (maxSteps:=999999) (disch:=omega) [h1]
   refine zk ?_;clear hK K
   refine W.ret ?_;simp only[CF,Dl,CT];refine CN (d:=0) ?_;simp -implicitDefEqProofs (maxSteps:=999999) (disch:=omega)
   try simp[h1]
 . (repeat refine W.seq ?_);refine W.reg 0 rfl fun K hK=>?_;simp -implicitDefEqProofs (maxSteps:=999999) (disch:=omega) [h1]
   refine zk ?_;clear hK K
   refine W.ret ?_;simp only[CF,Dl,CT];refine CN (d:=0) ?_;simp -implicitDefEqProofs (maxSteps:=999999) (disch:=omega)
   try simp[h1]
theorem SL (xs:List Int) (x:Int) (hx:xs.length<4611686018427387904):Aa pg 18 [.ro xs.length (Ae xs),.int .i64 x] [] (fun r _=>r= .int .i64 (AG (fun y=>decide (y=x)) xs)):=by
 refine Aa.start (fn:=Tryz.f18) [.tmp 4] tk rfl rfl rfl (by kernel_rfl) (Nat.le_of_ble_eq_true rfl) rfl (by kernel_rfl) ?_
 rw[At]
 refine zs ?_
 refine zs ?_
 (repeat refine W.seq ?_);refine W.block (W.loopS (fun k:Nat=> [(0,.ro xs.length (Ae xs)),(1,.int .i64 x),(5,.int .i64 k)]) (fun _=> []) (fun k=>xs.length-k) (fun k=>k≤xs.length∧∀i (h:i<xs.length),i<k→xs[i]≠x) 0 (Wk.fr ?_) (by simp) ?_)
 .simp[Ad]
 .rintro k ⟨hk,ht⟩
  refine zs ?_
  refine zc ?_ ?_<;>intro h
  .refine W.skip ?_
   refine zb ?_
   refine zs ?_
   refine zc ?_ ?_<;>intro h
   .refine zs ?_
    refine zr ?_
    exact(DB (by omega) (by simp[h]) fun i hi hik=>by simpa using ht i hi hik).symm
   .refine W.skip ?_
    refine zs ?_
    refine⟨k+1,by omega,⟨by omega,?_⟩,Wk.fr (by simp[Ad])⟩
    intro i hi hik
    by_cases e:i=k
    .subst e;exact fun e=>h e
    .exact ht i hi (by omega)
  .refine W.exit ?_
   refine zs ?_
   refine zr ?_
   exact(Ey fun i hi=>by simpa using ht i hi (by omega)).symm
theorem GT (a b:Gr) (ha:FF a):Aa pg 38 [.agg (A2 false a),.agg (A2 false b)] [] (fun r _=>r= .bool (decide (a=b))):=by
 have e0:(a=b)↔a.n=b.n∧a.out=b.out:=Gr.ext_iff
 have h1:=ha.1
 refine Aa.start (fn:=Tryz.f38) [.tmp 4] tk rfl rfl rfl (by kernel_rfl) (Nat.le_of_ble_eq_true rfl) rfl (by kernel_rfl) ?_
 rw[At]
 refine z2 ?_;intro K hK;refine zk ?_;clear hK K
 by_cases h1:a.n=b.n
 .refine Af h1 ?_;intro K hK
  refine Ab.eq (Kw a.out b.out (by omega) (fun r hr=>by have:=ha.2 r hr;omega)) (by simp) (by simp) ?_
  refine zx ?_
  refine zk ?_;clear hK K
  refine zr ?_
  simp[e0,h1]
 .refine Af h1 ?_;intro K hK
  refine zk ?_;clear hK K
  refine zr ?_
  simp[e0,h1]
def MT (j:Cq):Prop:=j.list.length<1000000000∧j.out.length<1000000000
theorem Hj (a b:Cq) (ha:MT a):Aa pg 110 [.agg (B2 false a),.agg (B2 false b)] [] (fun r _=>r= .bool (decide (a=b))):=by
 have e0:(a=b)↔a.kind=b.kind∧a.a=b.a∧a.at_=b.at_∧a.move=b.move∧a.list=b.list∧a.out=b.out:=Cq.ext_iff
 have hl1:=ha.1
 have hl2:=ha.2
 refine Aa.start (fn:=Tryz.f110) [.tmp 4] tk rfl rfl rfl (by kernel_rfl) (Nat.le_of_ble_eq_true rfl) rfl (by kernel_rfl) ?_
 rw[At]
 refine z2 ?_;intro K hK;refine zk ?_;clear hK K
 by_cases h1:a.kind=b.kind
 .by_cases h2:a.a=b.a
  .by_cases h3:a.at_=b.at_
   .by_cases h4:a.move=b.move
    .refine Af (an h1 (an h2 (an h3 h4))) ?_;intro K hK
     refine Ab.eq (Er a.list b.list (by omega)) (by simp) (by simp) ?_
     by_cases h5:a.list=b.list
     .rw[decide_eq_true h5]
      refine zx ?_
      refine Ab.eq (Er a.out b.out (by omega)) (by simp) (by simp) ?_
      refine zx ?_
      refine zk ?_;clear hK K
      refine zr ?_
      simp[e0,h1,h2,h3,h4,h5]
     .rw[decide_eq_false h5]
      refine zx ?_
      refine zk ?_;clear hK K
      refine zr ?_
      simp[e0,h5]
    .refine Af (an h1 (an h2 (an h3 h4))) ?_;intro K hK
     refine zk ?_;clear hK K
     refine zr ?_
     simp[e0,h4]
   .refine Af (an h1 (an h2 h3)) ?_;intro K hK
    refine zk ?_;clear hK K
    refine zr ?_
    simp[e0,h3]
  .refine Af (an h1 h2) ?_;intro K hK
   refine zk ?_;clear hK K
   refine zr ?_
   simp[e0,h2]
 .refine Af h1 ?_;intro K hK
  refine zk ?_;clear hK K
  refine zr ?_
  simp[e0,h1]
def D8 (s:CG):Prop:=FF s.stage∧MT s.job
theorem Lo (a b:CG) (ha:D8 a):Aa pg 97 [.agg (Aq false a),.agg (Aq false b)] [] (fun r _=>r= .bool (decide (a=b))):=by
 have e0:(a=b)↔a.opn=b.opn∧a.pin=b.pin∧a.on=b.on∧a.frm=b.frm∧a.stage=b.stage∧a.job=b.job:=CG.ext_iff
 refine Aa.start (fn:=Tryz.f97) [.tmp 4] tk rfl rfl rfl (by kernel_rfl) (Nat.le_of_ble_eq_true rfl) rfl (by kernel_rfl) ?_
 rw[At]
 refine z2 ?_;intro K hK;refine zk ?_;clear hK K
 by_cases h1:a.opn=b.opn
 .by_cases h2:a.pin=b.pin
  .by_cases h3:a.on=b.on
   .by_cases h4:a.frm=b.frm
    .refine Af (an h1 (an h2 (an h3 h4))) ?_;intro K hK
     refine Ab.eq (GT a.stage b.stage ha.1) (by simp) (by simp) ?_
     by_cases h5:a.stage=b.stage
     .rw[decide_eq_true h5]
      refine zx ?_
      refine Ab.eq (Hj a.job b.job ha.2) (by simp) (by simp) ?_
      refine zx ?_
      refine zk ?_;clear hK K
      refine zr ?_
      simp[e0,h1,h2,h3,h4,h5]
     .rw[decide_eq_false h5]
      refine zx ?_
      refine zk ?_;clear hK K
      refine zr ?_
      simp[e0,h5]
    .refine Af (an h1 (an h2 (an h3 h4))) ?_;intro K hK
     refine zk ?_;clear hK K
     refine zr ?_
     simp[e0,h4]
   .refine Af (an h1 (an h2 h3)) ?_;intro K hK
    refine zk ?_;clear hK K
    refine zr ?_
    simp[e0,h3]
  .refine Af (an h1 h2) ?_;intro K hK
   refine zk ?_;clear hK K
   refine zr ?_
   simp[e0,h2]
 .refine Af h1 ?_;intro K hK
  refine zk ?_;clear hK K
  refine zr ?_
  simp[e0,h1]
end Go.Abs
set_option maxRecDepth 100000
namespace Go.Abs
open Go.Proofs
theorem MU (xs ys:List Bg) (hx:xs.length<1000000000000):Aa pg 86 [.ro xs.length (Ac Ar xs),.ro ys.length (Ac Ar ys)] [] (fun r _=>r= .bool (decide (xs=ys))):=by
 refine Aa.start (fn:=Tryz.f86) [.tmp 4] tk rfl rfl rfl (by kernel_rfl) (Nat.le_of_ble_eq_true rfl) rfl (by kernel_rfl) ?_
 rw[At]
 refine zs ?_
 refine zs ?_
 refine zc ?_ ?_<;>intro h
 .refine zs ?_
  refine zr ?_
  intro e;exact h (by rw[e])
 .refine W.skip ?_
  have hl:xs.length=ys.length:=by omega
  refine zs ?_
  (repeat refine W.seq ?_);refine W.block (W.loopS (fun k:Nat=> [(0,.ro xs.length (Ac Ar xs)),(1,.ro ys.length (Ac Ar ys)),(5,.int .i64 k)]) (fun _=> []) (fun k=>xs.length-k) (fun k=>k≤xs.length∧xs.take k=ys.take k) 0 (Wk.fr ?_) (by simp) ?_)
  .simp[Ad]
  .rintro k ⟨hk,ht⟩
   refine zs ?_
   refine zc ?_ ?_<;>intro h
   .refine W.skip ?_
    have hlt:k<xs.length:=by omega
    have hlt' :k<ys.length:=by omega
    refine zb ?_
    refine B9 ?_;intro K hK
    simp[hlt,hlt',Ar]
    refine zk ?_;clear hK K
    refine zc ?_ ?_<;>intro h
    .refine zs ?_
     refine zr ?_
     intro e;subst e;simp at h
    .refine W.skip ?_
     have he:xs[k]=ys[k]:=Bg.ext h.1 h.2.1 h.2.2.1 (Db.ext h.2.2.2.1 h.2.2.2.2.1) h.2.2.2.2.2.1 h.2.2.2.2.2.2.1 h.2.2.2.2.2.2.2
     refine zs ?_
     refine⟨k+1,by omega,⟨by omega,?_⟩,Wk.fr ?_⟩
     .rw[List.take_add_one,List.take_add_one,ht];simp[hlt,hlt',he]
     .simp[Ad]
   .refine W.exit ?_
    have hk' :k=xs.length:=by omega
    subst hk'
    refine zs ?_
    refine zr ?_
    rw[List.take_length,hl,List.take_length] at ht
    simp[ht]
theorem Qh (xs ys:List CG) (hx:xs.length<1000000000000) (hr:∀r∈xs,D8 r):Aa pg 57 [.ro xs.length (Ac (Aq false) xs),.ro ys.length (Ac (Aq false) ys)] [] (fun r _=>r= .bool (decide (xs=ys))):=by
 refine Aa.start (fn:=Tryz.f57) [.tmp 4] tk rfl rfl rfl (by kernel_rfl) (Nat.le_of_ble_eq_true rfl) rfl (by kernel_rfl) ?_
 rw[At]
 refine zs ?_
 refine zs ?_
 refine zc ?_ ?_<;>intro h
 .refine zs ?_
  refine zr ?_
  intro e;exact h (by rw[e])
 .refine W.skip ?_
  have hl:xs.length=ys.length:=by omega
  refine zs ?_
  (repeat refine W.seq ?_);refine W.block (W.loopS (fun k:Nat=> [(0,.ro xs.length (Ac (Aq false) xs)),(1,.ro ys.length (Ac (Aq false) ys)),(5,.int .i64 k)]) (fun _=> []) (fun k=>xs.length-k) (fun k=>k≤xs.length∧xs.take k=ys.take k) 0 (Wk.fr ?_) (by simp) ?_)
  .simp[Ad]
  .rintro k ⟨hk,ht⟩
   refine zs ?_
   refine zc ?_ ?_<;>intro h
   .refine W.skip ?_
    have hlt:k<xs.length:=by omega
    have hlt' :k<ys.length:=by omega
    have sp:=Lo xs[k] ys[k] (hr _ (List.getElem_mem hlt))
    refine zb ?_
    refine Ba (an hlt hlt') ?_;intro K hK
    refine Ag.eq sp (by simp) (by simp) ?_
    by_cases he:xs[k]=ys[k]
    .rw[decide_eq_true he]
     refine zx ?_
     refine zk ?_;clear hK K
     refine zn ?_
     refine W.skip ?_
     refine zs ?_
     refine⟨k+1,by omega,⟨by omega,?_⟩,Wk.fr ?_⟩
     .rw[List.take_add_one,List.take_add_one,ht];simp[hlt,hlt',he]
     .simp[Ad]
    .rw[decide_eq_false he]
     refine zx ?_
     refine zk ?_;clear hK K
     refine zt ?_
     refine zs ?_
     refine zr ?_
     intro e;subst e;simp at he
   .refine W.exit ?_
    have hk' :k=xs.length:=by omega
    subst hk'
    refine zs ?_
    refine zr ?_
    rw[List.take_length,hl,List.take_length] at ht
    simp[ht]
theorem KG (a b:Ax) (ha:a.vers.length<1000000000000∧a.sess.length<1000000000000∧∀r∈a.sess,D8 r):Aa pg 40 [.agg (An false a),.agg (An false b)] [] (fun r _=>r= .bool (decide (a=b))):=by
 have e0:(a=b)↔a.keep=b.keep∧a.blocks=b.blocks∧a.vers=b.vers∧a.sess=b.sess:=Ax.ext_iff
 refine Aa.start (fn:=Tryz.f40) [.tmp 4] tk rfl rfl rfl (by kernel_rfl) (Nat.le_of_ble_eq_true rfl) rfl (by kernel_rfl) ?_
 rw[At]
 refine z2 ?_;intro K hK;refine zk ?_;clear hK K
 by_cases h1:a.keep=b.keep
 .by_cases h2:a.blocks=b.blocks
  .refine Af (an h1 h2) ?_;intro K hK
   refine Ab.eq (MU a.vers b.vers ha.1) (by simp) (by simp) ?_
   by_cases h3:a.vers=b.vers
   .rw[decide_eq_true h3]
    refine zx ?_
    refine Ab.eq (Qh a.sess b.sess ha.2.1 ha.2.2) (by simp) (by simp) ?_
    refine zx ?_
    refine zk ?_;clear hK K
    refine zr ?_
    simp[e0,h1,h2,h3]
   .rw[decide_eq_false h3]
    refine zx ?_
    refine zk ?_;clear hK K
    refine zr ?_
    simp[e0,h3]
  .refine Af (an h1 h2) ?_;intro K hK
   refine zk ?_;clear hK K
   refine zr ?_
   simp[e0,h2]
 .refine Af h1 ?_;intro K hK
  refine zk ?_;clear hK K
  refine zr ?_
  simp[e0,h1]
theorem IM (xs:List Bg) (hx:xs.length<1000000000):Aa pg 70 [.ro xs.length (Ac Ar xs)] [] (fun r _=>r= .own 8 xs.length (Ac Ar xs)):=by
 refine Aa.start (fn:=Tryz.f70) [.tmp 2] tk rfl rfl rfl (by kernel_rfl) (Nat.le_of_ble_eq_true rfl) rfl (by kernel_rfl) ?_
 rw[Av]
 refine zs ?_
 refine zs ?_
 refine zs ?_
 (repeat refine W.seq ?_);refine W.block (W.loopS (fun k:Nat=> [(0,.ro xs.length (Ac Ar xs)),(3,.tok 0 k 8 0 k),(4,.int .i64 k)]) (fun k=> [.live k (Ac Ar (xs.take k))]) (fun k=>xs.length-k) (fun k=>k≤xs.length) 0 ((Wk.nil (t:=3) (s:=8) ?_).trans (Wk.fr ?_)) (by simp) ?_)
 .simp
 .simp[Ad]
 .intro k hk
  refine zs ?_
  refine zc ?_ ?_<;>intro h
  .refine W.skip ?_
   have hlt:k<xs.length:=by omega
   refine zb ?_
   (repeat refine W.seq ?_);refine W.reg 1 rfl fun K hK=>?_;simp -implicitDefEqProofs (maxSteps:=999999) (disch:=omega) [hlt]
   refine⟨by omega,by omega,?_⟩
   refine zk ?_;clear hK K
   refine zs ?_
   refine⟨k+1,by omega,by omega,Wk.cutM (k:=1) (by simp[Ad]) ?_ (by simp) (by simp) (by simp) (by simp)⟩
   have hto:xs.take (k+1)=xs.take k++[xs[k]]:=by rw[List.take_add_one];simp[hlt]
   rw[hto,Bz]
   simp[AA]
  .refine W.exit ?_
   have hk' :k=xs.length:=by omega
   subst hk'
   refine zs ?_
   exact zR
theorem Fh (j:Cq) (hj:MT j):Aa pg 153 [.agg (B2 false j)] [] (fun r _=>r= .agg (B2 true j)):=by
 have h1:=hj.1
 have h2:=hj.2
 refine Aa.start (fn:=Tryz.f153) [.cell 2 53] tk rfl rfl rfl (by kernel_rfl) (Nat.le_of_ble_eq_true rfl) rfl (by kernel_rfl) ?_
 rw[Av]
 refine z2 ?_;intro K hK;refine zk ?_;clear hK K
 refine z1 ?_;intro K hK;refine zk ?_;clear hK K
 refine z0 ?_;intro K hK
 refine Ab.eq (EH j.list (by omega)) (by simp) (by simp) ?_
 refine zx ?_
 refine zk ?_;clear hK K
 refine z0 ?_;intro K hK
 refine Ab.eq (EH j.out (by omega)) (by simp) (by simp) ?_
 refine zx ?_
 refine zk ?_;clear hK K
 refine zs ?_
 exact zR
end Go.Abs
set_option maxRecDepth 100000
namespace Go.Abs
open Go.Proofs
theorem QE (xs:List (List Int)) (hx:xs.length<1000000000) (hr:∀r∈xs,r.length<1000000000):Aa pg 188 [.ro xs.length (Ay false xs)] [] (fun r _=>r= .own 1 xs.length (Ay true xs)):=by
 refine Aa.start (fn:=Tryz.f188) [.tmp 2] tk rfl rfl rfl (by kernel_rfl) (Nat.le_of_ble_eq_true rfl) rfl (by kernel_rfl) ?_
 rw[Av]
 refine zs ?_
 refine zs ?_
 refine zs ?_
 (repeat refine W.seq ?_);refine W.block (W.loopS (fun k:Nat=> [(0,.ro xs.length (Ay false xs)),(3,.tok 0 k 1 0 k),(4,.int .i64 k)]) (fun k=> [.live k (Ay true (xs.take k))]) (fun k=>xs.length-k) (fun k=>k≤xs.length) 0 ((Wk.nil (t:=3) (s:=1) ?_).trans (Wk.fr ?_)) (by simp) ?_)
 .simp
 .simp[Ad]
 .intro k hk
  refine zs ?_
  refine zc ?_ ?_<;>intro h
  .refine W.skip ?_
   have hlt:k<xs.length:=by omega
   have sp:=EH xs[k] (by have:=hr _ (List.getElem_mem hlt);omega)
   refine zb ?_
   (repeat refine W.seq ?_);refine W.reg 1 rfl fun K hK=>?_;simp -implicitDefEqProofs (maxSteps:=999999) (disch:=omega) [hlt]
   refine Ab.eq sp (by simp) (by simp) ?_
   refine AM hlt ?_
   refine⟨by omega,by omega,?_⟩
   refine zk ?_;clear hK K
   refine zs ?_
   have hto:xs.take (k+1)=xs.take k++[xs[k]]:=by rw[List.take_add_one];simp[hlt]
   have hll:(Ay true (xs.take k)).length=k:=by simp;omega
   refine⟨k+1,by omega,by omega,(Wk.intern (B:=0) (v:=k+1) (j:=k) (T:=2) (u:=0) (s:=1) (off:=0) (n:=xs[k].length) (cs:=Ay true (xs.take k)++[AV.tok 2 0 1 0 xs[k].length]) (xs:=Ae xs[k]) (by simp) ?_ (by simp) (by simp) (by simp) (by simp)).trans (Wk.cutM (k:=1) (by simp[Ad]) ?_ (by simp) (by simp) (by simp) (by simp))⟩
   .rw[List.getElem?_append_right (by omega),hll];simp
   .rw[hto,Uc]
    simp only[List.set_cons_zero,List.take_succ_cons,List.take_zero,List.cons.injEq,Ah.live.injEq,true_and,and_true]
    rw[List.set_append_right _ _ (by omega),hll]
    simp[Ay]
  .refine W.exit ?_
   have hk' :k=xs.length:=by omega
   subst hk'
   refine zs ?_
   exact zR
theorem V8 {P L:List AV} {n i:Nat} {x:AV} (h:P.length=n):(P++L).set (n+i) x=P++L.set i x:=by
 rw[List.set_append_right _ _ (by omega),h,Nat.add_sub_cancel_left]
theorem V9 {P L:List AV} {n i:Nat} (h:P.length=n):(P++L)[n+i]?=L[i]?:=by
 rw[List.getElem?_append_right (by omega),h,Nat.add_sub_cancel_left]
theorem QF (g:Gr) (hg:FF g):Aa pg 152 [.agg (A2 false g)] [] (fun r _=>r= .agg (A2 true g)):=by
 refine Aa.start (fn:=Tryz.f152) [.cell 2 51] tk rfl rfl rfl (by kernel_rfl) (Nat.le_of_ble_eq_true rfl) rfl (by kernel_rfl) ?_
 rw[Av]
 refine z2 ?_;intro K hK;refine zk ?_;clear hK K
 refine z1 ?_;intro K hK;refine zk ?_;clear hK K
 refine z0 ?_;intro K hK
 refine Ab.eq (QE g.out hg.1 hg.2) (by simp) (by simp) ?_
 refine zx ?_
 refine zk ?_;clear hK K
 refine zs ?_
 exact zR
theorem Oy (s:CG) (hs:D8 s):Aa pg 113 [.agg (Aq false s)] [] (fun r _=>r= .agg (Aq true s)):=by
 refine Aa.start (fn:=Tryz.f113) [.cell 2 55] tk rfl rfl rfl (by kernel_rfl) (Nat.le_of_ble_eq_true rfl) rfl (by kernel_rfl) ?_
 rw[Av]
 refine z2 ?_;intro K hK;refine zk ?_;clear hK K
 refine z1 ?_;intro K hK;refine zk ?_;clear hK K
 refine z0 ?_;intro K hK
 refine Ab.eq (QF s.stage hs.1) (by simp) (by simp) ?_
 refine zx ?_
 refine zk ?_;clear hK K
 refine z0 ?_;intro K hK
 refine Ab.eq (Fh s.job hs.2) (by simp) (by simp) ?_
 refine zx ?_
 refine zk ?_;clear hK K
 refine zs ?_
 exact zR
theorem Nm (xs:List CG) (hx:xs.length<1000000000) (hr:∀r∈xs,D8 r):Aa pg 71 [.ro xs.length (Ac (Aq false) xs)] [] (fun r _=>r= .own 12 xs.length (Ac (Aq true) xs)):=by
 refine Aa.start (fn:=Tryz.f71) [.tmp 2] tk rfl rfl rfl (by kernel_rfl) (Nat.le_of_ble_eq_true rfl) rfl (by kernel_rfl) ?_
 rw[Av]
 refine zs ?_
 refine zs ?_
 refine zs ?_
 (repeat refine W.seq ?_);refine W.block (W.loopS (fun k:Nat=> [(0,.ro xs.length (Ac (Aq false) xs)),(3,.tok 0 k 12 0 k),(4,.int .i64 k)]) (fun k=> [.live k (Ac (Aq true) (xs.take k))]) (fun k=>xs.length-k) (fun k=>k≤xs.length) 0 ((Wk.nil (t:=3) (s:=12) ?_).trans (Wk.fr ?_)) (by simp) ?_)
 .simp
 .simp[Ad]
 .intro k hk
  refine zs ?_
  refine zc ?_ ?_<;>intro h
  .refine W.skip ?_
   have hlt:k<xs.length:=by omega
   have sp:=Oy xs[k] (hr _ (List.getElem_mem hlt))
   refine zb ?_
   (repeat refine W.seq ?_);refine W.reg 1 rfl fun K hK=>?_;simp -implicitDefEqProofs (maxSteps:=999999) (disch:=omega) [hlt]
   refine Ab.eq sp (by simp) (by simp) ?_
   refine AM hlt ?_
   refine⟨by omega,by omega,?_⟩
   refine zk ?_;clear hK K
   refine zs ?_
   have hto:xs.take (k+1)=xs.take k++[xs[k]]:=by rw[List.take_add_one];simp[hlt]
   have hll:(Ac (Aq true) (xs.take k)).length=k*12:=by simp;omega
   refine⟨k+1,by omega,by omega,?_⟩
   have hpn:(Ac (Aq true) (xs.take k)).all (GO 1)=true:=by rw[←Gu];simp
   rw[hto,Bz]
   generalize Ac (Aq true) (xs.take k)=P at*
   generalize xs[k]=x at*
   refine Wk.trans (Wk.intern (B:=0) (v:=k+1) (j:=k*12+5) (T:=2) (u:=0) (s:=1) (off:=0) (n:=x.stage.out.length) (cs:=P++[AV.bool x.opn,AV.int .i64 x.pin,AV.bool x.on,AV.int .i64 x.frm,AV.int .i64 x.stage.n,AV.tok 2 0 1 0 x.stage.out.length,AV.int .i64 x.job.kind,AV.int .i64 x.job.a,AV.int .i64 x.job.at_,AV.bool x.job.move,AV.tok 3 0 1 0 x.job.list.length,AV.tok 4 0 1 0 x.job.out.length]) (xs:=Ay true x.stage.out) (by simp[Ai]) (by rw[V9 hll];rfl) (by simp[Ai]) (by decide) (by simp) (by simp)) ?_
   rw[V8 hll]
   simp only[List.set_cons_zero,List.set_cons_succ,List.drop_zero,Nat.mul_one,Jp,Kq,List.take_length]
   refine Wk.trans (Wk.intern (B:=0) (v:=k+1) (j:=k*12+10) (T:=3) (u:=0) (s:=1) (off:=0) (n:=x.job.list.length) (cs:=P++[AV.bool x.opn,AV.int .i64 x.pin,AV.bool x.on,AV.int .i64 x.frm,AV.int .i64 x.stage.n,AV.own 1 x.stage.out.length (Ay true x.stage.out),AV.int .i64 x.job.kind,AV.int .i64 x.job.a,AV.int .i64 x.job.at_,AV.bool x.job.move,AV.tok 3 0 1 0 x.job.list.length,AV.tok 4 0 1 0 x.job.out.length]) (xs:=Ae x.job.list) (by simp[Ai]) (by rw[V9 hll];rfl) (by simp[Ai]) (by decide) (by simp) (by simp)) ?_
   rw[V8 hll]
   simp only[List.set_cons_zero,List.set_cons_succ,List.drop_zero,Nat.mul_one,Jp,Kq,List.take_length]
   refine Wk.trans (Wk.intern (B:=0) (v:=k+1) (j:=k*12+11) (T:=4) (u:=0) (s:=1) (off:=0) (n:=x.job.out.length) (cs:=P++[AV.bool x.opn,AV.int .i64 x.pin,AV.bool x.on,AV.int .i64 x.frm,AV.int .i64 x.stage.n,AV.own 1 x.stage.out.length (Ay true x.stage.out),AV.int .i64 x.job.kind,AV.int .i64 x.job.a,AV.int .i64 x.job.at_,AV.bool x.job.move,AV.own 1 x.job.list.length (Ae x.job.list),AV.tok 4 0 1 0 x.job.out.length]) (xs:=Ae x.job.out) (by simp[Ai]) (by rw[V9 hll];rfl) (by simp[Ai]) (by decide) (by simp) (by simp)) ?_
   rw[V8 hll]
   simp only[List.set_cons_zero,List.set_cons_succ,List.drop_zero,Nat.mul_one,Jp,Kq,List.take_length]
   refine Wk.cutM (k:=1) (by simp[Ad]) ?_ (by simp) (by simp) ?_ (by simp)
   .simp[AA]
   .simp only[List.all_cons,List.all_nil,Bool.and_true,Jl,List.all_append,hpn,Gu]
    simp[AA]
  .refine W.exit ?_
   have hk' :k=xs.length:=by omega
   subst hk'
   refine zs ?_
   exact zR
theorem Ir (s:Ax) (hs:AS s) (hr:∀r∈s.sess,D8 r):Aa pg 14 [.agg (An false s)] [] (fun r _=>r= .agg (An true s)):=by
 refine Aa.start (fn:=Tryz.f14) [.cell 2 38] tk rfl rfl rfl (by kernel_rfl) (Nat.le_of_ble_eq_true rfl) rfl (by kernel_rfl) ?_
 rw[Av]
 refine z2 ?_;intro K hK;refine zk ?_;clear hK K
 refine z1 ?_;intro K hK;refine zk ?_;clear hK K
 refine z0 ?_;intro K hK
 refine Ab.eq (IM s.vers hs.1) (by simp) (by simp) ?_
 refine zx ?_
 refine zk ?_;clear hK K
 refine z0 ?_;intro K hK
 refine Ab.eq (Nm s.sess hs.2.1 hr) (by simp) (by simp) ?_
 refine zx ?_
 refine zk ?_;clear hK K
 refine zs ?_
 exact zR
end Go.Abs
set_option maxRecDepth 100000
namespace Go.Abs
open Go.Proofs
theorem Ut (b:Db) (i:Nat) (hn:b.data.size<1000000000000) (hi:i/8<b.data.size):Aa pg 142 [.agg (Ct b),.int .i64 i] [] (fun r _=>r= .int .i64 (if EI b.data i=true then 1 else 0)):=by
 refine Aa.start (fn:=Tryz.f142) [.tmp 4] tk rfl rfl rfl (by kernel_rfl) (Nat.le_of_ble_eq_true rfl) rfl (by kernel_rfl) ?_
 rw[At]
 refine z1 ?_;intro K hK;refine zk ?_;clear hK K
 refine z0 ?_;intro K hK
 refine⟨by omega,?_⟩
 have hB:=Ic b.data (i/8)
 have h3:=PY b.data (i/8) (7-(i:Int)%8).toNat
 have e1:((i:Int)/8).toNat=i/8:=by omega
 rw[e1,wrap_i64 (by omega) (by omega),Jt _ h3.1 (by omega),Rl]
 simp
 refine zk ?_;clear hK K
 exact zR
theorem YJ (b:Db) (h3:b.data.size<1000000000):Aa pg 106 [.agg (Ct b)] [] (fun r _=>r= .bool (decide (Dc b))):=by
 refine Aa.start (fn:=Tryz.f106) [.tmp 2] tk rfl rfl rfl (by kernel_rfl) (Nat.le_of_ble_eq_true rfl) rfl (by kernel_rfl) ?_
 rw[Av]
 refine z1 ?_;intro K hK;refine zk ?_;clear hK K
 refine z0 ?_;intro K hK
 refine Ab.eq (Ig b.n 6000) (by simp) (by simp) ?_
 by_cases h0:0≤b.n∧b.n≤6000
 rotate_left
 .rw[decide_eq_false h0]
  refine zx ?_
  refine zk ?_;clear hK K
  refine zt ?_
  refine zs ?_
  refine zr ?_
  intro h;exact h0 ⟨h.1,h.2.1⟩
 .rw[decide_eq_true h0]
  obtain⟨n,hn⟩:=Int.eq_ofNat_of_zero_le h0.1
  refine zx ?_
  refine zk ?_;clear hK K
  refine zc ?_ ?_<;>intro h
  .refine zs ?_
   refine zr ?_
   intro g;have:=g.2.2.1;omega
  .refine W.skip ?_
   refine Af hn ?_;intro K hK
   refine zk ?_;clear hK K
   (repeat refine W.seq ?_);refine W.block (W.loopS (fun i:Nat=> [(1,.ptr 0 0 0),(3,.int .i64 i)]) (fun _=> [.live 0 [.str b.data,.int .i64 n]]) (fun i=>8*b.data.size-i) (fun i=>n≤i∧(i≤8*b.data.size∨i=n)∧∀j,n≤j→j<i→EI b.data j=false) n (Wk.fr (by simp[Ad])) ⟨by omega,by omega,fun j h1 h2=>by omega⟩ ?_)
   rintro i ⟨hi,hi2,ht⟩
   refine zs ?_
   refine zc ?_ ?_<;>intro h
   .refine W.skip ?_
    have hlt:i<8*b.data.size:=by omega
    have sp:=Ut b i (by omega) (by omega)
    refine zb ?_
    refine z0 ?_;intro K hK
    rw[←hn]
    cases hb:EI b.data i
    .simp only[hb,Bool.false_eq_true,if_false] at sp
     refine Ab.eq sp (by simp) (by simp) ?_
     refine zx ?_
     refine zk ?_;clear hK K
     refine zn ?_
     refine W.skip ?_
     refine zs ?_
     refine⟨i+1,by omega,⟨by omega,by omega,fun j h1 h2=>?_⟩,?_⟩
     .by_cases e:j=i
      .subst e;exact hb
      .exact ht j h1 (by omega)
     .rw[hn];exact Wk.fr (by simp[Ad])
    .simp only[hb,if_true] at sp
     refine Ab.eq sp (by simp) (by simp) ?_
     refine zx ?_
     refine zk ?_;clear hK K
     refine zt ?_
     refine zs ?_
     refine zr ?_
     intro g
     have:=g.2.2.2 i hlt (by omega)
     rw[hb] at this;cases this
   .refine W.exit ?_
    refine zs ?_
    refine zr ?_
    refine⟨h0.1,h0.2,by omega,fun j h1 h2=>ht j (by omega) (by omega)⟩
end Go.Abs
set_option maxRecDepth 100000
namespace Go.Abs
open Go.Proofs
def b8 (b:Bool):AV:= .int .u8 (if b=true then 1 else 0)
def AU (xs:List Bool):List AV:=xs.map b8
section
variable (xs ys:List Bool) (M:List Ah) (k:Nat)
@[simp] theorem eD (i:Nat):(AU xs)[i]?=(xs[i]?).map b8:=by simp[AU]
@[simp] theorem eE:(AU xs).length=xs.length:=by simp[AU]
@[simp] theorem eG:AU []=[]:=rfl
theorem Qi:AU (xs++ys)=AU xs++AU ys:=by simp[AU]
@[simp] theorem cn:(AU xs).take k=AU (xs.take k):=by simp[AU,List.map_take]
@[simp] theorem cp:(AU xs).drop k=AU (xs.drop k):=by simp[AU,List.map_drop]
@[simp] theorem gB:EY (AU xs)=true:=by simp[AU,EY,-II,b8]
@[simp] theorem gC:EZ (AU xs)=true:=by simp[AU,EZ,-Kp,b8]
@[simp] theorem gE:DT (AU xs)=true:=by simp[AU,DT,-HC,b8]
@[simp] theorem gF:Da k (AU xs)=true:=by induction xs<;>simp_all[AU,b8]
@[simp] theorem eH:CY (AU xs)=true:=by induction xs<;>simp_all[AU,b8]
@[simp] theorem eI:EX (AU xs)=AU xs:=by induction xs<;>simp_all[AU,b8]
@[simp] theorem eJ:(AU xs).map Em=AU xs:=by simp[AU,b8]
@[simp] theorem eK:(AU xs).map (CE M k)=AU xs:=by cases k<;>simp[AU,b8]
end
theorem Z1 (b:Db) (h0:0≤b.n) (h1:b.n≤8*b.data.size) (h3:b.data.size<1000000000):Aa pg 107 [.agg (Ct b)] [] (fun r _=>r= .own 1 (Aw b).length (AU (Aw b))):=by
 have hl:=Cr b
 obtain⟨n,hn⟩:=Int.eq_ofNat_of_zero_le h0
 have hln:(Aw b).length=n:=by omega
 refine Aa.start (fn:=Tryz.f107) [.tmp 2] tk rfl rfl rfl (by kernel_rfl) (Nat.le_of_ble_eq_true rfl) rfl (by kernel_rfl) ?_
 rw[Av]
 refine z1 ?_;intro K hK;refine zk ?_;clear hK K
 refine zs ?_
 refine zs ?_
 (repeat refine W.seq ?_);refine W.block (W.loopS (fun k:Nat=> [(1,.ptr 0 0 0),(3,.tok 1 k 1 0 k),(4,.int .i64 k)]) (fun k=> [.live 0 (Ct b),.live k (AU ((Aw b).take k))]) (fun k=>n-k) (fun k=>k≤n) 0 ((Wk.nil (t:=3) (s:=1) ?_).trans (Wk.fr ?_)) (Nat.zero_le _) ?_)
 .simp
 .simp[Ad]
 .intro k hk
  refine zs ?_
  refine zc ?_ ?_<;>intro h
  .refine W.skip ?_
   have hlt:k<n:=by omega
   have sp:=Ut b k (by omega) (by omega)
   have hbk:(Aw b)[k]'(by omega)=EI b.data k:=by simp[Aw]
   have hto:(Aw b).take (k+1)=(Aw b).take k++[EI b.data k]:=by rw[List.take_add_one,List.getElem?_eq_getElem (by omega),hbk];rfl
   refine zb ?_
   refine z1 ?_;intro K hK
   refine Ab.eq sp (by simp) (by simp) ?_
   refine zx ?_
   have e8:AV.int .u8 (IntKind.u8.wrap (if EI b.data k=true then 1 else 0))=b8 (EI b.data k):=by
    cases EI b.data k<;>rfl
   rw[e8]
   refine⟨by omega,by omega,?_⟩
   refine zk ?_;clear hK K
   refine zs ?_
   refine⟨k+1,by omega,by omega,Wk.cutM (k:=2) (by simp[Ad]) ?_ (by simp) (by simp) (by simp) (by simp)⟩
   rw[hto,Qi]
   rfl
  .refine W.exit ?_
   have hk' :k=n:=by omega
   subst hk'
   have e:(Aw b).take k=Aw b:=List.take_of_length_le (by omega)
   rw[e]
   refine zs ?_
   refine zr ?_
   rw[e]
   exact⟨hln.symm,rfl⟩
end Go.Abs
set_option maxRecDepth 100000
namespace Go.Abs
open Go.Proofs
theorem YK (l:List Bool) (p:Nat) (hl:l.length<1000000000000) (hp:p≤l.length):Aa pg 178 [.ro l.length (AU l),.int .i64 p] [] (fun r _=>r= .int .i64 (nb (ahead l p))):=by
 refine Aa.start (fn:=Tryz.f178) [.tmp 4] tk rfl rfl rfl (by kernel_rfl) (Nat.le_of_ble_eq_true rfl) rfl (by kernel_rfl) ?_
 rw[At]
 refine zs ?_
 refine zs ?_
 (repeat refine W.seq ?_);refine W.block (W.loopS (fun q:Nat=> [(0,.ro l.length (AU l)),(1,.int .i64 p),(5,.int .i64 q)]) (fun _=> []) (fun q=>l.length-q) (fun q=>p≤q∧q≤l.length∧(l.drop p).take (q-p)=List.replicate (q-p) false) p (Wk.fr (by simp[Ad])) ⟨by omega,by omega,by simp⟩ ?_)
 rintro q ⟨hpq,hq,ht⟩
 refine zs ?_
 refine zc ?_ ?_<;>intro h
 .refine W.skip ?_
  have hlt:q<l.length:=by omega
  have hst:(l[q]=true→ahead l p=some (q-p))∧(l[q]=false→(l.drop p).take (q+1-p)=List.replicate (q+1-p) false):=by
   obtain⟨k,rfl⟩:∃k,q=p+k:=⟨q-p,by omega⟩
   have:=MB hlt (by simpa using ht)
   rw[show p+k+1-p=k+1 by omega,show p+k-p=k by omega]
   exact this
  refine zb ?_
  cases hb:l[q]
  . (repeat refine W.seq ?_);refine W.reg 0 rfl fun K hK=>?_;simp -implicitDefEqProofs (maxSteps:=999999) (disch:=omega) [hlt,hb,b8]
    refine zk ?_;clear hK K
    refine zn ?_
    refine W.skip ?_
    refine zs ?_
    refine⟨q+1,by omega,⟨by omega,by omega,hst.2 hb⟩,Wk.fr (by simp[Ad])⟩
  . (repeat refine W.seq ?_);refine W.reg 0 rfl fun K hK=>?_;simp -implicitDefEqProofs (maxSteps:=999999) (disch:=omega) [hlt,hb,b8]
    refine zk ?_;clear hK K
    refine zt ?_
    refine z0 ?_;intro K hK
    refine zk ?_;clear hK K
    refine zr ?_
    rw[hst.1 hb];simp[nb];omega
 .refine W.exit ?_
  have hq' :q=l.length:=by omega
  refine zs ?_
  refine zr ?_
  rw[N8 (k:=q-p) (by omega) ht];rfl
theorem bj (l:List Bool) (p w:Nat) (hl:l.length<1000000000000) (hw:w≤60) (hp:p+w≤l.length):Aa pg 179 [.ro l.length (AU l),.int .i64 p,.int .i64 w] [] (fun r _=>r= .int .i64 (BG ((l.drop p).take w))):=by
 refine Aa.start (fn:=Tryz.f179) [.tmp 6] tk rfl rfl rfl (by kernel_rfl) (Nat.le_of_ble_eq_true rfl) rfl (by kernel_rfl) ?_
 rw[Bd]
 refine zs ?_
 refine zs ?_
 refine zs ?_
 (repeat refine W.seq ?_);refine W.block (W.loopS (fun q:Nat=> [(0,.ro l.length (AU l)),(1,.int .i64 p),(2,.int .i64 w),(7,.int .i64 (BG ((l.drop p).take (q-p)))),(8,.int .i64 q)]) (fun _=> []) (fun q=>p+w-q) (fun q=>p≤q∧q≤p+w) p (Wk.fr (by simp[Ad])) ⟨by omega,by omega⟩ ?_)
 rintro q ⟨hpq,hq⟩
 refine zs ?_
 refine zc ?_ ?_<;>intro h
 .refine W.skip ?_
  have hlt:q<l.length:=by omega
  have hst:BG ((l.drop p).take (q+1-p))=2*BG ((l.drop p).take (q-p))+(l[q]).toNat:=by
   obtain⟨k,rfl⟩:∃k,q=p+k:=⟨q-p,by omega⟩
   rw[show p+k+1-p=k+1 by omega,show p+k-p=k by omega]
   exact Oa (w:=w) hlt
  have hnl:BG ((l.drop p).take (q-p))<2^60:=Nat.lt_of_lt_of_le (Gx _) (Nat.pow_le_pow_right (by omega) (by simp;omega))
  refine zb ?_
  generalize BG ((l.drop p).take (q-p))=v at*
  cases hb:l[q]
  .rw[hb] at hst
   (repeat refine W.seq ?_);refine W.reg 0 rfl fun K hK=>?_;simp -implicitDefEqProofs (maxSteps:=999999) (disch:=omega) [hlt,hb,b8]
   refine zk ?_;clear hK K
   refine zs ?_
   refine⟨q+1,by omega,⟨by omega,by omega⟩,Wk.fr (by rw[hst];simp[Ad])⟩
  .rw[hb] at hst
   (repeat refine W.seq ?_);refine W.reg 0 rfl fun K hK=>?_;simp -implicitDefEqProofs (maxSteps:=999999) (disch:=omega) [hlt,hb,b8]
   refine zk ?_;clear hK K
   refine zs ?_
   refine⟨q+1,by omega,⟨by omega,by omega⟩,Wk.fr (by rw[hst];simp[Ad])⟩
 .refine W.exit ?_
  have hq' :q=p+w:=by omega
  subst hq'
  refine zs ?_
  exact zR
end Go.Abs
set_option maxRecDepth 100000
namespace Go.Abs
open Go.Proofs
theorem Wr (n:Int) (h0:0≤n) (h1:n≤4611686018427387904):Aa pg 182 [.int .i64 n] [] (fun r _=>r= .int .i64 (CK n)):=by
 refine Aa.start (fn:=Tryz.f182) [.tmp 2] tk rfl rfl rfl (by kernel_rfl) (Nat.le_of_ble_eq_true rfl) rfl (by kernel_rfl) ?_
 rw[Av]
 refine zs ?_
 refine zs ?_
 refine zc ?_ ?_<;>intro h
 .refine z0 ?_;intro K hK
  refine zk ?_;clear hK K
  refine zr ?_
  rw[CK,if_neg (by omega)]
 .refine W.skip ?_
  have e:(-(n+1)).tdiv 2=-((n+1)/2):=by rw[Int.neg_tdiv,Int.tdiv_eq_ediv_of_nonneg (by omega)]
  refine Af e ?_;intro K hK
  refine zk ?_;clear hK K
  refine zr ?_
  rw[CK,if_pos (by omega)]
theorem Qj (n:Int):Aa pg 127 [.int .i64 n] [] (fun r _=>r= .bool (decide (0≤n∧n≤15))):=by
 refine Aa.start (fn:=Tryz.f127) [.tmp 2] tk rfl rfl rfl (by kernel_rfl) (Nat.le_of_ble_eq_true rfl) rfl (by kernel_rfl) ?_
 rw[Av]
 refine zs ?_
 refine z0 ?_;intro K hK
 refine Ab.eq (Ig n 15) (by simp) (by simp) ?_
 refine zx ?_
 refine zk ?_;clear hK K
 exact zR
theorem LL (k:Int):Aa pg 149 [.int .i64 k] [] (fun r _=>r= .bool (named k)):=by
 refine Aa.start (fn:=Tryz.f149) [.tmp 2] tk rfl rfl rfl (by kernel_rfl) (Nat.le_of_ble_eq_true rfl) rfl (by kernel_rfl) ?_
 rw[Av]
 refine zs ?_
 by_cases h1:k=1
 .refine Af h1 ?_;intro K hK
  refine zk ?_;clear hK K
  refine zr ?_
  simp[named,h1]
 .by_cases h2:k=2
  .refine Af (an h1 h2) ?_;intro K hK
   refine zk ?_;clear hK K
   refine zr ?_
   simp[named,h2]
  .refine Af (an h1 h2) ?_;intro K hK
   refine zk ?_;clear hK K
   refine zr ?_
   simp[named,h1,h2]
theorem K3 (s:Ax) (hs:AS s):Aa pg 20 [.agg (An false s)] [] (fun r _=>r= .int .i64 (A7 s.vers)):=by
 have h1:=hs.1
 refine Aa.start (fn:=Tryz.f20) [.tmp 2] tk rfl rfl rfl (by kernel_rfl) (Nat.le_of_ble_eq_true rfl) rfl (by kernel_rfl) ?_
 rw[Av]
 refine z1 ?_;intro K hK;refine zk ?_;clear hK K
 refine zs ?_
 refine zc ?_ ?_<;>intro h
 .refine zs ?_
  refine zr ?_
  simp[A7,h]
 .refine W.skip ?_
  have hp:0<s.vers.length:=List.length_pos_iff.2 h
  have hlt:s.vers.length-1<s.vers.length:=by omega
  (repeat refine W.seq ?_);refine W.reg 0 rfl fun K hK=>?_;simp -implicitDefEqProofs (maxSteps:=999999) (disch:=omega) [hlt]
  refine⟨by omega,?_⟩
  refine zk ?_;clear hK K
  refine zr ?_
  rw[A7,List.getLast?_eq_getElem?,List.getElem?_eq_getElem hlt]
theorem Rx (b:Db) (hb:b.data.size<1000000000):Aa pg 21 [.agg (Ct b)] [] (fun r _=>r= .int .i64 (CO b)):=by
 refine Aa.start (fn:=Tryz.f21) [.tmp 2] tk rfl rfl rfl (by kernel_rfl) (Nat.le_of_ble_eq_true rfl) rfl (by kernel_rfl) ?_
 rw[Av]
 refine z1 ?_;intro K hK;refine zk ?_;clear hK K
 refine z0 ?_;intro K hK
 refine zk ?_;clear hK K
 refine zr ?_
 unfold CO
 congr 1
 omega
end Go.Abs
set_option maxRecDepth 100000
namespace Go.Abs
open Go.Proofs
theorem Nn (g:Gr) (j:Cq) (hl:j.list.length<1000000000000):Aa pg 112 [.agg (A2 false g),.agg (B2 false j)] [] (fun r _=>r= .bool (BY g j)):=by
 refine Aa.start (fn:=Tryz.f112) [.tmp 4] tk rfl rfl rfl (by kernel_rfl) (Nat.le_of_ble_eq_true rfl) rfl (by kernel_rfl) ?_
 rw[At]
 refine z2 ?_;intro K hK;refine zk ?_;clear hK K
 refine zs ?_
 refine zb ?_
 refine zs ?_
 refine zc ?_ ?_<;>intro h
 .refine zs ?_
  refine zr ?_
  simp[BY,h]
 .have h1:=h;clear h
  refine zs ?_
  refine zc ?_ ?_<;>intro h
  .refine zs ?_
   refine zr ?_
   simp[BY,h]
  .refine W.skip ?_
   refine zs ?_
   refine zr ?_
   simp[BY, *]
theorem No (s:Ax) (id:Int) (hs:AS s):Aa pg 36 [.agg (An false s),.int .i64 id] [] (fun r _=>r= .int .i64 (AG (fun v=>decide (v.id=id)) s.vers)):=by
 have h1:=hs.1
 refine Aa.start (fn:=Tryz.f36) [.tmp 4] tk rfl rfl rfl (by kernel_rfl) (Nat.le_of_ble_eq_true rfl) rfl (by kernel_rfl) ?_
 rw[At]
 refine z1 ?_;intro K hK;refine zk ?_;clear hK K
 refine zs ?_
 (repeat refine W.seq ?_);refine W.block (W.loopS (fun k:Nat=> [(1,.int .i64 id),(2,.ptr 0 0 0),(5,.int .i64 k)]) (fun _=> [.live 0 (An false s)]) (fun k=>s.vers.length-k) (fun k=>k≤s.vers.length∧∀i (h:i<s.vers.length),i<k→s.vers[i].id≠id) 0 (Wk.fr (by simp[Ad])) (by simp) ?_)
 rintro k ⟨hk,ht⟩
 refine zs ?_
 refine zc ?_ ?_<;>intro h
 .refine W.skip ?_
  have hlt:k<s.vers.length:=by omega
  refine zb ?_
  (repeat refine W.seq ?_);refine W.reg 0 rfl fun K hK=>?_;simp -implicitDefEqProofs (maxSteps:=999999) (disch:=omega) [hlt]
  refine zk ?_;clear hK K
  refine zc ?_ ?_<;>intro h
  .refine zs ?_
   refine zr ?_
   exact(DB hlt (by simp[h]) fun i hi hik=>by simpa using ht i hi hik).symm
  .refine W.skip ?_
   refine zs ?_
   refine⟨k+1,by omega,⟨by omega,?_⟩,Wk.fr (by simp[Ad])⟩
   intro i hi hik
   by_cases e:i=k
   .subst e;exact fun e=>h e
   .exact ht i hi (by omega)
 .refine W.exit ?_
  refine zs ?_
  refine zr ?_
  exact(Ey fun i hi=>by simpa using ht i hi (by omega)).symm
end Go.Abs
set_option maxRecDepth 100000
namespace Go.Abs
open Go.Proofs
theorem GU (l:List Int) (hl:l.length<1000000000000):Aa pg 87 [.ro l.length (Ae l)] [] (fun r _=>r= .bool (decide (AL l))):=by
 refine Aa.start (fn:=Tryz.f87) [.tmp 2] tk rfl rfl rfl (by kernel_rfl) (Nat.le_of_ble_eq_true rfl) rfl (by kernel_rfl) ?_
 rw[Av]
 refine zs ?_
 refine zs ?_
 (repeat refine W.seq ?_);refine W.block (W.loopS (fun k:Nat=> [(0,.ro l.length (Ae l)),(3,.int .i64 k)]) (fun _=> []) (fun k=>l.length-k) (fun k=>k≤l.length∧AL (l.take k)) 0 (Wk.fr (by simp[Ad])) (by simp[AL]) ?_)
 rintro k ⟨hk,hm⟩
 have hk16:k≤16:=by have:=Br hm;simp at this;omega
 by_cases hlt:k<l.length
 .have hs:=P3 hlt hm
  have bad:¬AL (l.take (k+1))→¬AL l:=fun g w=>g (P2 (k+1) w)
  refine Af (an hlt hk16) ?_;intro K hK
  refine zk ?_;clear hK K
  refine zt ?_
  refine W.skip ?_
  have sp:=Qj l[k]
  refine zb ?_
  by_cases c1:0≤l[k]∧l[k]≤15
  rotate_left
  .rw[decide_eq_false c1] at sp
   (repeat refine W.seq ?_);refine W.regd 0 rfl true Ce (by kernel_rfl) fun K hK=>?_;simp -implicitDefEqProofs (maxSteps:=999999) (disch:=omega) [hlt]
   refine Ag.eq sp (by simp) (by simp) ?_
   refine AM hlt ?_
   refine zk ?_;clear hK K
   refine zt ?_
   refine zs ?_
   refine zr ?_
   exact bad fun g=>c1 (by have:=(hs.1 g).1;omega)
  .rw[decide_eq_true c1] at sp
   by_cases c2:0<k
   .by_cases c3:l[k]≤l[k-1]
    . (repeat refine W.seq ?_);refine W.regd 0 rfl true Ce (by kernel_rfl) fun K hK=>?_;simp -implicitDefEqProofs (maxSteps:=999999) (disch:=omega) [hlt]
      refine Ag.eq sp (by simp) (by simp) ?_
      refine AM (an hlt (an c2 c3)) ?_
      refine⟨by omega,?_⟩
      refine zk ?_;clear hK K
      refine zt ?_
      refine zs ?_
      refine zr ?_
      exact bad fun g=>by have:=(hs.1 g).2 c2;omega
    . (repeat refine W.seq ?_);refine W.regd 0 rfl true Ce (by kernel_rfl) fun K hK=>?_;simp -implicitDefEqProofs (maxSteps:=999999) (disch:=omega) [hlt]
      refine Ag.eq sp (by simp) (by simp) ?_
      refine AM (an hlt (an c2 c3)) ?_
      refine⟨by omega,?_⟩
      refine zk ?_;clear hK K
      refine zn ?_
      refine W.skip ?_
      refine zs ?_
      exact⟨k+1,by omega,⟨by omega,hs.2 ⟨by omega,fun _=>by omega⟩⟩,Wk.fr (by simp[Ad])⟩
   . (repeat refine W.seq ?_);refine W.regd 0 rfl true Ce (by kernel_rfl) fun K hK=>?_;simp -implicitDefEqProofs (maxSteps:=999999) (disch:=omega) [hlt]
     refine Ag.eq sp (by simp) (by simp) ?_
     refine AM (an hlt c2) ?_
     refine zk ?_;clear hK K
     refine zn ?_
     refine W.skip ?_
     refine zs ?_
     exact⟨k+1,by omega,⟨by omega,hs.2 ⟨by omega,fun h=>absurd h c2⟩⟩,Wk.fr (by simp[Ad])⟩
 .have hk' :k=l.length:=by omega
  subst hk'
  rw[List.take_length] at hm
  refine z0 ?_;intro K hK
  refine zk ?_;clear hK K
  refine zn ?_
  refine W.exit ?_
  refine zs ?_
  refine zr ?_
  have:=Br hm
  simp[hm]
  try omega
end Go.Abs
set_option maxRecDepth 100000
namespace Go.Abs
open Go.Proofs
theorem Ws (n:Int) (h:-1000000≤n∧n≤1000000):Aa pg 205 [.int .i64 n] [] (fun r _=>r= .int .i64 (Ca n)):=by
 refine Aa.start (fn:=Tryz.f205) [.tmp 2] tk rfl rfl rfl (by kernel_rfl) (Nat.le_of_ble_eq_true rfl) rfl (by kernel_rfl) ?_
 rw[Av]
 refine zs ?_
 refine zs ?_
 refine zc ?_ ?_<;>intro h
 .refine z0 ?_;intro K hK
  refine zk ?_;clear hK K
  refine zr ?_
  simp[Ca];omega
 .refine W.skip ?_
  refine z0 ?_;intro K hK
  refine zk ?_;clear hK K
  refine zr ?_
  simp[Ca];omega
theorem Wa (a b:Nat):(a:Int).fdiv (b:Int)=((a/b:Nat):Int):=by rw[Int.fdiv_eq_ediv_of_nonneg _ (by omega)];rfl
theorem bk (n:Nat) (h:1≤n) (h2:n<1099511627776):Aa pg 180 [.int .i64 n] [] (fun r _=>r= .int .i64 (Nat.log2 n)):=by
 have hlg:=(Nat.log2_lt (n:=n) (k:=40) (by omega)).2 (by omega)
 refine Aa.start (fn:=Tryz.f180) [.tmp 2] tk rfl rfl rfl (by kernel_rfl) (Nat.le_of_ble_eq_true rfl) rfl (by kernel_rfl) ?_
 rw[Av]
 refine zs ?_
 refine zs ?_
 (repeat refine W.seq ?_);refine W.block (W.loopS (fun z:Nat×Nat=> [(0,.int .i64 (z.1:Nat)),(3,.int .i64 (z.2:Nat))]) (fun _=> []) (fun z=>z.1) (fun z=>z.1=n/2^z.2∧1≤z.1∧z.2≤Nat.log2 n) (n,0) (Wk.fr (by simp[Ad])) ⟨by simp,h,by simp⟩ ?_)
 rintro⟨q,k⟩ ⟨hq,hq1,hk⟩
 simp only at hq hq1 hk
 have hp:0<2^k:=Nat.pow_pos (by omega)
 have hdm:=Nat.div_add_mod n (2^k)
 have hml:=Nat.mod_lt n hp
 rw[←hq] at hdm
 refine zs ?_
 refine zc ?_ ?_<;>intro h
 .refine W.skip ?_
  have hf:(q:Int).fdiv 2=((q/2:Nat):Int):=Wa q 2
  have hk1:k+1≤Nat.log2 n:=by
   refine(Nat.le_log2 (by omega)).2 ?_
   rw[Nat.pow_succ]
   have:2^k*2≤2^k*q:=Nat.mul_le_mul_left _ (by omega)
   omega
  refine zb ?_
  refine Af hf ?_;intro K hK
  refine zk ?_;clear hK K
  refine zs ?_
  exact⟨(q/2,k+1),by simp only;omega,⟨by simp only;rw[hq,Nat.div_div_eq_div_mul,Nat.pow_succ],by simp only;omega,hk1⟩,Wk.fr (by simp[Ad])⟩
 .refine W.exit ?_
  have:q=1:=by omega
  subst this
  refine zs ?_
  refine zr ?_
  rw[Kz (q:=k) (by omega) (by rw[Nat.pow_succ];omega)]
theorem Wt (xs:List Bool) (u v w:Nat) (hx:xs.length<1000000000) (hw:w≤60) (hv:v<1099511627776):Aa pg 203 [.tok 0 u 1 0 xs.length,.int .i64 v,.int .i64 w] [.live u (AU xs)] (fun r M=>r= .own 1 (xs.length+w) (AU (xs++A6 v w))∧M=[.dead]):=by
 refine Aa.start (fn:=Tryz.f203) [.tmp 6] tk rfl rfl rfl (by kernel_rfl) (Nat.le_of_ble_eq_true rfl) rfl (by kernel_rfl) ?_
 rw[Bd]
 refine zs ?_
 refine zs ?_
 rw[show AU xs=AU (xs++(A6 v w).take 0) by simp]
 (repeat refine W.seq ?_);refine W.block (W.loopS (fun k:Nat=> [(0,.tok 0 (u+k) 1 0 (xs.length+k)),(1,.int .i64 v),(7,.int .i64 ((w:Int)-1-k))]) (fun k=> [.live (u+k) (AU (xs++(A6 v w).take k))]) (fun k=>w-k) (fun k=>k≤w) 0 (Wk.fr (by simp[Ad])) (by simp) ?_)
 intro k hk
 by_cases hlt:k<w
 .obtain⟨i,hi⟩:∃i:Nat,(w:Int)-1-k=i:=⟨w-1-k,by omega⟩
  have hmin:min i 64=i:=by omega
  rw[hi]
  refine zs ?_
  refine zt ?_
  refine W.skip ?_
  refine zb ?_
  obtain⟨Q,hQd⟩:∃Q,Q=v/2^i:=⟨_,rfl⟩
  have hQ:(v:Int)/2^i=(Q:Int):=by rw[hQd,Int.natCast_ediv,Int.natCast_pow];rfl
  have hQv:Q≤v:=by rw[hQd];exact Nat.div_le_self _ _
  have hand:=Jt (Q:Int) (by omega) (by omega)
  have hw8:IntKind.u8.wrap ((Q:Int)%2)=(if Q%2=1 then 1 else 0):=by
   by_cases h:Q%2=1
   .have:(Q:Int)%2=1:=by omega
    rw[this,if_pos h];rfl
   .have:(Q:Int)%2=0:=by omega
    rw[this,if_neg h];rfl
  have hto:(A6 v w).take (k+1)=(A6 v w).take k++[decide (Q%2=1)]:=by
   rw[List.take_add_one,List.getElem?_eq_getElem (by simpa using hlt)]
   have:(A6 v w)[k]'(by simpa using hlt)=decide (Q%2=1):=by
    simp only[A6,List.getElem_map,List.getElem_range]
    rw[hQd,show w-1-k=i by omega]
   rw[this];rfl
  refine JH (an hmin (an hQ (an hand hw8))) ?_;intro K hK
  refine⟨by omega,by omega,?_⟩
  refine zk ?_;clear hK K
  refine zs ?_
  refine⟨k+1,by omega,by omega,Wk.cutM (k:=1) ?_ ?_ (by simp) (by simp) (by simp) (by simp)⟩
  .simp[Ad]
   omega
  .rw[hto,←List.append_assoc,Qi]
   simp[AU,b8];omega
 .have hk' :k=w:=by omega
  subst hk'
  have e:((k:Int)-1-k)=-1:=by omega
  rw[e]
  refine zs ?_
  refine zn ?_
  refine W.exit ?_
  refine zs ?_
  refine zr ?_
  rw[List.take_of_length_le (by simp),List.take_of_length_le (by simp)]
end Go.Abs
set_option maxRecDepth 100000
namespace Go.Abs
open Go.Proofs
theorem DX (xs:List Bool) (u n:Nat) (hx:xs.length<100000000) (h1:1≤n) (h2:n<1099511627776):Aa pg 166 [.tok 0 u 1 0 xs.length,.int .i64 2,.int .i64 n] [.live u (AU xs)] (fun r M=>r= .own 1 (xs.length+(AC n).length) (AU (xs++AC n))∧M=[.dead]):=by
 have hlg:=(Nat.log2_lt (n:=n) (k:=40) (by omega)).2 (by omega)
 have hgl:=D6 n
 obtain⟨q,hq⟩:∃q,q=Nat.log2 n:=⟨_,rfl⟩
 have spl:=bk n h1 h2
 rw[←hq] at spl hlg hgl
 refine Aa.start (fn:=Tryz.f166) [.tmp 6] tk rfl rfl rfl (by kernel_rfl) (Nat.le_of_ble_eq_true rfl) rfl (by kernel_rfl) ?_
 rw[Bd]
 refine zs ?_
 refine zs ?_
 refine zb ?_
 refine zs ?_
 refine zn ?_
 refine zs ?_
 refine zt ?_
 refine z0 ?_;intro K hK
 refine Ab.eq spl (by simp) (by simp) ?_
 refine zx ?_
 refine Ab.pass [0] (Wt xs u 0 q (by omega) (by omega) (by omega)) (by simp) (by simp) (by simp) (by simp) ?_
 rintro r M ⟨rfl,rfl⟩ _
 refine zx ?_
 refine Ab.eq spl (by simp) (by simp) ?_
 refine zx ?_
 have sp2:=Wt (xs++A6 0 q) 0 n (q+1) (by simp;omega) (by omega) (by omega)
 refine Ab.pass [1] sp2 (by simp) (by simp) (by simp) (by simp) ?_
 rintro r M ⟨rfl,rfl⟩ _
 refine zx ?_
 refine zk ?_;clear hK K
 refine zr ?_
 have hgb:AC n=A6 0 q++A6 n (q+1):=by rw[AC,hq]
 exact⟨by omega,by rw[List.take_of_length_le (by simp;omega),hgb]⟩
theorem Qk (n:Nat) (h1:1≤n) (h2:n<1099511627776):Aa pg 166 [.own 1 0 [],.int .i64 2,.int .i64 n] [] (fun r _=>r= .own 1 (AC n).length (AU (AC n))):=by
 have h:=Aa.nil (by simpa using DX [] 0 n (by simp) h1 h2)
 simpa using h
theorem Z2 (n:Int):Aa pg 181 [.int .i64 2,.int .i64 n] [] (fun r _=>r= .bool (decide (1≤n∧n≤1073741824))):=by
 refine Aa.start (fn:=Tryz.f181) [.tmp 4] tk rfl rfl rfl (by kernel_rfl) (Nat.le_of_ble_eq_true rfl) rfl (by kernel_rfl) ?_
 rw[At]
 refine zs ?_
 refine zs ?_
 refine zn ?_
 refine W.skip ?_
 refine z0 ?_;intro K hK
 refine Ab.eq (Ez 2 2 5) (by simp) (by simp) ?_
 rw[decide_eq_true (by omega)]
 refine zx ?_
 refine Ab.eq (Ez n 1 1073741824) (by simp) (by simp) ?_
 refine zx ?_
 refine zk ?_;clear hK K
 exact zR
def FR (o:Option (Nat×Nat)):AV:=match o with|some x=> .tup [.int .i64 x.1,.int .i64 x.2] |none=> .tup [.int .i64 (-1),.int .i64 0]
theorem Fn (l:List Bool) (p:Nat) (hl:l.length<1000000000) (hp:p≤l.length):Aa pg 143 [.ro l.length (AU l),.int .i64 p,.int .i64 2] [] (fun r _=>r=FR (A0 l p)):=by
 have spz:=YK l p (by omega) hp
 refine Aa.start (fn:=Tryz.f143) [.tmp 6,.tmp 7] tk rfl rfl rfl (by kernel_rfl) (Nat.le_of_ble_eq_true rfl) rfl (by kernel_rfl) ?_
 rw[Bd]
 refine zs ?_
 refine z0 ?_;intro K hK
 refine Ab.eq spz (by simp) (by simp) ?_
 cases ha:ahead l p with
 |none=>
  have hg:A0 l p=none:=by unfold A0;rw[ha]
  simp only[Ee];simp -implicitDefEqProofs (maxSteps:=999999) (disch:=omega) [nb]
  refine zk ?_;clear hK K
  refine zs ?_
  refine zt ?_
  refine zs ?_
  refine zr ?_
  rw[hg];rfl
 |some q=>
  have hql:p+q<l.length:=by
   have:=List.findIdx?_eq_some_iff_findIdx_eq.1 ha
   simp at this;omega
  simp only[Ee];simp -implicitDefEqProofs (maxSteps:=999999) (disch:=omega) [nb]
  refine zk ?_;clear hK K
  refine zs ?_
  refine zn ?_
  refine W.skip ?_
  refine z0 ?_;intro K hK
  refine zk ?_;clear hK K
  refine zs ?_
  refine zb ?_
  refine zs ?_
  refine zn ?_
  refine zs ?_
  refine zt ?_
  by_cases c:q≤30∧p+2*q+1≤l.length
  rotate_left
  .have hg:A0 l p=none:=by unfold A0;rw[ha];simp only;rw[if_neg c]
   by_cases c1:q≤30
   .have c2:¬p+2*q+1≤l.length:=fun h=>c ⟨c1,h⟩
    have c3:(l.length:Int)<(p:Int)+2*q+1:=by omega
    have c4:¬(30:Int)<(q:Int):=by omega
    refine Af (an c3 c4) ?_;intro K hK
    refine zk ?_;clear hK K
    refine zt ?_
    refine zs ?_
    refine zr ?_
    rw[hg];rfl
   .have c4:(30:Int)<(q:Int):=by omega
    refine Af c4 ?_;intro K hK
    refine zk ?_;clear hK K
    refine zt ?_
    refine zs ?_
    refine zr ?_
    rw[hg];rfl
  have c4:¬(30:Int)<(q:Int):=by omega
  have c3:¬(l.length:Int)<(p:Int)+2*q+1:=by omega
  refine Af (an c3 c4) ?_;intro K hK
  refine zk ?_;clear hK K
  refine zn ?_
  refine W.skip ?_
  have spg:=bj l (p+q) (q+1) (by omega) (by omega) (by omega)
  have hgr:A0 l p=if BG ((l.drop (p+q)).take (q+1))≤1073741824 then some (BG ((l.drop (p+q)).take (q+1)),p+2*q+1) else none:=by
   unfold A0;rw[ha];simp only;rw[if_pos c]
  have hpos:1≤BG ((l.drop (p+q)).take (q+1)):=by
   obtain⟨r,hr⟩:=Ib ha
   have e1:(l.drop (p+q)).take (q+1)=true::r.take q:=by
    rw[←List.drop_drop,hr,List.drop_append];simp
   rw[e1,Ff]
   have:0<2^(r.take q).length:=Nat.pow_pos (by omega)
   simp only[Bool.toNat_true,Nat.one_mul];omega
  generalize BG ((l.drop (p+q)).take (q+1))=v at*
  refine z0 ?_;intro K hK
  refine Ab.eq spg (by simp) (by simp) ?_
  refine zx ?_
  refine zk ?_;clear hK K
  refine z0 ?_;intro K hK
  refine Ab.eq (Z2 v) (by simp) (by simp) ?_
  by_cases cv:v≤1073741824
  .rw[decide_eq_true (by omega)]
   refine zx ?_
   refine zk ?_;clear hK K
   refine zn ?_
   refine W.skip ?_
   refine zs ?_
   refine zr ?_
   rw[hgr,if_pos cv]
   simp[FR]
  .rw[decide_eq_false (by omega)]
   refine zx ?_
   refine zk ?_;clear hK K
   refine zt ?_
   refine zs ?_
   refine zr ?_
   rw[hgr,if_neg cv];rfl
end Go.Abs
