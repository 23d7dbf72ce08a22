/- Questions: may one be asked; is a job over; are two the same. -/
import Derived.Test.YtoklapibcmnaeaaGreatP8
set_option linter.unusedVariables false
set_option linter.unusedSimpArgs false
set_option maxRecDepth 100000
namespace Go.Abs
open Go.Proofs
theorem QD (k:Int):Aa pg 249 [.int .i64 k] [] (fun r _=>r= .bool (named k)):=by
 refine Aa.start (fn:=Tryz.f249) [.tmp 2] tk rfl rfl rfl (by kernel_rfl) (Nat.le_of_ble_eq_true rfl) rfl (by kernel_rfl) ?_
 rw[Av]
 refine zs ?_
 by_cases h1:k=1
 .refine Af h1 ?_;intro K hK
  refine zk ?_;clear hK K
  refine zr ?_
  simp[named,h1]
 .by_cases h2:k=2
  .refine Af (an h1 h2) ?_;intro K hK
   refine zk ?_;clear hK K
   refine zr ?_
   simp[named,h2]
  .refine Af (an h1 h2) ?_;intro K hK
   refine zk ?_;clear hK K
   refine zr ?_
   simp[named,h1,h2]
theorem XN (g:Gr) (k a:Int) (hg:FW g) (hm:A1 g):Aa pg 237 [.agg (A3 false g),.int .i64 k,.int .i64 a] [] (fun r _=>r= .int .i64 (Dx g k a)):=by
 refine Aa.start (fn:=Tryz.f237) [.tmp 6] tk rfl rfl rfl (by kernel_rfl) (Nat.le_of_ble_eq_true rfl) rfl (by kernel_rfl) ?_
 rw[Bi]
 refine z1 ?_;intro K hK;refine zk ?_;clear hK K
 refine zb ?_
 have hM:=L5 g hg
 rw[decide_eq_true hm] at hM
 by_cases h1:k<1
 .refine Af h1 ?_;intro K hK
  refine Ab.eq hM (by simp) (by simp) ?_
  refine AO h1 ?_
  refine zk ?_;clear hK K
  refine zt ?_
  refine zs ?_
  refine zr ?_
  rw[Dx,if_pos (by omega)]
 .by_cases h2:k≤6
  .refine Af (an h1 h2) ?_;intro K hK
   refine Ab.eq hM (by simp) (by simp) ?_
   refine AO (an h1 h2) ?_
   refine zk ?_;clear hK K
   refine zn ?_
   refine z0 ?_;intro K hK
   refine Ab.eq (QD k) (by simp) (by simp) ?_
   cases hn:named k
   .refine zx ?_
    refine zk ?_;clear hK K
    refine zn ?_
    refine W.skip ?_
    refine zs ?_
    refine zr ?_
    rw[Dx,if_neg (by omega),if_neg (by simp[hn])]
   .refine zx ?_
    refine Ab.eq (Vw g a) (by simp) (by simp) ?_
    by_cases h3:0≤a∧a<g.n
    .rw[decide_eq_true h3]
     refine zx ?_
     refine zk ?_;clear hK K
     refine zn ?_
     refine W.skip ?_
     refine zs ?_
     refine zr ?_
     rw[Dx,if_neg (by omega),if_neg (by simp[h3])]
    .rw[decide_eq_false h3]
     refine zx ?_
     refine zk ?_;clear hK K
     refine zt ?_
     refine zs ?_
     refine zr ?_
     rw[Dx,if_neg (by omega),if_pos ⟨hn,h3⟩]
  .refine Af (an h1 h2) ?_;intro K hK
   refine Ab.eq hM (by simp) (by simp) ?_
   refine AO (an h1 h2) ?_
   refine zk ?_;clear hK K
   refine zt ?_
   refine zs ?_
   refine zr ?_
   rw[Dx,if_pos (by omega)]
theorem Pn (g:Gr) (j:Cf) (hl:j.list.length<1000000000000):Aa pg 194 [.agg (A3 false g),.agg (BT false j)] [] (fun r _=>r= .bool (BP g j)):=by
 refine Aa.start (fn:=Tryz.f194) [.tmp 4] tk rfl rfl rfl (by kernel_rfl) (Nat.le_of_ble_eq_true rfl) rfl (by kernel_rfl) ?_
 rw[Ar]
 refine z2 ?_;intro K hK;refine zk ?_;clear hK K
 refine zs ?_
 refine zb ?_
 refine zs ?_
 refine zc ?_ ?_<;>intro h
 .refine zs ?_
  refine zr ?_
  simp[BP,h]
 .have h1:=h;clear h
  refine zs ?_
  refine zc ?_ ?_<;>intro h
  .refine zs ?_
   refine zr ?_
   simp[BP,h]
  .refine W.skip ?_
   refine zs ?_
   refine zr ?_
   simp[BP, *]
theorem TB (a b:Cf) (ha:a.list.length<1000000000000∧a.out.length<1000000000000):Aa pg 218 [.agg (BT false a),.agg (BT false b)] [] (fun r _=>r= .bool (decide (a=b))):=by
 have e0:(a=b)↔a.kind=b.kind∧a.a=b.a∧a.at_=b.at_∧a.move=b.move∧a.list=b.list∧a.out=b.out:=Cf.ext_iff
 refine Aa.start (fn:=Tryz.f218) [.tmp 4] tk rfl rfl rfl (by kernel_rfl) (Nat.le_of_ble_eq_true rfl) rfl (by kernel_rfl) ?_
 rw[Ar]
 refine z2 ?_;intro K hK;refine zk ?_;clear hK K
 by_cases h1:a.kind=b.kind
 .by_cases h2:a.a=b.a
  .by_cases h3:a.at_=b.at_
   .by_cases h4:a.move=b.move
    .refine Af (an h1 (an h2 (an h3 h4))) ?_;intro K hK
     refine Ab.eq (Ij a.list b.list (by omega)) (by simp) (by simp) ?_
     by_cases h5:a.list=b.list
     .rw[decide_eq_true h5]
      refine zx ?_
      refine Ab.eq (Ij a.out b.out (by omega)) (by simp) (by simp) ?_
      refine zx ?_
      refine zk ?_;clear hK K
      refine zr ?_
      simp[e0,h1,h2,h3,h4,h5]
     .rw[decide_eq_false h5]
      refine zx ?_
      refine zk ?_;clear hK K
      refine zr ?_
      simp[e0,h5]
    .refine Af (an h1 (an h2 (an h3 h4))) ?_;intro K hK
     refine zk ?_;clear hK K
     refine zr ?_
     simp[e0,h4]
   .refine Af (an h1 (an h2 h3)) ?_;intro K hK
    refine zk ?_;clear hK K
    refine zr ?_
    simp[e0,h3]
  .refine Af (an h1 h2) ?_;intro K hK
   refine zk ?_;clear hK K
   refine zr ?_
   simp[e0,h2]
 .refine Af h1 ?_;intro K hK
  refine zk ?_;clear hK K
  refine zr ?_
  simp[e0,h1]
theorem Po (g:Gr):Aa pg 190 [.agg (A3 false g)] [] (fun r _=>r= .bool (decide (g=AJ))):=by
 have e0:(g=AJ)↔g.n=0∧g.out=[]:=Gr.ext_iff
 refine Aa.start (fn:=Tryz.f190) [.tmp 2] tk rfl rfl rfl (by kernel_rfl) (Nat.le_of_ble_eq_true rfl) rfl (by kernel_rfl) ?_
 rw[Av]
 refine z1 ?_;intro K hK;refine zk ?_;clear hK K
 by_cases h1:g.n=0
 .refine Af h1 ?_;intro K hK
  refine zk ?_;clear hK K
  refine zr ?_
  simp[e0,h1]
 .refine Af h1 ?_;intro K hK
  refine zk ?_;clear hK K
  refine zr ?_
  simp[e0,h1]
theorem J5 (j:Cf) (hj:j.list.length<1000000000000∧j.out.length<1000000000000):Aa pg 191 [.agg (BT false j)] [] (fun r _=>r= .bool (decide (j=CS))):=by
 have e0:(j=CS)↔j.kind=0∧j.a=0∧j.at_=0∧j.move=false∧j.list=[]∧j.out=[]:=Cf.ext_iff
 refine Aa.start (fn:=Tryz.f191) [.tmp 2] tk rfl rfl rfl (by kernel_rfl) (Nat.le_of_ble_eq_true rfl) rfl (by kernel_rfl) ?_
 rw[Av]
 refine z1 ?_;intro K hK;refine zk ?_;clear hK K
 by_cases h1:j.kind=0
 .by_cases h2:j.a=0
  .by_cases h3:j.at_=0
   .cases h4:j.move
    .refine Af (an h1 (an h2 (an h3 h4))) ?_;intro K hK
     refine zk ?_;clear hK K
     refine zr ?_
     simp[e0,h1,h2,h3,h4]
     rw[←List.length_eq_zero_iff,←List.length_eq_zero_iff]
     omega
    .refine Af (an h1 (an h2 (an h3 h4))) ?_;intro K hK
     refine zk ?_;clear hK K
     refine zr ?_
     simp[e0,h4]
   .refine Af (an h1 (an h2 h3)) ?_;intro K hK
    refine zk ?_;clear hK K
    refine zr ?_
    simp[e0,h3]
  .refine Af (an h1 h2) ?_;intro K hK
   refine zk ?_;clear hK K
   refine zr ?_
   simp[e0,h2]
 .refine Af h1 ?_;intro K hK
  refine zk ?_;clear hK K
  refine zr ?_
  simp[e0,h1]
end Go.Abs
set_option maxRecDepth 100000
namespace Go.Abs
open Go.Proofs
def A5 (s:Au):Prop:=s.vers.length<1000000000∧s.sess.length<1000000000∧∀v∈s.vers,v.data.data.size<1000000000
theorem A5.objs {s:Au} (h:A5 s):D9 (Aj s):=by
 refine⟨by have:=h.1;simp[Aj];omega,fun o ho=>?_⟩
 simp only[Aj,List.mem_map] at ho
 obtain⟨v,hv,rfl⟩:=ho
 exact h.2.2 v hv
theorem Mb (s:Au) (hs:A5 s):Aa pg 80 [.agg (An false s)] [] (fun r _=>r= .own 4 (Aj s).length (Ac Aq (Aj s))):=by
 have h1:=hs.1
 refine Aa.start (fn:=Tryz.f80) [.tmp 2] tk rfl rfl rfl (by kernel_rfl) (Nat.le_of_ble_eq_true rfl) rfl (by kernel_rfl) ?_
 rw[Av]
 refine z1 ?_;intro K hK;refine zk ?_;clear hK K
 refine zs ?_
 (repeat refine W.seq ?_);refine W.block (W.loopS (fun k:Nat=> [(2,.tok 1 k 4 0 k),(6,GW false s.vers),(7,.int .i64 s.vers.length),(8,.int .i64 k)]) (fun k=> [.live 0 (An false s),.live k (Ac Aq ((Aj s).take k))]) (fun k=>s.vers.length-k) (fun k=>k≤s.vers.length) 0 ((Wk.nil (t:=2) (s:=4) ?_).trans (Wk.fr ?_)) (by simp) ?_)
 .simp
 .simp[Ad]
 .intro k hk
  refine zs ?_
  refine zc ?_ ?_<;>intro h
  .refine W.skip ?_
   have hlt:k<s.vers.length:=by omega
   have hto:(Aj s).take (k+1)=(Aj s).take k++[B8 s.vers[k]]:=by
    rw[List.take_add_one];simp[Aj,hlt]
   have hlo:k≤(Aj s).length:=by simp[Aj];omega
   refine zb ?_
   (repeat refine W.seq ?_);refine W.reg 1 rfl fun K hK=>?_;simp -implicitDefEqProofs (maxSteps:=999999) (disch:=omega) [hlt]
   refine zk ?_;clear hK K
   refine LZ hlo ?_;intro K hK
   refine⟨by omega,by omega,?_⟩
   refine zk ?_;clear hK K
   refine zs ?_
   refine⟨k+1,by omega,by omega,Wk.cutM (k:=2) (by simp[Ad]) ?_ (by simp) (by simp) (by simp) (by simp)⟩
   rw[hto]
   simp[Cr,Az,B8]
  .refine W.exit ?_
   have hk' :k=s.vers.length:=by omega
   subst hk'
   have e:(Aj s).take s.vers.length=Aj s:=List.take_of_length_le (by simp[Aj])
   rw[e]
   refine zs ?_
   refine zr ?_
   rw[e]
   simp[Aj]
theorem Ey (s:Au) (hs:A5 s):Aa pg 76 [.agg (An false s)] [] (fun r _=>r= .int .i64 (A9 s.vers)):=by
 have h1:=hs.1
 refine Aa.start (fn:=Tryz.f76) [.tmp 2] tk rfl rfl rfl (by kernel_rfl) (Nat.le_of_ble_eq_true rfl) rfl (by kernel_rfl) ?_
 rw[Av]
 refine z1 ?_;intro K hK;refine zk ?_;clear hK K
 refine zs ?_
 refine zc ?_ ?_<;>intro h
 .refine zs ?_
  refine zr ?_
  simp[A9,h]
 .refine W.skip ?_
  have hp:0<s.vers.length:=List.length_pos_iff.2 h
  have hlt:s.vers.length-1<s.vers.length:=by omega
  (repeat refine W.seq ?_);refine W.reg 0 rfl fun K hK=>?_;simp -implicitDefEqProofs (maxSteps:=999999) (disch:=omega) [hlt]
  refine⟨by omega,?_⟩
  refine zk ?_;clear hK K
  refine zr ?_
  rw[A9,List.getLast?_eq_getElem?,List.getElem?_eq_getElem hlt]
theorem Ve (v:Bj) (id:Int):Aa pg 124 ([.agg (Ay v)]++[.rptr [.int .i64 id]]) [] (fun r _=>r= .bool (decide (v.id=id))):=by
 refine Aa.start (fn:=Tryz.f124) [.tmp 3] tk rfl rfl rfl (by kernel_rfl) (Nat.le_of_ble_eq_true rfl) rfl (by kernel_rfl) ?_
 simp only[List.cons_append,List.nil_append]
 rw[Ar]
 refine z1 ?_;intro K hK;refine zk ?_;clear hK K
 refine zs ?_
 exact zR
theorem G0 (s:Au) (id:Int) (hs:A5 s):Aa pg 82 [.agg (An false s),.int .i64 id] [] (fun r _=>r= .int .i64 (AI (fun v=>decide (v.id=id)) s.vers)):=by
 have h1:=hs.1
 refine Aa.start (fn:=Tryz.f82) [.tmp 4] tk rfl rfl rfl (by kernel_rfl) (Nat.le_of_ble_eq_true rfl) rfl (by kernel_rfl) ?_
 rw[Ar]
 refine z2 ?_;intro K hK;refine zk ?_;clear hK K
 refine z0 ?_;intro K hK
 refine Ab.eq (IZ s.vers 124 [.rptr [.int .i64 id]] (fun v=>decide (v.id=id)) (by omega) (fun v _=>Ve v id) (by simp)) (by simp) (by simp) ?_
 refine zx ?_
 refine zk ?_;clear hK K
 exact zR
theorem Pp (b:Da) (hb:b.data.size<1000000000):Aa pg 120 [.agg (Cs b)] [] (fun r _=>r= .int .i64 (CY b)):=by
 refine Aa.start (fn:=Tryz.f120) [.tmp 2] tk rfl rfl rfl (by kernel_rfl) (Nat.le_of_ble_eq_true rfl) rfl (by kernel_rfl) ?_
 rw[Av]
 refine z1 ?_;intro K hK;refine zk ?_;clear hK K
 refine z0 ?_;intro K hK
 refine zk ?_;clear hK K
 refine zr ?_
 unfold CY
 congr 1
 omega
theorem Pq (n:Int):Aa pg 160 [.int .i64 n] [] (fun r _=>r= .bool (decide (1≤n∧n≤100))):=by
 refine Aa.start (fn:=Tryz.f160) [.tmp 2] tk rfl rfl rfl (by kernel_rfl) (Nat.le_of_ble_eq_true rfl) rfl (by kernel_rfl) ?_
 rw[Av]
 refine zs ?_
 by_cases h1:1≤n
 .refine Af h1 ?_;intro K hK
  refine zk ?_;clear hK K
  exact zR
 .refine Af h1 ?_;intro K hK
  refine zk ?_;clear hK K
  exact zR
theorem TC (s:Au) (id:Int) (hs:A5 s) (hm:Cj (Aj s)) (BK:id≠0):Aa pg 83 [.agg (An false s),.int .i64 id] [] (fun r _=>r= .agg (A3 true (AR (Aj s) id).1)):=by
 have h1:=hs.1
 refine Aa.start (fn:=Tryz.f83) [.cell 4 51] tk rfl rfl rfl (by kernel_rfl) (Nat.le_of_ble_eq_true rfl) rfl (by kernel_rfl) ?_
 rw[Ar]
 refine z2 ?_;intro K hK;refine zk ?_;clear hK K
 refine Af BK ?_;intro K hK
 refine zk ?_;clear hK K
 refine zn ?_
 refine W.skip ?_
 refine z1 ?_;intro K hK
 refine Ab.eq (Mb s hs) (by simp) (by simp) ?_
 refine zx ?_
 refine Ab.eq (RH (Aj s) id hs.objs hm) (by simp) (by simp) ?_
 refine zx ?_
 refine zk ?_;clear hK K
 refine zs ?_
 exact zR
def lr (x:Int×Int):List AV:=Aw x
theorem Pr (s:Au) (hs:A5 s):Aa pg 79 [.agg (An false s)] [] (fun r _=>r= .own 2 (Ax s).length (Ac Aw (Ax s))):=by
 have h1:=hs.1
 refine Aa.start (fn:=Tryz.f79) [.tmp 2] tk rfl rfl rfl (by kernel_rfl) (Nat.le_of_ble_eq_true rfl) rfl (by kernel_rfl) ?_
 rw[Av]
 refine z1 ?_;intro K hK;refine zk ?_;clear hK K
 refine zs ?_
 (repeat refine W.seq ?_);refine W.block (W.loopS (fun k:Nat=> [(2,.tok 1 k 2 0 k),(6,GW false s.vers),(7,.int .i64 s.vers.length),(8,.int .i64 k)]) (fun k=> [.live 0 (An false s),.live k (Ac Aw ((Ax s).take k))]) (fun k=>s.vers.length-k) (fun k=>k≤s.vers.length) 0 ((Wk.nil (t:=2) (s:=2) ?_).trans (Wk.fr ?_)) (by simp) ?_)
 .simp
 .simp[Ad]
 .intro k hk
  refine zs ?_
  refine zc ?_ ?_<;>intro h
  .refine W.skip ?_
   have hlt:k<s.vers.length:=by omega
   have hto:(Ax s).take (k+1)=(Ax s).take k++[(s.vers[k].at_,CY s.vers[k].data)]:=by
    rw[List.take_add_one];simp[Ax,hlt]
   have hlo:k≤(Ax s).length:=by simp[Ax];omega
   have hB:=Pp s.vers[k].data (hs.2.2 _ (List.getElem_mem hlt))
   refine zb ?_
   (repeat refine W.seq ?_);refine W.reg 1 rfl fun K hK=>?_;simp -implicitDefEqProofs (maxSteps:=999999) (disch:=omega) [hlt]
   refine zk ?_;clear hK K
   (repeat refine W.seq ?_);refine W.regd 1 rfl true Ck (by kernel_rfl) fun K hK=>?_;simp -implicitDefEqProofs (maxSteps:=999999) (disch:=omega) [hlo]
   refine Ah.eq hB (by simp) (by simp) ?_
   refine AO hlo ?_
   refine⟨by omega,by omega,?_⟩
   refine zk ?_;clear hK K
   refine zs ?_
   refine⟨k+1,by omega,by omega,Wk.cutM (k:=2) (by simp[Ad]) ?_ (by simp) (by simp) (by simp) (by simp)⟩
   rw[hto]
   simp[Cr,Az,Aw]
  .refine W.exit ?_
   have hk' :k=s.vers.length:=by omega
   subst hk'
   have e:(Ax s).take s.vers.length=Ax s:=List.take_of_length_le (by simp[Ax])
   rw[e]
   refine zs ?_
   refine zr ?_
   rw[e]
   simp[Ax]
end Go.Abs
set_option maxRecDepth 100000
namespace Go.Abs
open Go.Proofs
theorem J6 (l:List Bj):Dg l=false↔∀i (h:i<l.length),i=l.length-1→l[i].gone=false:=by
 rw[Dg,List.getLast?_eq_getElem?]
 by_cases h:0<l.length
 .rw[List.getElem?_eq_getElem (by omega)]
  constructor
  .intro g i hi e;subst e;exact g
  .intro g;exact g _ (by omega) rfl
 .rw[List.getElem?_eq_none (by omega)]
  simp
  intro i hi;omega
theorem MD (s:Au) (hs:A5 s):Aa pg 154 [.agg (An false s)] [] (fun r _=>r= .bool (decide (Gk s))):=by
 have h1:=hs.1
 refine Aa.start (fn:=Tryz.f154) [.tmp 2] tk rfl rfl rfl (by kernel_rfl) (Nat.le_of_ble_eq_true rfl) rfl (by kernel_rfl) ?_
 rw[Av]
 refine z1 ?_;intro K hK;refine zk ?_;clear hK K
 by_cases c1:s.keep<1
 .refine Af c1 ?_;intro K hK
  refine zk ?_;clear hK K
  refine zt ?_
  refine zs ?_
  refine zr ?_
  intro g;have:=g.1;omega
 by_cases c2:s.keep≤8
 rotate_left
 .refine Af (an c1 c2) ?_;intro K hK
  refine zk ?_;clear hK K
  refine zt ?_
  refine zs ?_
  refine zr ?_
  intro g;have:=g.2.1;omega
 by_cases c3:s.blocks<1
 .refine Af (an c1 (an c2 c3)) ?_;intro K hK
  refine zk ?_;clear hK K
  refine zt ?_
  refine zs ?_
  refine zr ?_
  intro g;have:=g.2.2.1;omega
 by_cases c4:s.blocks≤100
 rotate_left
 .refine Af (an c1 (an c2 (an c3 c4))) ?_;intro K hK
  refine zk ?_;clear hK K
  refine zt ?_
  refine zs ?_
  refine zr ?_
  intro g;have:=g.2.2.2.1;omega
 refine Af (an c1 (an c2 (an c3 c4))) ?_;intro K hK
 refine zk ?_;clear hK K
 refine zn ?_
 refine W.skip ?_
 refine zs ?_
 (repeat refine W.seq ?_);refine W.block (W.loopS (fun k:Nat=> [(1,.ptr 0 0 0),(24,GW false s.vers),(25,.int .i64 s.vers.length),(26,.int .i64 k)]) (fun k=> [.live 0 (An false s)]) (fun k=>s.vers.length-k) (fun k=>k≤s.vers.length∧∀i (h:i<s.vers.length),i<k→FT s.vers[i]∧(i=s.vers.length-1→s.vers[i].gone=false)) 0 (Wk.fr (by simp[Ad])) (by simp) ?_)
 rintro k ⟨hk,ht⟩
 refine zs ?_
 refine zc ?_ ?_<;>intro h
 .refine W.skip ?_
  have hlt:k<s.vers.length:=by omega
  have bad:¬(FT s.vers[k]∧(k=s.vers.length-1→s.vers[k].gone=false))→¬Gk s:=fun g w=>g ⟨w.2.2.2.2.1 _ (List.getElem_mem hlt),fun e=>(J6 _).1 w.2.2.2.2.2.1 k hlt e⟩
  refine zb ?_
  (repeat refine W.seq ?_);refine W.reg 1 rfl fun K hK=>?_;simp -implicitDefEqProofs (maxSteps:=999999) (disch:=omega) [hlt]
  refine zk ?_;clear hK K
  have fail:¬(FT s.vers[k]∧(k=s.vers.length-1→s.vers[k].gone=false))→¬Gk s:=bad
  generalize hv:s.vers[k]=v at*
  by_cases d1:v.parent<0
  .refine Af d1 ?_;intro K hK
   refine zk ?_;clear hK K
   refine zt ?_
   refine zs ?_
   refine zr ?_
   exact bad fun g=>by have:=g.1.1;omega
  by_cases d2:v.parent<v.id
  rotate_left
  .refine Af (an d1 d2) ?_;intro K hK
   refine zk ?_;clear hK K
   refine zt ?_
   refine zs ?_
   refine zr ?_
   exact bad fun g=>d2 g.1.2.1
  cases d3:v.gone
  .cases d4:v.tag
   all_goals
    refine Af (an d1 (an d2 (an d3 d4))) ?_;intro K hK
    refine zk ?_;clear hK K
    refine zn ?_
    refine W.skip ?_
    refine zs ?_
    refine⟨k+1,by omega,⟨by omega,fun i hi hik=>?_⟩,Wk.cutM (k:=1) (by simp[Ad]) (by simp) (by simp) (by simp) (by simp) (by simp)⟩
    by_cases e:i=k
    .subst e;rw[hv];exact⟨⟨by omega,d2,by simp[d3]⟩,fun _=>d3⟩
    .exact ht i hi (by omega)
  .cases d4:v.tag
   .by_cases d5:k=s.vers.length-1
    .have d5' :(k:Int)=(s.vers.length:Int)-1:=by omega
     refine Af (an d1 (an d2 (an d3 (an d4 d5')))) ?_;intro K hK
     refine zk ?_;clear hK K
     refine zt ?_
     refine zs ?_
     refine zr ?_
     exact bad fun g=>by have:=g.2 d5;simp[d3] at this
    .have d5' :¬(k:Int)=(s.vers.length:Int)-1:=by omega
     refine Af (an d1 (an d2 (an d3 (an d4 d5')))) ?_;intro K hK
     refine zk ?_;clear hK K
     refine zn ?_
     refine W.skip ?_
     refine zs ?_
     refine⟨k+1,by omega,⟨by omega,fun i hi hik=>?_⟩,Wk.cutM (k:=1) (by simp[Ad]) (by simp) (by simp) (by simp) (by simp) (by simp)⟩
     by_cases e:i=k
     .subst e;rw[hv];exact⟨⟨by omega,d2,by simp[d4]⟩,fun e=>absurd e d5⟩
     .exact ht i hi (by omega)
   .refine Af (an d1 (an d2 (an d3 d4))) ?_;intro K hK
    refine zk ?_;clear hK K
    refine zt ?_
    refine zs ?_
    refine zr ?_
    exact bad fun g=>g.1.2.2 ⟨d4,d3⟩
 .refine W.exit ?_
  have hk' :k=s.vers.length:=by omega
  refine z0 ?_;intro K hK
  refine Ab.eq (Mb s hs) (by simp) (by simp) ?_
  refine zx ?_
  refine Ab.eq (Tx (Aj s) hs.objs) (by simp) (by simp) ?_
  refine zx ?_
  refine zk ?_;clear hK K
  refine zr ?_
  constructor
  .intro hm
   exact⟨by omega,c2,by omega,c4,fun v hv=>by
    obtain⟨i,hi,rfl⟩:=List.mem_iff_getElem.1 hv
    exact(ht i hi (by omega)).1,(J6 _).2 fun i hi e=>(ht i hi (by omega)).2 e,hm⟩
  .intro w;exact w.2.2.2.2.2.2
end Go.Abs
set_option maxRecDepth 100000
namespace Go.Abs
open Go.Proofs
def AK (xs:List Bool):List AV:=xs.map AV.bool
section
variable (xs ys:List Bool) (M:List Ag) (k:Nat)
@[simp] theorem aP (i:Nat):(AK xs)[i]?=(xs[i]?).map AV.bool:=by simp[AK]
@[simp] theorem aQ:(AK xs).length=xs.length:=by simp[AK]
@[simp] theorem aR:AK []=[]:=rfl
@[simp] theorem ZZ:(AK xs).take k=AK (xs.take k):=by simp[AK,List.map_take]
@[simp] theorem Z0:(AK xs).drop k=AK (xs.drop k):=by simp[AK,List.map_drop]
@[simp] theorem cV:EG (AK xs)=true:=by simp[AK,EG,-Ie]
@[simp] theorem cW:EH (AK xs)=true:=by simp[AK,EH,-JT]
@[simp] theorem cY:DJ (AK xs)=true:=by simp[AK,DJ,-If]
@[simp] theorem cZ:C1 k (AK xs)=true:=by induction xs<;>simp_all[AK]
@[simp] theorem aS:CP (AK xs)=true:=by induction xs<;>simp_all[AK]
@[simp] theorem aT:EF (AK xs)=AK xs:=by induction xs<;>simp_all[AK]
@[simp] theorem aU:(AK xs).map Ec=AK xs:=by simp[AK]
@[simp] theorem aV:(AK xs).map (Cp M k)=AK xs:=by cases k<;>simp[AK]
theorem FC (i:Nat) (b:Bool):(AK xs).set i (.bool b)=AK (xs.set i b):=by simp[AK]
theorem RI (n:Nat) (b:Bool):CB n [.bool b]=AK (List.replicate n b):=by
 unfold CB AK
 induction n with
 |zero=>rfl
 |succ n ih=>simp[List.replicate_succ]
end
def Ez (l:List (Int×Int)) (i:Int):Bool:=l.any fun x=>decide (x.1≤i∧i<x.1+x.2)
def Cv (l:List (Int×Int)) (n:Nat):List Bool:=(List.range n).map fun(j:Nat)=>Ez l (j:Int)
def C7 (l:List (Int×Int)) (n:Nat) (a i:Int):List Bool:=(List.range n).map fun(j:Nat)=>Ez l (j:Int) ||decide (a≤(j:Int)∧(j:Int)<i)
@[simp] theorem RJ (l:List (Int×Int)) (n:Nat):(Cv l n).length=n:=by simp[Cv]
@[simp] theorem Zb (l:List (Int×Int)) (n:Nat):(Cv l n).take n=Cv l n:=List.take_of_length_le (by simp)
@[simp] theorem Zc (l:List (Int×Int)) (n:Nat) (a i:Int):(C7 l n a i).length=n:=by simp[C7]
theorem PO {l:List (Int×Int)} {n i:Nat} {a:Int} (hi:i<n):(C7 l n a i)[i]'(by simpa using hi)=Ez l i:=by simp[C7]
theorem TE (l:List (Int×Int)) (n:Nat) (a:Int):C7 l n a a=Cv l n:=by
 unfold C7 Cv
 refine List.map_congr_left fun j _=>?_
 have:decide (a≤(j:Int)∧(j:Int)<a)=false:=by simp
 rw[this,Bool.or_false]
theorem PP (l:List (Int×Int)) (n:Nat) (x:Int×Int):C7 l n x.1 (x.1+x.2)=Cv (l++[x]) n:=by
 unfold C7 Cv
 refine List.map_congr_left fun j _=>?_
 simp[Ez]
theorem PQ (l:List (Int×Int)) (n i:Nat) (a:Int) (ha:a≤i) (hi:i<n):(C7 l n a i).set i true=C7 l n a ((i:Int)+1):=by
 refine List.ext_getElem (by simp[C7]) fun j h1 h2=>?_
 simp only[C7,List.length_map,List.length_range] at h2
 rw[List.getElem_set]
 by_cases e:i=j
 .subst e
  rw[if_pos rfl]
  simp[C7]
  right;omega
 .rw[if_neg e]
  simp only[C7,List.getElem_map,List.getElem_range]
  congr 1
  simp only[decide_eq_decide]
  omega
theorem I2 {l:List (Int×Int)} {x:Int×Int} (hl:∀y∈l,1≤y.2) (hx:1≤x.2):(l++[x]).Pairwise apart↔l.Pairwise apart∧∀i,x.1≤i→i<x.1+x.2→Ez l i=false:=by
 rw[List.pairwise_append]
 simp only[List.pairwise_singleton,true_and,List.mem_singleton,forall_eq,Ez,List.any_eq_false,decide_eq_true_eq,apart]
 constructor
 .rintro⟨h1,h2⟩
  refine⟨h1,fun i a b y hy c=>?_⟩
  have:=h2 y hy
  omega
 .rintro⟨h1,h2⟩
  refine⟨h1,fun y hy c=>?_⟩
  have hy1:=hl y hy
  by_cases e:y.1≤x.1
  .exact h2 x.1 (by omega) (by omega) y hy (by omega)
  .exact h2 y.1 (by omega) (by omega) y hy (by omega)
def Hm (l:List (Int×Int)) (n:Int):AV:=if CH l n then .tup [.own 1 n.toNat (AK (Cv l n.toNat)),.bool true] else .tup [.own 1 0 [],.bool false]
def J7 (l:List (Int×Int)) (n:Int):Prop:=(∀x∈l,0≤x.1∧1≤x.2∧x.1+x.2≤n)∧l.Pairwise apart
theorem NK {l:List (Int×Int)} {n:Int} {x:Int×Int}:J7 (l++[x]) n↔J7 l n∧(0≤x.1∧1≤x.2∧x.1+x.2≤n)∧∀i,x.1≤i→i<x.1+x.2→Ez l i=false:=by
 unfold J7
 constructor
 .rintro⟨h1,h2⟩
  have hx:=h1 x (by simp)
  have h3:=(I2 (fun y hy=>(h1 y (by simp[hy])).2.1) hx.2.1).1 h2
  exact⟨⟨fun y hy=>h1 y (by simp[hy]),h3.1⟩,hx,h3.2⟩
 .rintro⟨⟨h1,h2⟩,hx,h3⟩
  refine⟨fun y hy=>?_,(I2 (fun y hy=>(h1 y hy).2.1) hx.2.1).2 ⟨h2,h3⟩⟩
  rcases List.mem_append.1 hy with h|h
  .exact h1 y h
  .simp at h;subst h;exact hx
theorem TF {l:List (Int×Int)} {n:Int} (k:Nat) (h:J7 l n):J7 (l.take k) n:=⟨fun x hx=>h.1 x (List.mem_of_mem_take hx),h.2.sublist (List.take_sublist _ _)⟩
theorem QE (l:List (Int×Int)) (n:Int) (hl:l.length<1000000000):Aa pg 121 [.ro l.length (Ac Aw l),.int .i64 n] [] (fun r _=>r=Hm l n):=by
 refine Aa.start (fn:=Tryz.f121) [.tmp 4,.tmp 5] tk rfl rfl rfl (by kernel_rfl) (Nat.le_of_ble_eq_true rfl) rfl (by kernel_rfl) ?_
 rw[Ar]
 refine zs ?_
 refine z0 ?_;intro K hK
 refine Ab.eq (Pq n) (by simp) (by simp) ?_
 by_cases c1:1≤n∧n≤100
 rotate_left
 .rw[decide_eq_false c1]
  refine zx ?_
  refine zk ?_;clear hK K
  refine zt ?_
  refine zs ?_
  refine zr ?_
  rw[Hm,if_neg (fun g=>c1 ⟨g.1,g.2.1⟩)]
 rw[decide_eq_true c1]
 by_cases c2:l.length≤13
 rotate_left
 .refine AO c2 ?_
  refine zk ?_;clear hK K
  refine zt ?_
  refine zs ?_
  refine zr ?_
  rw[Hm,if_neg (fun g=>c2 g.2.2.1)]
 refine AO c2 ?_
 refine zk ?_;clear hK K
 refine zn ?_
 refine W.skip ?_
 refine z1 ?_;intro K hK
 refine⟨by omega,by omega,by show n≤(9223372036854775807:Int);omega,?_⟩
 refine zk ?_;clear hK K
 have e0:CB n.toNat [.bool false]=AK (Cv (l.take 0) n.toNat):=by
  rw[RI];congr 1
  exact List.ext_getElem (by simp[Cv]) fun j _ _=>by simp[Cv,Ez]
 rw[e0]
 refine zs ?_
 (repeat refine W.seq ?_);refine W.block (W.loopS (fun k:Nat=> [(0,.ro l.length (Ac Aw l)),(1,.int .i64 n),(6,.tok 0 0 1 0 n.toNat),(20,.ro l.length (Ac Aw l)),(21,.int .i64 l.length),(22,.int .i64 k)]) (fun k=> [.live 0 (AK (Cv (l.take k) n.toNat))]) (fun k=>l.length-k) (fun k=>k≤l.length∧J7 (l.take k) n) 0 (Wk.fr (by simp[Ad])) ⟨by omega,by simp[J7]⟩ ?_)
 rintro k ⟨hk,hok⟩
 refine zs ?_
 refine zc ?_ ?_<;>intro h
 .refine W.skip ?_
  have hlt:k<l.length:=by omega
  have hto:l.take (k+1)=l.take k++[l[k]]:=by rw[List.take_add_one];simp[hlt]
  have bad:¬J7 (l.take k++[l[k]]) n→Hm l n= .tup [.own 1 0 [],.bool false]:=fun g=>by
   rw[Hm,if_neg]
   intro w
   rw[←hto] at g
   exact g (TF (k+1) ⟨w.2.2.2.1,w.2.2.2.2⟩)
  rw[NK] at bad
  refine zb ?_
  (repeat refine W.seq ?_);refine W.reg 1 rfl fun K hK=>?_;simp -implicitDefEqProofs (maxSteps:=999999) (disch:=omega) [hlt]
  refine zk ?_;clear hK K
  generalize hv:l[k]=x at*
  obtain⟨x1,x2⟩:=x
  simp only at bad
  by_cases d1:x2<1
  .refine Af d1 ?_;intro K hK
   refine zk ?_;clear hK K
   refine zt ?_
   refine zs ?_
   refine zr ?_
   rw[bad (by omega)]
  by_cases d2:x1<0
  .refine Af (an d1 d2) ?_;intro K hK
   refine zk ?_;clear hK K
   refine zt ?_
   refine zs ?_
   refine zr ?_
   rw[bad (by omega)]
  by_cases d3:n≤x1
  .refine Af (an d1 (an d2 d3)) ?_;intro K hK
   refine zk ?_;clear hK K
   refine zt ?_
   refine zs ?_
   refine zr ?_
   rw[bad (by omega)]
  by_cases d4:x2≤n-x1
  rotate_left
  .refine Af (an d1 (an d2 (an d3 d4))) ?_;intro K hK
   refine zk ?_;clear hK K
   refine zt ?_
   refine zs ?_
   refine zr ?_
   rw[bad (by omega)]
  refine Af (an d1 (an d2 (an d3 d4))) ?_;intro K hK
  refine zk ?_;clear hK K
  refine zn ?_
  refine W.skip ?_
  refine zs ?_
  obtain⟨b,rfl⟩:=Int.eq_ofNat_of_zero_le (by omega:0≤x1)
  obtain⟨e,rfl⟩:=Int.eq_ofNat_of_zero_le (by omega:0≤x2)
  rw[←TE _ _ (b:Int)]
  (repeat refine W.seq ?_);refine W.block (W.loopS (fun i:Nat=> [(0,.ro l.length (Ac Aw l)),(1,.int .i64 n),(6,.tok 0 0 1 0 n.toNat),(8,.ptr 1 0 0),(9,.int .i64 i),(20,.ro l.length (Ac Aw l)),(21,.int .i64 l.length),(22,.int .i64 k)]) (fun i=> [.live 0 (AK (C7 (l.take k) n.toNat b i)),.live 0 [.int .i64 b,.int .i64 e]]) (fun i=>b+e-i) (fun i=>b≤i∧i≤b+e∧∀j:Int,b≤j→j<i→Ez (l.take k) j=false) b (Wk.fr (by simp[Ad])) ⟨by omega,by omega,fun j h1 h2=>by omega⟩ ?_)
  rintro i ⟨hb,hi,hf⟩
  refine zs ?_
  refine zc ?_ ?_<;>intro h
  .refine W.skip ?_
   have hin:i<n.toNat:=by omega
   refine zb ?_
   have hget:(C7 (List.take k l) n.toNat (b:Int) (i:Int))[i]?=some (Ez (l.take k) i):=by rw[List.getElem?_eq_getElem (by simpa using hin),PO hin]
   cases ht:Ez (l.take k) i
   .rw[ht] at hget
    refine Af (an hin hget) ?_;intro K hK
    refine⟨by omega,?_⟩
    refine zk ?_;clear hK K
    refine zn ?_
    refine W.skip ?_
    refine Af (an hin FC) ?_;intro K hK
    refine⟨by omega,?_⟩
    refine zk ?_;clear hK K
    refine zs ?_
    refine⟨i+1,by omega,⟨by omega,by omega,fun j h1 h2=>?_⟩,?_⟩
    .by_cases e:j=i
     .subst e;exact ht
     .exact hf j h1 (by omega)
    .rw[PQ _ _ _ _ (by omega) hin]
     exact Wk.fr (by simp[Ad])
   .rw[ht] at hget
    refine Af (an hin hget) ?_;intro K hK
    refine⟨by omega,?_⟩
    refine zk ?_;clear hK K
    refine zt ?_
    refine zs ?_
    refine zr ?_
    rw[bad (fun g=>by have:=g.2.2 i (by omega) (by omega);rw[ht] at this;cases this)]
  .refine W.exit ?_
   have hie:i=b+e:=by omega
   subst hie
   refine zs ?_
   refine⟨k+1,by omega,⟨by omega,?_⟩,?_⟩
   .rw[hto,NK]
    exact⟨hok,⟨by omega,by omega,by omega⟩,fun j h1 h2=>hf j h1 (by simpa using h2)⟩
   .rw[hto]
    have e2:=PP (l.take k) n.toNat ((b:Int),(e:Int))
    simp only at e2
    rw[e2]
    exact Wk.cutM (k:=1) (by simp[Ad]) (by simp) (by simp) (by simp) (by simp) (by simp)
 .refine W.exit ?_
  have hk' :k=l.length:=by omega
  subst hk'
  rw[List.take_length] at hok
  have e:Hm l n= .tup [.own 1 n.toNat (AK (Cv l n.toNat)),.bool true]:=by rw[Hm,if_pos ⟨c1.1,c1.2,c2,hok.1,hok.2⟩]
  have e2:l.take l.length=l:=List.take_length
  rw[e2]
  refine zs ?_
  refine zr ?_
  rw[e]
end Go.Abs
set_option maxRecDepth 100000
namespace Go.Abs
open Go.Proofs
theorem Y2 (l:List (Int×Int)) (n:Int) (hl:l.length<1000000000):Aa pg 115 [.ro l.length (Ac Aw l),.int .i64 n] [] (fun r _=>r= .bool (decide (CH l n))):=by
 have sp:=QE l n hl
 refine Aa.start (fn:=Tryz.f115) [.tmp 4] tk rfl rfl rfl (by kernel_rfl) (Nat.le_of_ble_eq_true rfl) rfl (by kernel_rfl) ?_
 rw[Ar]
 refine zs ?_
 refine z0 ?_;intro K hK
 by_cases h:CH l n
 .rw[Hm,if_pos h] at sp
  refine Ab.eq sp (by simp) (by simp) ?_
  refine zx ?_
  refine zk ?_;clear hK K
  refine zs ?_
  refine zr ?_
  simp[h]
 .rw[Hm,if_neg h] at sp
  refine Ab.eq sp (by simp) (by simp) ?_
  refine zx ?_
  refine zk ?_;clear hK K
  refine zs ?_
  refine zr ?_
  simp[h]
theorem Je (xs:List CT) (f:Nat) (caps:List AV) (p:CT→Bool) (hx:xs.length<1000000000000) (hf:∀x∈xs,Aa pg f ([.agg ((AB false) x)]++caps) [] fun r _=>r= .bool (p x)) (hcv:∀M,caps.map (vw M)=caps) (hcc:∀M k,caps.map (Cp M k)=caps):
 Aa pg 155 [.ro xs.length (Ac (AB false) xs),.fn f caps] [] (fun r _=>r= .bool (xs.any p)):=by
 refine Aa.start (fn:=Tryz.f155) [.tmp 4] tk rfl rfl rfl (by kernel_rfl) (Nat.le_of_ble_eq_true rfl) rfl (by kernel_rfl) ?_
 rw[Ar]
 refine zs ?_
 refine z0 ?_;intro K hK
 refine Ab.eq (RE xs f caps p hx hf hcv) (by simp[hcc]) (by simp) ?_
 refine zx ?_
 refine zk ?_;clear hK K
 refine zr ?_
 rw[Bool.eq_iff_iff]
 simp[Cw]
theorem TG (x:CT) (id:Int):Aa pg 159 ([.agg (AB false x)]++[.rptr [.int .i64 id]]) [] (fun r _=>r= .bool (decide (x.pin=id))):=by
 refine Aa.start (fn:=Tryz.f159) [.tmp 3] tk rfl rfl rfl (by kernel_rfl) (Nat.le_of_ble_eq_true rfl) rfl (by kernel_rfl) ?_
 simp only[List.cons_append,List.nil_append]
 rw[Ar]
 refine z1 ?_;intro K hK;refine zk ?_;clear hK K
 refine zs ?_
 exact zR
def pinned (s:Au) (id:Int):Bool:=s.sess.any fun x=>decide (x.pin=id)
theorem K8 (s:Au) (id:Int) (hs:A5 s):Aa pg 117 [.agg (An false s),.int .i64 id] [] (fun r _=>r= .bool (pinned s id)):=by
 have h1:=hs.2.1
 refine Aa.start (fn:=Tryz.f117) [.tmp 4] tk rfl rfl rfl (by kernel_rfl) (Nat.le_of_ble_eq_true rfl) rfl (by kernel_rfl) ?_
 rw[Ar]
 refine z2 ?_;intro K hK;refine zk ?_;clear hK K
 refine z0 ?_;intro K hK
 refine Ab.eq (Je s.sess 159 [.rptr [.int .i64 id]] (fun x=>decide (x.pin=id)) (by omega) (fun x _=>TG x id) (by simp) (by simp)) (by simp) (by simp) ?_
 refine zx ?_
 refine zk ?_;clear hK K
 refine zr ?_
 rfl
def Ea (l:List Bj):List Int:=(l.filter fun v=> !v.gone).map Bj.id
theorem RK {l:List Bj} {k:Nat} (hk:k<l.length):Ea (l.take (k+1))=Ea (l.take k)++if l[k].gone=true then [] else [l[k].id]:=by
 rw[List.take_add_one,Ea,List.filter_append,List.map_append]
 simp only[List.getElem?_eq_getElem hk,Option.toList_some]
 cases h:l[k].gone<;>simp[Ea,h]
theorem NL (l:List Bj):(Ea l).length≤l.length:=by
 simp only[Ea,List.length_map];exact List.length_filter_le _ _
theorem Y3 (s:Au) (hs:A5 s):Aa pg 74 [.agg (An false s)] [] (fun r _=>r= .own 1 (Ea s.vers).length (Ae (Ea s.vers))):=by
 have h1:=hs.1
 refine Aa.start (fn:=Tryz.f74) [.tmp 2] tk rfl rfl rfl (by kernel_rfl) (Nat.le_of_ble_eq_true rfl) rfl (by kernel_rfl) ?_
 rw[Av]
 refine z1 ?_;intro K hK;refine zk ?_;clear hK K
 refine zs ?_
 (repeat refine W.seq ?_);refine W.block (W.loopS (fun s2:Nat×List Int=> [(2,.tok 1 s2.2.length 1 0 s2.2.length),(6,GW false s.vers),(7,.int .i64 s.vers.length),(8,.int .i64 s2.1)]) (fun s2=> [.live 0 (An false s),.live s2.2.length (Ae s2.2)]) (fun s2=>s.vers.length-s2.1) (fun s2=>s2.1≤s.vers.length∧s2.2=Ea (s.vers.take s2.1)) (0,[]) ((Wk.nil (t:=2) (s:=1) ?_).trans (Wk.fr ?_)) (by simp[Ea]) ?_)
 .simp
 .simp[Ad]
 .rintro⟨k,acc⟩ ⟨hk,hacc⟩
  simp only at hk hacc
  have hal:acc.length≤k:=by rw[hacc];exact Nat.le_trans (NL _) (by simp;omega)
  refine zs ?_
  refine zc ?_ ?_<;>intro h
  .refine W.skip ?_
   have hlt:k<s.vers.length:=by omega
   have hst:=RK hlt
   refine zb ?_
   (repeat refine W.seq ?_);refine W.reg 1 rfl fun K hK=>?_;simp -implicitDefEqProofs (maxSteps:=999999) (disch:=omega) [hlt]
   refine zk ?_;clear hK K
   cases hg:s.vers[k].gone
   .rw[hg] at hst
    refine Af hg ?_;intro K hK
    refine zk ?_;clear hK K
    refine zt ?_
    refine z1 ?_;intro K hK
    refine⟨by omega,by omega,?_⟩
    refine zk ?_;clear hK K
    refine zs ?_
    refine⟨(k+1,acc++[s.vers[k].id]),by simp;omega,⟨by simp;omega,?_⟩,Wk.cutM (k:=2) (by simp[Ad]) ?_ (by simp) (by simp) (by simp) (by simp)⟩
    .simp only;rw[hst,hacc];simp
    .simp[B6,Ae]
   .rw[hg] at hst
    refine Af hg ?_;intro K hK
    refine zk ?_;clear hK K
    refine zn ?_
    refine W.skip ?_
    refine zs ?_
    refine⟨(k+1,acc),by simp;omega,⟨by simp;omega,?_⟩,Wk.cutM (k:=2) (by simp[Ad]) (by simp) (by simp) (by simp) (by simp) (by simp)⟩
    simp only;rw[hst,hacc];simp
  .refine W.exit ?_
   have hk' :k=s.vers.length:=by omega
   subst hk'
   rw[List.take_length] at hacc
   subst hacc
   refine zs ?_
   exact zR
def RL (s:Au):List Int:=(Ea s.vers).drop (max 0 (((Ea s.vers).length:Int)-s.keep)).toNat
def I3 (s:Au) (v:Bj):Bool:=v.tag|| (RL s).contains v.id||pinned s v.id
def DM (s:Au) (want:Bool) (l:List Bj):List Int:=(l.filter fun v=>I3 s v==want).map Bj.id
def DN (s:Au) (want:Bool):List Int:=DM s want s.vers
theorem J8 {s:Au} {want:Bool} {l:List Bj} {k:Nat} (hk:k<l.length):DM s want (l.take (k+1))=DM s want (l.take k)++if (I3 s l[k]==want)=true then [l[k].id] else []:=by
 rw[List.take_add_one,DM,List.filter_append,List.map_append]
 simp only[List.getElem?_eq_getElem hk,Option.toList_some]
 cases h:I3 s l[k]==want<;>simp[DM,h]
theorem HZ (s:Au) (want:Bool) (l:List Bj):(DM s want l).length≤l.length:=by
 simp only[DM,List.length_map];exact List.length_filter_le _ _
theorem Vf (s:Au) (want:Bool) (hs:A5 s) (hk0:0≤s.keep∧s.keep≤1000000):Aa pg 73 [.agg (An false s),.bool want] [] (fun r _=>r= .own 1 (DN s want).length (Ae (DN s want))):=by
 have h1:=hs.1
 have hsl:=NL s.vers
 obtain⟨m,hm⟩:∃m:Nat,max 0 (((Ea s.vers).length:Int)-s.keep)=(m:Int):=⟨_,(Int.toNat_of_nonneg (by omega)).symm⟩
 have hml:m≤(Ea s.vers).length:=by omega
 have hla:RL s=(Ea s.vers).drop m:=by rw[RL,hm];rfl
 refine Aa.start (fn:=Tryz.f73) [.tmp 4] tk rfl rfl rfl (by kernel_rfl) (Nat.le_of_ble_eq_true rfl) rfl (by kernel_rfl) ?_
 rw[Ar]
 refine z1 ?_;intro K hK;refine zk ?_;clear hK K
 refine z0 ?_;intro K hK
 refine Ab.eq (Y3 s hs) (by simp) (by simp) ?_
 refine zx ?_
 refine zk ?_;clear hK K
 generalize Ea s.vers=seen at*
 by_cases hlk:s.keep<(seen.length:Int)
 .have em:(seen.length:Int)-s.keep=m:=by omega
  have hm0:0<m:=by omega
  refine Af (an em (an hlk hm0)) ?_;intro K hK
  refine zk ?_;clear hK K
  refine zs ?_
  (repeat refine W.seq ?_);refine W.block (W.loopS (fun s2:Nat×List Int=> [(1,.bool want),(2,.ptr 0 0 0),(4,.tok 2 s2.2.length 1 0 s2.2.length),(5,.tok 1 0 1 m (seen.length-m)),(19,GW false s.vers),(20,.int .i64 s.vers.length),(21,.int .i64 s2.1)]) (fun s2=> [.live 0 (An false s),.live 0 (Ae seen),.live s2.2.length (Ae s2.2)]) (fun s2=>s.vers.length-s2.1) (fun s2=>s2.1≤s.vers.length∧s2.2=DM s want (s.vers.take s2.1)) (0,[]) ((Wk.nil (t:=4) (s:=1) (by simp)).trans (Wk.fr (by simp[Ad,em]))) (by simp[DM]) ?_)
  rintro⟨k,acc⟩ ⟨hk,hacc⟩
  simp only at hk hacc
  have hal:acc.length≤k:=by rw[hacc];exact Nat.le_trans (HZ _ _ _) (by simp;omega)
  refine zs ?_
  refine zc ?_ ?_<;>intro h
  .refine W.skip ?_
   have hlt:k<s.vers.length:=by omega
   have hst:=J8 (s:=s) (want:=want) hlt
   refine zb ?_
   (repeat refine W.seq ?_);refine W.reg 1 rfl fun K hK=>?_;simp -implicitDefEqProofs (maxSteps:=999999) (disch:=omega) [hlt]
   refine zk ?_;clear hK K
   generalize hv:s.vers[k]=v at*
   have hkb:I3 s v=(v.tag|| (seen.drop m).contains v.id||pinned s v.id):=by rw[I3,hla]
   cases ht:v.tag
   .refine Af ht ?_;intro K hK
    refine Ab.eq (FV (seen.drop m) v.id (by simp;omega)) (by simp(disch:=omega);rw[List.take_of_length_le (by simp)]) (by simp) ?_
    cases hc:(seen.drop m).contains v.id
    .refine zx ?_
     refine Ab.eq (K8 s v.id hs) (by simp) (by simp) ?_
     refine zx ?_
     refine zk ?_;clear hK K
     refine zc ?_ ?_<;>intro h
     .refine z1 ?_;intro K hK
      refine⟨by omega,by omega,?_⟩
      refine zk ?_;clear hK K
      refine zs ?_
      refine⟨(k+1,acc++[v.id]),by simp;omega,⟨by simp;omega,?_⟩,Wk.cutM (k:=3) (by simp[Ad]) ?_ (by simp) (by simp) (by simp) (by simp)⟩
      .simp only;rw[hst,hacc,hkb,ht,hc];simp[h]
      .simp[B6,Ae]
     .refine W.skip ?_
      refine zs ?_
      refine⟨(k+1,acc),by simp;omega,⟨by simp;omega,?_⟩,Wk.cutM (k:=3) (by simp[Ad]) (by simp) (by simp) (by simp) (by simp) (by simp)⟩
      simp only;rw[hst,hacc,hkb,ht,hc];simp[h]
    .refine zx ?_
     refine zk ?_;clear hK K
     refine zc ?_ ?_<;>intro h
     .refine z1 ?_;intro K hK
      refine⟨by omega,by omega,?_⟩
      refine zk ?_;clear hK K
      refine zs ?_
      refine⟨(k+1,acc++[v.id]),by simp;omega,⟨by simp;omega,?_⟩,Wk.cutM (k:=3) (by simp[Ad]) ?_ (by simp) (by simp) (by simp) (by simp)⟩
      .simp only;rw[hst,hacc,hkb,ht,hc];simp[h]
      .simp[B6,Ae]
     .refine W.skip ?_
      refine zs ?_
      refine⟨(k+1,acc),by simp;omega,⟨by simp;omega,?_⟩,Wk.cutM (k:=3) (by simp[Ad]) (by simp) (by simp) (by simp) (by simp) (by simp)⟩
      simp only;rw[hst,hacc,hkb,ht,hc];simp[h]
   .refine Af ht ?_;intro K hK
    refine zk ?_;clear hK K
    refine zc ?_ ?_<;>intro h
    .refine z1 ?_;intro K hK
     refine⟨by omega,by omega,?_⟩
     refine zk ?_;clear hK K
     refine zs ?_
     refine⟨(k+1,acc++[v.id]),by simp;omega,⟨by simp;omega,?_⟩,Wk.cutM (k:=3) (by simp[Ad]) ?_ (by simp) (by simp) (by simp) (by simp)⟩
     .simp only;rw[hst,hacc,hkb,ht];simp[h]
     .simp[B6,Ae]
    .refine W.skip ?_
     refine zs ?_
     refine⟨(k+1,acc),by simp;omega,⟨by simp;omega,?_⟩,Wk.cutM (k:=3) (by simp[Ad]) (by simp) (by simp) (by simp) (by simp) (by simp)⟩
     simp only;rw[hst,hacc,hkb,ht];simp[h]
  .refine W.exit ?_
   have hk' :k=s.vers.length:=by omega
   subst hk'
   rw[List.take_length] at hacc
   have e:DN s want=acc:=hacc.symm
   rw[e]
   refine zs ?_
   exact zR
 .have em:m=0:=by omega
  refine Af hlk ?_;intro K hK
  refine zk ?_;clear hK K
  refine zs ?_
  (repeat refine W.seq ?_);refine W.block (W.loopS (fun s2:Nat×List Int=> [(1,.bool want),(2,.ptr 0 0 0),(4,.tok 2 s2.2.length 1 0 s2.2.length),(5,.tok 1 0 1 m (seen.length-m)),(19,GW false s.vers),(20,.int .i64 s.vers.length),(21,.int .i64 s2.1)]) (fun s2=> [.live 0 (An false s),.live 0 (Ae seen),.live s2.2.length (Ae s2.2)]) (fun s2=>s.vers.length-s2.1) (fun s2=>s2.1≤s.vers.length∧s2.2=DM s want (s.vers.take s2.1)) (0,[]) ((Wk.nil (t:=4) (s:=1) (by simp)).trans (Wk.fr (by simp[Ad,em]))) (by simp[DM]) ?_)
  rintro⟨k,acc⟩ ⟨hk,hacc⟩
  simp only at hk hacc
  have hal:acc.length≤k:=by rw[hacc];exact Nat.le_trans (HZ _ _ _) (by simp;omega)
  refine zs ?_
  refine zc ?_ ?_<;>intro h
  .refine W.skip ?_
   have hlt:k<s.vers.length:=by omega
   have hst:=J8 (s:=s) (want:=want) hlt
   refine zb ?_
   (repeat refine W.seq ?_);refine W.reg 1 rfl fun K hK=>?_;simp -implicitDefEqProofs (maxSteps:=999999) (disch:=omega) [hlt]
   refine zk ?_;clear hK K
   generalize hv:s.vers[k]=v at*
   have hkb:I3 s v=(v.tag|| (seen.drop m).contains v.id||pinned s v.id):=by rw[I3,hla]
   cases ht:v.tag
   .refine Af ht ?_;intro K hK
    refine Ab.eq (FV (seen.drop m) v.id (by simp;omega)) (by simp(disch:=omega);rw[List.take_of_length_le (by simp)]) (by simp) ?_
    cases hc:(seen.drop m).contains v.id
    .refine zx ?_
     refine Ab.eq (K8 s v.id hs) (by simp) (by simp) ?_
     refine zx ?_
     refine zk ?_;clear hK K
     refine zc ?_ ?_<;>intro h
     .refine z1 ?_;intro K hK
      refine⟨by omega,by omega,?_⟩
      refine zk ?_;clear hK K
      refine zs ?_
      refine⟨(k+1,acc++[v.id]),by simp;omega,⟨by simp;omega,?_⟩,Wk.cutM (k:=3) (by simp[Ad]) ?_ (by simp) (by simp) (by simp) (by simp)⟩
      .simp only;rw[hst,hacc,hkb,ht,hc];simp[h]
      .simp[B6,Ae]
     .refine W.skip ?_
      refine zs ?_
      refine⟨(k+1,acc),by simp;omega,⟨by simp;omega,?_⟩,Wk.cutM (k:=3) (by simp[Ad]) (by simp) (by simp) (by simp) (by simp) (by simp)⟩
      simp only;rw[hst,hacc,hkb,ht,hc];simp[h]
    .refine zx ?_
     refine zk ?_;clear hK K
     refine zc ?_ ?_<;>intro h
     .refine z1 ?_;intro K hK
      refine⟨by omega,by omega,?_⟩
      refine zk ?_;clear hK K
      refine zs ?_
      refine⟨(k+1,acc++[v.id]),by simp;omega,⟨by simp;omega,?_⟩,Wk.cutM (k:=3) (by simp[Ad]) ?_ (by simp) (by simp) (by simp) (by simp)⟩
      .simp only;rw[hst,hacc,hkb,ht,hc];simp[h]
      .simp[B6,Ae]
     .refine W.skip ?_
      refine zs ?_
      refine⟨(k+1,acc),by simp;omega,⟨by simp;omega,?_⟩,Wk.cutM (k:=3) (by simp[Ad]) (by simp) (by simp) (by simp) (by simp) (by simp)⟩
      simp only;rw[hst,hacc,hkb,ht,hc];simp[h]
   .refine Af ht ?_;intro K hK
    refine zk ?_;clear hK K
    refine zc ?_ ?_<;>intro h
    .refine z1 ?_;intro K hK
     refine⟨by omega,by omega,?_⟩
     refine zk ?_;clear hK K
     refine zs ?_
     refine⟨(k+1,acc++[v.id]),by simp;omega,⟨by simp;omega,?_⟩,Wk.cutM (k:=3) (by simp[Ad]) ?_ (by simp) (by simp) (by simp) (by simp)⟩
     .simp only;rw[hst,hacc,hkb,ht];simp[h]
     .simp[B6,Ae]
    .refine W.skip ?_
     refine zs ?_
     refine⟨(k+1,acc),by simp;omega,⟨by simp;omega,?_⟩,Wk.cutM (k:=3) (by simp[Ad]) (by simp) (by simp) (by simp) (by simp) (by simp)⟩
     simp only;rw[hst,hacc,hkb,ht];simp[h]
  .refine W.exit ?_
   have hk' :k=s.vers.length:=by omega
   subst hk'
   rw[List.take_length] at hacc
   have e:DN s want=acc:=hacc.symm
   rw[e]
   refine zs ?_
   exact zR
end Go.Abs
set_option maxRecDepth 100000
namespace Go.Abs
open Go.Proofs
theorem I4 (n m:Int):Aa pg 62 [.int .i64 n,.int .i64 m] [] (fun r _=>r= .bool (decide (0≤n∧n≤m))):=by
 refine Aa.start (fn:=Tryz.f62) [.tmp 4] tk rfl rfl rfl (by kernel_rfl) (Nat.le_of_ble_eq_true rfl) rfl (by kernel_rfl) ?_
 rw[Ar]
 refine zs ?_
 by_cases h1:0≤n
 .refine Af h1 ?_;intro K hK
  refine zk ?_;clear hK K
  exact zR
 .refine Af h1 ?_;intro K hK
  refine zk ?_;clear hK K
  exact zR
theorem E0 (n a b:Int):Aa pg 42 [.int .i64 n,.int .i64 a,.int .i64 b] [] (fun r _=>r= .bool (decide (a≤n∧n≤b))):=by
 refine Aa.start (fn:=Tryz.f42) [.tmp 6] tk rfl rfl rfl (by kernel_rfl) (Nat.le_of_ble_eq_true rfl) rfl (by kernel_rfl) ?_
 rw[Bi]
 refine zs ?_
 by_cases h1:a≤n
 . (repeat refine W.seq ?_);refine W.reg 0 rfl fun K hK=>?_;simp -implicitDefEqProofs (maxSteps:=999999) (disch:=omega) [h1]
   refine zk ?_;clear hK K
   refine W.ret ?_;simp only[Cq,Df,CL];refine CD (d:=0) ?_;simp -implicitDefEqProofs (maxSteps:=999999) (disch:=omega)
   try simp[h1]
 . (repeat refine W.seq ?_);refine W.reg 0 rfl fun K hK=>?_;simp -implicitDefEqProofs (maxSteps:=999999) (disch:=omega) [h1]
   refine zk ?_;clear hK K
   refine W.ret ?_;simp only[Cq,Df,CL];refine CD (d:=0) ?_;simp -implicitDefEqProofs (maxSteps:=999999) (disch:=omega)
   try simp[h1]
theorem Vg (xs:List Int) (x:Int) (hx:xs.length<4611686018427387904):Aa pg 18 [.ro xs.length (Ae xs),.int .i64 x] [] (fun r _=>r= .int .i64 (AI (fun y=>decide (y=x)) xs)):=by
 refine Aa.start (fn:=Tryz.f18) [.tmp 4] tk rfl rfl rfl (by kernel_rfl) (Nat.le_of_ble_eq_true rfl) rfl (by kernel_rfl) ?_
 rw[Ar]
 refine zs ?_
 refine zs ?_
 (repeat refine W.seq ?_);refine W.block (W.loopS (fun k:Nat=> [(0,.ro xs.length (Ae xs)),(1,.int .i64 x),(5,.int .i64 k)]) (fun _=> []) (fun k=>xs.length-k) (fun k=>k≤xs.length∧∀i (h:i<xs.length),i<k→xs[i]≠x) 0 (Wk.fr ?_) (by simp) ?_)
 .simp[Ad]
 .rintro k ⟨hk,ht⟩
  refine zs ?_
  refine zc ?_ ?_<;>intro h
  .refine W.skip ?_
   refine zb ?_
   refine zs ?_
   refine zc ?_ ?_<;>intro h
   .refine zs ?_
    refine zr ?_
    exact(D4 (by omega) (by simp[h]) fun i hi hik=>by simpa using ht i hi hik).symm
   .refine W.skip ?_
    refine zs ?_
    refine⟨k+1,by omega,⟨by omega,?_⟩,Wk.fr (by simp[Ad])⟩
    intro i hi hik
    by_cases e:i=k
    .subst e;exact fun e=>h e
    .exact ht i hi (by omega)
  .refine W.exit ?_
   refine zs ?_
   refine zr ?_
   exact(Ek fun i hi=>by simpa using ht i hi (by omega)).symm
theorem GJ (a b:Gr) (ha:FW a):Aa pg 38 [.agg (A3 false a),.agg (A3 false b)] [] (fun r _=>r= .bool (decide (a=b))):=by
 have e0:(a=b)↔a.n=b.n∧a.out=b.out:=Gr.ext_iff
 have h1:=ha.1
 refine Aa.start (fn:=Tryz.f38) [.tmp 4] tk rfl rfl rfl (by kernel_rfl) (Nat.le_of_ble_eq_true rfl) rfl (by kernel_rfl) ?_
 rw[Ar]
 refine z2 ?_;intro K hK;refine zk ?_;clear hK K
 by_cases h1:a.n=b.n
 .refine Af h1 ?_;intro K hK
  refine Ab.eq (JY a.out b.out (by omega) (fun r hr=>by have:=ha.2 r hr;omega)) (by simp) (by simp) ?_
  refine zx ?_
  refine zk ?_;clear hK K
  refine zr ?_
  simp[e0,h1]
 .refine Af h1 ?_;intro K hK
  refine zk ?_;clear hK K
  refine zr ?_
  simp[e0,h1]
def Mc (j:Cf):Prop:=j.list.length<1000000000∧j.out.length<1000000000
theorem G1 (a b:Cf) (ha:Mc a):Aa pg 110 [.agg (BT false a),.agg (BT false b)] [] (fun r _=>r= .bool (decide (a=b))):=by
 have e0:(a=b)↔a.kind=b.kind∧a.a=b.a∧a.at_=b.at_∧a.move=b.move∧a.list=b.list∧a.out=b.out:=Cf.ext_iff
 have hl1:=ha.1
 have hl2:=ha.2
 refine Aa.start (fn:=Tryz.f110) [.tmp 4] tk rfl rfl rfl (by kernel_rfl) (Nat.le_of_ble_eq_true rfl) rfl (by kernel_rfl) ?_
 rw[Ar]
 refine z2 ?_;intro K hK;refine zk ?_;clear hK K
 by_cases h1:a.kind=b.kind
 .by_cases h2:a.a=b.a
  .by_cases h3:a.at_=b.at_
   .by_cases h4:a.move=b.move
    .refine Af (an h1 (an h2 (an h3 h4))) ?_;intro K hK
     refine Ab.eq (Ef a.list b.list (by omega)) (by simp) (by simp) ?_
     by_cases h5:a.list=b.list
     .rw[decide_eq_true h5]
      refine zx ?_
      refine Ab.eq (Ef a.out b.out (by omega)) (by simp) (by simp) ?_
      refine zx ?_
      refine zk ?_;clear hK K
      refine zr ?_
      simp[e0,h1,h2,h3,h4,h5]
     .rw[decide_eq_false h5]
      refine zx ?_
      refine zk ?_;clear hK K
      refine zr ?_
      simp[e0,h5]
    .refine Af (an h1 (an h2 (an h3 h4))) ?_;intro K hK
     refine zk ?_;clear hK K
     refine zr ?_
     simp[e0,h4]
   .refine Af (an h1 (an h2 h3)) ?_;intro K hK
    refine zk ?_;clear hK K
    refine zr ?_
    simp[e0,h3]
  .refine Af (an h1 h2) ?_;intro K hK
   refine zk ?_;clear hK K
   refine zr ?_
   simp[e0,h2]
 .refine Af h1 ?_;intro K hK
  refine zk ?_;clear hK K
  refine zr ?_
  simp[e0,h1]
def EJ (s:CT):Prop:=FW s.stage∧Mc s.job
theorem KH (a b:CT) (ha:EJ a):Aa pg 97 [.agg (AB false a),.agg (AB false b)] [] (fun r _=>r= .bool (decide (a=b))):=by
 have e0:(a=b)↔a.opn=b.opn∧a.pin=b.pin∧a.on=b.on∧a.frm=b.frm∧a.stage=b.stage∧a.job=b.job:=CT.ext_iff
 refine Aa.start (fn:=Tryz.f97) [.tmp 4] tk rfl rfl rfl (by kernel_rfl) (Nat.le_of_ble_eq_true rfl) rfl (by kernel_rfl) ?_
 rw[Ar]
 refine z2 ?_;intro K hK;refine zk ?_;clear hK K
 by_cases h1:a.opn=b.opn
 .by_cases h2:a.pin=b.pin
  .by_cases h3:a.on=b.on
   .by_cases h4:a.frm=b.frm
    .refine Af (an h1 (an h2 (an h3 h4))) ?_;intro K hK
     refine Ab.eq (GJ a.stage b.stage ha.1) (by simp) (by simp) ?_
     by_cases h5:a.stage=b.stage
     .rw[decide_eq_true h5]
      refine zx ?_
      refine Ab.eq (G1 a.job b.job ha.2) (by simp) (by simp) ?_
      refine zx ?_
      refine zk ?_;clear hK K
      refine zr ?_
      simp[e0,h1,h2,h3,h4,h5]
     .rw[decide_eq_false h5]
      refine zx ?_
      refine zk ?_;clear hK K
      refine zr ?_
      simp[e0,h5]
    .refine Af (an h1 (an h2 (an h3 h4))) ?_;intro K hK
     refine zk ?_;clear hK K
     refine zr ?_
     simp[e0,h4]
   .refine Af (an h1 (an h2 h3)) ?_;intro K hK
    refine zk ?_;clear hK K
    refine zr ?_
    simp[e0,h3]
  .refine Af (an h1 h2) ?_;intro K hK
   refine zk ?_;clear hK K
   refine zr ?_
   simp[e0,h2]
 .refine Af h1 ?_;intro K hK
  refine zk ?_;clear hK K
  refine zr ?_
  simp[e0,h1]
end Go.Abs
set_option maxRecDepth 100000
namespace Go.Abs
open Go.Proofs
theorem Md (xs ys:List Bj) (hx:xs.length<1000000000000):Aa pg 86 [.ro xs.length (Ac Ay xs),.ro ys.length (Ac Ay ys)] [] (fun r _=>r= .bool (decide (xs=ys))):=by
 refine Aa.start (fn:=Tryz.f86) [.tmp 4] tk rfl rfl rfl (by kernel_rfl) (Nat.le_of_ble_eq_true rfl) rfl (by kernel_rfl) ?_
 rw[Ar]
 refine zs ?_
 refine zs ?_
 refine zc ?_ ?_<;>intro h
 .refine zs ?_
  refine zr ?_
  intro e;exact h (by rw[e])
 .refine W.skip ?_
  have hl:xs.length=ys.length:=by omega
  refine zs ?_
  (repeat refine W.seq ?_);refine W.block (W.loopS (fun k:Nat=> [(0,.ro xs.length (Ac Ay xs)),(1,.ro ys.length (Ac Ay ys)),(5,.int .i64 k)]) (fun _=> []) (fun k=>xs.length-k) (fun k=>k≤xs.length∧xs.take k=ys.take k) 0 (Wk.fr ?_) (by simp) ?_)
  .simp[Ad]
  .rintro k ⟨hk,ht⟩
   refine zs ?_
   refine zc ?_ ?_<;>intro h
   .refine W.skip ?_
    have hlt:k<xs.length:=by omega
    have hlt' :k<ys.length:=by omega
    refine zb ?_
    refine B9 ?_;intro K hK
    simp[hlt,hlt',Ay]
    refine zk ?_;clear hK K
    refine zc ?_ ?_<;>intro h
    .refine zs ?_
     refine zr ?_
     intro e;subst e;simp at h
    .refine W.skip ?_
     have he:xs[k]=ys[k]:=Bj.ext h.1 h.2.1 h.2.2.1 (Da.ext h.2.2.2.1 h.2.2.2.2.1) h.2.2.2.2.2.1 h.2.2.2.2.2.2.1 h.2.2.2.2.2.2.2
     refine zs ?_
     refine⟨k+1,by omega,⟨by omega,?_⟩,Wk.fr ?_⟩
     .rw[List.take_add_one,List.take_add_one,ht];simp[hlt,hlt',he]
     .simp[Ad]
   .refine W.exit ?_
    have hk' :k=xs.length:=by omega
    subst hk'
    refine zs ?_
    refine zr ?_
    rw[List.take_length,hl,List.take_length] at ht
    simp[ht]
theorem Ps (xs ys:List CT) (hx:xs.length<1000000000000) (hr:∀r∈xs,EJ r):Aa pg 57 [.ro xs.length (Ac (AB false) xs),.ro ys.length (Ac (AB false) ys)] [] (fun r _=>r= .bool (decide (xs=ys))):=by
 refine Aa.start (fn:=Tryz.f57) [.tmp 4] tk rfl rfl rfl (by kernel_rfl) (Nat.le_of_ble_eq_true rfl) rfl (by kernel_rfl) ?_
 rw[Ar]
 refine zs ?_
 refine zs ?_
 refine zc ?_ ?_<;>intro h
 .refine zs ?_
  refine zr ?_
  intro e;exact h (by rw[e])
 .refine W.skip ?_
  have hl:xs.length=ys.length:=by omega
  refine zs ?_
  (repeat refine W.seq ?_);refine W.block (W.loopS (fun k:Nat=> [(0,.ro xs.length (Ac (AB false) xs)),(1,.ro ys.length (Ac (AB false) ys)),(5,.int .i64 k)]) (fun _=> []) (fun k=>xs.length-k) (fun k=>k≤xs.length∧xs.take k=ys.take k) 0 (Wk.fr ?_) (by simp) ?_)
  .simp[Ad]
  .rintro k ⟨hk,ht⟩
   refine zs ?_
   refine zc ?_ ?_<;>intro h
   .refine W.skip ?_
    have hlt:k<xs.length:=by omega
    have hlt' :k<ys.length:=by omega
    have sp:=KH xs[k] ys[k] (hr _ (List.getElem_mem hlt))
    refine zb ?_
    refine Br (an hlt hlt') ?_;intro K hK
    refine Ah.eq sp (by simp) (by simp) ?_
    by_cases he:xs[k]=ys[k]
    .rw[decide_eq_true he]
     refine zx ?_
     refine zk ?_;clear hK K
     refine zn ?_
     refine W.skip ?_
     refine zs ?_
     refine⟨k+1,by omega,⟨by omega,?_⟩,Wk.fr ?_⟩
     .rw[List.take_add_one,List.take_add_one,ht];simp[hlt,hlt',he]
     .simp[Ad]
    .rw[decide_eq_false he]
     refine zx ?_
     refine zk ?_;clear hK K
     refine zt ?_
     refine zs ?_
     refine zr ?_
     intro e;subst e;simp at he
   .refine W.exit ?_
    have hk' :k=xs.length:=by omega
    subst hk'
    refine zs ?_
    refine zr ?_
    rw[List.take_length,hl,List.take_length] at ht
    simp[ht]
theorem TH (a b:Au) (ha:a.vers.length<1000000000000∧a.sess.length<1000000000000∧∀r∈a.sess,EJ r):Aa pg 40 [.agg (An false a),.agg (An false b)] [] (fun r _=>r= .bool (decide (a=b))):=by
 have e0:(a=b)↔a.keep=b.keep∧a.blocks=b.blocks∧a.vers=b.vers∧a.sess=b.sess:=Au.ext_iff
 refine Aa.start (fn:=Tryz.f40) [.tmp 4] tk rfl rfl rfl (by kernel_rfl) (Nat.le_of_ble_eq_true rfl) rfl (by kernel_rfl) ?_
 rw[Ar]
 refine z2 ?_;intro K hK;refine zk ?_;clear hK K
 by_cases h1:a.keep=b.keep
 .by_cases h2:a.blocks=b.blocks
  .refine Af (an h1 h2) ?_;intro K hK
   refine Ab.eq (Md a.vers b.vers ha.1) (by simp) (by simp) ?_
   by_cases h3:a.vers=b.vers
   .rw[decide_eq_true h3]
    refine zx ?_
    refine Ab.eq (Ps a.sess b.sess ha.2.1 ha.2.2) (by simp) (by simp) ?_
    refine zx ?_
    refine zk ?_;clear hK K
    refine zr ?_
    simp[e0,h1,h2,h3]
   .rw[decide_eq_false h3]
    refine zx ?_
    refine zk ?_;clear hK K
    refine zr ?_
    simp[e0,h3]
  .refine Af (an h1 h2) ?_;intro K hK
   refine zk ?_;clear hK K
   refine zr ?_
   simp[e0,h2]
 .refine Af h1 ?_;intro K hK
  refine zk ?_;clear hK K
  refine zr ?_
  simp[e0,h1]
theorem FD (j:Cf) (hj:Mc j):Aa pg 153 [.agg (BT false j)] [] (fun r _=>r= .agg (BT true j)):=by
 have h1:=hj.1
 have h2:=hj.2
 refine Aa.start (fn:=Tryz.f153) [.cell 2 53] tk rfl rfl rfl (by kernel_rfl) (Nat.le_of_ble_eq_true rfl) rfl (by kernel_rfl) ?_
 rw[Av]
 refine z2 ?_;intro K hK;refine zk ?_;clear hK K
 refine z1 ?_;intro K hK;refine zk ?_;clear hK K
 refine z0 ?_;intro K hK
 refine Ab.eq (Fs j.list (by omega)) (by simp) (by simp) ?_
 refine zx ?_
 refine zk ?_;clear hK K
 refine z0 ?_;intro K hK
 refine Ab.eq (Fs j.out (by omega)) (by simp) (by simp) ?_
 refine zx ?_
 refine zk ?_;clear hK K
 refine zs ?_
 exact zR
end Go.Abs
set_option maxRecDepth 100000
namespace Go.Abs
open Go.Proofs
end Go.Abs
set_option maxRecDepth 100000
namespace Go.Abs
open Go.Proofs
theorem TJ (b:Da) (i:Nat) (hn:b.data.size<1000000000000) (hi:i/8<b.data.size):Aa pg 142 [.agg (Cs b),.int .i64 i] [] (fun r _=>r= .int .i64 (if Es b.data i=true then 1 else 0)):=by
 refine Aa.start (fn:=Tryz.f142) [.tmp 4] tk rfl rfl rfl (by kernel_rfl) (Nat.le_of_ble_eq_true rfl) rfl (by kernel_rfl) ?_
 rw[Ar]
 refine z1 ?_;intro K hK;refine zk ?_;clear hK K
 refine z0 ?_;intro K hK
 refine⟨by omega,?_⟩
 have hB:=HN b.data (i/8)
 have h3:=O9 b.data (i/8) (7-(i:Int)%8).toNat
 have e1:((i:Int)/8).toNat=i/8:=by omega
 rw[e1,wrap_i64 (by omega) (by omega),IV _ h3.1 (by omega),Qv]
 simp
 refine zk ?_;clear hK K
 exact zR
theorem XO (b:Da) (h3:b.data.size<1000000000):Aa pg 106 [.agg (Cs b)] [] (fun r _=>r= .bool (decide (C2 b))):=by
 refine Aa.start (fn:=Tryz.f106) [.tmp 2] tk rfl rfl rfl (by kernel_rfl) (Nat.le_of_ble_eq_true rfl) rfl (by kernel_rfl) ?_
 rw[Av]
 refine z1 ?_;intro K hK;refine zk ?_;clear hK K
 refine z0 ?_;intro K hK
 refine Ab.eq (I4 b.n 6000) (by simp) (by simp) ?_
 by_cases h0:0≤b.n∧b.n≤6000
 rotate_left
 .rw[decide_eq_false h0]
  refine zx ?_
  refine zk ?_;clear hK K
  refine zt ?_
  refine zs ?_
  refine zr ?_
  intro h;exact h0 ⟨h.1,h.2.1⟩
 .rw[decide_eq_true h0]
  obtain⟨n,hn⟩:=Int.eq_ofNat_of_zero_le h0.1
  refine zx ?_
  refine zk ?_;clear hK K
  refine zc ?_ ?_<;>intro h
  .refine zs ?_
   refine zr ?_
   intro g;have:=g.2.2.1;omega
  .refine W.skip ?_
   refine Af hn ?_;intro K hK
   refine zk ?_;clear hK K
   (repeat refine W.seq ?_);refine W.block (W.loopS (fun i:Nat=> [(1,.ptr 0 0 0),(3,.int .i64 i)]) (fun _=> [.live 0 [.str b.data,.int .i64 n]]) (fun i=>8*b.data.size-i) (fun i=>n≤i∧(i≤8*b.data.size∨i=n)∧∀j,n≤j→j<i→Es b.data j=false) n (Wk.fr (by simp[Ad])) ⟨by omega,by omega,fun j h1 h2=>by omega⟩ ?_)
   rintro i ⟨hi,hi2,ht⟩
   refine zs ?_
   refine zc ?_ ?_<;>intro h
   .refine W.skip ?_
    have hlt:i<8*b.data.size:=by omega
    have sp:=TJ b i (by omega) (by omega)
    refine zb ?_
    refine z0 ?_;intro K hK
    rw[←hn]
    cases hb:Es b.data i
    .simp only[hb,Bool.false_eq_true,if_false] at sp
     refine Ab.eq sp (by simp) (by simp) ?_
     refine zx ?_
     refine zk ?_;clear hK K
     refine zn ?_
     refine W.skip ?_
     refine zs ?_
     refine⟨i+1,by omega,⟨by omega,by omega,fun j h1 h2=>?_⟩,?_⟩
     .by_cases e:j=i
      .subst e;exact hb
      .exact ht j h1 (by omega)
     .rw[hn];exact Wk.fr (by simp[Ad])
    .simp only[hb,if_true] at sp
     refine Ab.eq sp (by simp) (by simp) ?_
     refine zx ?_
     refine zk ?_;clear hK K
     refine zt ?_
     refine zs ?_
     refine zr ?_
     intro g
     have:=g.2.2.2 i hlt (by omega)
     rw[hb] at this;cases this
   .refine W.exit ?_
    refine zs ?_
    refine zr ?_
    refine⟨h0.1,h0.2,by omega,fun j h1 h2=>ht j (by omega) (by omega)⟩
end Go.Abs
set_option maxRecDepth 100000
namespace Go.Abs
open Go.Proofs
def b8 (b:Bool):AV:= .int .u8 (if b=true then 1 else 0)
def AY (xs:List Bool):List AV:=xs.map b8
section
variable (xs ys:List Bool) (M:List Ag) (k:Nat)
@[simp] theorem c8 (i:Nat):(AY xs)[i]?=(xs[i]?).map b8:=by simp[AY]
@[simp] theorem da:(AY xs).length=xs.length:=by simp[AY]
@[simp] theorem db:AY []=[]:=rfl
theorem Pt:AY (xs++ys)=AY xs++AY ys:=by simp[AY]
@[simp] theorem aW:(AY xs).take k=AY (xs.take k):=by simp[AY,List.map_take]
@[simp] theorem aX:(AY xs).drop k=AY (xs.drop k):=by simp[AY,List.map_drop]
@[simp] theorem fi:EG (AY xs)=true:=by simp[AY,EG,-Ie,b8]
@[simp] theorem fj:EH (AY xs)=true:=by simp[AY,EH,-JT,b8]
@[simp] theorem fm:DJ (AY xs)=true:=by simp[AY,DJ,-If,b8]
@[simp] theorem fo:C1 k (AY xs)=true:=by induction xs<;>simp_all[AY,b8]
@[simp] theorem dc:CP (AY xs)=true:=by induction xs<;>simp_all[AY,b8]
@[simp] theorem de:EF (AY xs)=AY xs:=by induction xs<;>simp_all[AY,b8]
@[simp] theorem dg:(AY xs).map Ec=AY xs:=by simp[AY,b8]
@[simp] theorem dh:(AY xs).map (Cp M k)=AY xs:=by cases k<;>simp[AY,b8]
end
theorem Y4 (b:Da) (h0:0≤b.n) (h1:b.n≤8*b.data.size) (h3:b.data.size<1000000000):Aa pg 107 [.agg (Cs b)] [] (fun r _=>r= .own 1 (As b).length (AY (As b))):=by
 have hl:=Cg b
 obtain⟨n,hn⟩:=Int.eq_ofNat_of_zero_le h0
 have hln:(As b).length=n:=by omega
 refine Aa.start (fn:=Tryz.f107) [.tmp 2] tk rfl rfl rfl (by kernel_rfl) (Nat.le_of_ble_eq_true rfl) rfl (by kernel_rfl) ?_
 rw[Av]
 refine z1 ?_;intro K hK;refine zk ?_;clear hK K
 refine zs ?_
 refine zs ?_
 (repeat refine W.seq ?_);refine W.block (W.loopS (fun k:Nat=> [(1,.ptr 0 0 0),(3,.tok 1 k 1 0 k),(4,.int .i64 k)]) (fun k=> [.live 0 (Cs b),.live k (AY ((As b).take k))]) (fun k=>n-k) (fun k=>k≤n) 0 ((Wk.nil (t:=3) (s:=1) ?_).trans (Wk.fr ?_)) (Nat.zero_le _) ?_)
 .simp
 .simp[Ad]
 .intro k hk
  refine zs ?_
  refine zc ?_ ?_<;>intro h
  .refine W.skip ?_
   have hlt:k<n:=by omega
   have sp:=TJ b k (by omega) (by omega)
   have hbk:(As b)[k]'(by omega)=Es b.data k:=by simp[As]
   have hto:(As b).take (k+1)=(As b).take k++[Es b.data k]:=by rw[List.take_add_one,List.getElem?_eq_getElem (by omega),hbk];rfl
   refine zb ?_
   refine z1 ?_;intro K hK
   refine Ab.eq sp (by simp) (by simp) ?_
   refine zx ?_
   have e8:AV.int .u8 (IntKind.u8.wrap (if Es b.data k=true then 1 else 0))=b8 (Es b.data k):=by
    cases Es b.data k<;>rfl
   rw[e8]
   refine⟨by omega,by omega,?_⟩
   refine zk ?_;clear hK K
   refine zs ?_
   refine⟨k+1,by omega,by omega,Wk.cutM (k:=2) (by simp[Ad]) ?_ (by simp) (by simp) (by simp) (by simp)⟩
   rw[hto,Pt]
   rfl
  .refine W.exit ?_
   have hk' :k=n:=by omega
   subst hk'
   have e:(As b).take k=As b:=List.take_of_length_le (by omega)
   rw[e]
   refine zs ?_
   refine zr ?_
   rw[e]
   exact⟨hln.symm,rfl⟩
end Go.Abs
set_option maxRecDepth 100000
namespace Go.Abs
open Go.Proofs
theorem XP (l:List Bool) (p:Nat) (hl:l.length<1000000000000) (hp:p≤l.length):Aa pg 178 [.ro l.length (AY l),.int .i64 p] [] (fun r _=>r= .int .i64 (nb (ahead l p))):=by
 refine Aa.start (fn:=Tryz.f178) [.tmp 4] tk rfl rfl rfl (by kernel_rfl) (Nat.le_of_ble_eq_true rfl) rfl (by kernel_rfl) ?_
 rw[Ar]
 refine zs ?_
 refine zs ?_
 (repeat refine W.seq ?_);refine W.block (W.loopS (fun q:Nat=> [(0,.ro l.length (AY l)),(1,.int .i64 p),(5,.int .i64 q)]) (fun _=> []) (fun q=>l.length-q) (fun q=>p≤q∧q≤l.length∧(l.drop p).take (q-p)=List.replicate (q-p) false) p (Wk.fr (by simp[Ad])) ⟨by omega,by omega,by simp⟩ ?_)
 rintro q ⟨hpq,hq,ht⟩
 refine zs ?_
 refine zc ?_ ?_<;>intro h
 .refine W.skip ?_
  have hlt:q<l.length:=by omega
  have hst:(l[q]=true→ahead l p=some (q-p))∧(l[q]=false→(l.drop p).take (q+1-p)=List.replicate (q+1-p) false):=by
   obtain⟨k,rfl⟩:∃k,q=p+k:=⟨q-p,by omega⟩
   have:=L0 hlt (by simpa using ht)
   rw[show p+k+1-p=k+1 by omega,show p+k-p=k by omega]
   exact this
  refine zb ?_
  cases hb:l[q]
  . (repeat refine W.seq ?_);refine W.reg 0 rfl fun K hK=>?_;simp -implicitDefEqProofs (maxSteps:=999999) (disch:=omega) [hlt,hb,b8]
    refine zk ?_;clear hK K
    refine zn ?_
    refine W.skip ?_
    refine zs ?_
    refine⟨q+1,by omega,⟨by omega,by omega,hst.2 hb⟩,Wk.fr (by simp[Ad])⟩
  . (repeat refine W.seq ?_);refine W.reg 0 rfl fun K hK=>?_;simp -implicitDefEqProofs (maxSteps:=999999) (disch:=omega) [hlt,hb,b8]
    refine zk ?_;clear hK K
    refine zt ?_
    refine z0 ?_;intro K hK
    refine zk ?_;clear hK K
    refine zr ?_
    rw[hst.1 hb];simp[nb];omega
 .refine W.exit ?_
  have hq' :q=l.length:=by omega
  refine zs ?_
  refine zr ?_
  rw[Nu (k:=q-p) (by omega) ht];rfl
theorem Z1 (l:List Bool) (p w:Nat) (hl:l.length<1000000000000) (hw:w≤60) (hp:p+w≤l.length):Aa pg 179 [.ro l.length (AY l),.int .i64 p,.int .i64 w] [] (fun r _=>r= .int .i64 (Bz ((l.drop p).take w))):=by
 refine Aa.start (fn:=Tryz.f179) [.tmp 6] tk rfl rfl rfl (by kernel_rfl) (Nat.le_of_ble_eq_true rfl) rfl (by kernel_rfl) ?_
 rw[Bi]
 refine zs ?_
 refine zs ?_
 refine zs ?_
 (repeat refine W.seq ?_);refine W.block (W.loopS (fun q:Nat=> [(0,.ro l.length (AY l)),(1,.int .i64 p),(2,.int .i64 w),(7,.int .i64 (Bz ((l.drop p).take (q-p)))),(8,.int .i64 q)]) (fun _=> []) (fun q=>p+w-q) (fun q=>p≤q∧q≤p+w) p (Wk.fr (by simp[Ad])) ⟨by omega,by omega⟩ ?_)
 rintro q ⟨hpq,hq⟩
 refine zs ?_
 refine zc ?_ ?_<;>intro h
 .refine W.skip ?_
  have hlt:q<l.length:=by omega
  have hst:Bz ((l.drop p).take (q+1-p))=2*Bz ((l.drop p).take (q-p))+(l[q]).toNat:=by
   obtain⟨k,rfl⟩:∃k,q=p+k:=⟨q-p,by omega⟩
   rw[show p+k+1-p=k+1 by omega,show p+k-p=k by omega]
   exact Nw (w:=w) hlt
  have hnl:Bz ((l.drop p).take (q-p))<2^60:=Nat.lt_of_lt_of_le (Gl _) (Nat.pow_le_pow_right (by omega) (by simp;omega))
  refine zb ?_
  generalize Bz ((l.drop p).take (q-p))=v at*
  cases hb:l[q]
  .rw[hb] at hst
   (repeat refine W.seq ?_);refine W.reg 0 rfl fun K hK=>?_;simp -implicitDefEqProofs (maxSteps:=999999) (disch:=omega) [hlt,hb,b8]
   refine zk ?_;clear hK K
   refine zs ?_
   refine⟨q+1,by omega,⟨by omega,by omega⟩,Wk.fr (by rw[hst];simp[Ad])⟩
  .rw[hb] at hst
   (repeat refine W.seq ?_);refine W.reg 0 rfl fun K hK=>?_;simp -implicitDefEqProofs (maxSteps:=999999) (disch:=omega) [hlt,hb,b8]
   refine zk ?_;clear hK K
   refine zs ?_
   refine⟨q+1,by omega,⟨by omega,by omega⟩,Wk.fr (by rw[hst];simp[Ad])⟩
 .refine W.exit ?_
  have hq' :q=p+w:=by omega
  subst hq'
  refine zs ?_
  exact zR
end Go.Abs
set_option maxRecDepth 100000
namespace Go.Abs
open Go.Proofs
theorem Vy (n:Int) (h0:0≤n) (h1:n≤4611686018427387904):Aa pg 182 [.int .i64 n] [] (fun r _=>r= .int .i64 (Cy n)):=by
 refine Aa.start (fn:=Tryz.f182) [.tmp 2] tk rfl rfl rfl (by kernel_rfl) (Nat.le_of_ble_eq_true rfl) rfl (by kernel_rfl) ?_
 rw[Av]
 refine zs ?_
 refine zs ?_
 refine zc ?_ ?_<;>intro h
 .refine z0 ?_;intro K hK
  refine zk ?_;clear hK K
  refine zr ?_
  rw[Cy,if_neg (by omega)]
 .refine W.skip ?_
  have e:(-(n+1)).tdiv 2=-((n+1)/2):=by rw[Int.neg_tdiv,Int.tdiv_eq_ediv_of_nonneg (by omega)]
  refine Af e ?_;intro K hK
  refine zk ?_;clear hK K
  refine zr ?_
  rw[Cy,if_pos (by omega)]
theorem Pu (n:Int):Aa pg 127 [.int .i64 n] [] (fun r _=>r= .bool (decide (0≤n∧n≤15))):=by
 refine Aa.start (fn:=Tryz.f127) [.tmp 2] tk rfl rfl rfl (by kernel_rfl) (Nat.le_of_ble_eq_true rfl) rfl (by kernel_rfl) ?_
 rw[Av]
 refine zs ?_
 refine z0 ?_;intro K hK
 refine Ab.eq (I4 n 15) (by simp) (by simp) ?_
 refine zx ?_
 refine zk ?_;clear hK K
 exact zR
theorem K9 (k:Int):Aa pg 149 [.int .i64 k] [] (fun r _=>r= .bool (named k)):=by
 refine Aa.start (fn:=Tryz.f149) [.tmp 2] tk rfl rfl rfl (by kernel_rfl) (Nat.le_of_ble_eq_true rfl) rfl (by kernel_rfl) ?_
 rw[Av]
 refine zs ?_
 by_cases h1:k=1
 .refine Af h1 ?_;intro K hK
  refine zk ?_;clear hK K
  refine zr ?_
  simp[named,h1]
 .by_cases h2:k=2
  .refine Af (an h1 h2) ?_;intro K hK
   refine zk ?_;clear hK K
   refine zr ?_
   simp[named,h2]
  .refine Af (an h1 h2) ?_;intro K hK
   refine zk ?_;clear hK K
   refine zr ?_
   simp[named,h1,h2]
theorem QF (s:Au) (hs:A5 s):Aa pg 20 [.agg (An false s)] [] (fun r _=>r= .int .i64 (A9 s.vers)):=by
 have h1:=hs.1
 refine Aa.start (fn:=Tryz.f20) [.tmp 2] tk rfl rfl rfl (by kernel_rfl) (Nat.le_of_ble_eq_true rfl) rfl (by kernel_rfl) ?_
 rw[Av]
 refine z1 ?_;intro K hK;refine zk ?_;clear hK K
 refine zs ?_
 refine zc ?_ ?_<;>intro h
 .refine zs ?_
  refine zr ?_
  simp[A9,h]
 .refine W.skip ?_
  have hp:0<s.vers.length:=List.length_pos_iff.2 h
  have hlt:s.vers.length-1<s.vers.length:=by omega
  (repeat refine W.seq ?_);refine W.reg 0 rfl fun K hK=>?_;simp -implicitDefEqProofs (maxSteps:=999999) (disch:=omega) [hlt]
  refine⟨by omega,?_⟩
  refine zk ?_;clear hK K
  refine zr ?_
  rw[A9,List.getLast?_eq_getElem?,List.getElem?_eq_getElem hlt]
theorem XQ (b:Da) (hb:b.data.size<1000000000):Aa pg 21 [.agg (Cs b)] [] (fun r _=>r= .int .i64 (CY b)):=by
 refine Aa.start (fn:=Tryz.f21) [.tmp 2] tk rfl rfl rfl (by kernel_rfl) (Nat.le_of_ble_eq_true rfl) rfl (by kernel_rfl) ?_
 rw[Av]
 refine z1 ?_;intro K hK;refine zk ?_;clear hK K
 refine z0 ?_;intro K hK
 refine zk ?_;clear hK K
 refine zr ?_
 unfold CY
 congr 1
 omega
end Go.Abs
set_option maxRecDepth 100000
namespace Go.Abs
open Go.Proofs
theorem ME (g:Gr) (j:Cf) (hl:j.list.length<1000000000000):Aa pg 112 [.agg (A3 false g),.agg (BT false j)] [] (fun r _=>r= .bool (BP g j)):=by
 refine Aa.start (fn:=Tryz.f112) [.tmp 4] tk rfl rfl rfl (by kernel_rfl) (Nat.le_of_ble_eq_true rfl) rfl (by kernel_rfl) ?_
 rw[Ar]
 refine z2 ?_;intro K hK;refine zk ?_;clear hK K
 refine zs ?_
 refine zb ?_
 refine zs ?_
 refine zc ?_ ?_<;>intro h
 .refine zs ?_
  refine zr ?_
  simp[BP,h]
 .have h1:=h;clear h
  refine zs ?_
  refine zc ?_ ?_<;>intro h
  .refine zs ?_
   refine zr ?_
   simp[BP,h]
  .refine W.skip ?_
   refine zs ?_
   refine zr ?_
   simp[BP, *]
theorem Y5 (s:Au) (id:Int) (hs:A5 s):Aa pg 36 [.agg (An false s),.int .i64 id] [] (fun r _=>r= .int .i64 (AI (fun v=>decide (v.id=id)) s.vers)):=by
 have h1:=hs.1
 refine Aa.start (fn:=Tryz.f36) [.tmp 4] tk rfl rfl rfl (by kernel_rfl) (Nat.le_of_ble_eq_true rfl) rfl (by kernel_rfl) ?_
 rw[Ar]
 refine z1 ?_;intro K hK;refine zk ?_;clear hK K
 refine zs ?_
 (repeat refine W.seq ?_);refine W.block (W.loopS (fun k:Nat=> [(1,.int .i64 id),(2,.ptr 0 0 0),(5,.int .i64 k)]) (fun _=> [.live 0 (An false s)]) (fun k=>s.vers.length-k) (fun k=>k≤s.vers.length∧∀i (h:i<s.vers.length),i<k→s.vers[i].id≠id) 0 (Wk.fr (by simp[Ad])) (by simp) ?_)
 rintro k ⟨hk,ht⟩
 refine zs ?_
 refine zc ?_ ?_<;>intro h
 .refine W.skip ?_
  have hlt:k<s.vers.length:=by omega
  refine zb ?_
  (repeat refine W.seq ?_);refine W.reg 0 rfl fun K hK=>?_;simp -implicitDefEqProofs (maxSteps:=999999) (disch:=omega) [hlt]
  refine zk ?_;clear hK K
  refine zc ?_ ?_<;>intro h
  .refine zs ?_
   refine zr ?_
   exact(D4 hlt (by simp[h]) fun i hi hik=>by simpa using ht i hi hik).symm
  .refine W.skip ?_
   refine zs ?_
   refine⟨k+1,by omega,⟨by omega,?_⟩,Wk.fr (by simp[Ad])⟩
   intro i hi hik
   by_cases e:i=k
   .subst e;exact fun e=>h e
   .exact ht i hi (by omega)
 .refine W.exit ?_
  refine zs ?_
  refine zr ?_
  exact(Ek fun i hi=>by simpa using ht i hi (by omega)).symm
end Go.Abs
set_option maxRecDepth 100000
namespace Go.Abs
open Go.Proofs
theorem GK (l:List Int) (hl:l.length<1000000000000):Aa pg 87 [.ro l.length (Ae l)] [] (fun r _=>r= .bool (decide (AH l))):=by
 refine Aa.start (fn:=Tryz.f87) [.tmp 2] tk rfl rfl rfl (by kernel_rfl) (Nat.le_of_ble_eq_true rfl) rfl (by kernel_rfl) ?_
 rw[Av]
 refine zs ?_
 refine zs ?_
 (repeat refine W.seq ?_);refine W.block (W.loopS (fun k:Nat=> [(0,.ro l.length (Ae l)),(3,.int .i64 k)]) (fun _=> []) (fun k=>l.length-k) (fun k=>k≤l.length∧AH (l.take k)) 0 (Wk.fr (by simp[Ad])) (by simp[AH]) ?_)
 rintro k ⟨hk,hm⟩
 have hk16:k≤16:=by have:=Bq hm;simp at this;omega
 by_cases hlt:k<l.length
 .have hs:=Pe hlt hm
  have bad:¬AH (l.take (k+1))→¬AH l:=fun g w=>g (Pd (k+1) w)
  refine Af (an hlt hk16) ?_;intro K hK
  refine zk ?_;clear hK K
  refine zt ?_
  refine W.skip ?_
  have sp:=Pu l[k]
  refine zb ?_
  by_cases c1:0≤l[k]∧l[k]≤15
  rotate_left
  .rw[decide_eq_false c1] at sp
   (repeat refine W.seq ?_);refine W.regd 0 rfl true Ck (by kernel_rfl) fun K hK=>?_;simp -implicitDefEqProofs (maxSteps:=999999) (disch:=omega) [hlt]
   refine Ah.eq sp (by simp) (by simp) ?_
   refine AO hlt ?_
   refine zk ?_;clear hK K
   refine zt ?_
   refine zs ?_
   refine zr ?_
   exact bad fun g=>c1 (by have:=(hs.1 g).1;omega)
  .rw[decide_eq_true c1] at sp
   by_cases c2:0<k
   .by_cases c3:l[k]≤l[k-1]
    . (repeat refine W.seq ?_);refine W.regd 0 rfl true Ck (by kernel_rfl) fun K hK=>?_;simp -implicitDefEqProofs (maxSteps:=999999) (disch:=omega) [hlt]
      refine Ah.eq sp (by simp) (by simp) ?_
      refine AO (an hlt (an c2 c3)) ?_
      refine⟨by omega,?_⟩
      refine zk ?_;clear hK K
      refine zt ?_
      refine zs ?_
      refine zr ?_
      exact bad fun g=>by have:=(hs.1 g).2 c2;omega
    . (repeat refine W.seq ?_);refine W.regd 0 rfl true Ck (by kernel_rfl) fun K hK=>?_;simp -implicitDefEqProofs (maxSteps:=999999) (disch:=omega) [hlt]
      refine Ah.eq sp (by simp) (by simp) ?_
      refine AO (an hlt (an c2 c3)) ?_
      refine⟨by omega,?_⟩
      refine zk ?_;clear hK K
      refine zn ?_
      refine W.skip ?_
      refine zs ?_
      exact⟨k+1,by omega,⟨by omega,hs.2 ⟨by omega,fun _=>by omega⟩⟩,Wk.fr (by simp[Ad])⟩
   . (repeat refine W.seq ?_);refine W.regd 0 rfl true Ck (by kernel_rfl) fun K hK=>?_;simp -implicitDefEqProofs (maxSteps:=999999) (disch:=omega) [hlt]
     refine Ah.eq sp (by simp) (by simp) ?_
     refine AO (an hlt c2) ?_
     refine zk ?_;clear hK K
     refine zn ?_
     refine W.skip ?_
     refine zs ?_
     exact⟨k+1,by omega,⟨by omega,hs.2 ⟨by omega,fun h=>absurd h c2⟩⟩,Wk.fr (by simp[Ad])⟩
 .have hk' :k=l.length:=by omega
  subst hk'
  rw[List.take_length] at hm
  refine z0 ?_;intro K hK
  refine zk ?_;clear hK K
  refine zn ?_
  refine W.exit ?_
  refine zs ?_
  refine zr ?_
  have:=Bq hm
  simp[hm]
  try omega
end Go.Abs
set_option maxRecDepth 100000
namespace Go.Abs
open Go.Proofs
theorem Vz (n:Int) (h:-1000000≤n∧n≤1000000):Aa pg 205 [.int .i64 n] [] (fun r _=>r= .int .i64 (BZ n)):=by
 refine Aa.start (fn:=Tryz.f205) [.tmp 2] tk rfl rfl rfl (by kernel_rfl) (Nat.le_of_ble_eq_true rfl) rfl (by kernel_rfl) ?_
 rw[Av]
 refine zs ?_
 refine zs ?_
 refine zc ?_ ?_<;>intro h
 .refine z0 ?_;intro K hK
  refine zk ?_;clear hK K
  refine zr ?_
  simp[BZ];omega
 .refine W.skip ?_
  refine z0 ?_;intro K hK
  refine zk ?_;clear hK K
  refine zr ?_
  simp[BZ];omega
theorem Vh (a b:Nat):(a:Int).fdiv (b:Int)=((a/b:Nat):Int):=by rw[Int.fdiv_eq_ediv_of_nonneg _ (by omega)];rfl
theorem Z2 (n:Nat) (h:1≤n) (h2:n<1099511627776):Aa pg 180 [.int .i64 n] [] (fun r _=>r= .int .i64 (Nat.log2 n)):=by
 have hlg:=(Nat.log2_lt (n:=n) (k:=40) (by omega)).2 (by omega)
 refine Aa.start (fn:=Tryz.f180) [.tmp 2] tk rfl rfl rfl (by kernel_rfl) (Nat.le_of_ble_eq_true rfl) rfl (by kernel_rfl) ?_
 rw[Av]
 refine zs ?_
 refine zs ?_
 (repeat refine W.seq ?_);refine W.block (W.loopS (fun z:Nat×Nat=> [(0,.int .i64 (z.1:Nat)),(3,.int .i64 (z.2:Nat))]) (fun _=> []) (fun z=>z.1) (fun z=>z.1=n/2^z.2∧1≤z.1∧z.2≤Nat.log2 n) (n,0) (Wk.fr (by simp[Ad])) ⟨by simp,h,by simp⟩ ?_)
 rintro⟨q,k⟩ ⟨hq,hq1,hk⟩
 simp only at hq hq1 hk
 have hp:0<2^k:=Nat.pow_pos (by omega)
 have hdm:=Nat.div_add_mod n (2^k)
 have hml:=Nat.mod_lt n hp
 rw[←hq] at hdm
 refine zs ?_
 refine zc ?_ ?_<;>intro h
 .refine W.skip ?_
  have hf:(q:Int).fdiv 2=((q/2:Nat):Int):=Vh q 2
  have hk1:k+1≤Nat.log2 n:=by
   refine(Nat.le_log2 (by omega)).2 ?_
   rw[Nat.pow_succ]
   have:2^k*2≤2^k*q:=Nat.mul_le_mul_left _ (by omega)
   omega
  refine zb ?_
  refine Af hf ?_;intro K hK
  refine zk ?_;clear hK K
  refine zs ?_
  exact⟨(q/2,k+1),by simp only;omega,⟨by simp only;rw[hq,Nat.div_div_eq_div_mul,Nat.pow_succ],by simp only;omega,hk1⟩,Wk.fr (by simp[Ad])⟩
 .refine W.exit ?_
  have:q=1:=by omega
  subst this
  refine zs ?_
  refine zr ?_
  rw[J1 (q:=k) (by omega) (by rw[Nat.pow_succ];omega)]
theorem VA (xs:List Bool) (u v w:Nat) (hx:xs.length<1000000000) (hw:w≤60) (hv:v<1099511627776):Aa pg 203 [.tok 0 u 1 0 xs.length,.int .i64 v,.int .i64 w] [.live u (AY xs)] (fun r M=>r= .own 1 (xs.length+w) (AY (xs++A0 v w))∧M=[.dead]):=by
 refine Aa.start (fn:=Tryz.f203) [.tmp 6] tk rfl rfl rfl (by kernel_rfl) (Nat.le_of_ble_eq_true rfl) rfl (by kernel_rfl) ?_
 rw[Bi]
 refine zs ?_
 refine zs ?_
 rw[show AY xs=AY (xs++(A0 v w).take 0) by simp]
 (repeat refine W.seq ?_);refine W.block (W.loopS (fun k:Nat=> [(0,.tok 0 (u+k) 1 0 (xs.length+k)),(1,.int .i64 v),(7,.int .i64 ((w:Int)-1-k))]) (fun k=> [.live (u+k) (AY (xs++(A0 v w).take k))]) (fun k=>w-k) (fun k=>k≤w) 0 (Wk.fr (by simp[Ad])) (by simp) ?_)
 intro k hk
 by_cases hlt:k<w
 .obtain⟨i,hi⟩:∃i:Nat,(w:Int)-1-k=i:=⟨w-1-k,by omega⟩
  have hmin:min i 64=i:=by omega
  rw[hi]
  refine zs ?_
  refine zt ?_
  refine W.skip ?_
  refine zb ?_
  obtain⟨Q,hQd⟩:∃Q,Q=v/2^i:=⟨_,rfl⟩
  have hQ:(v:Int)/2^i=(Q:Int):=by rw[hQd,Int.natCast_ediv,Int.natCast_pow];rfl
  have hQv:Q≤v:=by rw[hQd];exact Nat.div_le_self _ _
  have hand:=IV (Q:Int) (by omega) (by omega)
  have hw8:IntKind.u8.wrap ((Q:Int)%2)=(if Q%2=1 then 1 else 0):=by
   by_cases h:Q%2=1
   .have:(Q:Int)%2=1:=by omega
    rw[this,if_pos h];rfl
   .have:(Q:Int)%2=0:=by omega
    rw[this,if_neg h];rfl
  have hto:(A0 v w).take (k+1)=(A0 v w).take k++[decide (Q%2=1)]:=by
   rw[List.take_add_one,List.getElem?_eq_getElem (by simpa using hlt)]
   have:(A0 v w)[k]'(by simpa using hlt)=decide (Q%2=1):=by
    simp only[A0,List.getElem_map,List.getElem_range]
    rw[hQd,show w-1-k=i by omega]
   rw[this];rfl
  refine LZ (an hmin (an hQ (an hand hw8))) ?_;intro K hK
  refine⟨by omega,by omega,?_⟩
  refine zk ?_;clear hK K
  refine zs ?_
  refine⟨k+1,by omega,by omega,Wk.cutM (k:=1) ?_ ?_ (by simp) (by simp) (by simp) (by simp)⟩
  .simp[Ad]
   omega
  .rw[hto,←List.append_assoc,Pt]
   simp[AY,b8];omega
 .have hk' :k=w:=by omega
  subst hk'
  have e:((k:Int)-1-k)=-1:=by omega
  rw[e]
  refine zs ?_
  refine zn ?_
  refine W.exit ?_
  refine zs ?_
  refine zr ?_
  rw[List.take_of_length_le (by simp),List.take_of_length_le (by simp)]
end Go.Abs
set_option maxRecDepth 100000
namespace Go.Abs
open Go.Proofs
theorem FE (xs:List Bool) (u n:Nat) (hx:xs.length<100000000) (h1:1≤n) (h2:n<1099511627776):Aa pg 166 [.tok 0 u 1 0 xs.length,.int .i64 2,.int .i64 n] [.live u (AY xs)] (fun r M=>r= .own 1 (xs.length+(AA n).length) (AY (xs++AA n))∧M=[.dead]):=by
 have hlg:=(Nat.log2_lt (n:=n) (k:=40) (by omega)).2 (by omega)
 have hgl:=DW n
 obtain⟨q,hq⟩:∃q,q=Nat.log2 n:=⟨_,rfl⟩
 have spl:=Z2 n h1 h2
 rw[←hq] at spl hlg hgl
 refine Aa.start (fn:=Tryz.f166) [.tmp 6] tk rfl rfl rfl (by kernel_rfl) (Nat.le_of_ble_eq_true rfl) rfl (by kernel_rfl) ?_
 rw[Bi]
 refine zs ?_
 refine zs ?_
 refine zb ?_
 refine zs ?_
 refine zn ?_
 refine zs ?_
 refine zt ?_
 refine z0 ?_;intro K hK
 refine Ab.eq spl (by simp) (by simp) ?_
 refine zx ?_
 refine Ab.pass [0] (VA xs u 0 q (by omega) (by omega) (by omega)) (by simp) (by simp) (by simp) (by simp) ?_
 rintro r M ⟨rfl,rfl⟩ _
 refine zx ?_
 refine Ab.eq spl (by simp) (by simp) ?_
 refine zx ?_
 have sp2:=VA (xs++A0 0 q) 0 n (q+1) (by simp;omega) (by omega) (by omega)
 refine Ab.pass [1] sp2 (by simp) (by simp) (by simp) (by simp) ?_
 rintro r M ⟨rfl,rfl⟩ _
 refine zx ?_
 refine zk ?_;clear hK K
 refine zr ?_
 have hgb:AA n=A0 0 q++A0 n (q+1):=by rw[AA,hq]
 exact⟨by omega,by rw[List.take_of_length_le (by simp;omega),hgb]⟩
theorem Y6 (n:Int):Aa pg 181 [.int .i64 2,.int .i64 n] [] (fun r _=>r= .bool (decide (1≤n∧n≤1073741824))):=by
 refine Aa.start (fn:=Tryz.f181) [.tmp 4] tk rfl rfl rfl (by kernel_rfl) (Nat.le_of_ble_eq_true rfl) rfl (by kernel_rfl) ?_
 rw[Ar]
 refine zs ?_
 refine zs ?_
 refine zn ?_
 refine W.skip ?_
 refine z0 ?_;intro K hK
 refine Ab.eq (E0 2 2 5) (by simp) (by simp) ?_
 rw[decide_eq_true (by omega)]
 refine zx ?_
 refine Ab.eq (E0 n 1 1073741824) (by simp) (by simp) ?_
 refine zx ?_
 refine zk ?_;clear hK K
 exact zR
def FF (o:Option (Nat×Nat)):AV:=match o with|some x=> .tup [.int .i64 x.1,.int .i64 x.2] |none=> .tup [.int .i64 (-1),.int .i64 0]
theorem E8 (l:List Bool) (p:Nat) (hl:l.length<1000000000) (hp:p≤l.length):Aa pg 143 [.ro l.length (AY l),.int .i64 p,.int .i64 2] [] (fun r _=>r=FF (AS l p)):=by
 have spz:=XP l p (by omega) hp
 refine Aa.start (fn:=Tryz.f143) [.tmp 6,.tmp 7] tk rfl rfl rfl (by kernel_rfl) (Nat.le_of_ble_eq_true rfl) rfl (by kernel_rfl) ?_
 rw[Bi]
 refine zs ?_
 refine z0 ?_;intro K hK
 refine Ab.eq spz (by simp) (by simp) ?_
 cases ha:ahead l p with
 |none=>
  have hg:AS l p=none:=by unfold AS;rw[ha]
  simp only[EV];simp -implicitDefEqProofs (maxSteps:=999999) (disch:=omega) [nb]
  refine zk ?_;clear hK K
  refine zs ?_
  refine zt ?_
  refine zs ?_
  refine zr ?_
  rw[hg];rfl
 |some q=>
  have hql:p+q<l.length:=by
   have:=List.findIdx?_eq_some_iff_findIdx_eq.1 ha
   simp at this;omega
  simp only[EV];simp -implicitDefEqProofs (maxSteps:=999999) (disch:=omega) [nb]
  refine zk ?_;clear hK K
  refine zs ?_
  refine zn ?_
  refine W.skip ?_
  refine z0 ?_;intro K hK
  refine zk ?_;clear hK K
  refine zs ?_
  refine zb ?_
  refine zs ?_
  refine zn ?_
  refine zs ?_
  refine zt ?_
  by_cases c:q≤30∧p+2*q+1≤l.length
  rotate_left
  .have hg:AS l p=none:=by unfold AS;rw[ha];simp only;rw[if_neg c]
   by_cases c1:q≤30
   .have c2:¬p+2*q+1≤l.length:=fun h=>c ⟨c1,h⟩
    have c3:(l.length:Int)<(p:Int)+2*q+1:=by omega
    have c4:¬(30:Int)<(q:Int):=by omega
    refine Af (an c3 c4) ?_;intro K hK
    refine zk ?_;clear hK K
    refine zt ?_
    refine zs ?_
    refine zr ?_
    rw[hg];rfl
   .have c4:(30:Int)<(q:Int):=by omega
    refine Af c4 ?_;intro K hK
    refine zk ?_;clear hK K
    refine zt ?_
    refine zs ?_
    refine zr ?_
    rw[hg];rfl
  have c4:¬(30:Int)<(q:Int):=by omega
  have c3:¬(l.length:Int)<(p:Int)+2*q+1:=by omega
  refine Af (an c3 c4) ?_;intro K hK
  refine zk ?_;clear hK K
  refine zn ?_
  refine W.skip ?_
  have spg:=Z1 l (p+q) (q+1) (by omega) (by omega) (by omega)
  have hgr:AS l p=if Bz ((l.drop (p+q)).take (q+1))≤1073741824 then some (Bz ((l.drop (p+q)).take (q+1)),p+2*q+1) else none:=by
   unfold AS;rw[ha];simp only;rw[if_pos c]
  have hpos:1≤Bz ((l.drop (p+q)).take (q+1)):=by
   obtain⟨r,hr⟩:=HM ha
   have e1:(l.drop (p+q)).take (q+1)=true::r.take q:=by
    rw[←List.drop_drop,hr,List.drop_append];simp
   rw[e1,EZ]
   have:0<2^(r.take q).length:=Nat.pow_pos (by omega)
   simp only[Bool.toNat_true,Nat.one_mul];omega
  generalize Bz ((l.drop (p+q)).take (q+1))=v at*
  refine z0 ?_;intro K hK
  refine Ab.eq spg (by simp) (by simp) ?_
  refine zx ?_
  refine zk ?_;clear hK K
  refine z0 ?_;intro K hK
  refine Ab.eq (Y6 v) (by simp) (by simp) ?_
  by_cases cv:v≤1073741824
  .rw[decide_eq_true (by omega)]
   refine zx ?_
   refine zk ?_;clear hK K
   refine zn ?_
   refine W.skip ?_
   refine zs ?_
   refine zr ?_
   rw[hgr,if_pos cv]
   simp[FF]
  .rw[decide_eq_false (by omega)]
   refine zx ?_
   refine zk ?_;clear hK K
   refine zt ?_
   refine zs ?_
   refine zr ?_
   rw[hgr,if_neg cv];rfl
end Go.Abs
