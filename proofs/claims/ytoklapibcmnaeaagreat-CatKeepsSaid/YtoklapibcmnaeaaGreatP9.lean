/- A state's objects and places. -/
import Derived.Test.YtoklapibcmnaeaaGreatP8
set_option linter.unusedVariables false
set_option linter.unusedSimpArgs false
set_option maxRecDepth 100000
namespace Go.Abs
open Go.Proofs
def A4 (s:AB):Prop:=s.vers.length<1000000000∧s.sess.length<1000000000∧∀v∈s.vers,v.data.data.size<1000000000
theorem A4.objs {s:AB} (h:A4 s):DW (Al s):=by
 refine⟨by have:=h.1;simp[Al];omega,fun o ho=>?_⟩
 simp only[Al,List.mem_map] at ho
 obtain⟨v,hv,rfl⟩:=ho
 exact h.2.2 v hv
theorem OK (s:AB) (hs:A4 s):Aa pg 80 [.agg (AA false s)] [] (fun r _=>r= .own 4 (Al s).length (Af Aw (Al s))):=by
 have h1:=hs.1
 refine Aa.start (fn:=Tryz.f80) [.tmp 2] tk rfl rfl rfl (by kernel_rfl) (Nat.le_of_ble_eq_true rfl) rfl (by kernel_rfl) ?_
 rw[Au]
 refine z1 ?_;intro K hK;refine zk ?_;clear hK K
 refine zs ?_
 (repeat refine W.seq ?_);refine W.block (W.loopS (fun k:Nat=> [(2,.tok 1 k 4 0 k),(6,GF false s.vers),(7,.int .i64 s.vers.length),(8,.int .i64 k)]) (fun k=> [.live 0 (AA false s),.live k (Af Aw ((Al s).take k))]) (fun k=>s.vers.length-k) (fun k=>k≤s.vers.length) 0 ((Wk.nil (t:=2) (s:=4) ?_).trans (Wk.fr ?_)) (by simp) ?_)
 .simp
 .simp[Ad]
 .intro k hk
  refine zs ?_
  refine zc ?_ ?_<;>intro h
  .refine W.skip ?_
   have hlt:k<s.vers.length:=by omega
   have hto:(Al s).take (k+1)=(Al s).take k++[Ev s.vers[k]]:=by
    rw[List.take_add_one];simp[Al,hlt]
   have hlo:k≤(Al s).length:=by simp[Al];omega
   refine zb ?_
   (repeat refine W.seq ?_);refine W.reg 1 rfl fun K hK=>?_;simp -implicitDefEqProofs (maxSteps:=999999) (disch:=omega) [hlt]
   refine zk ?_;clear hK K
   refine Lz hlo ?_;intro K hK
   refine⟨by omega,by omega,?_⟩
   refine zk ?_;clear hK K
   refine zs ?_
   refine⟨k+1,by omega,by omega,Wk.cutM (k:=2) (by simp[Ad]) ?_ (by simp) (by simp) (by simp) (by simp)⟩
   rw[hto]
   simp[C2,AK,Ev]
  .refine W.exit ?_
   have hk' :k=s.vers.length:=by omega
   subst hk'
   have e:(Al s).take s.vers.length=Al s:=List.take_of_length_le (by simp[Al])
   rw[e]
   refine zs ?_
   refine zr ?_
   rw[e]
   simp[Al]
theorem D5 (s:AB) (hs:A4 s):Aa pg 76 [.agg (AA false s)] [] (fun r _=>r= .int .i64 (As s.vers)):=by
 have h1:=hs.1
 refine Aa.start (fn:=Tryz.f76) [.tmp 2] tk rfl rfl rfl (by kernel_rfl) (Nat.le_of_ble_eq_true rfl) rfl (by kernel_rfl) ?_
 rw[Au]
 refine z1 ?_;intro K hK;refine zk ?_;clear hK K
 refine zs ?_
 refine zc ?_ ?_<;>intro h
 .refine zs ?_
  refine zr ?_
  simp[As,h]
 .refine W.skip ?_
  have hp:0<s.vers.length:=List.length_pos_iff.2 h
  have hlt:s.vers.length-1<s.vers.length:=by omega
  (repeat refine W.seq ?_);refine W.reg 0 rfl fun K hK=>?_;simp -implicitDefEqProofs (maxSteps:=999999) (disch:=omega) [hlt]
  refine⟨by omega,?_⟩
  refine zk ?_;clear hK K
  refine zr ?_
  rw[As,List.getLast?_eq_getElem?,List.getElem?_eq_getElem hlt]
theorem Uq (v:Bi) (id:Int):Aa pg 124 ([.agg (AN v)]++[.rptr [.int .i64 id]]) [] (fun r _=>r= .bool (decide (v.id=id))):=by
 refine Aa.start (fn:=Tryz.f124) [.tmp 3] tk rfl rfl rfl (by kernel_rfl) (Nat.le_of_ble_eq_true rfl) rfl (by kernel_rfl) ?_
 simp only[List.cons_append,List.nil_append]
 rw[Aq]
 refine z1 ?_;intro K hK;refine zk ?_;clear hK K
 refine zs ?_
 exact zR
theorem J2 (s:AB) (id:Int) (hs:A4 s):Aa pg 82 [.agg (AA false s),.int .i64 id] [] (fun r _=>r= .int .i64 (Ba (fun v=>decide (v.id=id)) s.vers)):=by
 have h1:=hs.1
 refine Aa.start (fn:=Tryz.f82) [.tmp 4] tk rfl rfl rfl (by kernel_rfl) (Nat.le_of_ble_eq_true rfl) rfl (by kernel_rfl) ?_
 rw[Aq]
 refine z2 ?_;intro K hK;refine zk ?_;clear hK K
 refine z0 ?_;intro K hK
 refine Ab.eq (LH s.vers 124 [.rptr [.int .i64 id]] (fun v=>decide (v.id=id)) (by omega) (fun v _=>Uq v id) (by simp)) (by simp) (by simp) ?_
 refine zx ?_
 refine zk ?_;clear hK K
 exact zR
theorem OL (b:C0) (hb:b.data.size<1000000000):Aa pg 120 [.agg (Cx b)] [] (fun r _=>r= .int .i64 (Di b)):=by
 refine Aa.start (fn:=Tryz.f120) [.tmp 2] tk rfl rfl rfl (by kernel_rfl) (Nat.le_of_ble_eq_true rfl) rfl (by kernel_rfl) ?_
 rw[Au]
 refine z1 ?_;intro K hK;refine zk ?_;clear hK K
 refine z0 ?_;intro K hK
 refine zk ?_;clear hK K
 refine zr ?_
 unfold Di
 congr 1
 omega
theorem OM (n:Int):Aa pg 160 [.int .i64 n] [] (fun r _=>r= .bool (decide (1≤n∧n≤100))):=by
 refine Aa.start (fn:=Tryz.f160) [.tmp 2] tk rfl rfl rfl (by kernel_rfl) (Nat.le_of_ble_eq_true rfl) rfl (by kernel_rfl) ?_
 rw[Au]
 refine zs ?_
 by_cases h1:1≤n
 .refine Ae h1 ?_;intro K hK
  refine zk ?_;clear hK K
  exact zR
 .refine Ae h1 ?_;intro K hK
  refine zk ?_;clear hK K
  exact zR
theorem SN (s:AB) (id:Int) (hs:A4 s) (hm:Ci (Al s)) (BM:id≠0):Aa pg 83 [.agg (AA false s),.int .i64 id] [] (fun r _=>r= .agg (AU true (AX (Al s) id).1)):=by
 have h1:=hs.1
 refine Aa.start (fn:=Tryz.f83) [.cell 4 51] tk rfl rfl rfl (by kernel_rfl) (Nat.le_of_ble_eq_true rfl) rfl (by kernel_rfl) ?_
 rw[Aq]
 refine z2 ?_;intro K hK;refine zk ?_;clear hK K
 refine Ae BM ?_;intro K hK
 refine zk ?_;clear hK K
 refine zn ?_
 refine W.skip ?_
 refine z1 ?_;intro K hK
 refine Ab.eq (OK s hs) (by simp) (by simp) ?_
 refine zx ?_
 refine Ab.eq (X7 (Al s) id hs.objs hm) (by simp) (by simp) ?_
 refine zx ?_
 refine zk ?_;clear hK K
 refine zs ?_
 exact zR
def jZ (x:Int×Int):List AV:=At x
theorem KH (s:AB) (hs:A4 s):Aa pg 79 [.agg (AA false s)] [] (fun r _=>r= .own 2 (Av s).length (Af At (Av s))):=by
 have h1:=hs.1
 refine Aa.start (fn:=Tryz.f79) [.tmp 2] tk rfl rfl rfl (by kernel_rfl) (Nat.le_of_ble_eq_true rfl) rfl (by kernel_rfl) ?_
 rw[Au]
 refine z1 ?_;intro K hK;refine zk ?_;clear hK K
 refine zs ?_
 (repeat refine W.seq ?_);refine W.block (W.loopS (fun k:Nat=> [(2,.tok 1 k 2 0 k),(6,GF false s.vers),(7,.int .i64 s.vers.length),(8,.int .i64 k)]) (fun k=> [.live 0 (AA false s),.live k (Af At ((Av s).take k))]) (fun k=>s.vers.length-k) (fun k=>k≤s.vers.length) 0 ((Wk.nil (t:=2) (s:=2) ?_).trans (Wk.fr ?_)) (by simp) ?_)
 .simp
 .simp[Ad]
 .intro k hk
  refine zs ?_
  refine zc ?_ ?_<;>intro h
  .refine W.skip ?_
   have hlt:k<s.vers.length:=by omega
   have hto:(Av s).take (k+1)=(Av s).take k++[(s.vers[k].at_,Di s.vers[k].data)]:=by
    rw[List.take_add_one];simp[Av,hlt]
   have hlo:k≤(Av s).length:=by simp[Av];omega
   have hB:=OL s.vers[k].data (hs.2.2 _ (List.getElem_mem hlt))
   refine zb ?_
   (repeat refine W.seq ?_);refine W.reg 1 rfl fun K hK=>?_;simp -implicitDefEqProofs (maxSteps:=999999) (disch:=omega) [hlt]
   refine zk ?_;clear hK K
   (repeat refine W.seq ?_);refine W.regd 1 rfl true Ce (by kernel_rfl) fun K hK=>?_;simp -implicitDefEqProofs (maxSteps:=999999) (disch:=omega) [hlo]
   refine Ah.eq hB (by simp) (by simp) ?_
   refine AR hlo ?_
   refine⟨by omega,by omega,?_⟩
   refine zk ?_;clear hK K
   refine zs ?_
   refine⟨k+1,by omega,by omega,Wk.cutM (k:=2) (by simp[Ad]) ?_ (by simp) (by simp) (by simp) (by simp)⟩
   rw[hto]
   simp[C2,AK,At]
  .refine W.exit ?_
   have hk' :k=s.vers.length:=by omega
   subst hk'
   have e:(Av s).take s.vers.length=Av s:=List.take_of_length_le (by simp[Av])
   rw[e]
   refine zs ?_
   refine zr ?_
   rw[e]
   simp[Av]
end Go.Abs
set_option maxRecDepth 100000
namespace Go.Abs
open Go.Proofs
theorem JM (l:List Bi):Ej l=false↔∀i (h:i<l.length),i=l.length-1→l[i].gone=false:=by
 rw[Ej,List.getLast?_eq_getElem?]
 by_cases h:0<l.length
 .rw[List.getElem?_eq_getElem (by omega)]
  constructor
  .intro g i hi e;subst e;exact g
  .intro g;exact g _ (by omega) rfl
 .rw[List.getElem?_eq_none (by omega)]
  simp
  intro i hi;omega
theorem L8 (s:AB) (hs:A4 s):Aa pg 154 [.agg (AA false s)] [] (fun r _=>r= .bool (decide (FU s))):=by
 have h1:=hs.1
 refine Aa.start (fn:=Tryz.f154) [.tmp 2] tk rfl rfl rfl (by kernel_rfl) (Nat.le_of_ble_eq_true rfl) rfl (by kernel_rfl) ?_
 rw[Au]
 refine z1 ?_;intro K hK;refine zk ?_;clear hK K
 by_cases c1:s.keep<1
 .refine Ae c1 ?_;intro K hK
  refine zk ?_;clear hK K
  refine zt ?_
  refine zs ?_
  refine zr ?_
  intro g;have:=g.1;omega
 by_cases c2:s.keep≤8
 rotate_left
 .refine Ae (an c1 c2) ?_;intro K hK
  refine zk ?_;clear hK K
  refine zt ?_
  refine zs ?_
  refine zr ?_
  intro g;have:=g.2.1;omega
 by_cases c3:s.blocks<1
 .refine Ae (an c1 (an c2 c3)) ?_;intro K hK
  refine zk ?_;clear hK K
  refine zt ?_
  refine zs ?_
  refine zr ?_
  intro g;have:=g.2.2.1;omega
 by_cases c4:s.blocks≤100
 rotate_left
 .refine Ae (an c1 (an c2 (an c3 c4))) ?_;intro K hK
  refine zk ?_;clear hK K
  refine zt ?_
  refine zs ?_
  refine zr ?_
  intro g;have:=g.2.2.2.1;omega
 refine Ae (an c1 (an c2 (an c3 c4))) ?_;intro K hK
 refine zk ?_;clear hK K
 refine zn ?_
 refine W.skip ?_
 refine zs ?_
 (repeat refine W.seq ?_);refine W.block (W.loopS (fun k:Nat=> [(1,.ptr 0 0 0),(24,GF false s.vers),(25,.int .i64 s.vers.length),(26,.int .i64 k)]) (fun k=> [.live 0 (AA false s)]) (fun k=>s.vers.length-k) (fun k=>k≤s.vers.length∧∀i (h:i<s.vers.length),i<k→GG s.vers[i]∧(i=s.vers.length-1→s.vers[i].gone=false)) 0 (Wk.fr (by simp[Ad])) (by simp) ?_)
 rintro k ⟨hk,ht⟩
 refine zs ?_
 refine zc ?_ ?_<;>intro h
 .refine W.skip ?_
  have hlt:k<s.vers.length:=by omega
  have bad:¬(GG s.vers[k]∧(k=s.vers.length-1→s.vers[k].gone=false))→¬FU s:=fun g w=>g ⟨w.2.2.2.2.1 _ (List.getElem_mem hlt),fun e=>(JM _).1 w.2.2.2.2.2.1 k hlt e⟩
  refine zb ?_
  (repeat refine W.seq ?_);refine W.reg 1 rfl fun K hK=>?_;simp -implicitDefEqProofs (maxSteps:=999999) (disch:=omega) [hlt]
  refine zk ?_;clear hK K
  have fail:¬(GG s.vers[k]∧(k=s.vers.length-1→s.vers[k].gone=false))→¬FU s:=bad
  generalize hv:s.vers[k]=v at*
  by_cases d1:v.parent<0
  .refine Ae d1 ?_;intro K hK
   refine zk ?_;clear hK K
   refine zt ?_
   refine zs ?_
   refine zr ?_
   exact bad fun g=>by have:=g.1.1;omega
  by_cases d2:v.parent<v.id
  rotate_left
  .refine Ae (an d1 d2) ?_;intro K hK
   refine zk ?_;clear hK K
   refine zt ?_
   refine zs ?_
   refine zr ?_
   exact bad fun g=>d2 g.1.2.1
  cases d3:v.gone
  .cases d4:v.tag
   all_goals
    refine Ae (an d1 (an d2 (an d3 d4))) ?_;intro K hK
    refine zk ?_;clear hK K
    refine zn ?_
    refine W.skip ?_
    refine zs ?_
    refine⟨k+1,by omega,⟨by omega,fun i hi hik=>?_⟩,Wk.cutM (k:=1) (by simp[Ad]) (by simp) (by simp) (by simp) (by simp) (by simp)⟩
    by_cases e:i=k
    .subst e;rw[hv];exact⟨⟨by omega,d2,by simp[d3]⟩,fun _=>d3⟩
    .exact ht i hi (by omega)
  .cases d4:v.tag
   .by_cases d5:k=s.vers.length-1
    .have d5' :(k:Int)=(s.vers.length:Int)-1:=by omega
     refine Ae (an d1 (an d2 (an d3 (an d4 d5')))) ?_;intro K hK
     refine zk ?_;clear hK K
     refine zt ?_
     refine zs ?_
     refine zr ?_
     exact bad fun g=>by have:=g.2 d5;simp[d3] at this
    .have d5' :¬(k:Int)=(s.vers.length:Int)-1:=by omega
     refine Ae (an d1 (an d2 (an d3 (an d4 d5')))) ?_;intro K hK
     refine zk ?_;clear hK K
     refine zn ?_
     refine W.skip ?_
     refine zs ?_
     refine⟨k+1,by omega,⟨by omega,fun i hi hik=>?_⟩,Wk.cutM (k:=1) (by simp[Ad]) (by simp) (by simp) (by simp) (by simp) (by simp)⟩
     by_cases e:i=k
     .subst e;rw[hv];exact⟨⟨by omega,d2,by simp[d4]⟩,fun e=>absurd e d5⟩
     .exact ht i hi (by omega)
   .refine Ae (an d1 (an d2 (an d3 d4))) ?_;intro K hK
    refine zk ?_;clear hK K
    refine zt ?_
    refine zs ?_
    refine zr ?_
    exact bad fun g=>g.1.2.2 ⟨d4,d3⟩
 .refine W.exit ?_
  have hk' :k=s.vers.length:=by omega
  refine z0 ?_;intro K hK
  refine Ab.eq (OK s hs) (by simp) (by simp) ?_
  refine zx ?_
  refine Ab.eq (X4 (Al s) hs.objs) (by simp) (by simp) ?_
  refine zx ?_
  refine zk ?_;clear hK K
  refine zr ?_
  constructor
  .intro hm
   exact⟨by omega,c2,by omega,c4,fun v hv=>by
    obtain⟨i,hi,rfl⟩:=List.mem_iff_getElem.1 hv
    exact(ht i hi (by omega)).1,(JM _).2 fun i hi e=>(ht i hi (by omega)).2 e,hm⟩
  .intro w;exact w.2.2.2.2.2.2
end Go.Abs
set_option maxRecDepth 100000
namespace Go.Abs
open Go.Proofs
def AG (xs:List Bool):List AV:=xs.map AV.bool
section
variable (xs ys:List Bool) (M:List Ag) (k:Nat)
@[simp] theorem ZO (i:Nat):(AG xs)[i]?=(xs[i]?).map AV.bool:=by simp[AG]
@[simp] theorem ZP:(AG xs).length=xs.length:=by simp[AG]
@[simp] theorem ZQ:AG []=[]:=rfl
@[simp] theorem Y8:(AG xs).take k=AG (xs.take k):=by simp[AG,List.map_take]
@[simp] theorem Y9:(AG xs).drop k=AG (xs.drop k):=by simp[AG,List.map_drop]
@[simp] theorem bG:EF (AG xs)=true:=by simp[AG,EF,-JA]
@[simp] theorem bH:EG (AG xs)=true:=by simp[AG,EG,-JB]
@[simp] theorem bI:DQ (AG xs)=true:=by simp[AG,DQ,-HU]
@[simp] theorem bJ:C4 k (AG xs)=true:=by induction xs<;>simp_all[AG]
@[simp] theorem ZR:CQ (AG xs)=true:=by induction xs<;>simp_all[AG]
@[simp] theorem ZS:ED (AG xs)=AG xs:=by induction xs<;>simp_all[AG]
@[simp] theorem ZT:(AG xs).map D8=AG xs:=by simp[AG]
@[simp] theorem ZU:(AG xs).map (Co M k)=AG xs:=by cases k<;>simp[AG]
theorem Fm (i:Nat) (b:Bool):(AG xs).set i (.bool b)=AG (xs.set i b):=by simp[AG]
theorem Q1 (n:Nat) (b:Bool):Ch n [.bool b]=AG (List.replicate n b):=by
 unfold Ch AG
 induction n with
 |zero=>rfl
 |succ n ih=>simp[List.replicate_succ]
end
def DJ (l:List (Int×Int)) (i:Int):Bool:=l.any fun x=>decide (x.1≤i∧i<x.1+x.2)
def Bx (l:List (Int×Int)) (n:Nat):List Bool:=(List.range n).map fun(j:Nat)=>DJ l (j:Int)
def Cj (l:List (Int×Int)) (n:Nat) (a i:Int):List Bool:=(List.range n).map fun(j:Nat)=>DJ l (j:Int) ||decide (a≤(j:Int)∧(j:Int)<i)
@[simp] theorem LK (l:List (Int×Int)) (n:Nat):(Bx l n).length=n:=by simp[Bx]
@[simp] theorem Yg (l:List (Int×Int)) (n:Nat):(Bx l n).take n=Bx l n:=List.take_of_length_le (by simp)
@[simp] theorem Yh (l:List (Int×Int)) (n:Nat) (a i:Int):(Cj l n a i).length=n:=by simp[Cj]
theorem Kl {l:List (Int×Int)} {n i:Nat} {a:Int} (hi:i<n):(Cj l n a i)[i]'(by simpa using hi)=DJ l i:=by simp[Cj]
theorem Nd (l:List (Int×Int)) (n:Nat) (a:Int):Cj l n a a=Bx l n:=by
 unfold Cj Bx
 refine List.map_congr_left fun j _=>?_
 have:decide (a≤(j:Int)∧(j:Int)<a)=false:=by simp
 rw[this,Bool.or_false]
theorem Km (l:List (Int×Int)) (n:Nat) (x:Int×Int):Cj l n x.1 (x.1+x.2)=Bx (l++[x]) n:=by
 unfold Cj Bx
 refine List.map_congr_left fun j _=>?_
 simp[DJ]
theorem Kn (l:List (Int×Int)) (n i:Nat) (a:Int) (ha:a≤i) (hi:i<n):(Cj l n a i).set i true=Cj l n a ((i:Int)+1):=by
 refine List.ext_getElem (by simp[Cj]) fun j h1 h2=>?_
 simp only[Cj,List.length_map,List.length_range] at h2
 rw[List.getElem_set]
 by_cases e:i=j
 .subst e
  rw[if_pos rfl]
  simp[Cj]
  right;omega
 .rw[if_neg e]
  simp only[Cj,List.getElem_map,List.getElem_range]
  congr 1
  simp only[decide_eq_decide]
  omega
theorem LL {l:List (Int×Int)} {x:Int×Int} (hl:∀y∈l,1≤y.2) (hx:1≤x.2):(l++[x]).Pairwise apart↔l.Pairwise apart∧∀i,x.1≤i→i<x.1+x.2→DJ l i=false:=by
 rw[List.pairwise_append]
 simp only[List.pairwise_singleton,true_and,List.mem_singleton,forall_eq,DJ,List.any_eq_false,decide_eq_true_eq,apart]
 constructor
 .rintro⟨h1,h2⟩
  refine⟨h1,fun i a b y hy c=>?_⟩
  have:=h2 y hy
  omega
 .rintro⟨h1,h2⟩
  refine⟨h1,fun y hy c=>?_⟩
  have hy1:=hl y hy
  by_cases e:y.1≤x.1
  .exact h2 x.1 (by omega) (by omega) y hy (by omega)
  .exact h2 y.1 (by omega) (by omega) y hy (by omega)
def FW (l:List (Int×Int)) (n:Int):AV:=if B6 l n then .tup [.own 1 n.toNat (AG (Bx l n.toNat)),.bool true] else .tup [.own 1 0 [],.bool false]
def IG (l:List (Int×Int)) (n:Int):Prop:=(∀x∈l,0≤x.1∧1≤x.2∧x.1+x.2≤n)∧l.Pairwise apart
theorem Hq {l:List (Int×Int)} {n:Int} {x:Int×Int}:IG (l++[x]) n↔IG l n∧(0≤x.1∧1≤x.2∧x.1+x.2≤n)∧∀i,x.1≤i→i<x.1+x.2→DJ l i=false:=by
 unfold IG
 constructor
 .rintro⟨h1,h2⟩
  have hx:=h1 x (by simp)
  have h3:=(LL (fun y hy=>(h1 y (by simp[hy])).2.1) hx.2.1).1 h2
  exact⟨⟨fun y hy=>h1 y (by simp[hy]),h3.1⟩,hx,h3.2⟩
 .rintro⟨⟨h1,h2⟩,hx,h3⟩
  refine⟨fun y hy=>?_,(LL (fun y hy=>(h1 y hy).2.1) hx.2.1).2 ⟨h2,h3⟩⟩
  rcases List.mem_append.1 hy with h|h
  .exact h1 y h
  .simp at h;subst h;exact hx
theorem SO {l:List (Int×Int)} {n:Int} (k:Nat) (h:IG l n):IG (l.take k) n:=⟨fun x hx=>h.1 x (List.mem_of_mem_take hx),h.2.sublist (List.take_sublist _ _)⟩
theorem L9 (l:List (Int×Int)) (n:Int) (hl:l.length<1000000000):Aa pg 121 [.ro l.length (Af At l),.int .i64 n] [] (fun r _=>r=FW l n):=by
 refine Aa.start (fn:=Tryz.f121) [.tmp 4,.tmp 5] tk rfl rfl rfl (by kernel_rfl) (Nat.le_of_ble_eq_true rfl) rfl (by kernel_rfl) ?_
 rw[Aq]
 refine zs ?_
 refine z0 ?_;intro K hK
 refine Ab.eq (OM n) (by simp) (by simp) ?_
 by_cases c1:1≤n∧n≤100
 rotate_left
 .rw[decide_eq_false c1]
  refine zx ?_
  refine zk ?_;clear hK K
  refine zt ?_
  refine zs ?_
  refine zr ?_
  rw[FW,if_neg (fun g=>c1 ⟨g.1,g.2.1⟩)]
 rw[decide_eq_true c1]
 by_cases c2:l.length≤13
 rotate_left
 .refine AR c2 ?_
  refine zk ?_;clear hK K
  refine zt ?_
  refine zs ?_
  refine zr ?_
  rw[FW,if_neg (fun g=>c2 g.2.2.1)]
 refine AR c2 ?_
 refine zk ?_;clear hK K
 refine zn ?_
 refine W.skip ?_
 refine z1 ?_;intro K hK
 refine⟨by omega,by omega,by show n≤(9223372036854775807:Int);omega,?_⟩
 refine zk ?_;clear hK K
 have e0:Ch n.toNat [.bool false]=AG (Bx (l.take 0) n.toNat):=by
  rw[Q1];congr 1
  exact List.ext_getElem (by simp[Bx]) fun j _ _=>by simp[Bx,DJ]
 rw[e0]
 refine zs ?_
 (repeat refine W.seq ?_);refine W.block (W.loopS (fun k:Nat=> [(0,.ro l.length (Af At l)),(1,.int .i64 n),(6,.tok 0 0 1 0 n.toNat),(20,.ro l.length (Af At l)),(21,.int .i64 l.length),(22,.int .i64 k)]) (fun k=> [.live 0 (AG (Bx (l.take k) n.toNat))]) (fun k=>l.length-k) (fun k=>k≤l.length∧IG (l.take k) n) 0 (Wk.fr (by simp[Ad])) ⟨by omega,by simp[IG]⟩ ?_)
 rintro k ⟨hk,hok⟩
 refine zs ?_
 refine zc ?_ ?_<;>intro h
 .refine W.skip ?_
  have hlt:k<l.length:=by omega
  have hto:l.take (k+1)=l.take k++[l[k]]:=by rw[List.take_add_one];simp[hlt]
  have bad:¬IG (l.take k++[l[k]]) n→FW l n= .tup [.own 1 0 [],.bool false]:=fun g=>by
   rw[FW,if_neg]
   intro w
   rw[←hto] at g
   exact g (SO (k+1) ⟨w.2.2.2.1,w.2.2.2.2⟩)
  rw[Hq] at bad
  refine zb ?_
  (repeat refine W.seq ?_);refine W.reg 1 rfl fun K hK=>?_;simp -implicitDefEqProofs (maxSteps:=999999) (disch:=omega) [hlt]
  refine zk ?_;clear hK K
  generalize hv:l[k]=x at*
  obtain⟨x1,x2⟩:=x
  simp only at bad
  by_cases d1:x2<1
  .refine Ae d1 ?_;intro K hK
   refine zk ?_;clear hK K
   refine zt ?_
   refine zs ?_
   refine zr ?_
   rw[bad (by omega)]
  by_cases d2:x1<0
  .refine Ae (an d1 d2) ?_;intro K hK
   refine zk ?_;clear hK K
   refine zt ?_
   refine zs ?_
   refine zr ?_
   rw[bad (by omega)]
  by_cases d3:n≤x1
  .refine Ae (an d1 (an d2 d3)) ?_;intro K hK
   refine zk ?_;clear hK K
   refine zt ?_
   refine zs ?_
   refine zr ?_
   rw[bad (by omega)]
  by_cases d4:x2≤n-x1
  rotate_left
  .refine Ae (an d1 (an d2 (an d3 d4))) ?_;intro K hK
   refine zk ?_;clear hK K
   refine zt ?_
   refine zs ?_
   refine zr ?_
   rw[bad (by omega)]
  refine Ae (an d1 (an d2 (an d3 d4))) ?_;intro K hK
  refine zk ?_;clear hK K
  refine zn ?_
  refine W.skip ?_
  refine zs ?_
  obtain⟨b,rfl⟩:=Int.eq_ofNat_of_zero_le (by omega:0≤x1)
  obtain⟨e,rfl⟩:=Int.eq_ofNat_of_zero_le (by omega:0≤x2)
  rw[←Nd _ _ (b:Int)]
  (repeat refine W.seq ?_);refine W.block (W.loopS (fun i:Nat=> [(0,.ro l.length (Af At l)),(1,.int .i64 n),(6,.tok 0 0 1 0 n.toNat),(8,.ptr 1 0 0),(9,.int .i64 i),(20,.ro l.length (Af At l)),(21,.int .i64 l.length),(22,.int .i64 k)]) (fun i=> [.live 0 (AG (Cj (l.take k) n.toNat b i)),.live 0 [.int .i64 b,.int .i64 e]]) (fun i=>b+e-i) (fun i=>b≤i∧i≤b+e∧∀j:Int,b≤j→j<i→DJ (l.take k) j=false) b (Wk.fr (by simp[Ad])) ⟨by omega,by omega,fun j h1 h2=>by omega⟩ ?_)
  rintro i ⟨hb,hi,hf⟩
  refine zs ?_
  refine zc ?_ ?_<;>intro h
  .refine W.skip ?_
   have hin:i<n.toNat:=by omega
   refine zb ?_
   have hget:(Cj (List.take k l) n.toNat (b:Int) (i:Int))[i]?=some (DJ (l.take k) i):=by rw[List.getElem?_eq_getElem (by simpa using hin),Kl hin]
   cases ht:DJ (l.take k) i
   .rw[ht] at hget
    refine Ae (an hin hget) ?_;intro K hK
    refine⟨by omega,?_⟩
    refine zk ?_;clear hK K
    refine zn ?_
    refine W.skip ?_
    refine Ae (an hin Fm) ?_;intro K hK
    refine⟨by omega,?_⟩
    refine zk ?_;clear hK K
    refine zs ?_
    refine⟨i+1,by omega,⟨by omega,by omega,fun j h1 h2=>?_⟩,?_⟩
    .by_cases e:j=i
     .subst e;exact ht
     .exact hf j h1 (by omega)
    .rw[Kn _ _ _ _ (by omega) hin]
     exact Wk.fr (by simp[Ad])
   .rw[ht] at hget
    refine Ae (an hin hget) ?_;intro K hK
    refine⟨by omega,?_⟩
    refine zk ?_;clear hK K
    refine zt ?_
    refine zs ?_
    refine zr ?_
    rw[bad (fun g=>by have:=g.2.2 i (by omega) (by omega);rw[ht] at this;cases this)]
  .refine W.exit ?_
   have hie:i=b+e:=by omega
   subst hie
   refine zs ?_
   refine⟨k+1,by omega,⟨by omega,?_⟩,?_⟩
   .rw[hto,Hq]
    exact⟨hok,⟨by omega,by omega,by omega⟩,fun j h1 h2=>hf j h1 (by simpa using h2)⟩
   .rw[hto]
    have e2:=Km (l.take k) n.toNat ((b:Int),(e:Int))
    simp only at e2
    rw[e2]
    exact Wk.cutM (k:=1) (by simp[Ad]) (by simp) (by simp) (by simp) (by simp) (by simp)
 .refine W.exit ?_
  have hk' :k=l.length:=by omega
  subst hk'
  rw[List.take_length] at hok
  have e:FW l n= .tup [.own 1 n.toNat (AG (Bx l n.toNat)),.bool true]:=by rw[FW,if_pos ⟨c1.1,c1.2,c2,hok.1,hok.2⟩]
  have e2:l.take l.length=l:=List.take_length
  rw[e2]
  refine zs ?_
  refine zr ?_
  rw[e]
end Go.Abs
set_option maxRecDepth 100000
namespace Go.Abs
open Go.Proofs
theorem X8 (l:List (Int×Int)) (n:Int) (hl:l.length<1000000000):Aa pg 115 [.ro l.length (Af At l),.int .i64 n] [] (fun r _=>r= .bool (decide (B6 l n))):=by
 have sp:=L9 l n hl
 refine Aa.start (fn:=Tryz.f115) [.tmp 4] tk rfl rfl rfl (by kernel_rfl) (Nat.le_of_ble_eq_true rfl) rfl (by kernel_rfl) ?_
 rw[Aq]
 refine zs ?_
 refine z0 ?_;intro K hK
 by_cases h:B6 l n
 .rw[FW,if_pos h] at sp
  refine Ab.eq sp (by simp) (by simp) ?_
  refine zx ?_
  refine zk ?_;clear hK K
  refine zs ?_
  refine zr ?_
  simp[h]
 .rw[FW,if_neg h] at sp
  refine Ab.eq sp (by simp) (by simp) ?_
  refine zx ?_
  refine zk ?_;clear hK K
  refine zs ?_
  refine zr ?_
  simp[h]
theorem IT (xs:List CR) (f:Nat) (caps:List AV) (p:CR→Bool) (hx:xs.length<1000000000000) (hf:∀x∈xs,Aa pg f ([.agg ((AI false) x)]++caps) [] fun r _=>r= .bool (p x)) (hcv:∀M,caps.map (vw M)=caps) (hcc:∀M k,caps.map (Co M k)=caps):
 Aa pg 155 [.ro xs.length (Af (AI false) xs),.fn f caps] [] (fun r _=>r= .bool (xs.any p)):=by
 refine Aa.start (fn:=Tryz.f155) [.tmp 4] tk rfl rfl rfl (by kernel_rfl) (Nat.le_of_ble_eq_true rfl) rfl (by kernel_rfl) ?_
 rw[Aq]
 refine zs ?_
 refine z0 ?_;intro K hK
 refine Ab.eq (QZ xs f caps p hx hf hcv) (by simp[hcc]) (by simp) ?_
 refine zx ?_
 refine zk ?_;clear hK K
 refine zr ?_
 rw[Bool.eq_iff_iff]
 simp[CM]
theorem SP (x:CR) (id:Int):Aa pg 159 ([.agg (AI false x)]++[.rptr [.int .i64 id]]) [] (fun r _=>r= .bool (decide (x.pin=id))):=by
 refine Aa.start (fn:=Tryz.f159) [.tmp 3] tk rfl rfl rfl (by kernel_rfl) (Nat.le_of_ble_eq_true rfl) rfl (by kernel_rfl) ?_
 simp only[List.cons_append,List.nil_append]
 rw[Aq]
 refine z1 ?_;intro K hK;refine zk ?_;clear hK K
 refine zs ?_
 exact zR
def pinned (s:AB) (id:Int):Bool:=s.sess.any fun x=>decide (x.pin=id)
theorem KI (s:AB) (id:Int) (hs:A4 s):Aa pg 117 [.agg (AA false s),.int .i64 id] [] (fun r _=>r= .bool (pinned s id)):=by
 have h1:=hs.2.1
 refine Aa.start (fn:=Tryz.f117) [.tmp 4] tk rfl rfl rfl (by kernel_rfl) (Nat.le_of_ble_eq_true rfl) rfl (by kernel_rfl) ?_
 rw[Aq]
 refine z2 ?_;intro K hK;refine zk ?_;clear hK K
 refine z0 ?_;intro K hK
 refine Ab.eq (IT s.sess 159 [.rptr [.int .i64 id]] (fun x=>decide (x.pin=id)) (by omega) (fun x _=>SP x id) (by simp) (by simp)) (by simp) (by simp) ?_
 refine zx ?_
 refine zk ?_;clear hK K
 refine zr ?_
 rfl
def Cg (l:List Bi):List Int:=(l.filter fun v=> !v.gone).map Bi.id
theorem Q2 {l:List Bi} {k:Nat} (hk:k<l.length):Cg (l.take (k+1))=Cg (l.take k)++if l[k].gone=true then [] else [l[k].id]:=by
 rw[List.take_add_one,Cg,List.filter_append,List.map_append]
 simp only[List.getElem?_eq_getElem hk,Option.toList_some]
 cases h:l[k].gone<;>simp[Cg,h]
theorem JN (l:List Bi):(Cg l).length≤l.length:=by
 simp only[Cg,List.length_map];exact List.length_filter_le _ _
theorem SQ (s:AB) (hs:A4 s):Aa pg 74 [.agg (AA false s)] [] (fun r _=>r= .own 1 (Cg s.vers).length (Ac (Cg s.vers))):=by
 have h1:=hs.1
 refine Aa.start (fn:=Tryz.f74) [.tmp 2] tk rfl rfl rfl (by kernel_rfl) (Nat.le_of_ble_eq_true rfl) rfl (by kernel_rfl) ?_
 rw[Au]
 refine z1 ?_;intro K hK;refine zk ?_;clear hK K
 refine zs ?_
 (repeat refine W.seq ?_);refine W.block (W.loopS (fun s2:Nat×List Int=> [(2,.tok 1 s2.2.length 1 0 s2.2.length),(6,GF false s.vers),(7,.int .i64 s.vers.length),(8,.int .i64 s2.1)]) (fun s2=> [.live 0 (AA false s),.live s2.2.length (Ac s2.2)]) (fun s2=>s.vers.length-s2.1) (fun s2=>s2.1≤s.vers.length∧s2.2=Cg (s.vers.take s2.1)) (0,[]) ((Wk.nil (t:=2) (s:=1) ?_).trans (Wk.fr ?_)) (by simp[Cg]) ?_)
 .simp
 .simp[Ad]
 .rintro⟨k,acc⟩ ⟨hk,hacc⟩
  simp only at hk hacc
  have hal:acc.length≤k:=by rw[hacc];exact Nat.le_trans (JN _) (by simp;omega)
  refine zs ?_
  refine zc ?_ ?_<;>intro h
  .refine W.skip ?_
   have hlt:k<s.vers.length:=by omega
   have hst:=Q2 hlt
   refine zb ?_
   (repeat refine W.seq ?_);refine W.reg 1 rfl fun K hK=>?_;simp -implicitDefEqProofs (maxSteps:=999999) (disch:=omega) [hlt]
   refine zk ?_;clear hK K
   cases hg:s.vers[k].gone
   .rw[hg] at hst
    refine Ae hg ?_;intro K hK
    refine zk ?_;clear hK K
    refine zt ?_
    refine z1 ?_;intro K hK
    refine⟨by omega,by omega,?_⟩
    refine zk ?_;clear hK K
    refine zs ?_
    refine⟨(k+1,acc++[s.vers[k].id]),by simp;omega,⟨by simp;omega,?_⟩,Wk.cutM (k:=2) (by simp[Ad]) ?_ (by simp) (by simp) (by simp) (by simp)⟩
    .simp only;rw[hst,hacc];simp
    .simp[B5,Ac]
   .rw[hg] at hst
    refine Ae hg ?_;intro K hK
    refine zk ?_;clear hK K
    refine zn ?_
    refine W.skip ?_
    refine zs ?_
    refine⟨(k+1,acc),by simp;omega,⟨by simp;omega,?_⟩,Wk.cutM (k:=2) (by simp[Ad]) (by simp) (by simp) (by simp) (by simp) (by simp)⟩
    simp only;rw[hst,hacc];simp
  .refine W.exit ?_
   have hk' :k=s.vers.length:=by omega
   subst hk'
   rw[List.take_length] at hacc
   subst hacc
   refine zs ?_
   exact zR
def J3 (s:AB):List Int:=(Cg s.vers).drop (max 0 (((Cg s.vers).length:Int)-s.keep)).toNat
def ES (s:AB) (v:Bi):Bool:=v.tag|| (J3 s).contains v.id||pinned s v.id
def Df (s:AB) (want:Bool) (l:List Bi):List Int:=(l.filter fun v=>ES s v==want).map Bi.id
def BW (s:AB) (want:Bool):List Int:=Df s want s.vers
theorem JO {s:AB} {want:Bool} {l:List Bi} {k:Nat} (hk:k<l.length):Df s want (l.take (k+1))=Df s want (l.take k)++if (ES s l[k]==want)=true then [l[k].id] else []:=by
 rw[List.take_add_one,Df,List.filter_append,List.map_append]
 simp only[List.getElem?_eq_getElem hk,Option.toList_some]
 cases h:ES s l[k]==want<;>simp[Df,h]
theorem Ko (s:AB) (want:Bool) (l:List Bi):(Df s want l).length≤l.length:=by
 simp only[Df,List.length_map];exact List.length_filter_le _ _
theorem ON (s:AB) (want:Bool) (hs:A4 s) (hk0:0≤s.keep∧s.keep≤1000000):Aa pg 73 [.agg (AA false s),.bool want] [] (fun r _=>r= .own 1 (BW s want).length (Ac (BW s want))):=by
 have h1:=hs.1
 have hsl:=JN s.vers
 obtain⟨m,hm⟩:∃m:Nat,max 0 (((Cg s.vers).length:Int)-s.keep)=(m:Int):=⟨_,(Int.toNat_of_nonneg (by omega)).symm⟩
 have hml:m≤(Cg s.vers).length:=by omega
 have hla:J3 s=(Cg s.vers).drop m:=by rw[J3,hm];rfl
 refine Aa.start (fn:=Tryz.f73) [.tmp 4] tk rfl rfl rfl (by kernel_rfl) (Nat.le_of_ble_eq_true rfl) rfl (by kernel_rfl) ?_
 rw[Aq]
 refine z1 ?_;intro K hK;refine zk ?_;clear hK K
 refine z0 ?_;intro K hK
 refine Ab.eq (SQ s hs) (by simp) (by simp) ?_
 refine zx ?_
 refine zk ?_;clear hK K
 generalize Cg s.vers=seen at*
 by_cases hlk:s.keep<(seen.length:Int)
 .have em:(seen.length:Int)-s.keep=m:=by omega
  have hm0:0<m:=by omega
  refine Ae (an em (an hlk hm0)) ?_;intro K hK
  refine zk ?_;clear hK K
  refine zs ?_
  (repeat refine W.seq ?_);refine W.block (W.loopS (fun s2:Nat×List Int=> [(1,.bool want),(2,.ptr 0 0 0),(4,.tok 2 s2.2.length 1 0 s2.2.length),(5,.tok 1 0 1 m (seen.length-m)),(19,GF false s.vers),(20,.int .i64 s.vers.length),(21,.int .i64 s2.1)]) (fun s2=> [.live 0 (AA false s),.live 0 (Ac seen),.live s2.2.length (Ac s2.2)]) (fun s2=>s.vers.length-s2.1) (fun s2=>s2.1≤s.vers.length∧s2.2=Df s want (s.vers.take s2.1)) (0,[]) ((Wk.nil (t:=4) (s:=1) (by simp)).trans (Wk.fr (by simp[Ad,em]))) (by simp[Df]) ?_)
  rintro⟨k,acc⟩ ⟨hk,hacc⟩
  simp only at hk hacc
  have hal:acc.length≤k:=by rw[hacc];exact Nat.le_trans (Ko _ _ _) (by simp;omega)
  refine zs ?_
  refine zc ?_ ?_<;>intro h
  .refine W.skip ?_
   have hlt:k<s.vers.length:=by omega
   have hst:=JO (s:=s) (want:=want) hlt
   refine zb ?_
   (repeat refine W.seq ?_);refine W.reg 1 rfl fun K hK=>?_;simp -implicitDefEqProofs (maxSteps:=999999) (disch:=omega) [hlt]
   refine zk ?_;clear hK K
   generalize hv:s.vers[k]=v at*
   have hkb:ES s v=(v.tag|| (seen.drop m).contains v.id||pinned s v.id):=by rw[ES,hla]
   cases ht:v.tag
   .refine Ae ht ?_;intro K hK
    refine Ab.eq (FD (seen.drop m) v.id (by simp;omega)) (by simp(disch:=omega);rw[List.take_of_length_le (by simp)]) (by simp) ?_
    cases hc:(seen.drop m).contains v.id
    .refine zx ?_
     refine Ab.eq (KI s v.id hs) (by simp) (by simp) ?_
     refine zx ?_
     refine zk ?_;clear hK K
     refine zc ?_ ?_<;>intro h
     .refine z1 ?_;intro K hK
      refine⟨by omega,by omega,?_⟩
      refine zk ?_;clear hK K
      refine zs ?_
      refine⟨(k+1,acc++[v.id]),by simp;omega,⟨by simp;omega,?_⟩,Wk.cutM (k:=3) (by simp[Ad]) ?_ (by simp) (by simp) (by simp) (by simp)⟩
      .simp only;rw[hst,hacc,hkb,ht,hc];simp[h]
      .simp[B5,Ac]
     .refine W.skip ?_
      refine zs ?_
      refine⟨(k+1,acc),by simp;omega,⟨by simp;omega,?_⟩,Wk.cutM (k:=3) (by simp[Ad]) (by simp) (by simp) (by simp) (by simp) (by simp)⟩
      simp only;rw[hst,hacc,hkb,ht,hc];simp[h]
    .refine zx ?_
     refine zk ?_;clear hK K
     refine zc ?_ ?_<;>intro h
     .refine z1 ?_;intro K hK
      refine⟨by omega,by omega,?_⟩
      refine zk ?_;clear hK K
      refine zs ?_
      refine⟨(k+1,acc++[v.id]),by simp;omega,⟨by simp;omega,?_⟩,Wk.cutM (k:=3) (by simp[Ad]) ?_ (by simp) (by simp) (by simp) (by simp)⟩
      .simp only;rw[hst,hacc,hkb,ht,hc];simp[h]
      .simp[B5,Ac]
     .refine W.skip ?_
      refine zs ?_
      refine⟨(k+1,acc),by simp;omega,⟨by simp;omega,?_⟩,Wk.cutM (k:=3) (by simp[Ad]) (by simp) (by simp) (by simp) (by simp) (by simp)⟩
      simp only;rw[hst,hacc,hkb,ht,hc];simp[h]
   .refine Ae ht ?_;intro K hK
    refine zk ?_;clear hK K
    refine zc ?_ ?_<;>intro h
    .refine z1 ?_;intro K hK
     refine⟨by omega,by omega,?_⟩
     refine zk ?_;clear hK K
     refine zs ?_
     refine⟨(k+1,acc++[v.id]),by simp;omega,⟨by simp;omega,?_⟩,Wk.cutM (k:=3) (by simp[Ad]) ?_ (by simp) (by simp) (by simp) (by simp)⟩
     .simp only;rw[hst,hacc,hkb,ht];simp[h]
     .simp[B5,Ac]
    .refine W.skip ?_
     refine zs ?_
     refine⟨(k+1,acc),by simp;omega,⟨by simp;omega,?_⟩,Wk.cutM (k:=3) (by simp[Ad]) (by simp) (by simp) (by simp) (by simp) (by simp)⟩
     simp only;rw[hst,hacc,hkb,ht];simp[h]
  .refine W.exit ?_
   have hk' :k=s.vers.length:=by omega
   subst hk'
   rw[List.take_length] at hacc
   have e:BW s want=acc:=hacc.symm
   rw[e]
   refine zs ?_
   exact zR
 .have em:m=0:=by omega
  refine Ae hlk ?_;intro K hK
  refine zk ?_;clear hK K
  refine zs ?_
  (repeat refine W.seq ?_);refine W.block (W.loopS (fun s2:Nat×List Int=> [(1,.bool want),(2,.ptr 0 0 0),(4,.tok 2 s2.2.length 1 0 s2.2.length),(5,.tok 1 0 1 m (seen.length-m)),(19,GF false s.vers),(20,.int .i64 s.vers.length),(21,.int .i64 s2.1)]) (fun s2=> [.live 0 (AA false s),.live 0 (Ac seen),.live s2.2.length (Ac s2.2)]) (fun s2=>s.vers.length-s2.1) (fun s2=>s2.1≤s.vers.length∧s2.2=Df s want (s.vers.take s2.1)) (0,[]) ((Wk.nil (t:=4) (s:=1) (by simp)).trans (Wk.fr (by simp[Ad,em]))) (by simp[Df]) ?_)
  rintro⟨k,acc⟩ ⟨hk,hacc⟩
  simp only at hk hacc
  have hal:acc.length≤k:=by rw[hacc];exact Nat.le_trans (Ko _ _ _) (by simp;omega)
  refine zs ?_
  refine zc ?_ ?_<;>intro h
  .refine W.skip ?_
   have hlt:k<s.vers.length:=by omega
   have hst:=JO (s:=s) (want:=want) hlt
   refine zb ?_
   (repeat refine W.seq ?_);refine W.reg 1 rfl fun K hK=>?_;simp -implicitDefEqProofs (maxSteps:=999999) (disch:=omega) [hlt]
   refine zk ?_;clear hK K
   generalize hv:s.vers[k]=v at*
   have hkb:ES s v=(v.tag|| (seen.drop m).contains v.id||pinned s v.id):=by rw[ES,hla]
   cases ht:v.tag
   .refine Ae ht ?_;intro K hK
    refine Ab.eq (FD (seen.drop m) v.id (by simp;omega)) (by simp(disch:=omega);rw[List.take_of_length_le (by simp)]) (by simp) ?_
    cases hc:(seen.drop m).contains v.id
    .refine zx ?_
     refine Ab.eq (KI s v.id hs) (by simp) (by simp) ?_
     refine zx ?_
     refine zk ?_;clear hK K
     refine zc ?_ ?_<;>intro h
     .refine z1 ?_;intro K hK
      refine⟨by omega,by omega,?_⟩
      refine zk ?_;clear hK K
      refine zs ?_
      refine⟨(k+1,acc++[v.id]),by simp;omega,⟨by simp;omega,?_⟩,Wk.cutM (k:=3) (by simp[Ad]) ?_ (by simp) (by simp) (by simp) (by simp)⟩
      .simp only;rw[hst,hacc,hkb,ht,hc];simp[h]
      .simp[B5,Ac]
     .refine W.skip ?_
      refine zs ?_
      refine⟨(k+1,acc),by simp;omega,⟨by simp;omega,?_⟩,Wk.cutM (k:=3) (by simp[Ad]) (by simp) (by simp) (by simp) (by simp) (by simp)⟩
      simp only;rw[hst,hacc,hkb,ht,hc];simp[h]
    .refine zx ?_
     refine zk ?_;clear hK K
     refine zc ?_ ?_<;>intro h
     .refine z1 ?_;intro K hK
      refine⟨by omega,by omega,?_⟩
      refine zk ?_;clear hK K
      refine zs ?_
      refine⟨(k+1,acc++[v.id]),by simp;omega,⟨by simp;omega,?_⟩,Wk.cutM (k:=3) (by simp[Ad]) ?_ (by simp) (by simp) (by simp) (by simp)⟩
      .simp only;rw[hst,hacc,hkb,ht,hc];simp[h]
      .simp[B5,Ac]
     .refine W.skip ?_
      refine zs ?_
      refine⟨(k+1,acc),by simp;omega,⟨by simp;omega,?_⟩,Wk.cutM (k:=3) (by simp[Ad]) (by simp) (by simp) (by simp) (by simp) (by simp)⟩
      simp only;rw[hst,hacc,hkb,ht,hc];simp[h]
   .refine Ae ht ?_;intro K hK
    refine zk ?_;clear hK K
    refine zc ?_ ?_<;>intro h
    .refine z1 ?_;intro K hK
     refine⟨by omega,by omega,?_⟩
     refine zk ?_;clear hK K
     refine zs ?_
     refine⟨(k+1,acc++[v.id]),by simp;omega,⟨by simp;omega,?_⟩,Wk.cutM (k:=3) (by simp[Ad]) ?_ (by simp) (by simp) (by simp) (by simp)⟩
     .simp only;rw[hst,hacc,hkb,ht];simp[h]
     .simp[B5,Ac]
    .refine W.skip ?_
     refine zs ?_
     refine⟨(k+1,acc),by simp;omega,⟨by simp;omega,?_⟩,Wk.cutM (k:=3) (by simp[Ad]) (by simp) (by simp) (by simp) (by simp) (by simp)⟩
     simp only;rw[hst,hacc,hkb,ht];simp[h]
  .refine W.exit ?_
   have hk' :k=s.vers.length:=by omega
   subst hk'
   rw[List.take_length] at hacc
   have e:BW s want=acc:=hacc.symm
   rw[e]
   refine zs ?_
   exact zR
end Go.Abs
set_option maxRecDepth 100000
namespace Go.Abs
open Go.Proofs
theorem IH (n m:Int):Aa pg 62 [.int .i64 n,.int .i64 m] [] (fun r _=>r= .bool (decide (0≤n∧n≤m))):=by
 refine Aa.start (fn:=Tryz.f62) [.tmp 4] tk rfl rfl rfl (by kernel_rfl) (Nat.le_of_ble_eq_true rfl) rfl (by kernel_rfl) ?_
 rw[Aq]
 refine zs ?_
 by_cases h1:0≤n
 .refine Ae h1 ?_;intro K hK
  refine zk ?_;clear hK K
  exact zR
 .refine Ae h1 ?_;intro K hK
  refine zk ?_;clear hK K
  exact zR
theorem EN (n a b:Int):Aa pg 42 [.int .i64 n,.int .i64 a,.int .i64 b] [] (fun r _=>r= .bool (decide (a≤n∧n≤b))):=by
 refine Aa.start (fn:=Tryz.f42) [.tmp 6] tk rfl rfl rfl (by kernel_rfl) (Nat.le_of_ble_eq_true rfl) rfl (by kernel_rfl) ?_
 rw[Bh]
 refine zs ?_
 by_cases h1:a≤n
 . (repeat refine W.seq ?_);refine W.reg 0 rfl fun K hK=>?_;simp -implicitDefEqProofs (maxSteps:=999999) (disch:=omega) [h1]
   refine zk ?_;clear hK K
   refine W.ret ?_;simp only[Cp,C1,CH];refine Cw (d:=0) ?_;simp -implicitDefEqProofs (maxSteps:=999999) (disch:=omega)
   try simp[h1]
 . (repeat refine W.seq ?_);refine W.reg 0 rfl fun K hK=>?_;simp -implicitDefEqProofs (maxSteps:=999999) (disch:=omega) [h1]
   refine zk ?_;clear hK K
   refine W.ret ?_;simp only[Cp,C1,CH];refine Cw (d:=0) ?_;simp -implicitDefEqProofs (maxSteps:=999999) (disch:=omega)
   try simp[h1]
theorem Ma (xs:List Int) (x:Int) (hx:xs.length<4611686018427387904):Aa pg 18 [.ro xs.length (Ac xs),.int .i64 x] [] (fun r _=>r= .int .i64 (Ba (fun y=>decide (y=x)) xs)):=by
 refine Aa.start (fn:=Tryz.f18) [.tmp 4] tk rfl rfl rfl (by kernel_rfl) (Nat.le_of_ble_eq_true rfl) rfl (by kernel_rfl) ?_
 rw[Aq]
 refine zs ?_
 refine zs ?_
 (repeat refine W.seq ?_);refine W.block (W.loopS (fun k:Nat=> [(0,.ro xs.length (Ac xs)),(1,.int .i64 x),(5,.int .i64 k)]) (fun _=> []) (fun k=>xs.length-k) (fun k=>k≤xs.length∧∀i (h:i<xs.length),i<k→xs[i]≠x) 0 (Wk.fr ?_) (by simp) ?_)
 .simp[Ad]
 .rintro k ⟨hk,ht⟩
  refine zs ?_
  refine zc ?_ ?_<;>intro h
  .refine W.skip ?_
   refine zb ?_
   refine zs ?_
   refine zc ?_ ?_<;>intro h
   .refine zs ?_
    refine zr ?_
    exact(EL (by omega) (by simp[h]) fun i hi hik=>by simpa using ht i hi hik).symm
   .refine W.skip ?_
    refine zs ?_
    refine⟨k+1,by omega,⟨by omega,?_⟩,Wk.fr (by simp[Ad])⟩
    intro i hi hik
    by_cases e:i=k
    .subst e;exact fun e=>h e
    .exact ht i hi (by omega)
  .refine W.exit ?_
   refine zs ?_
   refine zr ?_
   exact(D9 fun i hi=>by simpa using ht i hi (by omega)).symm
theorem Gq (a b:Gr) (ha:EX a):Aa pg 38 [.agg (AU false a),.agg (AU false b)] [] (fun r _=>r= .bool (decide (a=b))):=by
 have e0:(a=b)↔a.n=b.n∧a.out=b.out:=Gr.ext_iff
 have h1:=ha.1
 refine Aa.start (fn:=Tryz.f38) [.tmp 4] tk rfl rfl rfl (by kernel_rfl) (Nat.le_of_ble_eq_true rfl) rfl (by kernel_rfl) ?_
 rw[Aq]
 refine z2 ?_;intro K hK;refine zk ?_;clear hK K
 by_cases h1:a.n=b.n
 .refine Ae h1 ?_;intro K hK
  refine Ab.eq (JE a.out b.out (by omega) (fun r hr=>by have:=ha.2 r hr;omega)) (by simp) (by simp) ?_
  refine zx ?_
  refine zk ?_;clear hK K
  refine zr ?_
  simp[e0,h1]
 .refine Ae h1 ?_;intro K hK
  refine zk ?_;clear hK K
  refine zr ?_
  simp[e0,h1]
def J4 (j:Cb):Prop:=j.list.length<1000000000∧j.out.length<1000000000
theorem GK (a b:Cb) (ha:J4 a):Aa pg 110 [.agg (BN false a),.agg (BN false b)] [] (fun r _=>r= .bool (decide (a=b))):=by
 have e0:(a=b)↔a.kind=b.kind∧a.a=b.a∧a.at_=b.at_∧a.move=b.move∧a.list=b.list∧a.out=b.out:=Cb.ext_iff
 have hl1:=ha.1
 have hl2:=ha.2
 refine Aa.start (fn:=Tryz.f110) [.tmp 4] tk rfl rfl rfl (by kernel_rfl) (Nat.le_of_ble_eq_true rfl) rfl (by kernel_rfl) ?_
 rw[Aq]
 refine z2 ?_;intro K hK;refine zk ?_;clear hK K
 by_cases h1:a.kind=b.kind
 .by_cases h2:a.a=b.a
  .by_cases h3:a.at_=b.at_
   .by_cases h4:a.move=b.move
    .refine Ae (an h1 (an h2 (an h3 h4))) ?_;intro K hK
     refine Ab.eq (D3 a.list b.list (by omega)) (by simp) (by simp) ?_
     by_cases h5:a.list=b.list
     .rw[decide_eq_true h5]
      refine zx ?_
      refine Ab.eq (D3 a.out b.out (by omega)) (by simp) (by simp) ?_
      refine zx ?_
      refine zk ?_;clear hK K
      refine zr ?_
      simp[e0,h1,h2,h3,h4,h5]
     .rw[decide_eq_false h5]
      refine zx ?_
      refine zk ?_;clear hK K
      refine zr ?_
      simp[e0,h5]
    .refine Ae (an h1 (an h2 (an h3 h4))) ?_;intro K hK
     refine zk ?_;clear hK K
     refine zr ?_
     simp[e0,h4]
   .refine Ae (an h1 (an h2 h3)) ?_;intro K hK
    refine zk ?_;clear hK K
    refine zr ?_
    simp[e0,h3]
  .refine Ae (an h1 h2) ?_;intro K hK
   refine zk ?_;clear hK K
   refine zr ?_
   simp[e0,h2]
 .refine Ae h1 ?_;intro K hK
  refine zk ?_;clear hK K
  refine zr ?_
  simp[e0,h1]
def E5 (s:CR):Prop:=EX s.stage∧J4 s.job
theorem O7 (a b:CR) (ha:E5 a):Aa pg 97 [.agg (AI false a),.agg (AI false b)] [] (fun r _=>r= .bool (decide (a=b))):=by
 have e0:(a=b)↔a.opn=b.opn∧a.pin=b.pin∧a.on=b.on∧a.frm=b.frm∧a.stage=b.stage∧a.job=b.job:=CR.ext_iff
 refine Aa.start (fn:=Tryz.f97) [.tmp 4] tk rfl rfl rfl (by kernel_rfl) (Nat.le_of_ble_eq_true rfl) rfl (by kernel_rfl) ?_
 rw[Aq]
 refine z2 ?_;intro K hK;refine zk ?_;clear hK K
 by_cases h1:a.opn=b.opn
 .by_cases h2:a.pin=b.pin
  .by_cases h3:a.on=b.on
   .by_cases h4:a.frm=b.frm
    .refine Ae (an h1 (an h2 (an h3 h4))) ?_;intro K hK
     refine Ab.eq (Gq a.stage b.stage ha.1) (by simp) (by simp) ?_
     by_cases h5:a.stage=b.stage
     .rw[decide_eq_true h5]
      refine zx ?_
      refine Ab.eq (GK a.job b.job ha.2) (by simp) (by simp) ?_
      refine zx ?_
      refine zk ?_;clear hK K
      refine zr ?_
      simp[e0,h1,h2,h3,h4,h5]
     .rw[decide_eq_false h5]
      refine zx ?_
      refine zk ?_;clear hK K
      refine zr ?_
      simp[e0,h5]
    .refine Ae (an h1 (an h2 (an h3 h4))) ?_;intro K hK
     refine zk ?_;clear hK K
     refine zr ?_
     simp[e0,h4]
   .refine Ae (an h1 (an h2 h3)) ?_;intro K hK
    refine zk ?_;clear hK K
    refine zr ?_
    simp[e0,h3]
  .refine Ae (an h1 h2) ?_;intro K hK
   refine zk ?_;clear hK K
   refine zr ?_
   simp[e0,h2]
 .refine Ae h1 ?_;intro K hK
  refine zk ?_;clear hK K
  refine zr ?_
  simp[e0,h1]
end Go.Abs
set_option maxRecDepth 100000
namespace Go.Abs
open Go.Proofs
theorem Fn (j:Cb) (hj:J4 j):Aa pg 153 [.agg (BN false j)] [] (fun r _=>r= .agg (BN true j)):=by
 have h1:=hj.1
 have h2:=hj.2
 refine Aa.start (fn:=Tryz.f153) [.cell 2 53] tk rfl rfl rfl (by kernel_rfl) (Nat.le_of_ble_eq_true rfl) rfl (by kernel_rfl) ?_
 rw[Au]
 refine z2 ?_;intro K hK;refine zk ?_;clear hK K
 refine z1 ?_;intro K hK;refine zk ?_;clear hK K
 refine z0 ?_;intro K hK
 refine Ab.eq (E8 j.list (by omega)) (by simp) (by simp) ?_
 refine zx ?_
 refine zk ?_;clear hK K
 refine z0 ?_;intro K hK
 refine Ab.eq (E8 j.out (by omega)) (by simp) (by simp) ?_
 refine zx ?_
 refine zk ?_;clear hK K
 refine zs ?_
 exact zR
end Go.Abs
set_option maxRecDepth 100000
namespace Go.Abs
open Go.Proofs
end Go.Abs
set_option maxRecDepth 100000
namespace Go.Abs
open Go.Proofs
theorem SR (b:C0) (i:Nat) (hn:b.data.size<1000000000000) (hi:i/8<b.data.size):Aa pg 142 [.agg (Cx b),.int .i64 i] [] (fun r _=>r= .int .i64 (if Eg b.data i=true then 1 else 0)):=by
 refine Aa.start (fn:=Tryz.f142) [.tmp 4] tk rfl rfl rfl (by kernel_rfl) (Nat.le_of_ble_eq_true rfl) rfl (by kernel_rfl) ?_
 rw[Aq]
 refine z1 ?_;intro K hK;refine zk ?_;clear hK K
 refine z0 ?_;intro K hK
 refine⟨by omega,?_⟩
 have hB:=Hn b.data (i/8)
 have h3:=Ot b.data (i/8) (7-(i:Int)%8).toNat
 have e1:((i:Int)/8).toNat=i/8:=by omega
 rw[e1,wrap_i64 (by omega) (by omega),KF _ h3.1 (by omega),PR]
 simp
 refine zk ?_;clear hK K
 exact zR
theorem WP (b:C0) (h3:b.data.size<1000000000):Aa pg 106 [.agg (Cx b)] [] (fun r _=>r= .bool (decide (CT b))):=by
 refine Aa.start (fn:=Tryz.f106) [.tmp 2] tk rfl rfl rfl (by kernel_rfl) (Nat.le_of_ble_eq_true rfl) rfl (by kernel_rfl) ?_
 rw[Au]
 refine z1 ?_;intro K hK;refine zk ?_;clear hK K
 refine z0 ?_;intro K hK
 refine Ab.eq (IH b.n 6000) (by simp) (by simp) ?_
 by_cases h0:0≤b.n∧b.n≤6000
 rotate_left
 .rw[decide_eq_false h0]
  refine zx ?_
  refine zk ?_;clear hK K
  refine zt ?_
  refine zs ?_
  refine zr ?_
  intro h;exact h0 ⟨h.1,h.2.1⟩
 .rw[decide_eq_true h0]
  obtain⟨n,hn⟩:=Int.eq_ofNat_of_zero_le h0.1
  refine zx ?_
  refine zk ?_;clear hK K
  refine zc ?_ ?_<;>intro h
  .refine zs ?_
   refine zr ?_
   intro g;have:=g.2.2.1;omega
  .refine W.skip ?_
   refine Ae hn ?_;intro K hK
   refine zk ?_;clear hK K
   (repeat refine W.seq ?_);refine W.block (W.loopS (fun i:Nat=> [(1,.ptr 0 0 0),(3,.int .i64 i)]) (fun _=> [.live 0 [.str b.data,.int .i64 n]]) (fun i=>8*b.data.size-i) (fun i=>n≤i∧(i≤8*b.data.size∨i=n)∧∀j,n≤j→j<i→Eg b.data j=false) n (Wk.fr (by simp[Ad])) ⟨by omega,by omega,fun j h1 h2=>by omega⟩ ?_)
   rintro i ⟨hi,hi2,ht⟩
   refine zs ?_
   refine zc ?_ ?_<;>intro h
   .refine W.skip ?_
    have hlt:i<8*b.data.size:=by omega
    have sp:=SR b i (by omega) (by omega)
    refine zb ?_
    refine z0 ?_;intro K hK
    rw[←hn]
    cases hb:Eg b.data i
    .simp only[hb,Bool.false_eq_true,if_false] at sp
     refine Ab.eq sp (by simp) (by simp) ?_
     refine zx ?_
     refine zk ?_;clear hK K
     refine zn ?_
     refine W.skip ?_
     refine zs ?_
     refine⟨i+1,by omega,⟨by omega,by omega,fun j h1 h2=>?_⟩,?_⟩
     .by_cases e:j=i
      .subst e;exact hb
      .exact ht j h1 (by omega)
     .rw[hn];exact Wk.fr (by simp[Ad])
    .simp only[hb,if_true] at sp
     refine Ab.eq sp (by simp) (by simp) ?_
     refine zx ?_
     refine zk ?_;clear hK K
     refine zt ?_
     refine zs ?_
     refine zr ?_
     intro g
     have:=g.2.2.2 i hlt (by omega)
     rw[hb] at this;cases this
   .refine W.exit ?_
    refine zs ?_
    refine zr ?_
    refine⟨h0.1,h0.2,by omega,fun j h1 h2=>ht j (by omega) (by omega)⟩
end Go.Abs
set_option maxRecDepth 100000
namespace Go.Abs
open Go.Proofs
def b8 (b:Bool):AV:= .int .u8 (if b=true then 1 else 0)
def AL (xs:List Bool):List AV:=xs.map b8
section
variable (xs ys:List Bool) (M:List Ag) (k:Nat)
@[simp] theorem bK (i:Nat):(AL xs)[i]?=(xs[i]?).map b8:=by simp[AL]
@[simp] theorem bL:(AL xs).length=xs.length:=by simp[AL]
@[simp] theorem bM:AL []=[]:=rfl
theorem OO:AL (xs++ys)=AL xs++AL ys:=by simp[AL]
@[simp] theorem ZV:(AL xs).take k=AL (xs.take k):=by simp[AL,List.map_take]
@[simp] theorem ZW:(AL xs).drop k=AL (xs.drop k):=by simp[AL,List.map_drop]
@[simp] theorem dw:EF (AL xs)=true:=by simp[AL,EF,-JA,b8]
@[simp] theorem dx:EG (AL xs)=true:=by simp[AL,EG,-JB,b8]
@[simp] theorem dy:DQ (AL xs)=true:=by simp[AL,DQ,-HU,b8]
@[simp] theorem dz:C4 k (AL xs)=true:=by induction xs<;>simp_all[AL,b8]
@[simp] theorem bN:CQ (AL xs)=true:=by induction xs<;>simp_all[AL,b8]
@[simp] theorem bO:ED (AL xs)=AL xs:=by induction xs<;>simp_all[AL,b8]
@[simp] theorem bP:(AL xs).map D8=AL xs:=by simp[AL,b8]
@[simp] theorem bQ:(AL xs).map (Co M k)=AL xs:=by cases k<;>simp[AL,b8]
end
theorem X9 (b:C0) (h0:0≤b.n) (h1:b.n≤8*b.data.size) (h3:b.data.size<1000000000):Aa pg 107 [.agg (Cx b)] [] (fun r _=>r= .own 1 (Ao b).length (AL (Ao b))):=by
 have hl:=Cc b
 obtain⟨n,hn⟩:=Int.eq_ofNat_of_zero_le h0
 have hln:(Ao b).length=n:=by omega
 refine Aa.start (fn:=Tryz.f107) [.tmp 2] tk rfl rfl rfl (by kernel_rfl) (Nat.le_of_ble_eq_true rfl) rfl (by kernel_rfl) ?_
 rw[Au]
 refine z1 ?_;intro K hK;refine zk ?_;clear hK K
 refine zs ?_
 refine zs ?_
 (repeat refine W.seq ?_);refine W.block (W.loopS (fun k:Nat=> [(1,.ptr 0 0 0),(3,.tok 1 k 1 0 k),(4,.int .i64 k)]) (fun k=> [.live 0 (Cx b),.live k (AL ((Ao b).take k))]) (fun k=>n-k) (fun k=>k≤n) 0 ((Wk.nil (t:=3) (s:=1) ?_).trans (Wk.fr ?_)) (Nat.zero_le _) ?_)
 .simp
 .simp[Ad]
 .intro k hk
  refine zs ?_
  refine zc ?_ ?_<;>intro h
  .refine W.skip ?_
   have hlt:k<n:=by omega
   have sp:=SR b k (by omega) (by omega)
   have hbk:(Ao b)[k]'(by omega)=Eg b.data k:=by simp[Ao]
   have hto:(Ao b).take (k+1)=(Ao b).take k++[Eg b.data k]:=by rw[List.take_add_one,List.getElem?_eq_getElem (by omega),hbk];rfl
   refine zb ?_
   refine z1 ?_;intro K hK
   refine Ab.eq sp (by simp) (by simp) ?_
   refine zx ?_
   have e8:AV.int .u8 (IntKind.u8.wrap (if Eg b.data k=true then 1 else 0))=b8 (Eg b.data k):=by
    cases Eg b.data k<;>rfl
   rw[e8]
   refine⟨by omega,by omega,?_⟩
   refine zk ?_;clear hK K
   refine zs ?_
   refine⟨k+1,by omega,by omega,Wk.cutM (k:=2) (by simp[Ad]) ?_ (by simp) (by simp) (by simp) (by simp)⟩
   rw[hto,OO]
   rfl
  .refine W.exit ?_
   have hk' :k=n:=by omega
   subst hk'
   have e:(Ao b).take k=Ao b:=List.take_of_length_le (by omega)
   rw[e]
   refine zs ?_
   refine zr ?_
   rw[e]
   exact⟨hln.symm,rfl⟩
end Go.Abs
set_option maxRecDepth 100000
namespace Go.Abs
open Go.Proofs
theorem WQ (l:List Bool) (p:Nat) (hl:l.length<1000000000000) (hp:p≤l.length):Aa pg 178 [.ro l.length (AL l),.int .i64 p] [] (fun r _=>r= .int .i64 (nb (ahead l p))):=by
 refine Aa.start (fn:=Tryz.f178) [.tmp 4] tk rfl rfl rfl (by kernel_rfl) (Nat.le_of_ble_eq_true rfl) rfl (by kernel_rfl) ?_
 rw[Aq]
 refine zs ?_
 refine zs ?_
 (repeat refine W.seq ?_);refine W.block (W.loopS (fun q:Nat=> [(0,.ro l.length (AL l)),(1,.int .i64 p),(5,.int .i64 q)]) (fun _=> []) (fun q=>l.length-q) (fun q=>p≤q∧q≤l.length∧(l.drop p).take (q-p)=List.replicate (q-p) false) p (Wk.fr (by simp[Ad])) ⟨by omega,by omega,by simp⟩ ?_)
 rintro q ⟨hpq,hq,ht⟩
 refine zs ?_
 refine zc ?_ ?_<;>intro h
 .refine W.skip ?_
  have hlt:q<l.length:=by omega
  have hst:(l[q]=true→ahead l p=some (q-p))∧(l[q]=false→(l.drop p).take (q+1-p)=List.replicate (q+1-p) false):=by
   obtain⟨k,rfl⟩:∃k,q=p+k:=⟨q-p,by omega⟩
   have:=LA hlt (by simpa using ht)
   rw[show p+k+1-p=k+1 by omega,show p+k-p=k by omega]
   exact this
  refine zb ?_
  cases hb:l[q]
  . (repeat refine W.seq ?_);refine W.reg 0 rfl fun K hK=>?_;simp -implicitDefEqProofs (maxSteps:=999999) (disch:=omega) [hlt,hb,b8]
    refine zk ?_;clear hK K
    refine zn ?_
    refine W.skip ?_
    refine zs ?_
    refine⟨q+1,by omega,⟨by omega,by omega,hst.2 hb⟩,Wk.fr (by simp[Ad])⟩
  . (repeat refine W.seq ?_);refine W.reg 0 rfl fun K hK=>?_;simp -implicitDefEqProofs (maxSteps:=999999) (disch:=omega) [hlt,hb,b8]
    refine zk ?_;clear hK K
    refine zt ?_
    refine z0 ?_;intro K hK
    refine zk ?_;clear hK K
    refine zr ?_
    rw[hst.1 hb];simp[nb];omega
 .refine W.exit ?_
  have hq' :q=l.length:=by omega
  refine zs ?_
  refine zr ?_
  rw[MU (k:=q-p) (by omega) ht];rfl
theorem Za (l:List Bool) (p w:Nat) (hl:l.length<1000000000000) (hw:w≤60) (hp:p+w≤l.length):Aa pg 179 [.ro l.length (AL l),.int .i64 p,.int .i64 w] [] (fun r _=>r= .int .i64 (Bt ((l.drop p).take w))):=by
 refine Aa.start (fn:=Tryz.f179) [.tmp 6] tk rfl rfl rfl (by kernel_rfl) (Nat.le_of_ble_eq_true rfl) rfl (by kernel_rfl) ?_
 rw[Bh]
 refine zs ?_
 refine zs ?_
 refine zs ?_
 (repeat refine W.seq ?_);refine W.block (W.loopS (fun q:Nat=> [(0,.ro l.length (AL l)),(1,.int .i64 p),(2,.int .i64 w),(7,.int .i64 (Bt ((l.drop p).take (q-p)))),(8,.int .i64 q)]) (fun _=> []) (fun q=>p+w-q) (fun q=>p≤q∧q≤p+w) p (Wk.fr (by simp[Ad])) ⟨by omega,by omega⟩ ?_)
 rintro q ⟨hpq,hq⟩
 refine zs ?_
 refine zc ?_ ?_<;>intro h
 .refine W.skip ?_
  have hlt:q<l.length:=by omega
  have hst:Bt ((l.drop p).take (q+1-p))=2*Bt ((l.drop p).take (q-p))+(l[q]).toNat:=by
   obtain⟨k,rfl⟩:∃k,q=p+k:=⟨q-p,by omega⟩
   rw[show p+k+1-p=k+1 by omega,show p+k-p=k by omega]
   exact MW (w:=w) hlt
  have hnl:Bt ((l.drop p).take (q-p))<2^60:=Nat.lt_of_lt_of_le (FV _) (Nat.pow_le_pow_right (by omega) (by simp;omega))
  refine zb ?_
  generalize Bt ((l.drop p).take (q-p))=v at*
  cases hb:l[q]
  .rw[hb] at hst
   (repeat refine W.seq ?_);refine W.reg 0 rfl fun K hK=>?_;simp -implicitDefEqProofs (maxSteps:=999999) (disch:=omega) [hlt,hb,b8]
   refine zk ?_;clear hK K
   refine zs ?_
   refine⟨q+1,by omega,⟨by omega,by omega⟩,Wk.fr (by rw[hst];simp[Ad])⟩
  .rw[hb] at hst
   (repeat refine W.seq ?_);refine W.reg 0 rfl fun K hK=>?_;simp -implicitDefEqProofs (maxSteps:=999999) (disch:=omega) [hlt,hb,b8]
   refine zk ?_;clear hK K
   refine zs ?_
   refine⟨q+1,by omega,⟨by omega,by omega⟩,Wk.fr (by rw[hst];simp[Ad])⟩
 .refine W.exit ?_
  have hq' :q=p+w:=by omega
  subst hq'
  refine zs ?_
  exact zR
end Go.Abs
set_option maxRecDepth 100000
namespace Go.Abs
open Go.Proofs
theorem UK (n:Int) (h0:0≤n) (h1:n≤4611686018427387904):Aa pg 182 [.int .i64 n] [] (fun r _=>r= .int .i64 (Ct n)):=by
 refine Aa.start (fn:=Tryz.f182) [.tmp 2] tk rfl rfl rfl (by kernel_rfl) (Nat.le_of_ble_eq_true rfl) rfl (by kernel_rfl) ?_
 rw[Au]
 refine zs ?_
 refine zs ?_
 refine zc ?_ ?_<;>intro h
 .refine z0 ?_;intro K hK
  refine zk ?_;clear hK K
  refine zr ?_
  rw[Ct,if_neg (by omega)]
 .refine W.skip ?_
  have e:(-(n+1)).tdiv 2=-((n+1)/2):=by rw[Int.neg_tdiv,Int.tdiv_eq_ediv_of_nonneg (by omega)]
  refine Ae e ?_;intro K hK
  refine zk ?_;clear hK K
  refine zr ?_
  rw[Ct,if_pos (by omega)]
theorem OP (n:Int):Aa pg 127 [.int .i64 n] [] (fun r _=>r= .bool (decide (0≤n∧n≤15))):=by
 refine Aa.start (fn:=Tryz.f127) [.tmp 2] tk rfl rfl rfl (by kernel_rfl) (Nat.le_of_ble_eq_true rfl) rfl (by kernel_rfl) ?_
 rw[Au]
 refine zs ?_
 refine z0 ?_;intro K hK
 refine Ab.eq (IH n 15) (by simp) (by simp) ?_
 refine zx ?_
 refine zk ?_;clear hK K
 exact zR
theorem KJ (k:Int):Aa pg 149 [.int .i64 k] [] (fun r _=>r= .bool (named k)):=by
 refine Aa.start (fn:=Tryz.f149) [.tmp 2] tk rfl rfl rfl (by kernel_rfl) (Nat.le_of_ble_eq_true rfl) rfl (by kernel_rfl) ?_
 rw[Au]
 refine zs ?_
 by_cases h1:k=1
 .refine Ae h1 ?_;intro K hK
  refine zk ?_;clear hK K
  refine zr ?_
  simp[named,h1]
 .by_cases h2:k=2
  .refine Ae (an h1 h2) ?_;intro K hK
   refine zk ?_;clear hK K
   refine zr ?_
   simp[named,h2]
  .refine Ae (an h1 h2) ?_;intro K hK
   refine zk ?_;clear hK K
   refine zr ?_
   simp[named,h1,h2]
theorem PY (s:AB) (hs:A4 s):Aa pg 20 [.agg (AA false s)] [] (fun r _=>r= .int .i64 (As s.vers)):=by
 have h1:=hs.1
 refine Aa.start (fn:=Tryz.f20) [.tmp 2] tk rfl rfl rfl (by kernel_rfl) (Nat.le_of_ble_eq_true rfl) rfl (by kernel_rfl) ?_
 rw[Au]
 refine z1 ?_;intro K hK;refine zk ?_;clear hK K
 refine zs ?_
 refine zc ?_ ?_<;>intro h
 .refine zs ?_
  refine zr ?_
  simp[As,h]
 .refine W.skip ?_
  have hp:0<s.vers.length:=List.length_pos_iff.2 h
  have hlt:s.vers.length-1<s.vers.length:=by omega
  (repeat refine W.seq ?_);refine W.reg 0 rfl fun K hK=>?_;simp -implicitDefEqProofs (maxSteps:=999999) (disch:=omega) [hlt]
  refine⟨by omega,?_⟩
  refine zk ?_;clear hK K
  refine zr ?_
  rw[As,List.getLast?_eq_getElem?,List.getElem?_eq_getElem hlt]
theorem PZ (b:C0) (hb:b.data.size<1000000000):Aa pg 21 [.agg (Cx b)] [] (fun r _=>r= .int .i64 (Di b)):=by
 refine Aa.start (fn:=Tryz.f21) [.tmp 2] tk rfl rfl rfl (by kernel_rfl) (Nat.le_of_ble_eq_true rfl) rfl (by kernel_rfl) ?_
 rw[Au]
 refine z1 ?_;intro K hK;refine zk ?_;clear hK K
 refine z0 ?_;intro K hK
 refine zk ?_;clear hK K
 refine zr ?_
 unfold Di
 congr 1
 omega
end Go.Abs
set_option maxRecDepth 100000
namespace Go.Abs
open Go.Proofs
theorem Mb (g:Gr) (j:Cb) (hl:j.list.length<1000000000000):Aa pg 112 [.agg (AU false g),.agg (BN false j)] [] (fun r _=>r= .bool (BI g j)):=by
 refine Aa.start (fn:=Tryz.f112) [.tmp 4] tk rfl rfl rfl (by kernel_rfl) (Nat.le_of_ble_eq_true rfl) rfl (by kernel_rfl) ?_
 rw[Aq]
 refine z2 ?_;intro K hK;refine zk ?_;clear hK K
 refine zs ?_
 refine zb ?_
 refine zs ?_
 refine zc ?_ ?_<;>intro h
 .refine zs ?_
  refine zr ?_
  simp[BI,h]
 .have h1:=h;clear h
  refine zs ?_
  refine zc ?_ ?_<;>intro h
  .refine zs ?_
   refine zr ?_
   simp[BI,h]
  .refine W.skip ?_
   refine zs ?_
   refine zr ?_
   simp[BI, *]
theorem Ya (s:AB) (id:Int) (hs:A4 s):Aa pg 36 [.agg (AA false s),.int .i64 id] [] (fun r _=>r= .int .i64 (Ba (fun v=>decide (v.id=id)) s.vers)):=by
 have h1:=hs.1
 refine Aa.start (fn:=Tryz.f36) [.tmp 4] tk rfl rfl rfl (by kernel_rfl) (Nat.le_of_ble_eq_true rfl) rfl (by kernel_rfl) ?_
 rw[Aq]
 refine z1 ?_;intro K hK;refine zk ?_;clear hK K
 refine zs ?_
 (repeat refine W.seq ?_);refine W.block (W.loopS (fun k:Nat=> [(1,.int .i64 id),(2,.ptr 0 0 0),(5,.int .i64 k)]) (fun _=> [.live 0 (AA false s)]) (fun k=>s.vers.length-k) (fun k=>k≤s.vers.length∧∀i (h:i<s.vers.length),i<k→s.vers[i].id≠id) 0 (Wk.fr (by simp[Ad])) (by simp) ?_)
 rintro k ⟨hk,ht⟩
 refine zs ?_
 refine zc ?_ ?_<;>intro h
 .refine W.skip ?_
  have hlt:k<s.vers.length:=by omega
  refine zb ?_
  (repeat refine W.seq ?_);refine W.reg 0 rfl fun K hK=>?_;simp -implicitDefEqProofs (maxSteps:=999999) (disch:=omega) [hlt]
  refine zk ?_;clear hK K
  refine zc ?_ ?_<;>intro h
  .refine zs ?_
   refine zr ?_
   exact(EL hlt (by simp[h]) fun i hi hik=>by simpa using ht i hi hik).symm
  .refine W.skip ?_
   refine zs ?_
   refine⟨k+1,by omega,⟨by omega,?_⟩,Wk.fr (by simp[Ad])⟩
   intro i hi hik
   by_cases e:i=k
   .subst e;exact fun e=>h e
   .exact ht i hi (by omega)
 .refine W.exit ?_
  refine zs ?_
  refine zr ?_
  exact(D9 fun i hi=>by simpa using ht i hi (by omega)).symm
end Go.Abs
set_option maxRecDepth 100000
namespace Go.Abs
open Go.Proofs
theorem Gs (l:List Int) (hl:l.length<1000000000000):Aa pg 87 [.ro l.length (Ac l)] [] (fun r _=>r= .bool (decide (AH l))):=by
 refine Aa.start (fn:=Tryz.f87) [.tmp 2] tk rfl rfl rfl (by kernel_rfl) (Nat.le_of_ble_eq_true rfl) rfl (by kernel_rfl) ?_
 rw[Au]
 refine zs ?_
 refine zs ?_
 (repeat refine W.seq ?_);refine W.block (W.loopS (fun k:Nat=> [(0,.ro l.length (Ac l)),(3,.int .i64 k)]) (fun _=> []) (fun k=>l.length-k) (fun k=>k≤l.length∧AH (l.take k)) 0 (Wk.fr (by simp[Ad])) (by simp[AH]) ?_)
 rintro k ⟨hk,hm⟩
 have hk16:k≤16:=by have:=BA hm;simp at this;omega
 by_cases hlt:k<l.length
 .have hs:=Oy hlt hm
  have bad:¬AH (l.take (k+1))→¬AH l:=fun g w=>g (Ox (k+1) w)
  refine Ae (an hlt hk16) ?_;intro K hK
  refine zk ?_;clear hK K
  refine zt ?_
  refine W.skip ?_
  have sp:=OP l[k]
  refine zb ?_
  by_cases c1:0≤l[k]∧l[k]≤15
  rotate_left
  .rw[decide_eq_false c1] at sp
   (repeat refine W.seq ?_);refine W.regd 0 rfl true Ce (by kernel_rfl) fun K hK=>?_;simp -implicitDefEqProofs (maxSteps:=999999) (disch:=omega) [hlt]
   refine Ah.eq sp (by simp) (by simp) ?_
   refine AR hlt ?_
   refine zk ?_;clear hK K
   refine zt ?_
   refine zs ?_
   refine zr ?_
   exact bad fun g=>c1 (by have:=(hs.1 g).1;omega)
  .rw[decide_eq_true c1] at sp
   by_cases c2:0<k
   .by_cases c3:l[k]≤l[k-1]
    . (repeat refine W.seq ?_);refine W.regd 0 rfl true Ce (by kernel_rfl) fun K hK=>?_;simp -implicitDefEqProofs (maxSteps:=999999) (disch:=omega) [hlt]
      refine Ah.eq sp (by simp) (by simp) ?_
      refine AR (an hlt (an c2 c3)) ?_
      refine⟨by omega,?_⟩
      refine zk ?_;clear hK K
      refine zt ?_
      refine zs ?_
      refine zr ?_
      exact bad fun g=>by have:=(hs.1 g).2 c2;omega
    . (repeat refine W.seq ?_);refine W.regd 0 rfl true Ce (by kernel_rfl) fun K hK=>?_;simp -implicitDefEqProofs (maxSteps:=999999) (disch:=omega) [hlt]
      refine Ah.eq sp (by simp) (by simp) ?_
      refine AR (an hlt (an c2 c3)) ?_
      refine⟨by omega,?_⟩
      refine zk ?_;clear hK K
      refine zn ?_
      refine W.skip ?_
      refine zs ?_
      exact⟨k+1,by omega,⟨by omega,hs.2 ⟨by omega,fun _=>by omega⟩⟩,Wk.fr (by simp[Ad])⟩
   . (repeat refine W.seq ?_);refine W.regd 0 rfl true Ce (by kernel_rfl) fun K hK=>?_;simp -implicitDefEqProofs (maxSteps:=999999) (disch:=omega) [hlt]
     refine Ah.eq sp (by simp) (by simp) ?_
     refine AR (an hlt c2) ?_
     refine zk ?_;clear hK K
     refine zn ?_
     refine W.skip ?_
     refine zs ?_
     exact⟨k+1,by omega,⟨by omega,hs.2 ⟨by omega,fun h=>absurd h c2⟩⟩,Wk.fr (by simp[Ad])⟩
 .have hk' :k=l.length:=by omega
  subst hk'
  rw[List.take_length] at hm
  refine z0 ?_;intro K hK
  refine zk ?_;clear hK K
  refine zn ?_
  refine W.exit ?_
  refine zs ?_
  refine zr ?_
  have:=BA hm
  simp[hm]
  try omega
end Go.Abs
set_option maxRecDepth 100000
namespace Go.Abs
open Go.Proofs
theorem UL (n:Int) (h:-1000000≤n∧n≤1000000):Aa pg 205 [.int .i64 n] [] (fun r _=>r= .int .i64 (CE n)):=by
 refine Aa.start (fn:=Tryz.f205) [.tmp 2] tk rfl rfl rfl (by kernel_rfl) (Nat.le_of_ble_eq_true rfl) rfl (by kernel_rfl) ?_
 rw[Au]
 refine zs ?_
 refine zs ?_
 refine zc ?_ ?_<;>intro h
 .refine z0 ?_;intro K hK
  refine zk ?_;clear hK K
  refine zr ?_
  simp[CE];omega
 .refine W.skip ?_
  refine z0 ?_;intro K hK
  refine zk ?_;clear hK K
  refine zr ?_
  simp[CE];omega
theorem Ur (a b:Nat):(a:Int).fdiv (b:Int)=((a/b:Nat):Int):=by rw[Int.fdiv_eq_ediv_of_nonneg _ (by omega)];rfl
theorem Zb (n:Nat) (h:1≤n) (h2:n<1099511627776):Aa pg 180 [.int .i64 n] [] (fun r _=>r= .int .i64 (Nat.log2 n)):=by
 have hlg:=(Nat.log2_lt (n:=n) (k:=40) (by omega)).2 (by omega)
 refine Aa.start (fn:=Tryz.f180) [.tmp 2] tk rfl rfl rfl (by kernel_rfl) (Nat.le_of_ble_eq_true rfl) rfl (by kernel_rfl) ?_
 rw[Au]
 refine zs ?_
 refine zs ?_
 (repeat refine W.seq ?_);refine W.block (W.loopS (fun z:Nat×Nat=> [(0,.int .i64 (z.1:Nat)),(3,.int .i64 (z.2:Nat))]) (fun _=> []) (fun z=>z.1) (fun z=>z.1=n/2^z.2∧1≤z.1∧z.2≤Nat.log2 n) (n,0) (Wk.fr (by simp[Ad])) ⟨by simp,h,by simp⟩ ?_)
 rintro⟨q,k⟩ ⟨hq,hq1,hk⟩
 simp only at hq hq1 hk
 have hp:0<2^k:=Nat.pow_pos (by omega)
 have hdm:=Nat.div_add_mod n (2^k)
 have hml:=Nat.mod_lt n hp
 rw[←hq] at hdm
 refine zs ?_
 refine zc ?_ ?_<;>intro h
 .refine W.skip ?_
  have hf:(q:Int).fdiv 2=((q/2:Nat):Int):=Ur q 2
  have hk1:k+1≤Nat.log2 n:=by
   refine(Nat.le_log2 (by omega)).2 ?_
   rw[Nat.pow_succ]
   have:2^k*2≤2^k*q:=Nat.mul_le_mul_left _ (by omega)
   omega
  refine zb ?_
  refine Ae hf ?_;intro K hK
  refine zk ?_;clear hK K
  refine zs ?_
  exact⟨(q/2,k+1),by simp only;omega,⟨by simp only;rw[hq,Nat.div_div_eq_div_mul,Nat.pow_succ],by simp only;omega,hk1⟩,Wk.fr (by simp[Ad])⟩
 .refine W.exit ?_
  have:q=1:=by omega
  subst this
  refine zs ?_
  refine zr ?_
  rw[MT (q:=k) (by omega) (by rw[Nat.pow_succ];omega)]
theorem UM (xs:List Bool) (u v w:Nat) (hx:xs.length<1000000000) (hw:w≤60) (hv:v<1099511627776):Aa pg 203 [.tok 0 u 1 0 xs.length,.int .i64 v,.int .i64 w] [.live u (AL xs)] (fun r M=>r= .own 1 (xs.length+w) (AL (xs++Bn v w))∧M=[.dead]):=by
 refine Aa.start (fn:=Tryz.f203) [.tmp 6] tk rfl rfl rfl (by kernel_rfl) (Nat.le_of_ble_eq_true rfl) rfl (by kernel_rfl) ?_
 rw[Bh]
 refine zs ?_
 refine zs ?_
 rw[show AL xs=AL (xs++(Bn v w).take 0) by simp]
 (repeat refine W.seq ?_);refine W.block (W.loopS (fun k:Nat=> [(0,.tok 0 (u+k) 1 0 (xs.length+k)),(1,.int .i64 v),(7,.int .i64 ((w:Int)-1-k))]) (fun k=> [.live (u+k) (AL (xs++(Bn v w).take k))]) (fun k=>w-k) (fun k=>k≤w) 0 (Wk.fr (by simp[Ad])) (by simp) ?_)
 intro k hk
 by_cases hlt:k<w
 .obtain⟨i,hi⟩:∃i:Nat,(w:Int)-1-k=i:=⟨w-1-k,by omega⟩
  have hmin:min i 64=i:=by omega
  rw[hi]
  refine zs ?_
  refine zt ?_
  refine W.skip ?_
  refine zb ?_
  obtain⟨Q,hQd⟩:∃Q,Q=v/2^i:=⟨_,rfl⟩
  have hQ:(v:Int)/2^i=(Q:Int):=by rw[hQd,Int.natCast_ediv,Int.natCast_pow];rfl
  have hQv:Q≤v:=by rw[hQd];exact Nat.div_le_self _ _
  have hand:=KF (Q:Int) (by omega) (by omega)
  have hw8:IntKind.u8.wrap ((Q:Int)%2)=(if Q%2=1 then 1 else 0):=by
   by_cases h:Q%2=1
   .have:(Q:Int)%2=1:=by omega
    rw[this,if_pos h];rfl
   .have:(Q:Int)%2=0:=by omega
    rw[this,if_neg h];rfl
  have hto:(Bn v w).take (k+1)=(Bn v w).take k++[decide (Q%2=1)]:=by
   rw[List.take_add_one,List.getElem?_eq_getElem (by simpa using hlt)]
   have:(Bn v w)[k]'(by simpa using hlt)=decide (Q%2=1):=by
    simp only[Bn,List.getElem_map,List.getElem_range]
    rw[hQd,show w-1-k=i by omega]
   rw[this];rfl
  refine Lz (an hmin (an hQ (an hand hw8))) ?_;intro K hK
  refine⟨by omega,by omega,?_⟩
  refine zk ?_;clear hK K
  refine zs ?_
  refine⟨k+1,by omega,by omega,Wk.cutM (k:=1) ?_ ?_ (by simp) (by simp) (by simp) (by simp)⟩
  .simp[Ad]
   omega
  .rw[hto,←List.append_assoc,OO]
   simp[AL,b8];omega
 .have hk' :k=w:=by omega
  subst hk'
  have e:((k:Int)-1-k)=-1:=by omega
  rw[e]
  refine zs ?_
  refine zn ?_
  refine W.exit ?_
  refine zs ?_
  refine zr ?_
  rw[List.take_of_length_le (by simp),List.take_of_length_le (by simp)]
end Go.Abs
set_option maxRecDepth 100000
namespace Go.Abs
open Go.Proofs
theorem Dx (xs:List Bool) (u n:Nat) (hx:xs.length<100000000) (h1:1≤n) (h2:n<1099511627776):Aa pg 166 [.tok 0 u 1 0 xs.length,.int .i64 2,.int .i64 n] [.live u (AL xs)] (fun r M=>r= .own 1 (xs.length+(AD n).length) (AL (xs++AD n))∧M=[.dead]):=by
 have hlg:=(Nat.log2_lt (n:=n) (k:=40) (by omega)).2 (by omega)
 have hgl:=DG n
 obtain⟨q,hq⟩:∃q,q=Nat.log2 n:=⟨_,rfl⟩
 have spl:=Zb n h1 h2
 rw[←hq] at spl hlg hgl
 refine Aa.start (fn:=Tryz.f166) [.tmp 6] tk rfl rfl rfl (by kernel_rfl) (Nat.le_of_ble_eq_true rfl) rfl (by kernel_rfl) ?_
 rw[Bh]
 refine zs ?_
 refine zs ?_
 refine zb ?_
 refine zs ?_
 refine zn ?_
 refine zs ?_
 refine zt ?_
 refine z0 ?_;intro K hK
 refine Ab.eq spl (by simp) (by simp) ?_
 refine zx ?_
 refine Ab.pass [0] (UM xs u 0 q (by omega) (by omega) (by omega)) (by simp) (by simp) (by simp) (by simp) ?_
 rintro r M ⟨rfl,rfl⟩ _
 refine zx ?_
 refine Ab.eq spl (by simp) (by simp) ?_
 refine zx ?_
 have sp2:=UM (xs++Bn 0 q) 0 n (q+1) (by simp;omega) (by omega) (by omega)
 refine Ab.pass [1] sp2 (by simp) (by simp) (by simp) (by simp) ?_
 rintro r M ⟨rfl,rfl⟩ _
 refine zx ?_
 refine zk ?_;clear hK K
 refine zr ?_
 have hgb:AD n=Bn 0 q++Bn n (q+1):=by rw[AD,hq]
 exact⟨by omega,by rw[List.take_of_length_le (by simp;omega),hgb]⟩
theorem OQ (n:Nat) (h1:1≤n) (h2:n<1099511627776):Aa pg 166 [.own 1 0 [],.int .i64 2,.int .i64 n] [] (fun r _=>r= .own 1 (AD n).length (AL (AD n))):=by
 have h:=Aa.nil (by simpa using Dx [] 0 n (by simp) h1 h2)
 simpa using h
theorem Yb (n:Int):Aa pg 181 [.int .i64 2,.int .i64 n] [] (fun r _=>r= .bool (decide (1≤n∧n≤1073741824))):=by
 refine Aa.start (fn:=Tryz.f181) [.tmp 4] tk rfl rfl rfl (by kernel_rfl) (Nat.le_of_ble_eq_true rfl) rfl (by kernel_rfl) ?_
 rw[Aq]
 refine zs ?_
 refine zs ?_
 refine zn ?_
 refine W.skip ?_
 refine z0 ?_;intro K hK
 refine Ab.eq (EN 2 2 5) (by simp) (by simp) ?_
 rw[decide_eq_true (by omega)]
 refine zx ?_
 refine Ab.eq (EN n 1 1073741824) (by simp) (by simp) ?_
 refine zx ?_
 refine zk ?_;clear hK K
 exact zR
def Fo (o:Option (Nat×Nat)):AV:=match o with|some x=> .tup [.int .i64 x.1,.int .i64 x.2] |none=> .tup [.int .i64 (-1),.int .i64 0]
theorem ET (l:List Bool) (p:Nat) (hl:l.length<1000000000) (hp:p≤l.length):Aa pg 143 [.ro l.length (AL l),.int .i64 p,.int .i64 2] [] (fun r _=>r=Fo (AP l p)):=by
 have spz:=WQ l p (by omega) hp
 refine Aa.start (fn:=Tryz.f143) [.tmp 6,.tmp 7] tk rfl rfl rfl (by kernel_rfl) (Nat.le_of_ble_eq_true rfl) rfl (by kernel_rfl) ?_
 rw[Bh]
 refine zs ?_
 refine z0 ?_;intro K hK
 refine Ab.eq spz (by simp) (by simp) ?_
 cases ha:ahead l p with
 |none=>
  have hg:AP l p=none:=by unfold AP;rw[ha]
  simp only[DO];simp -implicitDefEqProofs (maxSteps:=999999) (disch:=omega) [nb]
  refine zk ?_;clear hK K
  refine zs ?_
  refine zt ?_
  refine zs ?_
  refine zr ?_
  rw[hg];rfl
 |some q=>
  have hql:p+q<l.length:=by
   have:=List.findIdx?_eq_some_iff_findIdx_eq.1 ha
   simp at this;omega
  simp only[DO];simp -implicitDefEqProofs (maxSteps:=999999) (disch:=omega) [nb]
  refine zk ?_;clear hK K
  refine zs ?_
  refine zn ?_
  refine W.skip ?_
  refine z0 ?_;intro K hK
  refine zk ?_;clear hK K
  refine zs ?_
  refine zb ?_
  refine zs ?_
  refine zn ?_
  refine zs ?_
  refine zt ?_
  by_cases c:q≤30∧p+2*q+1≤l.length
  rotate_left
  .have hg:AP l p=none:=by unfold AP;rw[ha];simp only;rw[if_neg c]
   by_cases c1:q≤30
   .have c2:¬p+2*q+1≤l.length:=fun h=>c ⟨c1,h⟩
    have c3:(l.length:Int)<(p:Int)+2*q+1:=by omega
    have c4:¬(30:Int)<(q:Int):=by omega
    refine Ae (an c3 c4) ?_;intro K hK
    refine zk ?_;clear hK K
    refine zt ?_
    refine zs ?_
    refine zr ?_
    rw[hg];rfl
   .have c4:(30:Int)<(q:Int):=by omega
    refine Ae c4 ?_;intro K hK
    refine zk ?_;clear hK K
    refine zt ?_
    refine zs ?_
    refine zr ?_
    rw[hg];rfl
  have c4:¬(30:Int)<(q:Int):=by omega
  have c3:¬(l.length:Int)<(p:Int)+2*q+1:=by omega
  refine Ae (an c3 c4) ?_;intro K hK
  refine zk ?_;clear hK K
  refine zn ?_
  refine W.skip ?_
  have spg:=Za l (p+q) (q+1) (by omega) (by omega) (by omega)
  have hgr:AP l p=if Bt ((l.drop (p+q)).take (q+1))≤1073741824 then some (Bt ((l.drop (p+q)).take (q+1)),p+2*q+1) else none:=by
   unfold AP;rw[ha];simp only;rw[if_pos c]
  have hpos:1≤Bt ((l.drop (p+q)).take (q+1)):=by
   obtain⟨r,hr⟩:=Hm ha
   have e1:(l.drop (p+q)).take (q+1)=true::r.take q:=by
    rw[←List.drop_drop,hr,List.drop_append];simp
   rw[e1,EK]
   have:0<2^(r.take q).length:=Nat.pow_pos (by omega)
   simp only[Bool.toNat_true,Nat.one_mul];omega
  generalize Bt ((l.drop (p+q)).take (q+1))=v at*
  refine z0 ?_;intro K hK
  refine Ab.eq spg (by simp) (by simp) ?_
  refine zx ?_
  refine zk ?_;clear hK K
  refine z0 ?_;intro K hK
  refine Ab.eq (Yb v) (by simp) (by simp) ?_
  by_cases cv:v≤1073741824
  .rw[decide_eq_true (by omega)]
   refine zx ?_
   refine zk ?_;clear hK K
   refine zn ?_
   refine W.skip ?_
   refine zs ?_
   refine zr ?_
   rw[hgr,if_pos cv]
   simp[Fo]
  .rw[decide_eq_false (by omega)]
   refine zx ?_
   refine zk ?_;clear hK K
   refine zt ?_
   refine zs ?_
   refine zr ?_
   rw[hgr,if_neg cv];rfl
end Go.Abs
