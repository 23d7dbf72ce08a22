/- Blocks that are taken. -/
import Derived.Test.YtoklapibcmnaeaaGreatP8
set_option linter.unusedVariables false
set_option linter.unusedSimpArgs false
set_option maxRecDepth 100000
namespace Go.Abs
open Go.Proofs
def Az (xs:List Bool):List AV:=xs.map AV.bool
section
variable (xs ys:List Bool) (M:List Ag) (k:Nat)
@[simp] theorem WI (i:Nat):(Az xs)[i]?=(xs[i]?).map AV.bool:=by simp[Az]
@[simp] theorem WJ:(Az xs).length=xs.length:=by simp[Az]
@[simp] theorem WK:Az []=[]:=rfl
@[simp] theorem V2:(Az xs).take k=Az (xs.take k):=by simp[Az,List.map_take]
@[simp] theorem V3:(Az xs).drop k=Az (xs.drop k):=by simp[Az,List.map_drop]
@[simp] theorem Yd:Ey (Az xs)=true:=by simp[Az,Ey,-JP]
@[simp] theorem Ye:Ez (Az xs)=true:=by simp[Az,Ez,-JQ]
@[simp] theorem Yf:D2 (Az xs)=true:=by simp[Az,D2,-GZ]
@[simp] theorem Yg:Dd k (Az xs)=true:=by induction xs<;>simp_all[Az]
@[simp] theorem WL:Cy (Az xs)=true:=by induction xs<;>simp_all[Az]
@[simp] theorem WM:Ep (Az xs)=Az xs:=by induction xs<;>simp_all[Az]
@[simp] theorem WO:(Az xs).map DV=Az xs:=by simp[Az]
@[simp] theorem WP:(Az xs).map (B6 M k)=Az xs:=by cases k<;>simp[Az]
theorem Ei (i:Nat) (b:Bool):(Az xs).set i (.bool b)=Az (xs.set i b):=by simp[Az]
theorem J3 (n:Nat) (b:Bool):Dn n [.bool b]=Az (List.replicate n b):=by
 unfold Dn Az
 induction n with
 |zero=>rfl
 |succ n ih=>simp[List.replicate_succ]
end
def DY (l:List (Int×Int)) (i:Int):Bool:=l.any fun x=>decide (x.1≤i∧i<x.1+x.2)
def BF (l:List (Int×Int)) (n:Nat):List Bool:=(List.range n).map fun(j:Nat)=>DY l (j:Int)
def Ce (l:List (Int×Int)) (n:Nat) (a i:Int):List Bool:=(List.range n).map fun(j:Nat)=>DY l (j:Int) ||decide (a≤(j:Int)∧(j:Int)<i)
@[simp] theorem J4 (l:List (Int×Int)) (n:Nat):(BF l n).length=n:=by simp[BF]
@[simp] theorem Vh (l:List (Int×Int)) (n:Nat):(BF l n).take n=BF l n:=List.take_of_length_le (by simp)
@[simp] theorem Vi (l:List (Int×Int)) (n:Nat) (a i:Int):(Ce l n a i).length=n:=by simp[Ce]
theorem M9 {l:List (Int×Int)} {n i:Nat} {a:Int} (hi:i<n):(Ce l n a i)[i]'(by simpa using hi)=DY l i:=by simp[Ce]
theorem Lg (l:List (Int×Int)) (n:Nat) (a:Int):Ce l n a a=BF l n:=by
 unfold Ce BF
 refine List.map_congr_left fun j _=>?_
 have:decide (a≤(j:Int)∧(j:Int)<a)=false:=by simp
 rw[this,Bool.or_false]
theorem IV (l:List (Int×Int)) (n:Nat) (x:Int×Int):Ce l n x.1 (x.1+x.2)=BF (l++[x]) n:=by
 unfold Ce BF
 refine List.map_congr_left fun j _=>?_
 simp[DY]
theorem IW (l:List (Int×Int)) (n i:Nat) (a:Int) (ha:a≤i) (hi:i<n):(Ce l n a i).set i true=Ce l n a ((i:Int)+1):=by
 refine List.ext_getElem (by simp[Ce]) fun j h1 h2=>?_
 simp only[Ce,List.length_map,List.length_range] at h2
 rw[List.getElem_set]
 by_cases e:i=j
 .subst e
  rw[if_pos rfl]
  simp[Ce]
  right;omega
 .rw[if_neg e]
  simp only[Ce,List.getElem_map,List.getElem_range]
  congr 1
  simp only[decide_eq_decide]
  omega
theorem J5 {l:List (Int×Int)} {x:Int×Int} (hl:∀y∈l,1≤y.2) (hx:1≤x.2):(l++[x]).Pairwise apart↔l.Pairwise apart∧∀i,x.1≤i→i<x.1+x.2→DY l i=false:=by
 rw[List.pairwise_append]
 simp only[List.pairwise_singleton,true_and,List.mem_singleton,forall_eq,DY,List.any_eq_false,decide_eq_true_eq,apart]
 constructor
 .rintro⟨h1,h2⟩
  refine⟨h1,fun i a b y hy c=>?_⟩
  have:=h2 y hy
  omega
 .rintro⟨h1,h2⟩
  refine⟨h1,fun y hy c=>?_⟩
  have hy1:=hl y hy
  by_cases e:y.1≤x.1
  .exact h2 x.1 (by omega) (by omega) y hy (by omega)
  .exact h2 y.1 (by omega) (by omega) y hy (by omega)
def Gf (l:List (Int×Int)) (n:Int):AV:=if CB l n then .tup [.own 1 n.toNat (Az (BF l n.toNat)),.bool true] else .tup [.own 1 0 [],.bool false]
def IC (l:List (Int×Int)) (n:Int):Prop:=(∀x∈l,0≤x.1∧1≤x.2∧x.1+x.2≤n)∧l.Pairwise apart
theorem Lh {l:List (Int×Int)} {n:Int} {x:Int×Int}:IC (l++[x]) n↔IC l n∧(0≤x.1∧1≤x.2∧x.1+x.2≤n)∧∀i,x.1≤i→i<x.1+x.2→DY l i=false:=by
 unfold IC
 constructor
 .rintro⟨h1,h2⟩
  have hx:=h1 x (by simp)
  have h3:=(J5 (fun y hy=>(h1 y (by simp[hy])).2.1) hx.2.1).1 h2
  exact⟨⟨fun y hy=>h1 y (by simp[hy]),h3.1⟩,hx,h3.2⟩
 .rintro⟨⟨h1,h2⟩,hx,h3⟩
  refine⟨fun y hy=>?_,(J5 (fun y hy=>(h1 y hy).2.1) hx.2.1).2 ⟨h2,h3⟩⟩
  rcases List.mem_append.1 hy with h|h
  .exact h1 y h
  .simp at h;subst h;exact hx
theorem P2 {l:List (Int×Int)} {n:Int} (k:Nat) (h:IC l n):IC (l.take k) n:=⟨fun x hx=>h.1 x (List.mem_of_mem_take hx),h.2.sublist (List.take_sublist _ _)⟩
theorem NS (l:List (Int×Int)) (n:Int) (hl:l.length<1000000000):Aa pg 121 [.ro l.length (Af Al l),.int .i64 n] [] (fun r _=>r=Gf l n):=by
 refine Aa.start (fn:=Tryz.f121) [.tmp 4,.tmp 5] tk rfl rfl rfl (by kernel_rfl) (Nat.le_of_ble_eq_true rfl) rfl (by kernel_rfl) ?_
 rw[Am]
 refine zs ?_
 refine z0 ?_;intro K hK
 refine Ab.eq (Ru n) (by simp) (by simp) ?_
 by_cases c1:1≤n∧n≤100
 rotate_left
 .rw[decide_eq_false c1]
  refine zx ?_
  refine zk ?_;clear hK K
  refine zt ?_
  refine zs ?_
  refine zr ?_
  rw[Gf,if_neg (fun g=>c1 ⟨g.1,g.2.1⟩)]
 rw[decide_eq_true c1]
 by_cases c2:l.length≤13
 rotate_left
 .refine AM c2 ?_
  refine zk ?_;clear hK K
  refine zt ?_
  refine zs ?_
  refine zr ?_
  rw[Gf,if_neg (fun g=>c2 g.2.2.1)]
 refine AM c2 ?_
 refine zk ?_;clear hK K
 refine zn ?_
 refine W.skip ?_
 refine z1 ?_;intro K hK
 refine⟨by omega,by omega,by show n≤(9223372036854775807:Int);omega,?_⟩
 refine zk ?_;clear hK K
 have e0:Dn n.toNat [.bool false]=Az (BF (l.take 0) n.toNat):=by
  rw[J3];congr 1
  exact List.ext_getElem (by simp[BF]) fun j _ _=>by simp[BF,DY]
 rw[e0]
 refine zs ?_
 (repeat refine W.seq ?_);refine W.block (W.loopS (fun k:Nat=> [(0,.ro l.length (Af Al l)),(1,.int .i64 n),(6,.tok 0 0 1 0 n.toNat),(20,.ro l.length (Af Al l)),(21,.int .i64 l.length),(22,.int .i64 k)]) (fun k=> [.live 0 (Az (BF (l.take k) n.toNat))]) (fun k=>l.length-k) (fun k=>k≤l.length∧IC (l.take k) n) 0 (Wk.fr (by simp[Ac])) ⟨by omega,by simp[IC]⟩ ?_)
 rintro k ⟨hk,hok⟩
 refine zs ?_
 refine zc ?_ ?_<;>intro h
 .refine W.skip ?_
  have hlt:k<l.length:=by omega
  have hto:l.take (k+1)=l.take k++[l[k]]:=by rw[List.take_add_one];simp[hlt]
  have bad:¬IC (l.take k++[l[k]]) n→Gf l n= .tup [.own 1 0 [],.bool false]:=fun g=>by
   rw[Gf,if_neg]
   intro w
   rw[←hto] at g
   exact g (P2 (k+1) ⟨w.2.2.2.1,w.2.2.2.2⟩)
  rw[Lh] at bad
  refine zb ?_
  (repeat refine W.seq ?_);refine W.reg 1 rfl fun K hK=>?_;simp -implicitDefEqProofs (maxSteps:=999999) (disch:=omega) [hlt]
  refine zk ?_;clear hK K
  generalize hv:l[k]=x at*
  obtain⟨x1,x2⟩:=x
  simp only at bad
  by_cases d1:x2<1
  .refine Ae d1 ?_;intro K hK
   refine zk ?_;clear hK K
   refine zt ?_
   refine zs ?_
   refine zr ?_
   rw[bad (by omega)]
  by_cases d2:x1<0
  .refine Ae (an d1 d2) ?_;intro K hK
   refine zk ?_;clear hK K
   refine zt ?_
   refine zs ?_
   refine zr ?_
   rw[bad (by omega)]
  by_cases d3:n≤x1
  .refine Ae (an d1 (an d2 d3)) ?_;intro K hK
   refine zk ?_;clear hK K
   refine zt ?_
   refine zs ?_
   refine zr ?_
   rw[bad (by omega)]
  by_cases d4:x2≤n-x1
  rotate_left
  .refine Ae (an d1 (an d2 (an d3 d4))) ?_;intro K hK
   refine zk ?_;clear hK K
   refine zt ?_
   refine zs ?_
   refine zr ?_
   rw[bad (by omega)]
  refine Ae (an d1 (an d2 (an d3 d4))) ?_;intro K hK
  refine zk ?_;clear hK K
  refine zn ?_
  refine W.skip ?_
  refine zs ?_
  obtain⟨b,rfl⟩:=Int.eq_ofNat_of_zero_le (by omega:0≤x1)
  obtain⟨e,rfl⟩:=Int.eq_ofNat_of_zero_le (by omega:0≤x2)
  rw[←Lg _ _ (b:Int)]
  (repeat refine W.seq ?_);refine W.block (W.loopS (fun i:Nat=> [(0,.ro l.length (Af Al l)),(1,.int .i64 n),(6,.tok 0 0 1 0 n.toNat),(8,.ptr 1 0 0),(9,.int .i64 i),(20,.ro l.length (Af Al l)),(21,.int .i64 l.length),(22,.int .i64 k)]) (fun i=> [.live 0 (Az (Ce (l.take k) n.toNat b i)),.live 0 [.int .i64 b,.int .i64 e]]) (fun i=>b+e-i) (fun i=>b≤i∧i≤b+e∧∀j:Int,b≤j→j<i→DY (l.take k) j=false) b (Wk.fr (by simp[Ac])) ⟨by omega,by omega,fun j h1 h2=>by omega⟩ ?_)
  rintro i ⟨hb,hi,hf⟩
  refine zs ?_
  refine zc ?_ ?_<;>intro h
  .refine W.skip ?_
   have hin:i<n.toNat:=by omega
   refine zb ?_
   have hget:(Ce (List.take k l) n.toNat (b:Int) (i:Int))[i]?=some (DY (l.take k) i):=by rw[List.getElem?_eq_getElem (by simpa using hin),M9 hin]
   cases ht:DY (l.take k) i
   .rw[ht] at hget
    refine Ae (an hin hget) ?_;intro K hK
    refine⟨by omega,?_⟩
    refine zk ?_;clear hK K
    refine zn ?_
    refine W.skip ?_
    refine Ae (an hin Ei) ?_;intro K hK
    refine⟨by omega,?_⟩
    refine zk ?_;clear hK K
    refine zs ?_
    refine⟨i+1,by omega,⟨by omega,by omega,fun j h1 h2=>?_⟩,?_⟩
    .by_cases e:j=i
     .subst e;exact ht
     .exact hf j h1 (by omega)
    .rw[IW _ _ _ _ (by omega) hin]
     exact Wk.fr (by simp[Ac])
   .rw[ht] at hget
    refine Ae (an hin hget) ?_;intro K hK
    refine⟨by omega,?_⟩
    refine zk ?_;clear hK K
    refine zt ?_
    refine zs ?_
    refine zr ?_
    rw[bad (fun g=>by have:=g.2.2 i (by omega) (by omega);rw[ht] at this;cases this)]
  .refine W.exit ?_
   have hie:i=b+e:=by omega
   subst hie
   refine zs ?_
   refine⟨k+1,by omega,⟨by omega,?_⟩,?_⟩
   .rw[hto,Lh]
    exact⟨hok,⟨by omega,by omega,by omega⟩,fun j h1 h2=>hf j h1 (by simpa using h2)⟩
   .rw[hto]
    have e2:=IV (l.take k) n.toNat ((b:Int),(e:Int))
    simp only at e2
    rw[e2]
    exact Wk.cutM (k:=1) (by simp[Ac]) (by simp) (by simp) (by simp) (by simp) (by simp)
 .refine W.exit ?_
  have hk' :k=l.length:=by omega
  subst hk'
  rw[List.take_length] at hok
  have e:Gf l n= .tup [.own 1 n.toNat (Az (BF l n.toNat)),.bool true]:=by rw[Gf,if_pos ⟨c1.1,c1.2,c2,hok.1,hok.2⟩]
  have e2:l.take l.length=l:=List.take_length
  rw[e2]
  refine zs ?_
  refine zr ?_
  rw[e]
end Go.Abs
set_option maxRecDepth 100000
namespace Go.Abs
open Go.Proofs
theorem U9 (l:List (Int×Int)) (n:Int) (hl:l.length<1000000000):Aa pg 115 [.ro l.length (Af Al l),.int .i64 n] [] (fun r _=>r= .bool (decide (CB l n))):=by
 have sp:=NS l n hl
 refine Aa.start (fn:=Tryz.f115) [.tmp 4] tk rfl rfl rfl (by kernel_rfl) (Nat.le_of_ble_eq_true rfl) rfl (by kernel_rfl) ?_
 rw[Am]
 refine zs ?_
 refine z0 ?_;intro K hK
 by_cases h:CB l n
 .rw[Gf,if_pos h] at sp
  refine Ab.eq sp (by simp) (by simp) ?_
  refine zx ?_
  refine zk ?_;clear hK K
  refine zs ?_
  refine zr ?_
  simp[h]
 .rw[Gf,if_neg h] at sp
  refine Ab.eq sp (by simp) (by simp) ?_
  refine zx ?_
  refine zk ?_;clear hK K
  refine zs ?_
  refine zr ?_
  simp[h]
theorem HU (xs:List C1) (f:Nat) (caps:List AV) (p:C1→Bool) (hx:xs.length<1000000000000) (hf:∀x∈xs,Aa pg f ([.agg ((AG false) x)]++caps) [] fun r _=>r= .bool (p x)) (hcv:∀M,caps.map (vw M)=caps) (hcc:∀M k,caps.map (B6 M k)=caps):
 Aa pg 155 [.ro xs.length (Af (AG false) xs),.fn f caps] [] (fun r _=>r= .bool (xs.any p)):=by
 refine Aa.start (fn:=Tryz.f155) [.tmp 4] tk rfl rfl rfl (by kernel_rfl) (Nat.le_of_ble_eq_true rfl) rfl (by kernel_rfl) ?_
 rw[Am]
 refine zs ?_
 refine z0 ?_;intro K hK
 refine Ab.eq (OM xs f caps p hx hf hcv) (by simp[hcc]) (by simp) ?_
 refine zx ?_
 refine zk ?_;clear hK K
 refine zr ?_
 rw[Bool.eq_iff_iff]
 simp[Cw]
theorem P3 (x:C1) (id:Int):Aa pg 159 ([.agg (AG false x)]++[.rptr [.int .i64 id]]) [] (fun r _=>r= .bool (decide (x.pin=id))):=by
 refine Aa.start (fn:=Tryz.f159) [.tmp 3] tk rfl rfl rfl (by kernel_rfl) (Nat.le_of_ble_eq_true rfl) rfl (by kernel_rfl) ?_
 simp only[List.cons_append,List.nil_append]
 rw[Am]
 refine z1 ?_;intro K hK;refine zk ?_;clear hK K
 refine zs ?_
 exact zR
def pinned (s:AP) (id:Int):Bool:=s.sess.any fun x=>decide (x.pin=id)
theorem MF (s:AP) (id:Int) (hs:AZ s):Aa pg 117 [.agg (Ay false s),.int .i64 id] [] (fun r _=>r= .bool (pinned s id)):=by
 have h1:=hs.2.1
 refine Aa.start (fn:=Tryz.f117) [.tmp 4] tk rfl rfl rfl (by kernel_rfl) (Nat.le_of_ble_eq_true rfl) rfl (by kernel_rfl) ?_
 rw[Am]
 refine z2 ?_;intro K hK;refine zk ?_;clear hK K
 refine z0 ?_;intro K hK
 refine Ab.eq (HU s.sess 159 [.rptr [.int .i64 id]] (fun x=>decide (x.pin=id)) (by omega) (fun x _=>P3 x id) (by simp) (by simp)) (by simp) (by simp) ?_
 refine zx ?_
 refine zk ?_;clear hK K
 refine zr ?_
 rfl
def BY (l:List Cv):List Int:=(l.filter fun v=> !v.gone).map Cv.id
theorem J6 {l:List Cv} {k:Nat} (hk:k<l.length):BY (l.take (k+1))=BY (l.take k)++if l[k].gone=true then [] else [l[k].id]:=by
 rw[List.take_add_one,BY,List.filter_append,List.map_append]
 simp only[List.getElem?_eq_getElem hk,Option.toList_some]
 cases h:l[k].gone<;>simp[BY,h]
theorem FB (l:List Cv):(BY l).length≤l.length:=by
 simp only[BY,List.length_map];exact List.length_filter_le _ _
theorem P4 (s:AP) (hs:AZ s):Aa pg 74 [.agg (Ay false s)] [] (fun r _=>r= .own 1 (BY s.vers).length (Ad (BY s.vers))):=by
 have h1:=hs.1
 refine Aa.start (fn:=Tryz.f74) [.tmp 2] tk rfl rfl rfl (by kernel_rfl) (Nat.le_of_ble_eq_true rfl) rfl (by kernel_rfl) ?_
 rw[At]
 refine z1 ?_;intro K hK;refine zk ?_;clear hK K
 refine zs ?_
 (repeat refine W.seq ?_);refine W.block (W.loopS (fun s2:Nat×List Int=> [(2,.tok 1 s2.2.length 1 0 s2.2.length),(6,FL false s.vers),(7,.int .i64 s.vers.length),(8,.int .i64 s2.1)]) (fun s2=> [.live 0 (Ay false s),.live s2.2.length (Ad s2.2)]) (fun s2=>s.vers.length-s2.1) (fun s2=>s2.1≤s.vers.length∧s2.2=BY (s.vers.take s2.1)) (0,[]) ((Wk.nil (t:=2) (s:=1) ?_).trans (Wk.fr ?_)) (by simp[BY]) ?_)
 .simp
 .simp[Ac]
 .rintro⟨k,acc⟩ ⟨hk,hacc⟩
  simp only at hk hacc
  have hal:acc.length≤k:=by rw[hacc];exact Nat.le_trans (FB _) (by simp;omega)
  refine zs ?_
  refine zc ?_ ?_<;>intro h
  .refine W.skip ?_
   have hlt:k<s.vers.length:=by omega
   have hst:=J6 hlt
   refine zb ?_
   (repeat refine W.seq ?_);refine W.reg 1 rfl fun K hK=>?_;simp -implicitDefEqProofs (maxSteps:=999999) (disch:=omega) [hlt]
   refine zk ?_;clear hK K
   cases hg:s.vers[k].gone
   .rw[hg] at hst
    refine Ae hg ?_;intro K hK
    refine zk ?_;clear hK K
    refine zt ?_
    refine z1 ?_;intro K hK
    refine⟨by omega,by omega,?_⟩
    refine zk ?_;clear hK K
    refine zs ?_
    refine⟨(k+1,acc++[s.vers[k].id]),by simp;omega,⟨by simp;omega,?_⟩,Wk.cutM (k:=2) (by simp[Ac]) ?_ (by simp) (by simp) (by simp) (by simp)⟩
    .simp only;rw[hst,hacc];simp
    .simp[BE,Ad]
   .rw[hg] at hst
    refine Ae hg ?_;intro K hK
    refine zk ?_;clear hK K
    refine zn ?_
    refine W.skip ?_
    refine zs ?_
    refine⟨(k+1,acc),by simp;omega,⟨by simp;omega,?_⟩,Wk.cutM (k:=2) (by simp[Ac]) (by simp) (by simp) (by simp) (by simp) (by simp)⟩
    simp only;rw[hst,hacc];simp
  .refine W.exit ?_
   have hk' :k=s.vers.length:=by omega
   subst hk'
   rw[List.take_length] at hacc
   subst hacc
   refine zs ?_
   exact zR
def J7 (s:AP):List Int:=(BY s.vers).drop (max 0 (((BY s.vers).length:Int)-s.keep)).toNat
def E6 (s:AP) (v:Cv):Bool:=v.tag|| (J7 s).contains v.id||pinned s v.id
def Dh (s:AP) (want:Bool) (l:List Cv):List Int:=(l.filter fun v=>E6 s v==want).map Cv.id
def BZ (s:AP) (want:Bool):List Int:=Dh s want s.vers
theorem Gg {s:AP} {want:Bool} {l:List Cv} {k:Nat} (hk:k<l.length):Dh s want (l.take (k+1))=Dh s want (l.take k)++if (E6 s l[k]==want)=true then [l[k].id] else []:=by
 rw[List.take_add_one,Dh,List.filter_append,List.map_append]
 simp only[List.getElem?_eq_getElem hk,Option.toList_some]
 cases h:E6 s l[k]==want<;>simp[Dh,h]
theorem EB (s:AP) (want:Bool) (l:List Cv):(Dh s want l).length≤l.length:=by
 simp only[Dh,List.length_map];exact List.length_filter_le _ _
theorem MG (s:AP) (want:Bool) (hs:AZ s) (hk0:0≤s.keep∧s.keep≤1000000):Aa pg 73 [.agg (Ay false s),.bool want] [] (fun r _=>r= .own 1 (BZ s want).length (Ad (BZ s want))):=by
 have h1:=hs.1
 have hsl:=FB s.vers
 obtain⟨m,hm⟩:∃m:Nat,max 0 (((BY s.vers).length:Int)-s.keep)=(m:Int):=⟨_,(Int.toNat_of_nonneg (by omega)).symm⟩
 have hml:m≤(BY s.vers).length:=by omega
 have hla:J7 s=(BY s.vers).drop m:=by rw[J7,hm];rfl
 refine Aa.start (fn:=Tryz.f73) [.tmp 4] tk rfl rfl rfl (by kernel_rfl) (Nat.le_of_ble_eq_true rfl) rfl (by kernel_rfl) ?_
 rw[Am]
 refine z1 ?_;intro K hK;refine zk ?_;clear hK K
 refine z0 ?_;intro K hK
 refine Ab.eq (P4 s hs) (by simp) (by simp) ?_
 refine zx ?_
 refine zk ?_;clear hK K
 generalize BY s.vers=seen at*
 by_cases hlk:s.keep<(seen.length:Int)
 .have em:(seen.length:Int)-s.keep=m:=by omega
  have hm0:0<m:=by omega
  refine Ae (an em (an hlk hm0)) ?_;intro K hK
  refine zk ?_;clear hK K
  refine zs ?_
  (repeat refine W.seq ?_);refine W.block (W.loopS (fun s2:Nat×List Int=> [(1,.bool want),(2,.ptr 0 0 0),(4,.tok 2 s2.2.length 1 0 s2.2.length),(5,.tok 1 0 1 m (seen.length-m)),(19,FL false s.vers),(20,.int .i64 s.vers.length),(21,.int .i64 s2.1)]) (fun s2=> [.live 0 (Ay false s),.live 0 (Ad seen),.live s2.2.length (Ad s2.2)]) (fun s2=>s.vers.length-s2.1) (fun s2=>s2.1≤s.vers.length∧s2.2=Dh s want (s.vers.take s2.1)) (0,[]) ((Wk.nil (t:=4) (s:=1) (by simp)).trans (Wk.fr (by simp[Ac,em]))) (by simp[Dh]) ?_)
  rintro⟨k,acc⟩ ⟨hk,hacc⟩
  simp only at hk hacc
  have hal:acc.length≤k:=by rw[hacc];exact Nat.le_trans (EB _ _ _) (by simp;omega)
  refine zs ?_
  refine zc ?_ ?_<;>intro h
  .refine W.skip ?_
   have hlt:k<s.vers.length:=by omega
   have hst:=Gg (s:=s) (want:=want) hlt
   refine zb ?_
   (repeat refine W.seq ?_);refine W.reg 1 rfl fun K hK=>?_;simp -implicitDefEqProofs (maxSteps:=999999) (disch:=omega) [hlt]
   refine zk ?_;clear hK K
   generalize hv:s.vers[k]=v at*
   have hkb:E6 s v=(v.tag|| (seen.drop m).contains v.id||pinned s v.id):=by rw[E6,hla]
   cases ht:v.tag
   .refine Ae ht ?_;intro K hK
    refine Ab.eq (E4 (seen.drop m) v.id (by simp;omega)) (by simp(disch:=omega);rw[List.take_of_length_le (by simp)]) (by simp) ?_
    cases hc:(seen.drop m).contains v.id
    .refine zx ?_
     refine Ab.eq (MF s v.id hs) (by simp) (by simp) ?_
     refine zx ?_
     refine zk ?_;clear hK K
     refine zc ?_ ?_<;>intro h
     .refine z1 ?_;intro K hK
      refine⟨by omega,by omega,?_⟩
      refine zk ?_;clear hK K
      refine zs ?_
      refine⟨(k+1,acc++[v.id]),by simp;omega,⟨by simp;omega,?_⟩,Wk.cutM (k:=3) (by simp[Ac]) ?_ (by simp) (by simp) (by simp) (by simp)⟩
      .simp only;rw[hst,hacc,hkb,ht,hc];simp[h]
      .simp[BE,Ad]
     .refine W.skip ?_
      refine zs ?_
      refine⟨(k+1,acc),by simp;omega,⟨by simp;omega,?_⟩,Wk.cutM (k:=3) (by simp[Ac]) (by simp) (by simp) (by simp) (by simp) (by simp)⟩
      simp only;rw[hst,hacc,hkb,ht,hc];simp[h]
    .refine zx ?_
     refine zk ?_;clear hK K
     refine zc ?_ ?_<;>intro h
     .refine z1 ?_;intro K hK
      refine⟨by omega,by omega,?_⟩
      refine zk ?_;clear hK K
      refine zs ?_
      refine⟨(k+1,acc++[v.id]),by simp;omega,⟨by simp;omega,?_⟩,Wk.cutM (k:=3) (by simp[Ac]) ?_ (by simp) (by simp) (by simp) (by simp)⟩
      .simp only;rw[hst,hacc,hkb,ht,hc];simp[h]
      .simp[BE,Ad]
     .refine W.skip ?_
      refine zs ?_
      refine⟨(k+1,acc),by simp;omega,⟨by simp;omega,?_⟩,Wk.cutM (k:=3) (by simp[Ac]) (by simp) (by simp) (by simp) (by simp) (by simp)⟩
      simp only;rw[hst,hacc,hkb,ht,hc];simp[h]
   .refine Ae ht ?_;intro K hK
    refine zk ?_;clear hK K
    refine zc ?_ ?_<;>intro h
    .refine z1 ?_;intro K hK
     refine⟨by omega,by omega,?_⟩
     refine zk ?_;clear hK K
     refine zs ?_
     refine⟨(k+1,acc++[v.id]),by simp;omega,⟨by simp;omega,?_⟩,Wk.cutM (k:=3) (by simp[Ac]) ?_ (by simp) (by simp) (by simp) (by simp)⟩
     .simp only;rw[hst,hacc,hkb,ht];simp[h]
     .simp[BE,Ad]
    .refine W.skip ?_
     refine zs ?_
     refine⟨(k+1,acc),by simp;omega,⟨by simp;omega,?_⟩,Wk.cutM (k:=3) (by simp[Ac]) (by simp) (by simp) (by simp) (by simp) (by simp)⟩
     simp only;rw[hst,hacc,hkb,ht];simp[h]
  .refine W.exit ?_
   have hk' :k=s.vers.length:=by omega
   subst hk'
   rw[List.take_length] at hacc
   have e:BZ s want=acc:=hacc.symm
   rw[e]
   refine zs ?_
   exact zR
 .have em:m=0:=by omega
  refine Ae hlk ?_;intro K hK
  refine zk ?_;clear hK K
  refine zs ?_
  (repeat refine W.seq ?_);refine W.block (W.loopS (fun s2:Nat×List Int=> [(1,.bool want),(2,.ptr 0 0 0),(4,.tok 2 s2.2.length 1 0 s2.2.length),(5,.tok 1 0 1 m (seen.length-m)),(19,FL false s.vers),(20,.int .i64 s.vers.length),(21,.int .i64 s2.1)]) (fun s2=> [.live 0 (Ay false s),.live 0 (Ad seen),.live s2.2.length (Ad s2.2)]) (fun s2=>s.vers.length-s2.1) (fun s2=>s2.1≤s.vers.length∧s2.2=Dh s want (s.vers.take s2.1)) (0,[]) ((Wk.nil (t:=4) (s:=1) (by simp)).trans (Wk.fr (by simp[Ac,em]))) (by simp[Dh]) ?_)
  rintro⟨k,acc⟩ ⟨hk,hacc⟩
  simp only at hk hacc
  have hal:acc.length≤k:=by rw[hacc];exact Nat.le_trans (EB _ _ _) (by simp;omega)
  refine zs ?_
  refine zc ?_ ?_<;>intro h
  .refine W.skip ?_
   have hlt:k<s.vers.length:=by omega
   have hst:=Gg (s:=s) (want:=want) hlt
   refine zb ?_
   (repeat refine W.seq ?_);refine W.reg 1 rfl fun K hK=>?_;simp -implicitDefEqProofs (maxSteps:=999999) (disch:=omega) [hlt]
   refine zk ?_;clear hK K
   generalize hv:s.vers[k]=v at*
   have hkb:E6 s v=(v.tag|| (seen.drop m).contains v.id||pinned s v.id):=by rw[E6,hla]
   cases ht:v.tag
   .refine Ae ht ?_;intro K hK
    refine Ab.eq (E4 (seen.drop m) v.id (by simp;omega)) (by simp(disch:=omega);rw[List.take_of_length_le (by simp)]) (by simp) ?_
    cases hc:(seen.drop m).contains v.id
    .refine zx ?_
     refine Ab.eq (MF s v.id hs) (by simp) (by simp) ?_
     refine zx ?_
     refine zk ?_;clear hK K
     refine zc ?_ ?_<;>intro h
     .refine z1 ?_;intro K hK
      refine⟨by omega,by omega,?_⟩
      refine zk ?_;clear hK K
      refine zs ?_
      refine⟨(k+1,acc++[v.id]),by simp;omega,⟨by simp;omega,?_⟩,Wk.cutM (k:=3) (by simp[Ac]) ?_ (by simp) (by simp) (by simp) (by simp)⟩
      .simp only;rw[hst,hacc,hkb,ht,hc];simp[h]
      .simp[BE,Ad]
     .refine W.skip ?_
      refine zs ?_
      refine⟨(k+1,acc),by simp;omega,⟨by simp;omega,?_⟩,Wk.cutM (k:=3) (by simp[Ac]) (by simp) (by simp) (by simp) (by simp) (by simp)⟩
      simp only;rw[hst,hacc,hkb,ht,hc];simp[h]
    .refine zx ?_
     refine zk ?_;clear hK K
     refine zc ?_ ?_<;>intro h
     .refine z1 ?_;intro K hK
      refine⟨by omega,by omega,?_⟩
      refine zk ?_;clear hK K
      refine zs ?_
      refine⟨(k+1,acc++[v.id]),by simp;omega,⟨by simp;omega,?_⟩,Wk.cutM (k:=3) (by simp[Ac]) ?_ (by simp) (by simp) (by simp) (by simp)⟩
      .simp only;rw[hst,hacc,hkb,ht,hc];simp[h]
      .simp[BE,Ad]
     .refine W.skip ?_
      refine zs ?_
      refine⟨(k+1,acc),by simp;omega,⟨by simp;omega,?_⟩,Wk.cutM (k:=3) (by simp[Ac]) (by simp) (by simp) (by simp) (by simp) (by simp)⟩
      simp only;rw[hst,hacc,hkb,ht,hc];simp[h]
   .refine Ae ht ?_;intro K hK
    refine zk ?_;clear hK K
    refine zc ?_ ?_<;>intro h
    .refine z1 ?_;intro K hK
     refine⟨by omega,by omega,?_⟩
     refine zk ?_;clear hK K
     refine zs ?_
     refine⟨(k+1,acc++[v.id]),by simp;omega,⟨by simp;omega,?_⟩,Wk.cutM (k:=3) (by simp[Ac]) ?_ (by simp) (by simp) (by simp) (by simp)⟩
     .simp only;rw[hst,hacc,hkb,ht];simp[h]
     .simp[BE,Ad]
    .refine W.skip ?_
     refine zs ?_
     refine⟨(k+1,acc),by simp;omega,⟨by simp;omega,?_⟩,Wk.cutM (k:=3) (by simp[Ac]) (by simp) (by simp) (by simp) (by simp) (by simp)⟩
     simp only;rw[hst,hacc,hkb,ht];simp[h]
  .refine W.exit ?_
   have hk' :k=s.vers.length:=by omega
   subst hk'
   rw[List.take_length] at hacc
   have e:BZ s want=acc:=hacc.symm
   rw[e]
   refine zs ?_
   exact zR
end Go.Abs
set_option maxRecDepth 100000
namespace Go.Abs
open Go.Proofs
theorem HG (n m:Int):Aa pg 62 [.int .i64 n,.int .i64 m] [] (fun r _=>r= .bool (decide (0≤n∧n≤m))):=by
 refine Aa.start (fn:=Tryz.f62) [.tmp 4] tk rfl rfl rfl (by kernel_rfl) (Nat.le_of_ble_eq_true rfl) rfl (by kernel_rfl) ?_
 rw[Am]
 refine zs ?_
 by_cases h1:0≤n
 .refine Ae h1 ?_;intro K hK
  refine zk ?_;clear hK K
  exact zR
 .refine Ae h1 ?_;intro K hK
  refine zk ?_;clear hK K
  exact zR
theorem DA (n a b:Int):Aa pg 42 [.int .i64 n,.int .i64 a,.int .i64 b] [] (fun r _=>r= .bool (decide (a≤n∧n≤b))):=by
 refine Aa.start (fn:=Tryz.f42) [.tmp 6] tk rfl rfl rfl (by kernel_rfl) (Nat.le_of_ble_eq_true rfl) rfl (by kernel_rfl) ?_
 rw[Bq]
 refine zs ?_
 by_cases h1:a≤n
 . (repeat refine W.seq ?_);refine W.reg 0 rfl fun K hK=>?_;simp -implicitDefEqProofs (maxSteps:=999999) (disch:=omega) [h1]
   refine zk ?_;clear hK K
   refine W.ret ?_;simp only[Cb,CT,Cp];refine Cd (d:=0) ?_;simp -implicitDefEqProofs (maxSteps:=999999) (disch:=omega)
   try simp[h1]
 . (repeat refine W.seq ?_);refine W.reg 0 rfl fun K hK=>?_;simp -implicitDefEqProofs (maxSteps:=999999) (disch:=omega) [h1]
   refine zk ?_;clear hK K
   refine W.ret ?_;simp only[Cb,CT,Cp];refine Cd (d:=0) ?_;simp -implicitDefEqProofs (maxSteps:=999999) (disch:=omega)
   try simp[h1]
theorem OO (xs:List Int) (x:Int) (hx:xs.length<4611686018427387904):Aa pg 18 [.ro xs.length (Ad xs),.int .i64 x] [] (fun r _=>r= .int .i64 (BM (fun y=>decide (y=x)) xs)):=by
 refine Aa.start (fn:=Tryz.f18) [.tmp 4] tk rfl rfl rfl (by kernel_rfl) (Nat.le_of_ble_eq_true rfl) rfl (by kernel_rfl) ?_
 rw[Am]
 refine zs ?_
 refine zs ?_
 (repeat refine W.seq ?_);refine W.block (W.loopS (fun k:Nat=> [(0,.ro xs.length (Ad xs)),(1,.int .i64 x),(5,.int .i64 k)]) (fun _=> []) (fun k=>xs.length-k) (fun k=>k≤xs.length∧∀i (h:i<xs.length),i<k→xs[i]≠x) 0 (Wk.fr ?_) (by simp) ?_)
 .simp[Ac]
 .rintro k ⟨hk,ht⟩
  refine zs ?_
  refine zc ?_ ?_<;>intro h
  .refine W.skip ?_
   refine zb ?_
   refine zs ?_
   refine zc ?_ ?_<;>intro h
   .refine zs ?_
    refine zr ?_
    exact(Eg (by omega) (by simp[h]) fun i hi hik=>by simpa using ht i hi hik).symm
   .refine W.skip ?_
    refine zs ?_
    refine⟨k+1,by omega,⟨by omega,?_⟩,Wk.fr (by simp[Ac])⟩
    intro i hi hik
    by_cases e:i=k
    .subst e;exact fun e=>h e
    .exact ht i hi (by omega)
  .refine W.exit ?_
   refine zs ?_
   refine zr ?_
   exact(DK fun i hi=>by simpa using ht i hi (by omega)).symm
theorem Ej (a b:Gr) (ha:Et a):Aa pg 38 [.agg (AQ false a),.agg (AQ false b)] [] (fun r _=>r= .bool (decide (a=b))):=by
 have e0:(a=b)↔a.n=b.n∧a.out=b.out:=Gr.ext_iff
 have h1:=ha.1
 refine Aa.start (fn:=Tryz.f38) [.tmp 4] tk rfl rfl rfl (by kernel_rfl) (Nat.le_of_ble_eq_true rfl) rfl (by kernel_rfl) ?_
 rw[Am]
 refine z2 ?_;intro K hK;refine zk ?_;clear hK K
 by_cases h1:a.n=b.n
 .refine Ae h1 ?_;intro K hK
  refine Ab.eq (It a.out b.out (by omega) (fun r hr=>by have:=ha.2 r hr;omega)) (by simp) (by simp) ?_
  refine zx ?_
  refine zk ?_;clear hK K
  refine zr ?_
  simp[e0,h1]
 .refine Ae h1 ?_;intro K hK
  refine zk ?_;clear hK K
  refine zr ?_
  simp[e0,h1]
def HH (j:BX):Prop:=j.list.length<1000000000∧j.out.length<1000000000
theorem FS (a b:BX) (ha:HH a):Aa pg 110 [.agg (BI false a),.agg (BI false b)] [] (fun r _=>r= .bool (decide (a=b))):=by
 have e0:(a=b)↔a.kind=b.kind∧a.a=b.a∧a.at_=b.at_∧a.move=b.move∧a.list=b.list∧a.out=b.out:=BX.ext_iff
 have hl1:=ha.1
 have hl2:=ha.2
 refine Aa.start (fn:=Tryz.f110) [.tmp 4] tk rfl rfl rfl (by kernel_rfl) (Nat.le_of_ble_eq_true rfl) rfl (by kernel_rfl) ?_
 rw[Am]
 refine z2 ?_;intro K hK;refine zk ?_;clear hK K
 by_cases h1:a.kind=b.kind
 .by_cases h2:a.a=b.a
  .by_cases h3:a.at_=b.at_
   .by_cases h4:a.move=b.move
    .refine Ae (an h1 (an h2 (an h3 h4))) ?_;intro K hK
     refine Ab.eq (B4 a.list b.list (by omega)) (by simp) (by simp) ?_
     by_cases h5:a.list=b.list
     .rw[decide_eq_true h5]
      refine zx ?_
      refine Ab.eq (B4 a.out b.out (by omega)) (by simp) (by simp) ?_
      refine zx ?_
      refine zk ?_;clear hK K
      refine zr ?_
      simp[e0,h1,h2,h3,h4,h5]
     .rw[decide_eq_false h5]
      refine zx ?_
      refine zk ?_;clear hK K
      refine zr ?_
      simp[e0,h5]
    .refine Ae (an h1 (an h2 (an h3 h4))) ?_;intro K hK
     refine zk ?_;clear hK K
     refine zr ?_
     simp[e0,h4]
   .refine Ae (an h1 (an h2 h3)) ?_;intro K hK
    refine zk ?_;clear hK K
    refine zr ?_
    simp[e0,h3]
  .refine Ae (an h1 h2) ?_;intro K hK
   refine zk ?_;clear hK K
   refine zr ?_
   simp[e0,h2]
 .refine Ae h1 ?_;intro K hK
  refine zk ?_;clear hK K
  refine zr ?_
  simp[e0,h1]
def Db (s:C1):Prop:=Et s.stage∧HH s.job
theorem IX (a b:C1) (ha:Db a):Aa pg 97 [.agg (AG false a),.agg (AG false b)] [] (fun r _=>r= .bool (decide (a=b))):=by
 have e0:(a=b)↔a.opn=b.opn∧a.pin=b.pin∧a.on=b.on∧a.frm=b.frm∧a.stage=b.stage∧a.job=b.job:=C1.ext_iff
 refine Aa.start (fn:=Tryz.f97) [.tmp 4] tk rfl rfl rfl (by kernel_rfl) (Nat.le_of_ble_eq_true rfl) rfl (by kernel_rfl) ?_
 rw[Am]
 refine z2 ?_;intro K hK;refine zk ?_;clear hK K
 by_cases h1:a.opn=b.opn
 .by_cases h2:a.pin=b.pin
  .by_cases h3:a.on=b.on
   .by_cases h4:a.frm=b.frm
    .refine Ae (an h1 (an h2 (an h3 h4))) ?_;intro K hK
     refine Ab.eq (Ej a.stage b.stage ha.1) (by simp) (by simp) ?_
     by_cases h5:a.stage=b.stage
     .rw[decide_eq_true h5]
      refine zx ?_
      refine Ab.eq (FS a.job b.job ha.2) (by simp) (by simp) ?_
      refine zx ?_
      refine zk ?_;clear hK K
      refine zr ?_
      simp[e0,h1,h2,h3,h4,h5]
     .rw[decide_eq_false h5]
      refine zx ?_
      refine zk ?_;clear hK K
      refine zr ?_
      simp[e0,h5]
    .refine Ae (an h1 (an h2 (an h3 h4))) ?_;intro K hK
     refine zk ?_;clear hK K
     refine zr ?_
     simp[e0,h4]
   .refine Ae (an h1 (an h2 h3)) ?_;intro K hK
    refine zk ?_;clear hK K
    refine zr ?_
    simp[e0,h3]
  .refine Ae (an h1 h2) ?_;intro K hK
   refine zk ?_;clear hK K
   refine zr ?_
   simp[e0,h2]
 .refine Ae h1 ?_;intro K hK
  refine zk ?_;clear hK K
  refine zr ?_
  simp[e0,h1]
end Go.Abs
set_option maxRecDepth 100000
namespace Go.Abs
open Go.Proofs
theorem J8 (xs ys:List Cv) (hx:xs.length<1000000000000):Aa pg 86 [.ro xs.length (Af A8 xs),.ro ys.length (Af A8 ys)] [] (fun r _=>r= .bool (decide (xs=ys))):=by
 refine Aa.start (fn:=Tryz.f86) [.tmp 4] tk rfl rfl rfl (by kernel_rfl) (Nat.le_of_ble_eq_true rfl) rfl (by kernel_rfl) ?_
 rw[Am]
 refine zs ?_
 refine zs ?_
 refine zc ?_ ?_<;>intro h
 .refine zs ?_
  refine zr ?_
  intro e;exact h (by rw[e])
 .refine W.skip ?_
  have hl:xs.length=ys.length:=by omega
  refine zs ?_
  (repeat refine W.seq ?_);refine W.block (W.loopS (fun k:Nat=> [(0,.ro xs.length (Af A8 xs)),(1,.ro ys.length (Af A8 ys)),(5,.int .i64 k)]) (fun _=> []) (fun k=>xs.length-k) (fun k=>k≤xs.length∧xs.take k=ys.take k) 0 (Wk.fr ?_) (by simp) ?_)
  .simp[Ac]
  .rintro k ⟨hk,ht⟩
   refine zs ?_
   refine zc ?_ ?_<;>intro h
   .refine W.skip ?_
    have hlt:k<xs.length:=by omega
    have hlt' :k<ys.length:=by omega
    refine zb ?_
    refine B8 ?_;intro K hK
    simp[hlt,hlt',A8]
    refine zk ?_;clear hK K
    refine zc ?_ ?_<;>intro h
    .refine zs ?_
     refine zr ?_
     intro e;subst e;simp at h
    .refine W.skip ?_
     have he:xs[k]=ys[k]:=Cv.ext h.1 h.2.1 h.2.2.1 (CL.ext h.2.2.2.1 h.2.2.2.2.1) h.2.2.2.2.2.1 h.2.2.2.2.2.2.1 h.2.2.2.2.2.2.2
     refine zs ?_
     refine⟨k+1,by omega,⟨by omega,?_⟩,Wk.fr ?_⟩
     .rw[List.take_add_one,List.take_add_one,ht];simp[hlt,hlt',he]
     .simp[Ac]
   .refine W.exit ?_
    have hk' :k=xs.length:=by omega
    subst hk'
    refine zs ?_
    refine zr ?_
    rw[List.take_length,hl,List.take_length] at ht
    simp[ht]
theorem MH (xs ys:List C1) (hx:xs.length<1000000000000) (hr:∀r∈xs,Db r):Aa pg 57 [.ro xs.length (Af (AG false) xs),.ro ys.length (Af (AG false) ys)] [] (fun r _=>r= .bool (decide (xs=ys))):=by
 refine Aa.start (fn:=Tryz.f57) [.tmp 4] tk rfl rfl rfl (by kernel_rfl) (Nat.le_of_ble_eq_true rfl) rfl (by kernel_rfl) ?_
 rw[Am]
 refine zs ?_
 refine zs ?_
 refine zc ?_ ?_<;>intro h
 .refine zs ?_
  refine zr ?_
  intro e;exact h (by rw[e])
 .refine W.skip ?_
  have hl:xs.length=ys.length:=by omega
  refine zs ?_
  (repeat refine W.seq ?_);refine W.block (W.loopS (fun k:Nat=> [(0,.ro xs.length (Af (AG false) xs)),(1,.ro ys.length (Af (AG false) ys)),(5,.int .i64 k)]) (fun _=> []) (fun k=>xs.length-k) (fun k=>k≤xs.length∧xs.take k=ys.take k) 0 (Wk.fr ?_) (by simp) ?_)
  .simp[Ac]
  .rintro k ⟨hk,ht⟩
   refine zs ?_
   refine zc ?_ ?_<;>intro h
   .refine W.skip ?_
    have hlt:k<xs.length:=by omega
    have hlt' :k<ys.length:=by omega
    have sp:=IX xs[k] ys[k] (hr _ (List.getElem_mem hlt))
    refine zb ?_
    refine A5 (an hlt hlt') ?_;intro K hK
    refine Ah.eq sp (by simp) (by simp) ?_
    by_cases he:xs[k]=ys[k]
    .rw[decide_eq_true he]
     refine zx ?_
     refine zk ?_;clear hK K
     refine zn ?_
     refine W.skip ?_
     refine zs ?_
     refine⟨k+1,by omega,⟨by omega,?_⟩,Wk.fr ?_⟩
     .rw[List.take_add_one,List.take_add_one,ht];simp[hlt,hlt',he]
     .simp[Ac]
    .rw[decide_eq_false he]
     refine zx ?_
     refine zk ?_;clear hK K
     refine zt ?_
     refine zs ?_
     refine zr ?_
     intro e;subst e;simp at he
   .refine W.exit ?_
    have hk' :k=xs.length:=by omega
    subst hk'
    refine zs ?_
    refine zr ?_
    rw[List.take_length,hl,List.take_length] at ht
    simp[ht]
theorem Li (a b:AP) (ha:a.vers.length<1000000000000∧a.sess.length<1000000000000∧∀r∈a.sess,Db r):Aa pg 40 [.agg (Ay false a),.agg (Ay false b)] [] (fun r _=>r= .bool (decide (a=b))):=by
 have e0:(a=b)↔a.keep=b.keep∧a.blocks=b.blocks∧a.vers=b.vers∧a.sess=b.sess:=AP.ext_iff
 refine Aa.start (fn:=Tryz.f40) [.tmp 4] tk rfl rfl rfl (by kernel_rfl) (Nat.le_of_ble_eq_true rfl) rfl (by kernel_rfl) ?_
 rw[Am]
 refine z2 ?_;intro K hK;refine zk ?_;clear hK K
 by_cases h1:a.keep=b.keep
 .by_cases h2:a.blocks=b.blocks
  .refine Ae (an h1 h2) ?_;intro K hK
   refine Ab.eq (J8 a.vers b.vers ha.1) (by simp) (by simp) ?_
   by_cases h3:a.vers=b.vers
   .rw[decide_eq_true h3]
    refine zx ?_
    refine Ab.eq (MH a.sess b.sess ha.2.1 ha.2.2) (by simp) (by simp) ?_
    refine zx ?_
    refine zk ?_;clear hK K
    refine zr ?_
    simp[e0,h1,h2,h3]
   .rw[decide_eq_false h3]
    refine zx ?_
    refine zk ?_;clear hK K
    refine zr ?_
    simp[e0,h3]
  .refine Ae (an h1 h2) ?_;intro K hK
   refine zk ?_;clear hK K
   refine zr ?_
   simp[e0,h2]
 .refine Ae h1 ?_;intro K hK
  refine zk ?_;clear hK K
  refine zr ?_
  simp[e0,h1]
theorem KB (xs:List Cv) (hx:xs.length<1000000000):Aa pg 70 [.ro xs.length (Af A8 xs)] [] (fun r _=>r= .own 8 xs.length (Af A8 xs)):=by
 refine Aa.start (fn:=Tryz.f70) [.tmp 2] tk rfl rfl rfl (by kernel_rfl) (Nat.le_of_ble_eq_true rfl) rfl (by kernel_rfl) ?_
 rw[At]
 refine zs ?_
 refine zs ?_
 refine zs ?_
 (repeat refine W.seq ?_);refine W.block (W.loopS (fun k:Nat=> [(0,.ro xs.length (Af A8 xs)),(3,.tok 0 k 8 0 k),(4,.int .i64 k)]) (fun k=> [.live k (Af A8 (xs.take k))]) (fun k=>xs.length-k) (fun k=>k≤xs.length) 0 ((Wk.nil (t:=3) (s:=8) ?_).trans (Wk.fr ?_)) (by simp) ?_)
 .simp
 .simp[Ac]
 .intro k hk
  refine zs ?_
  refine zc ?_ ?_<;>intro h
  .refine W.skip ?_
   have hlt:k<xs.length:=by omega
   refine zb ?_
   (repeat refine W.seq ?_);refine W.reg 1 rfl fun K hK=>?_;simp -implicitDefEqProofs (maxSteps:=999999) (disch:=omega) [hlt]
   refine⟨by omega,by omega,?_⟩
   refine zk ?_;clear hK K
   refine zs ?_
   refine⟨k+1,by omega,by omega,Wk.cutM (k:=1) (by simp[Ac]) ?_ (by simp) (by simp) (by simp) (by simp)⟩
   have hto:xs.take (k+1)=xs.take k++[xs[k]]:=by rw[List.take_add_one];simp[hlt]
   rw[hto,Cz]
   simp[AL]
  .refine W.exit ?_
   have hk' :k=xs.length:=by omega
   subst hk'
   refine zs ?_
   exact zR
theorem Ek (j:BX) (hj:HH j):Aa pg 153 [.agg (BI false j)] [] (fun r _=>r= .agg (BI true j)):=by
 have h1:=hj.1
 have h2:=hj.2
 refine Aa.start (fn:=Tryz.f153) [.cell 2 53] tk rfl rfl rfl (by kernel_rfl) (Nat.le_of_ble_eq_true rfl) rfl (by kernel_rfl) ?_
 rw[At]
 refine z2 ?_;intro K hK;refine zk ?_;clear hK K
 refine z1 ?_;intro K hK;refine zk ?_;clear hK K
 refine z0 ?_;intro K hK
 refine Ab.eq (DR j.list (by omega)) (by simp) (by simp) ?_
 refine zx ?_
 refine zk ?_;clear hK K
 refine z0 ?_;intro K hK
 refine Ab.eq (DR j.out (by omega)) (by simp) (by simp) ?_
 refine zx ?_
 refine zk ?_;clear hK K
 refine zs ?_
 exact zR
end Go.Abs
set_option maxRecDepth 100000
namespace Go.Abs
open Go.Proofs
theorem Na (xs:List (List Int)) (hx:xs.length<1000000000) (hr:∀r∈xs,r.length<1000000000):Aa pg 188 [.ro xs.length (Aw false xs)] [] (fun r _=>r= .own 1 xs.length (Aw true xs)):=by
 refine Aa.start (fn:=Tryz.f188) [.tmp 2] tk rfl rfl rfl (by kernel_rfl) (Nat.le_of_ble_eq_true rfl) rfl (by kernel_rfl) ?_
 rw[At]
 refine zs ?_
 refine zs ?_
 refine zs ?_
 (repeat refine W.seq ?_);refine W.block (W.loopS (fun k:Nat=> [(0,.ro xs.length (Aw false xs)),(3,.tok 0 k 1 0 k),(4,.int .i64 k)]) (fun k=> [.live k (Aw true (xs.take k))]) (fun k=>xs.length-k) (fun k=>k≤xs.length) 0 ((Wk.nil (t:=3) (s:=1) ?_).trans (Wk.fr ?_)) (by simp) ?_)
 .simp
 .simp[Ac]
 .intro k hk
  refine zs ?_
  refine zc ?_ ?_<;>intro h
  .refine W.skip ?_
   have hlt:k<xs.length:=by omega
   have sp:=DR xs[k] (by have:=hr _ (List.getElem_mem hlt);omega)
   refine zb ?_
   (repeat refine W.seq ?_);refine W.reg 1 rfl fun K hK=>?_;simp -implicitDefEqProofs (maxSteps:=999999) (disch:=omega) [hlt]
   refine Ab.eq sp (by simp) (by simp) ?_
   refine AM hlt ?_
   refine⟨by omega,by omega,?_⟩
   refine zk ?_;clear hK K
   refine zs ?_
   have hto:xs.take (k+1)=xs.take k++[xs[k]]:=by rw[List.take_add_one];simp[hlt]
   have hll:(Aw true (xs.take k)).length=k:=by simp;omega
   refine⟨k+1,by omega,by omega,(Wk.intern (B:=0) (v:=k+1) (j:=k) (T:=2) (u:=0) (s:=1) (off:=0) (n:=xs[k].length) (cs:=Aw true (xs.take k)++[AV.tok 2 0 1 0 xs[k].length]) (xs:=Ad xs[k]) (by simp) ?_ (by simp) (by simp) (by simp) (by simp)).trans (Wk.cutM (k:=1) (by simp[Ac]) ?_ (by simp) (by simp) (by simp) (by simp))⟩
   .rw[List.getElem?_append_right (by omega),hll];simp
   .rw[hto,PQ]
    simp only[List.set_cons_zero,List.take_succ_cons,List.take_zero,List.cons.injEq,Ag.live.injEq,true_and,and_true]
    rw[List.set_append_right _ _ (by omega),hll]
    simp[Aw]
  .refine W.exit ?_
   have hk' :k=xs.length:=by omega
   subst hk'
   refine zs ?_
   exact zR
theorem Rv {P L:List AV} {n i:Nat} {x:AV} (h:P.length=n):(P++L).set (n+i) x=P++L.set i x:=by
 rw[List.set_append_right _ _ (by omega),h,Nat.add_sub_cancel_left]
theorem Rw {P L:List AV} {n i:Nat} (h:P.length=n):(P++L)[n+i]?=L[i]?:=by
 rw[List.getElem?_append_right (by omega),h,Nat.add_sub_cancel_left]
theorem Nb (g:Gr) (hg:Et g):Aa pg 152 [.agg (AQ false g)] [] (fun r _=>r= .agg (AQ true g)):=by
 refine Aa.start (fn:=Tryz.f152) [.cell 2 51] tk rfl rfl rfl (by kernel_rfl) (Nat.le_of_ble_eq_true rfl) rfl (by kernel_rfl) ?_
 rw[At]
 refine z2 ?_;intro K hK;refine zk ?_;clear hK K
 refine z1 ?_;intro K hK;refine zk ?_;clear hK K
 refine z0 ?_;intro K hK
 refine Ab.eq (Na g.out hg.1 hg.2) (by simp) (by simp) ?_
 refine zx ?_
 refine zk ?_;clear hK K
 refine zs ?_
 exact zR
theorem Ls (s:C1) (hs:Db s):Aa pg 113 [.agg (AG false s)] [] (fun r _=>r= .agg (AG true s)):=by
 refine Aa.start (fn:=Tryz.f113) [.cell 2 55] tk rfl rfl rfl (by kernel_rfl) (Nat.le_of_ble_eq_true rfl) rfl (by kernel_rfl) ?_
 rw[At]
 refine z2 ?_;intro K hK;refine zk ?_;clear hK K
 refine z1 ?_;intro K hK;refine zk ?_;clear hK K
 refine z0 ?_;intro K hK
 refine Ab.eq (Nb s.stage hs.1) (by simp) (by simp) ?_
 refine zx ?_
 refine zk ?_;clear hK K
 refine z0 ?_;intro K hK
 refine Ab.eq (Ek s.job hs.2) (by simp) (by simp) ?_
 refine zx ?_
 refine zk ?_;clear hK K
 refine zs ?_
 exact zR
theorem KC (xs:List C1) (hx:xs.length<1000000000) (hr:∀r∈xs,Db r):Aa pg 71 [.ro xs.length (Af (AG false) xs)] [] (fun r _=>r= .own 12 xs.length (Af (AG true) xs)):=by
 refine Aa.start (fn:=Tryz.f71) [.tmp 2] tk rfl rfl rfl (by kernel_rfl) (Nat.le_of_ble_eq_true rfl) rfl (by kernel_rfl) ?_
 rw[At]
 refine zs ?_
 refine zs ?_
 refine zs ?_
 (repeat refine W.seq ?_);refine W.block (W.loopS (fun k:Nat=> [(0,.ro xs.length (Af (AG false) xs)),(3,.tok 0 k 12 0 k),(4,.int .i64 k)]) (fun k=> [.live k (Af (AG true) (xs.take k))]) (fun k=>xs.length-k) (fun k=>k≤xs.length) 0 ((Wk.nil (t:=3) (s:=12) ?_).trans (Wk.fr ?_)) (by simp) ?_)
 .simp
 .simp[Ac]
 .intro k hk
  refine zs ?_
  refine zc ?_ ?_<;>intro h
  .refine W.skip ?_
   have hlt:k<xs.length:=by omega
   have sp:=Ls xs[k] (hr _ (List.getElem_mem hlt))
   refine zb ?_
   (repeat refine W.seq ?_);refine W.reg 1 rfl fun K hK=>?_;simp -implicitDefEqProofs (maxSteps:=999999) (disch:=omega) [hlt]
   refine Ab.eq sp (by simp) (by simp) ?_
   refine AM hlt ?_
   refine⟨by omega,by omega,?_⟩
   refine zk ?_;clear hK K
   refine zs ?_
   have hto:xs.take (k+1)=xs.take k++[xs[k]]:=by rw[List.take_add_one];simp[hlt]
   have hll:(Af (AG true) (xs.take k)).length=k*12:=by simp;omega
   refine⟨k+1,by omega,by omega,?_⟩
   have hpn:(Af (AG true) (xs.take k)).all (Fx 1)=true:=by rw[←Fj];simp
   rw[hto,Cz]
   generalize Af (AG true) (xs.take k)=P at*
   generalize xs[k]=x at*
   refine Wk.trans (Wk.intern (B:=0) (v:=k+1) (j:=k*12+5) (T:=2) (u:=0) (s:=1) (off:=0) (n:=x.stage.out.length) (cs:=P++[AV.bool x.opn,AV.int .i64 x.pin,AV.bool x.on,AV.int .i64 x.frm,AV.int .i64 x.stage.n,AV.tok 2 0 1 0 x.stage.out.length,AV.int .i64 x.job.kind,AV.int .i64 x.job.a,AV.int .i64 x.job.at_,AV.bool x.job.move,AV.tok 3 0 1 0 x.job.list.length,AV.tok 4 0 1 0 x.job.out.length]) (xs:=Aw true x.stage.out) (by simp[Ai]) (by rw[Rw hll];rfl) (by simp[Ai]) (by decide) (by simp) (by simp)) ?_
   rw[Rv hll]
   simp only[List.set_cons_zero,List.set_cons_succ,List.drop_zero,Nat.mul_one,Hx,Iq,List.take_length]
   refine Wk.trans (Wk.intern (B:=0) (v:=k+1) (j:=k*12+10) (T:=3) (u:=0) (s:=1) (off:=0) (n:=x.job.list.length) (cs:=P++[AV.bool x.opn,AV.int .i64 x.pin,AV.bool x.on,AV.int .i64 x.frm,AV.int .i64 x.stage.n,AV.own 1 x.stage.out.length (Aw true x.stage.out),AV.int .i64 x.job.kind,AV.int .i64 x.job.a,AV.int .i64 x.job.at_,AV.bool x.job.move,AV.tok 3 0 1 0 x.job.list.length,AV.tok 4 0 1 0 x.job.out.length]) (xs:=Ad x.job.list) (by simp[Ai]) (by rw[Rw hll];rfl) (by simp[Ai]) (by decide) (by simp) (by simp)) ?_
   rw[Rv hll]
   simp only[List.set_cons_zero,List.set_cons_succ,List.drop_zero,Nat.mul_one,Hx,Iq,List.take_length]
   refine Wk.trans (Wk.intern (B:=0) (v:=k+1) (j:=k*12+11) (T:=4) (u:=0) (s:=1) (off:=0) (n:=x.job.out.length) (cs:=P++[AV.bool x.opn,AV.int .i64 x.pin,AV.bool x.on,AV.int .i64 x.frm,AV.int .i64 x.stage.n,AV.own 1 x.stage.out.length (Aw true x.stage.out),AV.int .i64 x.job.kind,AV.int .i64 x.job.a,AV.int .i64 x.job.at_,AV.bool x.job.move,AV.own 1 x.job.list.length (Ad x.job.list),AV.tok 4 0 1 0 x.job.out.length]) (xs:=Ad x.job.out) (by simp[Ai]) (by rw[Rw hll];rfl) (by simp[Ai]) (by decide) (by simp) (by simp)) ?_
   rw[Rv hll]
   simp only[List.set_cons_zero,List.set_cons_succ,List.drop_zero,Nat.mul_one,Hx,Iq,List.take_length]
   refine Wk.cutM (k:=1) (by simp[Ac]) ?_ (by simp) (by simp) ?_ (by simp)
   .simp[AL]
   .simp only[List.all_cons,List.all_nil,Bool.and_true,Hm,List.all_append,hpn,Fj]
    simp[AL]
  .refine W.exit ?_
   have hk' :k=xs.length:=by omega
   subst hk'
   refine zs ?_
   exact zR
theorem Nc (s:AP) (hs:AZ s) (hr:∀r∈s.sess,Db r):Aa pg 14 [.agg (Ay false s)] [] (fun r _=>r= .agg (Ay true s)):=by
 refine Aa.start (fn:=Tryz.f14) [.cell 2 38] tk rfl rfl rfl (by kernel_rfl) (Nat.le_of_ble_eq_true rfl) rfl (by kernel_rfl) ?_
 rw[At]
 refine z2 ?_;intro K hK;refine zk ?_;clear hK K
 refine z1 ?_;intro K hK;refine zk ?_;clear hK K
 refine z0 ?_;intro K hK
 refine Ab.eq (KB s.vers hs.1) (by simp) (by simp) ?_
 refine zx ?_
 refine zk ?_;clear hK K
 refine z0 ?_;intro K hK
 refine Ab.eq (KC s.sess hs.2.1 hr) (by simp) (by simp) ?_
 refine zx ?_
 refine zk ?_;clear hK K
 refine zs ?_
 exact zR
end Go.Abs
set_option maxRecDepth 100000
namespace Go.Abs
open Go.Proofs
theorem P5 (b:CL) (i:Nat) (hn:b.data.size<1000000000000) (hi:i/8<b.data.size):Aa pg 142 [.agg (Ch b),.int .i64 i] [] (fun r _=>r= .int .i64 (if Ed b.data i=true then 1 else 0)):=by
 refine Aa.start (fn:=Tryz.f142) [.tmp 4] tk rfl rfl rfl (by kernel_rfl) (Nat.le_of_ble_eq_true rfl) rfl (by kernel_rfl) ?_
 rw[Am]
 refine z1 ?_;intro K hK;refine zk ?_;clear hK K
 refine z0 ?_;intro K hK
 refine⟨by omega,?_⟩
 have hB:=GA b.data (i/8)
 have h3:=Ml b.data (i/8) (7-(i:Int)%8).toNat
 have e1:((i:Int)/8).toNat=i/8:=by omega
 rw[e1,wrap_i64 (by omega) (by omega),Jh _ h3.1 (by omega),NK]
 simp
 refine zk ?_;clear hK K
 exact zR
theorem TY (b:CL) (h3:b.data.size<1000000000):Aa pg 106 [.agg (Ch b)] [] (fun r _=>r= .bool (decide (DI b))):=by
 refine Aa.start (fn:=Tryz.f106) [.tmp 2] tk rfl rfl rfl (by kernel_rfl) (Nat.le_of_ble_eq_true rfl) rfl (by kernel_rfl) ?_
 rw[At]
 refine z1 ?_;intro K hK;refine zk ?_;clear hK K
 refine z0 ?_;intro K hK
 refine Ab.eq (HG b.n 6000) (by simp) (by simp) ?_
 by_cases h0:0≤b.n∧b.n≤6000
 rotate_left
 .rw[decide_eq_false h0]
  refine zx ?_
  refine zk ?_;clear hK K
  refine zt ?_
  refine zs ?_
  refine zr ?_
  intro h;exact h0 ⟨h.1,h.2.1⟩
 .rw[decide_eq_true h0]
  obtain⟨n,hn⟩:=Int.eq_ofNat_of_zero_le h0.1
  refine zx ?_
  refine zk ?_;clear hK K
  refine zc ?_ ?_<;>intro h
  .refine zs ?_
   refine zr ?_
   intro g;have:=g.2.2.1;omega
  .refine W.skip ?_
   refine Ae hn ?_;intro K hK
   refine zk ?_;clear hK K
   (repeat refine W.seq ?_);refine W.block (W.loopS (fun i:Nat=> [(1,.ptr 0 0 0),(3,.int .i64 i)]) (fun _=> [.live 0 [.str b.data,.int .i64 n]]) (fun i=>8*b.data.size-i) (fun i=>n≤i∧(i≤8*b.data.size∨i=n)∧∀j,n≤j→j<i→Ed b.data j=false) n (Wk.fr (by simp[Ac])) ⟨by omega,by omega,fun j h1 h2=>by omega⟩ ?_)
   rintro i ⟨hi,hi2,ht⟩
   refine zs ?_
   refine zc ?_ ?_<;>intro h
   .refine W.skip ?_
    have hlt:i<8*b.data.size:=by omega
    have sp:=P5 b i (by omega) (by omega)
    refine zb ?_
    refine z0 ?_;intro K hK
    rw[←hn]
    cases hb:Ed b.data i
    .simp only[hb,Bool.false_eq_true,if_false] at sp
     refine Ab.eq sp (by simp) (by simp) ?_
     refine zx ?_
     refine zk ?_;clear hK K
     refine zn ?_
     refine W.skip ?_
     refine zs ?_
     refine⟨i+1,by omega,⟨by omega,by omega,fun j h1 h2=>?_⟩,?_⟩
     .by_cases e:j=i
      .subst e;exact hb
      .exact ht j h1 (by omega)
     .rw[hn];exact Wk.fr (by simp[Ac])
    .simp only[hb,if_true] at sp
     refine Ab.eq sp (by simp) (by simp) ?_
     refine zx ?_
     refine zk ?_;clear hK K
     refine zt ?_
     refine zs ?_
     refine zr ?_
     intro g
     have:=g.2.2.2 i hlt (by omega)
     rw[hb] at this;cases this
   .refine W.exit ?_
    refine zs ?_
    refine zr ?_
    refine⟨h0.1,h0.2,by omega,fun j h1 h2=>ht j (by omega) (by omega)⟩
end Go.Abs
set_option maxRecDepth 100000
namespace Go.Abs
open Go.Proofs
def b8 (b:Bool):AV:= .int .u8 (if b=true then 1 else 0)
def AK (xs:List Bool):List AV:=xs.map b8
section
variable (xs ys:List Bool) (M:List Ag) (k:Nat)
@[simp] theorem Yh (i:Nat):(AK xs)[i]?=(xs[i]?).map b8:=by simp[AK]
@[simp] theorem Yi:(AK xs).length=xs.length:=by simp[AK]
@[simp] theorem Yj:AK []=[]:=rfl
theorem MI:AK (xs++ys)=AK xs++AK ys:=by simp[AK]
@[simp] theorem WQ:(AK xs).take k=AK (xs.take k):=by simp[AK,List.map_take]
@[simp] theorem WR:(AK xs).drop k=AK (xs.drop k):=by simp[AK,List.map_drop]
@[simp] theorem Zn:Ey (AK xs)=true:=by simp[AK,Ey,-JP,b8]
@[simp] theorem Zo:Ez (AK xs)=true:=by simp[AK,Ez,-JQ,b8]
@[simp] theorem Zp:D2 (AK xs)=true:=by simp[AK,D2,-GZ,b8]
@[simp] theorem Zq:Dd k (AK xs)=true:=by induction xs<;>simp_all[AK,b8]
@[simp] theorem Yk:Cy (AK xs)=true:=by induction xs<;>simp_all[AK,b8]
@[simp] theorem Yl:Ep (AK xs)=AK xs:=by induction xs<;>simp_all[AK,b8]
@[simp] theorem Ym:(AK xs).map DV=AK xs:=by simp[AK,b8]
@[simp] theorem Yn:(AK xs).map (B6 M k)=AK xs:=by cases k<;>simp[AK,b8]
end
theorem Va (b:CL) (h0:0≤b.n) (h1:b.n≤8*b.data.size) (h3:b.data.size<1000000000):Aa pg 107 [.agg (Ch b)] [] (fun r _=>r= .own 1 (Ao b).length (AK (Ao b))):=by
 have hl:=BT b
 obtain⟨n,hn⟩:=Int.eq_ofNat_of_zero_le h0
 have hln:(Ao b).length=n:=by omega
 refine Aa.start (fn:=Tryz.f107) [.tmp 2] tk rfl rfl rfl (by kernel_rfl) (Nat.le_of_ble_eq_true rfl) rfl (by kernel_rfl) ?_
 rw[At]
 refine z1 ?_;intro K hK;refine zk ?_;clear hK K
 refine zs ?_
 refine zs ?_
 (repeat refine W.seq ?_);refine W.block (W.loopS (fun k:Nat=> [(1,.ptr 0 0 0),(3,.tok 1 k 1 0 k),(4,.int .i64 k)]) (fun k=> [.live 0 (Ch b),.live k (AK ((Ao b).take k))]) (fun k=>n-k) (fun k=>k≤n) 0 ((Wk.nil (t:=3) (s:=1) ?_).trans (Wk.fr ?_)) (Nat.zero_le _) ?_)
 .simp
 .simp[Ac]
 .intro k hk
  refine zs ?_
  refine zc ?_ ?_<;>intro h
  .refine W.skip ?_
   have hlt:k<n:=by omega
   have sp:=P5 b k (by omega) (by omega)
   have hbk:(Ao b)[k]'(by omega)=Ed b.data k:=by simp[Ao]
   have hto:(Ao b).take (k+1)=(Ao b).take k++[Ed b.data k]:=by rw[List.take_add_one,List.getElem?_eq_getElem (by omega),hbk];rfl
   refine zb ?_
   refine z1 ?_;intro K hK
   refine Ab.eq sp (by simp) (by simp) ?_
   refine zx ?_
   have e8:AV.int .u8 (IntKind.u8.wrap (if Ed b.data k=true then 1 else 0))=b8 (Ed b.data k):=by
    cases Ed b.data k<;>rfl
   rw[e8]
   refine⟨by omega,by omega,?_⟩
   refine zk ?_;clear hK K
   refine zs ?_
   refine⟨k+1,by omega,by omega,Wk.cutM (k:=2) (by simp[Ac]) ?_ (by simp) (by simp) (by simp) (by simp)⟩
   rw[hto,MI]
   rfl
  .refine W.exit ?_
   have hk' :k=n:=by omega
   subst hk'
   have e:(Ao b).take k=Ao b:=List.take_of_length_le (by omega)
   rw[e]
   refine zs ?_
   refine zr ?_
   rw[e]
   exact⟨hln.symm,rfl⟩
end Go.Abs
set_option maxRecDepth 100000
namespace Go.Abs
open Go.Proofs
theorem TZ (l:List Bool) (p:Nat) (hl:l.length<1000000000000) (hp:p≤l.length):Aa pg 178 [.ro l.length (AK l),.int .i64 p] [] (fun r _=>r= .int .i64 (nb (ahead l p))):=by
 refine Aa.start (fn:=Tryz.f178) [.tmp 4] tk rfl rfl rfl (by kernel_rfl) (Nat.le_of_ble_eq_true rfl) rfl (by kernel_rfl) ?_
 rw[Am]
 refine zs ?_
 refine zs ?_
 (repeat refine W.seq ?_);refine W.block (W.loopS (fun q:Nat=> [(0,.ro l.length (AK l)),(1,.int .i64 p),(5,.int .i64 q)]) (fun _=> []) (fun q=>l.length-q) (fun q=>p≤q∧q≤l.length∧(l.drop p).take (q-p)=List.replicate (q-p) false) p (Wk.fr (by simp[Ac])) ⟨by omega,by omega,by simp⟩ ?_)
 rintro q ⟨hpq,hq,ht⟩
 refine zs ?_
 refine zc ?_ ?_<;>intro h
 .refine W.skip ?_
  have hlt:q<l.length:=by omega
  have hst:(l[q]=true→ahead l p=some (q-p))∧(l[q]=false→(l.drop p).take (q+1-p)=List.replicate (q+1-p) false):=by
   obtain⟨k,rfl⟩:∃k,q=p+k:=⟨q-p,by omega⟩
   have:=JT hlt (by simpa using ht)
   rw[show p+k+1-p=k+1 by omega,show p+k-p=k by omega]
   exact this
  refine zb ?_
  cases hb:l[q]
  . (repeat refine W.seq ?_);refine W.reg 0 rfl fun K hK=>?_;simp -implicitDefEqProofs (maxSteps:=999999) (disch:=omega) [hlt,hb,b8]
    refine zk ?_;clear hK K
    refine zn ?_
    refine W.skip ?_
    refine zs ?_
    refine⟨q+1,by omega,⟨by omega,by omega,hst.2 hb⟩,Wk.fr (by simp[Ac])⟩
  . (repeat refine W.seq ?_);refine W.reg 0 rfl fun K hK=>?_;simp -implicitDefEqProofs (maxSteps:=999999) (disch:=omega) [hlt,hb,b8]
    refine zk ?_;clear hK K
    refine zt ?_
    refine z0 ?_;intro K hK
    refine zk ?_;clear hK K
    refine zr ?_
    rw[hst.1 hb];simp[nb];omega
 .refine W.exit ?_
  have hq' :q=l.length:=by omega
  refine zs ?_
  refine zr ?_
  rw[K0 (k:=q-p) (by omega) ht];rfl
theorem V4 (l:List Bool) (p w:Nat) (hl:l.length<1000000000000) (hw:w≤60) (hp:p+w≤l.length):Aa pg 179 [.ro l.length (AK l),.int .i64 p,.int .i64 w] [] (fun r _=>r= .int .i64 (Bn ((l.drop p).take w))):=by
 refine Aa.start (fn:=Tryz.f179) [.tmp 6] tk rfl rfl rfl (by kernel_rfl) (Nat.le_of_ble_eq_true rfl) rfl (by kernel_rfl) ?_
 rw[Bq]
 refine zs ?_
 refine zs ?_
 refine zs ?_
 (repeat refine W.seq ?_);refine W.block (W.loopS (fun q:Nat=> [(0,.ro l.length (AK l)),(1,.int .i64 p),(2,.int .i64 w),(7,.int .i64 (Bn ((l.drop p).take (q-p)))),(8,.int .i64 q)]) (fun _=> []) (fun q=>p+w-q) (fun q=>p≤q∧q≤p+w) p (Wk.fr (by simp[Ac])) ⟨by omega,by omega⟩ ?_)
 rintro q ⟨hpq,hq⟩
 refine zs ?_
 refine zc ?_ ?_<;>intro h
 .refine W.skip ?_
  have hlt:q<l.length:=by omega
  have hst:Bn ((l.drop p).take (q+1-p))=2*Bn ((l.drop p).take (q-p))+(l[q]).toNat:=by
   obtain⟨k,rfl⟩:∃k,q=p+k:=⟨q-p,by omega⟩
   rw[show p+k+1-p=k+1 by omega,show p+k-p=k by omega]
   exact K4 (w:=w) hlt
  have hnl:Bn ((l.drop p).take (q-p))<2^60:=Nat.lt_of_lt_of_le (FQ _) (Nat.pow_le_pow_right (by omega) (by simp;omega))
  refine zb ?_
  generalize Bn ((l.drop p).take (q-p))=v at*
  cases hb:l[q]
  .rw[hb] at hst
   (repeat refine W.seq ?_);refine W.reg 0 rfl fun K hK=>?_;simp -implicitDefEqProofs (maxSteps:=999999) (disch:=omega) [hlt,hb,b8]
   refine zk ?_;clear hK K
   refine zs ?_
   refine⟨q+1,by omega,⟨by omega,by omega⟩,Wk.fr (by rw[hst];simp[Ac])⟩
  .rw[hb] at hst
   (repeat refine W.seq ?_);refine W.reg 0 rfl fun K hK=>?_;simp -implicitDefEqProofs (maxSteps:=999999) (disch:=omega) [hlt,hb,b8]
   refine zk ?_;clear hK K
   refine zs ?_
   refine⟨q+1,by omega,⟨by omega,by omega⟩,Wk.fr (by rw[hst];simp[Ac])⟩
 .refine W.exit ?_
  have hq' :q=p+w:=by omega
  subst hq'
  refine zs ?_
  exact zR
end Go.Abs
set_option maxRecDepth 100000
namespace Go.Abs
open Go.Proofs
theorem RS (n:Int) (h0:0≤n) (h1:n≤4611686018427387904):Aa pg 182 [.int .i64 n] [] (fun r _=>r= .int .i64 (Cc n)):=by
 refine Aa.start (fn:=Tryz.f182) [.tmp 2] tk rfl rfl rfl (by kernel_rfl) (Nat.le_of_ble_eq_true rfl) rfl (by kernel_rfl) ?_
 rw[At]
 refine zs ?_
 refine zs ?_
 refine zc ?_ ?_<;>intro h
 .refine z0 ?_;intro K hK
  refine zk ?_;clear hK K
  refine zr ?_
  rw[Cc,if_neg (by omega)]
 .refine W.skip ?_
  have e:(-(n+1)).tdiv 2=-((n+1)/2):=by rw[Int.neg_tdiv,Int.tdiv_eq_ediv_of_nonneg (by omega)]
  refine Ae e ?_;intro K hK
  refine zk ?_;clear hK K
  refine zr ?_
  rw[Cc,if_pos (by omega)]
theorem MJ (n:Int):Aa pg 127 [.int .i64 n] [] (fun r _=>r= .bool (decide (0≤n∧n≤15))):=by
 refine Aa.start (fn:=Tryz.f127) [.tmp 2] tk rfl rfl rfl (by kernel_rfl) (Nat.le_of_ble_eq_true rfl) rfl (by kernel_rfl) ?_
 rw[At]
 refine zs ?_
 refine z0 ?_;intro K hK
 refine Ab.eq (HG n 15) (by simp) (by simp) ?_
 refine zx ?_
 refine zk ?_;clear hK K
 exact zR
theorem Jj (k:Int):Aa pg 149 [.int .i64 k] [] (fun r _=>r= .bool (BO k)):=by
 refine Aa.start (fn:=Tryz.f149) [.tmp 2] tk rfl rfl rfl (by kernel_rfl) (Nat.le_of_ble_eq_true rfl) rfl (by kernel_rfl) ?_
 rw[At]
 refine zs ?_
 by_cases h1:k=1
 .refine Ae h1 ?_;intro K hK
  refine zk ?_;clear hK K
  refine zr ?_
  simp[BO,h1]
 .by_cases h2:k=2
  .refine Ae (an h1 h2) ?_;intro K hK
   refine zk ?_;clear hK K
   refine zr ?_
   simp[BO,h2]
  .refine Ae (an h1 h2) ?_;intro K hK
   refine zk ?_;clear hK K
   refine zr ?_
   simp[BO,h1,h2]
theorem KD (s:AP) (hs:AZ s):Aa pg 20 [.agg (Ay false s)] [] (fun r _=>r= .int .i64 (Ct s.vers)):=by
 have h1:=hs.1
 refine Aa.start (fn:=Tryz.f20) [.tmp 2] tk rfl rfl rfl (by kernel_rfl) (Nat.le_of_ble_eq_true rfl) rfl (by kernel_rfl) ?_
 rw[At]
 refine z1 ?_;intro K hK;refine zk ?_;clear hK K
 refine zs ?_
 refine zc ?_ ?_<;>intro h
 .refine zs ?_
  refine zr ?_
  simp[Ct,h]
 .refine W.skip ?_
  have hp:0<s.vers.length:=List.length_pos_iff.2 h
  have hlt:s.vers.length-1<s.vers.length:=by omega
  (repeat refine W.seq ?_);refine W.reg 0 rfl fun K hK=>?_;simp -implicitDefEqProofs (maxSteps:=999999) (disch:=omega) [hlt]
  refine⟨by omega,?_⟩
  refine zk ?_;clear hK K
  refine zr ?_
  rw[Ct,List.getLast?_eq_getElem?,List.getElem?_eq_getElem hlt]
theorem T0 (b:CL) (hb:b.data.size<1000000000):Aa pg 21 [.agg (Ch b)] [] (fun r _=>r= .int .i64 (HA b)):=by
 refine Aa.start (fn:=Tryz.f21) [.tmp 2] tk rfl rfl rfl (by kernel_rfl) (Nat.le_of_ble_eq_true rfl) rfl (by kernel_rfl) ?_
 rw[At]
 refine z1 ?_;intro K hK;refine zk ?_;clear hK K
 refine z0 ?_;intro K hK
 refine zk ?_;clear hK K
 refine zr ?_
 unfold HA
 congr 1
 omega
end Go.Abs
set_option maxRecDepth 100000
namespace Go.Abs
open Go.Proofs
theorem KE (g:Gr) (j:BX) (hl:j.list.length<1000000000000):Aa pg 112 [.agg (AQ false g),.agg (BI false j)] [] (fun r _=>r= .bool (Br g j)):=by
 refine Aa.start (fn:=Tryz.f112) [.tmp 4] tk rfl rfl rfl (by kernel_rfl) (Nat.le_of_ble_eq_true rfl) rfl (by kernel_rfl) ?_
 rw[Am]
 refine z2 ?_;intro K hK;refine zk ?_;clear hK K
 refine zs ?_
 refine zb ?_
 refine zs ?_
 refine zc ?_ ?_<;>intro h
 .refine zs ?_
  refine zr ?_
  simp[Br,h]
 .have h1:=h;clear h
  refine zs ?_
  refine zc ?_ ?_<;>intro h
  .refine zs ?_
   refine zr ?_
   simp[Br,h]
  .refine W.skip ?_
   refine zs ?_
   refine zr ?_
   simp[Br, *]
theorem Rx (s:AP) (id:Int) (hs:AZ s):Aa pg 36 [.agg (Ay false s),.int .i64 id] [] (fun r _=>r= .int .i64 (BM (fun v=>decide (v.id=id)) s.vers)):=by
 have h1:=hs.1
 refine Aa.start (fn:=Tryz.f36) [.tmp 4] tk rfl rfl rfl (by kernel_rfl) (Nat.le_of_ble_eq_true rfl) rfl (by kernel_rfl) ?_
 rw[Am]
 refine z1 ?_;intro K hK;refine zk ?_;clear hK K
 refine zs ?_
 (repeat refine W.seq ?_);refine W.block (W.loopS (fun k:Nat=> [(1,.int .i64 id),(2,.ptr 0 0 0),(5,.int .i64 k)]) (fun _=> [.live 0 (Ay false s)]) (fun k=>s.vers.length-k) (fun k=>k≤s.vers.length∧∀i (h:i<s.vers.length),i<k→s.vers[i].id≠id) 0 (Wk.fr (by simp[Ac])) (by simp) ?_)
 rintro k ⟨hk,ht⟩
 refine zs ?_
 refine zc ?_ ?_<;>intro h
 .refine W.skip ?_
  have hlt:k<s.vers.length:=by omega
  refine zb ?_
  (repeat refine W.seq ?_);refine W.reg 0 rfl fun K hK=>?_;simp -implicitDefEqProofs (maxSteps:=999999) (disch:=omega) [hlt]
  refine zk ?_;clear hK K
  refine zc ?_ ?_<;>intro h
  .refine zs ?_
   refine zr ?_
   exact(Eg hlt (by simp[h]) fun i hi hik=>by simpa using ht i hi hik).symm
  .refine W.skip ?_
   refine zs ?_
   refine⟨k+1,by omega,⟨by omega,?_⟩,Wk.fr (by simp[Ac])⟩
   intro i hi hik
   by_cases e:i=k
   .subst e;exact fun e=>h e
   .exact ht i hi (by omega)
 .refine W.exit ?_
  refine zs ?_
  refine zr ?_
  exact(DK fun i hi=>by simpa using ht i hi (by omega)).symm
end Go.Abs
set_option maxRecDepth 100000
namespace Go.Abs
open Go.Proofs
theorem FC (l:List Int) (hl:l.length<1000000000000):Aa pg 87 [.ro l.length (Ad l)] [] (fun r _=>r= .bool (decide (AI l))):=by
 refine Aa.start (fn:=Tryz.f87) [.tmp 2] tk rfl rfl rfl (by kernel_rfl) (Nat.le_of_ble_eq_true rfl) rfl (by kernel_rfl) ?_
 rw[At]
 refine zs ?_
 refine zs ?_
 (repeat refine W.seq ?_);refine W.block (W.loopS (fun k:Nat=> [(0,.ro l.length (Ad l)),(3,.int .i64 k)]) (fun _=> []) (fun k=>l.length-k) (fun k=>k≤l.length∧AI (l.take k)) 0 (Wk.fr (by simp[Ac])) (by simp[AI]) ?_)
 rintro k ⟨hk,hm⟩
 have hk16:k≤16:=by have:=BQ hm;simp at this;omega
 by_cases hlt:k<l.length
 .have hs:=Mq hlt hm
  have bad:¬AI (l.take (k+1))→¬AI l:=fun g w=>g (Mp (k+1) w)
  refine Ae (an hlt hk16) ?_;intro K hK
  refine zk ?_;clear hK K
  refine zt ?_
  refine W.skip ?_
  have sp:=MJ l[k]
  refine zb ?_
  by_cases c1:0≤l[k]∧l[k]≤15
  rotate_left
  .rw[decide_eq_false c1] at sp
   (repeat refine W.seq ?_);refine W.regd 0 rfl true Cq (by kernel_rfl) fun K hK=>?_;simp -implicitDefEqProofs (maxSteps:=999999) (disch:=omega) [hlt]
   refine Ah.eq sp (by simp) (by simp) ?_
   refine AM hlt ?_
   refine zk ?_;clear hK K
   refine zt ?_
   refine zs ?_
   refine zr ?_
   exact bad fun g=>c1 (by have:=(hs.1 g).1;omega)
  .rw[decide_eq_true c1] at sp
   by_cases c2:0<k
   .by_cases c3:l[k]≤l[k-1]
    . (repeat refine W.seq ?_);refine W.regd 0 rfl true Cq (by kernel_rfl) fun K hK=>?_;simp -implicitDefEqProofs (maxSteps:=999999) (disch:=omega) [hlt]
      refine Ah.eq sp (by simp) (by simp) ?_
      refine AM (an hlt (an c2 c3)) ?_
      refine⟨by omega,?_⟩
      refine zk ?_;clear hK K
      refine zt ?_
      refine zs ?_
      refine zr ?_
      exact bad fun g=>by have:=(hs.1 g).2 c2;omega
    . (repeat refine W.seq ?_);refine W.regd 0 rfl true Cq (by kernel_rfl) fun K hK=>?_;simp -implicitDefEqProofs (maxSteps:=999999) (disch:=omega) [hlt]
      refine Ah.eq sp (by simp) (by simp) ?_
      refine AM (an hlt (an c2 c3)) ?_
      refine⟨by omega,?_⟩
      refine zk ?_;clear hK K
      refine zn ?_
      refine W.skip ?_
      refine zs ?_
      exact⟨k+1,by omega,⟨by omega,hs.2 ⟨by omega,fun _=>by omega⟩⟩,Wk.fr (by simp[Ac])⟩
   . (repeat refine W.seq ?_);refine W.regd 0 rfl true Cq (by kernel_rfl) fun K hK=>?_;simp -implicitDefEqProofs (maxSteps:=999999) (disch:=omega) [hlt]
     refine Ah.eq sp (by simp) (by simp) ?_
     refine AM (an hlt c2) ?_
     refine zk ?_;clear hK K
     refine zn ?_
     refine W.skip ?_
     refine zs ?_
     exact⟨k+1,by omega,⟨by omega,hs.2 ⟨by omega,fun h=>absurd h c2⟩⟩,Wk.fr (by simp[Ac])⟩
 .have hk' :k=l.length:=by omega
  subst hk'
  rw[List.take_length] at hm
  refine z0 ?_;intro K hK
  refine zk ?_;clear hK K
  refine zn ?_
  refine W.exit ?_
  refine zs ?_
  refine zr ?_
  have:=BQ hm
  simp[hm]
  try omega
end Go.Abs
set_option maxRecDepth 100000
namespace Go.Abs
open Go.Proofs
theorem RT (n:Int) (h:-1000000≤n∧n≤1000000):Aa pg 205 [.int .i64 n] [] (fun r _=>r= .int .i64 (D3 n)):=by
 refine Aa.start (fn:=Tryz.f205) [.tmp 2] tk rfl rfl rfl (by kernel_rfl) (Nat.le_of_ble_eq_true rfl) rfl (by kernel_rfl) ?_
 rw[At]
 refine zs ?_
 refine zs ?_
 refine zc ?_ ?_<;>intro h
 .refine z0 ?_;intro K hK
  refine zk ?_;clear hK K
  refine zr ?_
  simp[D3];omega
 .refine W.skip ?_
  refine z0 ?_;intro K hK
  refine zk ?_;clear hK K
  refine zr ?_
  simp[D3];omega
theorem Ry (a b:Nat):(a:Int).fdiv (b:Int)=((a/b:Nat):Int):=by rw[Int.fdiv_eq_ediv_of_nonneg _ (by omega)];rfl
theorem V5 (n:Nat) (h:1≤n) (h2:n<1099511627776):Aa pg 180 [.int .i64 n] [] (fun r _=>r= .int .i64 (Nat.log2 n)):=by
 have hlg:=(Nat.log2_lt (n:=n) (k:=40) (by omega)).2 (by omega)
 refine Aa.start (fn:=Tryz.f180) [.tmp 2] tk rfl rfl rfl (by kernel_rfl) (Nat.le_of_ble_eq_true rfl) rfl (by kernel_rfl) ?_
 rw[At]
 refine zs ?_
 refine zs ?_
 (repeat refine W.seq ?_);refine W.block (W.loopS (fun z:Nat×Nat=> [(0,.int .i64 (z.1:Nat)),(3,.int .i64 (z.2:Nat))]) (fun _=> []) (fun z=>z.1) (fun z=>z.1=n/2^z.2∧1≤z.1∧z.2≤Nat.log2 n) (n,0) (Wk.fr (by simp[Ac])) ⟨by simp,h,by simp⟩ ?_)
 rintro⟨q,k⟩ ⟨hq,hq1,hk⟩
 simp only at hq hq1 hk
 have hp:0<2^k:=Nat.pow_pos (by omega)
 have hdm:=Nat.div_add_mod n (2^k)
 have hml:=Nat.mod_lt n hp
 rw[←hq] at hdm
 refine zs ?_
 refine zc ?_ ?_<;>intro h
 .refine W.skip ?_
  have hf:(q:Int).fdiv 2=((q/2:Nat):Int):=Ry q 2
  have hk1:k+1≤Nat.log2 n:=by
   refine(Nat.le_log2 (by omega)).2 ?_
   rw[Nat.pow_succ]
   have:2^k*2≤2^k*q:=Nat.mul_le_mul_left _ (by omega)
   omega
  refine zb ?_
  refine Ae hf ?_;intro K hK
  refine zk ?_;clear hK K
  refine zs ?_
  exact⟨(q/2,k+1),by simp only;omega,⟨by simp only;rw[hq,Nat.div_div_eq_div_mul,Nat.pow_succ],by simp only;omega,hk1⟩,Wk.fr (by simp[Ac])⟩
 .refine W.exit ?_
  have:q=1:=by omega
  subst this
  refine zs ?_
  refine zr ?_
  rw[KZ (q:=k) (by omega) (by rw[Nat.pow_succ];omega)]
theorem RU (xs:List Bool) (u v w:Nat) (hx:xs.length<1000000000) (hw:w≤60) (hv:v<1099511627776):Aa pg 203 [.tok 0 u 1 0 xs.length,.int .i64 v,.int .i64 w] [.live u (AK xs)] (fun r M=>r= .own 1 (xs.length+w) (AK (xs++Bv v w))∧M=[.dead]):=by
 refine Aa.start (fn:=Tryz.f203) [.tmp 6] tk rfl rfl rfl (by kernel_rfl) (Nat.le_of_ble_eq_true rfl) rfl (by kernel_rfl) ?_
 rw[Bq]
 refine zs ?_
 refine zs ?_
 rw[show AK xs=AK (xs++(Bv v w).take 0) by simp]
 (repeat refine W.seq ?_);refine W.block (W.loopS (fun k:Nat=> [(0,.tok 0 (u+k) 1 0 (xs.length+k)),(1,.int .i64 v),(7,.int .i64 ((w:Int)-1-k))]) (fun k=> [.live (u+k) (AK (xs++(Bv v w).take k))]) (fun k=>w-k) (fun k=>k≤w) 0 (Wk.fr (by simp[Ac])) (by simp) ?_)
 intro k hk
 by_cases hlt:k<w
 .obtain⟨i,hi⟩:∃i:Nat,(w:Int)-1-k=i:=⟨w-1-k,by omega⟩
  have hmin:min i 64=i:=by omega
  rw[hi]
  refine zs ?_
  refine zt ?_
  refine W.skip ?_
  refine zb ?_
  obtain⟨Q,hQd⟩:∃Q,Q=v/2^i:=⟨_,rfl⟩
  have hQ:(v:Int)/2^i=(Q:Int):=by rw[hQd,Int.natCast_ediv,Int.natCast_pow];rfl
  have hQv:Q≤v:=by rw[hQd];exact Nat.div_le_self _ _
  have hand:=Jh (Q:Int) (by omega) (by omega)
  have hw8:IntKind.u8.wrap ((Q:Int)%2)=(if Q%2=1 then 1 else 0):=by
   by_cases h:Q%2=1
   .have:(Q:Int)%2=1:=by omega
    rw[this,if_pos h];rfl
   .have:(Q:Int)%2=0:=by omega
    rw[this,if_neg h];rfl
  have hto:(Bv v w).take (k+1)=(Bv v w).take k++[decide (Q%2=1)]:=by
   rw[List.take_add_one,List.getElem?_eq_getElem (by simpa using hlt)]
   have:(Bv v w)[k]'(by simpa using hlt)=decide (Q%2=1):=by
    simp only[Bv,List.getElem_map,List.getElem_range]
    rw[hQd,show w-1-k=i by omega]
   rw[this];rfl
  refine Mk (an hmin (an hQ (an hand hw8))) ?_;intro K hK
  refine⟨by omega,by omega,?_⟩
  refine zk ?_;clear hK K
  refine zs ?_
  refine⟨k+1,by omega,by omega,Wk.cutM (k:=1) ?_ ?_ (by simp) (by simp) (by simp) (by simp)⟩
  .simp[Ac]
   omega
  .rw[hto,←List.append_assoc,MI]
   simp[AK,b8];omega
 .have hk' :k=w:=by omega
  subst hk'
  have e:((k:Int)-1-k)=-1:=by omega
  rw[e]
  refine zs ?_
  refine zn ?_
  refine W.exit ?_
  refine zs ?_
  refine zr ?_
  rw[List.take_of_length_le (by simp),List.take_of_length_le (by simp)]
end Go.Abs
set_option maxRecDepth 100000
namespace Go.Abs
open Go.Proofs
theorem ER (xs:List Bool) (u n:Nat) (hx:xs.length<100000000) (h1:1≤n) (h2:n<1099511627776):Aa pg 166 [.tok 0 u 1 0 xs.length,.int .i64 2,.int .i64 n] [.live u (AK xs)] (fun r M=>r= .own 1 (xs.length+(Ba n).length) (AK (xs++Ba n))∧M=[.dead]):=by
 have hlg:=(Nat.log2_lt (n:=n) (k:=40) (by omega)).2 (by omega)
 have hgl:=Gy n
 obtain⟨q,hq⟩:∃q,q=Nat.log2 n:=⟨_,rfl⟩
 have spl:=V5 n h1 h2
 rw[←hq] at spl hlg hgl
 refine Aa.start (fn:=Tryz.f166) [.tmp 6] tk rfl rfl rfl (by kernel_rfl) (Nat.le_of_ble_eq_true rfl) rfl (by kernel_rfl) ?_
 rw[Bq]
 refine zs ?_
 refine zs ?_
 refine zb ?_
 refine zs ?_
 refine zn ?_
 refine zs ?_
 refine zt ?_
 refine z0 ?_;intro K hK
 refine Ab.eq spl (by simp) (by simp) ?_
 refine zx ?_
 refine Ab.pass [0] (RU xs u 0 q (by omega) (by omega) (by omega)) (by simp) (by simp) (by simp) (by simp) ?_
 rintro r M ⟨rfl,rfl⟩ _
 refine zx ?_
 refine Ab.eq spl (by simp) (by simp) ?_
 refine zx ?_
 have sp2:=RU (xs++Bv 0 q) 0 n (q+1) (by simp;omega) (by omega) (by omega)
 refine Ab.pass [1] sp2 (by simp) (by simp) (by simp) (by simp) ?_
 rintro r M ⟨rfl,rfl⟩ _
 refine zx ?_
 refine zk ?_;clear hK K
 refine zr ?_
 have hgb:Ba n=Bv 0 q++Bv n (q+1):=by rw[Ba,hq]
 exact⟨by omega,by rw[List.take_of_length_le (by simp;omega),hgb]⟩
theorem Vb (n:Int):Aa pg 181 [.int .i64 2,.int .i64 n] [] (fun r _=>r= .bool (decide (1≤n∧n≤1073741824))):=by
 refine Aa.start (fn:=Tryz.f181) [.tmp 4] tk rfl rfl rfl (by kernel_rfl) (Nat.le_of_ble_eq_true rfl) rfl (by kernel_rfl) ?_
 rw[Am]
 refine zs ?_
 refine zs ?_
 refine zn ?_
 refine W.skip ?_
 refine z0 ?_;intro K hK
 refine Ab.eq (DA 2 2 5) (by simp) (by simp) ?_
 rw[decide_eq_true (by omega)]
 refine zx ?_
 refine Ab.eq (DA n 1 1073741824) (by simp) (by simp) ?_
 refine zx ?_
 refine zk ?_;clear hK K
 exact zR
def ES (o:Option (Nat×Nat)):AV:=match o with|some x=> .tup [.int .i64 x.1,.int .i64 x.2] |none=> .tup [.int .i64 (-1),.int .i64 0]
theorem En (l:List Bool) (p:Nat) (hl:l.length<1000000000) (hp:p≤l.length):Aa pg 143 [.ro l.length (AK l),.int .i64 p,.int .i64 2] [] (fun r _=>r=ES (AH l p)):=by
 have spz:=TZ l p (by omega) hp
 refine Aa.start (fn:=Tryz.f143) [.tmp 6,.tmp 7] tk rfl rfl rfl (by kernel_rfl) (Nat.le_of_ble_eq_true rfl) rfl (by kernel_rfl) ?_
 rw[Bq]
 refine zs ?_
 refine z0 ?_;intro K hK
 refine Ab.eq spz (by simp) (by simp) ?_
 cases ha:ahead l p with
 |none=>
  have hg:AH l p=none:=by unfold AH;rw[ha]
  simp only[DQ];simp -implicitDefEqProofs (maxSteps:=999999) (disch:=omega) [nb]
  refine zk ?_;clear hK K
  refine zs ?_
  refine zt ?_
  refine zs ?_
  refine zr ?_
  rw[hg];rfl
 |some q=>
  have hql:p+q<l.length:=by
   have:=List.findIdx?_eq_some_iff_findIdx_eq.1 ha
   simp at this;omega
  simp only[DQ];simp -implicitDefEqProofs (maxSteps:=999999) (disch:=omega) [nb]
  refine zk ?_;clear hK K
  refine zs ?_
  refine zn ?_
  refine W.skip ?_
  refine z0 ?_;intro K hK
  refine zk ?_;clear hK K
  refine zs ?_
  refine zb ?_
  refine zs ?_
  refine zn ?_
  refine zs ?_
  refine zt ?_
  by_cases c:q≤30∧p+2*q+1≤l.length
  rotate_left
  .have hg:AH l p=none:=by unfold AH;rw[ha];simp only;rw[if_neg c]
   by_cases c1:q≤30
   .have c2:¬p+2*q+1≤l.length:=fun h=>c ⟨c1,h⟩
    have c3:(l.length:Int)<(p:Int)+2*q+1:=by omega
    have c4:¬(30:Int)<(q:Int):=by omega
    refine Ae (an c3 c4) ?_;intro K hK
    refine zk ?_;clear hK K
    refine zt ?_
    refine zs ?_
    refine zr ?_
    rw[hg];rfl
   .have c4:(30:Int)<(q:Int):=by omega
    refine Ae c4 ?_;intro K hK
    refine zk ?_;clear hK K
    refine zt ?_
    refine zs ?_
    refine zr ?_
    rw[hg];rfl
  have c4:¬(30:Int)<(q:Int):=by omega
  have c3:¬(l.length:Int)<(p:Int)+2*q+1:=by omega
  refine Ae (an c3 c4) ?_;intro K hK
  refine zk ?_;clear hK K
  refine zn ?_
  refine W.skip ?_
  have spg:=V4 l (p+q) (q+1) (by omega) (by omega) (by omega)
  have hgr:AH l p=if Bn ((l.drop (p+q)).take (q+1))≤1073741824 then some (Bn ((l.drop (p+q)).take (q+1)),p+2*q+1) else none:=by
   unfold AH;rw[ha];simp only;rw[if_pos c]
  have hpos:1≤Bn ((l.drop (p+q)).take (q+1)):=by
   obtain⟨r,hr⟩:=Gz ha
   have e1:(l.drop (p+q)).take (q+1)=true::r.take q:=by
    rw[←List.drop_drop,hr,List.drop_append];simp
   rw[e1,EP]
   have:0<2^(r.take q).length:=Nat.pow_pos (by omega)
   simp only[Bool.toNat_true,Nat.one_mul];omega
  generalize Bn ((l.drop (p+q)).take (q+1))=v at*
  refine z0 ?_;intro K hK
  refine Ab.eq spg (by simp) (by simp) ?_
  refine zx ?_
  refine zk ?_;clear hK K
  refine z0 ?_;intro K hK
  refine Ab.eq (Vb v) (by simp) (by simp) ?_
  by_cases cv:v≤1073741824
  .rw[decide_eq_true (by omega)]
   refine zx ?_
   refine zk ?_;clear hK K
   refine zn ?_
   refine W.skip ?_
   refine zs ?_
   refine zr ?_
   rw[hgr,if_pos cv]
   simp[ES]
  .rw[decide_eq_false (by omega)]
   refine zx ?_
   refine zk ?_;clear hK K
   refine zt ?_
   refine zs ?_
   refine zr ?_
   rw[hgr,if_neg cv];rfl
end Go.Abs
namespace Go.Abs
theorem Lj {bs:List Bool}:∀(k:Nat) (f:Bool) (p:Nat) (last:Int) (r:List Int×Nat),CP bs k f p last=some r→r.1.Pairwise (·<·)∧(f=false→∀x∈r.1,last<x)
 |0,f,p,last,r,h=>by simp[CP] at h;subst h;simp
 |k+1,f,p,last,r,h=>by
  simp only[CP] at h
  split at h
  .simp at h
  .rename_i x hx
   obtain⟨h1,h2,h3,h4,_⟩:=AJ hx
   split at h
   .rename_i q hq
    simp at h;subst h
    obtain⟨g1,g2⟩:=Lj k false x.2 _ q hq
    refine⟨?_,?_⟩
    .simp only[List.pairwise_cons];exact⟨fun z hz=>g2 rfl z hz,g1⟩
    .intro hf z hz
     subst hf
     have g3:=g2 rfl
     simp only[Bool.false_eq_true,if_false] at g3 hz
     simp only[List.mem_cons] at hz
     rcases hz with rfl|hz
     .omega
     .have:=g3 z hz;omega
   .simp at h
theorem IY {bs:List Bool}:∀(k:Nat) (f:Bool) (p:Nat) (last:Int),B1 bs k f p last=match CP bs k f p last with|some r=>if∀x∈r.1,0≤x∧x<16 then some r else none|none=>none
 |0,f,p,last=>by simp[B1,CP]
 |k+1,f,p,last=>by
  simp only[B1,CP]
  cases hx:AH bs p with
  |none=>rfl
  |some x=>
   simp only
   generalize (last+(if f=true then Cc ((x.1:Int)-1) else(x.1:Int)))=y
   rw[IY k false x.2 y]
   cases CP bs k false x.2 y with
   |none=>simp
   |some r=>
    simp only[List.mem_cons,forall_eq_or_imp]
    by_cases h1:0≤y∧y<16
    .by_cases h2:∀x∈r.1,0≤x∧x<16
     .rw[if_pos h1,if_pos h2,if_pos ⟨h1,h2⟩]
     .rw[if_pos h1,if_neg h2,if_neg (fun g=>h2 g.2)]
    .rw[if_neg h1,if_neg (fun g=>h1 g.1)]
theorem EC (bs:List Bool) (p:Nat) (v:Int):DF bs p v=Dx bs p v:=by
 unfold DF Dx
 cases hx:AH bs p with
 |none=>rfl
 |some x=>
  simp only
  split
  .rw[IY]
   cases hq:CP bs (x.1-1) true x.2 v with
   |none=>rfl
   |some r=>
    simp only
    have:=(Lj _ _ _ _ _ hq).1
    by_cases h2:∀x∈r.1,0≤x∧x<16
    .rw[if_pos h2,if_pos ⟨h2,this⟩]
    .rw[if_neg h2,if_neg (fun g=>h2 g.1)]
  .rfl
theorem NT (l:List Bool) (p:Nat):FG l p p=[]:=by simp[FG]
theorem MK {f:Bool} {last v:Int} {n:Nat} (h:1≤n) (hv:f=true→last=v):(if f=true then D3 (last+(if f=true then Cc ((n:Int)-1) else(n:Int))-v)+1 else last+(if f=true then Cc ((n:Int)-1) else(n:Int))-last).toNat=n:=by
 cases f
 .simp;omega
 .have:=hv rfl;subst this
  simp only[if_true]
  have:last+Cc ((n:Int)-1)-last=Cc ((n:Int)-1):=by omega
  rw[this,TE _ (by omega)];omega
theorem J9 {bs:List Bool} (v:Int):∀(k:Nat) (f:Bool) (p:Nat) (last:Int) (r:List Int×Nat),(f=true→last=v)→p≤bs.length→B1 bs k f p last=some r→p≤r.2∧r.2≤bs.length∧FG bs p r.2=C7 v r.1 f last
 |0,f,p,last,r,hv,hp,h=>by simp[B1] at h;subst h;simp[C7,NT,hp]
 |k+1,f,p,last,r,hv,hp,h=>by
  simp only[B1] at h
  split at h
  .simp at h
  .rename_i x hx
   obtain⟨h1,h2,h3,h4,h5⟩:=AJ hx
   have hc:=MK h1 hv
   generalize (last+(if f=true then Cc ((x.1:Int)-1) else(x.1:Int)))=y at h hc
   split at h
   .split at h
    .rename_i q hq
     simp at h;subst h
     obtain⟨g1,g2,g3⟩:=J9 v k false x.2 _ q (by simp) h4 hq
     refine⟨by simp only;omega,g2,?_⟩
     simp only[C7]
     rw[hc,←h5,←g3,FR (by omega) g1]
    .simp at h
   .simp at h
theorem T1 (v:Int) (l:List Int) (e e' :Int):C7 v l true e=C7 v l true e' :=by cases l<;>simp[C7]
theorem T2 (v:Int) (l:List (Int×Int)) (e e' :Int):CW v l true e=CW v l true e' :=by cases l<;>simp[CW]
theorem P6 {bs:List Bool} {p:Nat} {v:Int} {r:List Int×Nat} (h:Dx bs p v=some r):p≤r.2∧r.2≤bs.length∧FG bs p r.2=DS v r.1:=by
 unfold Dx at h
 split at h
 .simp at h
 .rename_i x hx
  obtain⟨h1,h2,h3,h4,h5⟩:=AJ hx
  split at h
  .obtain⟨g1,g2,g3⟩:=J9 v _ _ _ _ _ (fun _=>rfl) h4 h
   have h6:=(GB _ _ _ _ _ h4 h).1
   refine⟨by omega,g2,?_⟩
   rw[DS,h6,show x.1-1+1=x.1 by omega,←h5,T1 v r.1 0 v,←g3,FR (by omega) g1]
  .simp at h
theorem Ka {bs:List Bool} (v:Int):∀(k:Nat) (f:Bool) (p:Nat) (e:Int) (r:List (Int×Int)×Nat),(f=true→e=v)→p≤bs.length→Cr bs k f p e=some r→r.1.length=k∧p≤r.2∧r.2≤bs.length∧FG bs p r.2=CW v r.1 f e
 |0,f,p,e,r,hv,hp,h=>by simp[Cr] at h;subst h;simp[CW,NT,hp]
 |k+1,f,p,e,r,hv,hp,h=>by
  simp only[Cr] at h
  split at h
  .simp at h
  .rename_i x hx
   obtain⟨h1,h2,h3,h4,h5⟩:=AJ hx
   have hc:=MK h1 hv
   generalize (e+(if f=true then Cc ((x.1:Int)-1) else(x.1:Int)))=a at h hc
   split at h
   .simp at h
   .rename_i y hy
    obtain⟨i1,i2,i3,i4,i5⟩:=AJ hy
    split at h
    .rename_i q hq
     simp at h;subst h
     obtain⟨g0,g1,g2,g3⟩:=Ka v k false y.2 _ q (by simp) i4 hq
     refine⟨by simp[g0],by simp only;omega,g2,?_⟩
     simp only[CW]
     rw[hc,show((y.1:Int)-1+3-3+1).toNat=y.1 by omega,←h5,←i5,←g3,FR (by omega) (by omega),FR (by omega) g1]
    .simp at h
def ML:List Int→Bool→Int→Prop
 | [],_,_=>True
 |x::l,f,e=>(f=true∨e<x)∧ML l false x
def GM:List (Int×Int)→Bool→Int→Prop
 | [],_,_=>True
 | (a,n)::l,f,e=>(f=true∨e<a)∧3≤n∧GM l false (a+n)
theorem MN {f:Bool} {v e a b:Int} {s t:List Bool} (ha:f=true∨e<a) (hb:f=true∨e<b) (h:Ba (if f=true then D3 (a-v)+1 else a-e).toNat++s=Ba (if f=true then D3 (b-v)+1 else b-e).toNat++t):a=b∧s=t:=by
 cases f
 .simp only[Bool.false_eq_true,if_false,false_or] at*
  obtain⟨h1,h2⟩:=Fz (by omega) (by omega) h
  exact⟨by omega,h2⟩
 .simp only[if_true] at*
  have z1:=FN (a-v)
  have z2:=FN (b-v)
  obtain⟨h1,h2⟩:=Fz (by omega) (by omega) h
  have:=TF (a:=a-v) (b:=b-v) (by omega)
  exact⟨by omega,h2⟩
theorem Lk (v:Int):∀(l m:List Int) (f:Bool) (e:Int) (s t:List Bool),l.length=m.length→ML l f e→ML m f e→C7 v l f e++s=C7 v m f e++t→l=m∧s=t
 | [],[],f,e,s,t,_,_,_,h=>by simpa[C7] using h
 | [],_::_,f,e,s,t,hl,_,_,h=>by simp at hl
 |_::_,[],f,e,s,t,hl,_,_,h=>by simp at hl
 |x::l,y::m,f,e,s,t,hl,h1,h2,h=>by
  simp only[C7,List.append_assoc,ML] at*
  obtain⟨rfl,h3⟩:=MN h1.1 h2.1 h
  obtain⟨rfl,h4⟩:=Lk v l m false x s t (by simpa using hl) h1.2 h2.2 h3
  exact⟨rfl,h4⟩
theorem Ll (v:Int):∀(l m:List (Int×Int)) (f:Bool) (e:Int) (s t:List Bool),l.length=m.length→GM l f e→GM m f e→CW v l f e++s=CW v m f e++t→l=m∧s=t
 | [],[],f,e,s,t,_,_,_,h=>by simpa[CW] using h
 | [],_::_,f,e,s,t,hl,_,_,h=>by simp at hl
 |_::_,[],f,e,s,t,hl,_,_,h=>by simp at hl
 | (x,n)::l,(y,k)::m,f,e,s,t,hl,h1,h2,h=>by
   simp only[CW,List.append_assoc,GM] at*
   obtain⟨rfl,h3⟩:=MN h1.1 h2.1 h
   obtain⟨h5,h3⟩:=Fz (by omega) (by omega) h3
   have:n=k:=by omega
   subst this
   obtain⟨rfl,h4⟩:=Ll v l m false (x+n) s t (by simpa using hl) h1.2.2 h2.2.2 h3
   exact⟨rfl,h4⟩
theorem KF:∀(l:List Int) (f:Bool) (e:Int),l.Pairwise (·<·)→(f=true∨∀x∈l,e<x)→ML l f e
 | [],_,_,_,_=>trivial
 |x::l,f,e,h,he=>by
  rw[List.pairwise_cons] at h
  exact⟨he.imp id fun g=>g x (by simp),KF l false x h.2 (.inr h.1)⟩
theorem IZ:∀(l:List Int) (x:Int),(x::l).Pairwise (·<·)→∀y∈(x::l).drop (A7 (x::l)),x+(A7 (x::l):Nat)<y
 | [],x,_,y,hy=>by simp[A7] at hy
 |z::t,x,h,y,hy=>by
  rw[List.pairwise_cons] at h
  have hz:=h.1 z (by simp)
  simp only[A7] at hy ⊢
  split at hy
  .rename_i e
   subst e
   simp only[List.drop_succ_cons] at hy
   have:=IZ t (x+1) h.2 y hy
   simp only[if_true]
   omega
  .rename_i e
   rw[if_neg e]
   simp only[List.drop_succ_cons,List.drop_zero] at hy
   have h2:=h.2
   rw[List.pairwise_cons] at h2
   simp only[List.mem_cons] at hy
   rcases hy with rfl|hy
   .omega
   .have:=h2.1 y hy;omega
theorem GD:∀(n:Nat) (l:List Int) (f:Bool) (e:Int),l.length≤n→l.Pairwise (·<·)→(f=true∨∀x∈l,e<x)→GM (As l).1 f e∧3*(As l).1.length≤l.length∧(As l).2.Pairwise (·<·)∧∀x∈(As l).2,x∈l
 |_,[],_,_,_,_,_=>by simp[As,GM]
 |0,x::l,_,_,h,_,_=>by simp at h
 |n+1,x::l,f,e,h,hp,he=>by
  have h1:=FM x l
  have h2:=Gu (x::l)
  have h3:((x::l).drop (A7 (x::l))).length=(x::l).length-A7 (x::l):=by simp
  have hd:=hp.sublist (List.drop_sublist (A7 (x::l)) (x::l))
  have hn:=IZ l x hp
  have hm:∀y∈(x::l).drop (A7 (x::l)),y∈x::l:=fun y hy=>List.mem_of_mem_drop hy
  rw[As]
  split
  .rename_i hk
   obtain⟨a1,a2,a3,a4⟩:=GD n ((x::l).drop (A7 (x::l))) false (x+(A7 (x::l):Nat)) (by omega) hd (.inr hn)
   refine⟨⟨he.imp id fun g=>g x (by simp),by omega,a1⟩,?_,a3,fun y hy=>hm y (a4 y hy)⟩
   simp only[List.length_cons] at*;omega
  .obtain⟨a1,a2,a3,a4⟩:=GD n ((x::l).drop (A7 (x::l))) f e (by omega) hd (he.imp id fun g y hy=>g y (hm y hy))
   refine⟨a1,by show 3*(As ((x::l).drop (A7 (x::l)))).1.length≤_;omega,?_,fun y hy=>?_⟩
   .rw[List.pairwise_append]
    refine⟨hp.sublist (List.take_sublist _ _),a3,fun y hy z hz=>?_⟩
    have hp' :((x::l).take (A7 (x::l))++(x::l).drop (A7 (x::l))).Pairwise (·<·):=by rw[List.take_append_drop];exact hp
    rw[List.pairwise_append] at hp'
    exact hp'.2.2 y hy z (a4 z hz)
   .simp only[List.mem_append] at hy
    rcases hy with hy|hy
    .exact List.mem_of_mem_take hy
    .exact hm y (a4 y hy)
theorem Kb:∀(l m:List Int),l.Pairwise (·<·)→m.Pairwise (·<·)→(∀x,x∈l↔x∈m)→l=m
 | [],[],_,_,_=>rfl
 | [],y::m,_,_,h=>by have:=(h y).2 (by simp);simp at this
 |x::l,[],_,_,h=>by have:=(h x).1 (by simp);simp at this
 |x::l,y::m,h1,h2,h=>by
  rw[List.pairwise_cons] at h1 h2
  have e:x=y:=by
   have a:=(h x).1 (by simp)
   have b:=(h y).2 (by simp)
   simp only[List.mem_cons] at a b
   rcases a with a|a
   .exact a
   .rcases b with b|b
    .exact b.symm
    .have:=h2.1 x a;have:=h1.1 y b;omega
  subst e
  congr 1
  refine Kb l m h1.2 h2.2 fun z=>⟨fun hz=>?_,fun hz=>?_⟩
  .have a:=(h z).1 (by simp[hz])
   simp only[List.mem_cons] at a
   rcases a with rfl|a
   .have:=h1.1 z hz;omega
   .exact a
  .have a:=(h z).2 (by simp[hz])
   simp only[List.mem_cons] at a
   rcases a with rfl|a
   .have:=h2.1 z hz;omega
   .exact a
theorem GE (p:Int→Bool) (x:Int):x∈Gv p↔(0≤x∧x<16)∧p x=true:=by
 simp only[Gv,List.mem_filter,List.mem_map,List.mem_range]
 constructor
 .rintro⟨⟨i,hi,rfl⟩,h⟩;exact⟨by omega,h⟩
 .rintro⟨h,hp⟩;exact⟨⟨x.toNat,by omega,by omega⟩,hp⟩
theorem HJ (p:Int→Bool):(Gv p).Pairwise (·<·):=by
 unfold Gv
 refine List.Pairwise.filter _ (List.pairwise_map.2 ?_)
 exact(List.pairwise_lt_range).imp fun h=>by omega
theorem Lm (p:Int→Bool):AI (Gv p):=⟨fun x hx=>((GE p x).1 hx).1,HJ p⟩
theorem Kc (l:List Int):(BN l).Perm l:=List.mergeSort_perm _ _
theorem GF (l:List Int) (x:Int):x∈BN l↔x∈l:=(Kc l).mem_iff
theorem Rz (l:List Int):(BN l).Pairwise (·≤·):=by
 have:=List.pairwise_mergeSort (le:=fun x y:Int=>decide (x≤y)) (fun a b c h1 h2=>by simp at*;omega) (fun a b=>by simp;omega) l
 exact this.imp fun h=>by simpa using h
theorem RA (l:List Int):(BN l).Pairwise (·<·)↔l.Nodup:=by
 rw[←(Kc l).nodup_iff]
 constructor
 .intro h;exact h.imp fun h=>by omega
 .intro h
  exact(Rz l).imp₂ (fun a b h1 h2=>by have:a≠b:=h2;omega) h
theorem HK (l:List Int):AI (BN l)↔(∀x∈l,0≤x∧x<16)∧l.Nodup:=by
 unfold AI
 rw[RA]
 simp only[GF]
theorem HL {l:List Int} (h:l.Pairwise (·<·)):l.Nodup:=h.imp fun h=>by omega
theorem I0:∀(r:List (Int×Int)) (e:Int) (W:List Int),CU r e=some W→Dy r e
 | [],_,_,_=>trivial
 | (a,n)::rs,e,W,h=>by
   simp only[CU] at h
   split at h
   .simp at h
   .split at h
    .rename_i l hl
     exact⟨by omega,by omega,by omega,by omega,by omega,I0 rs (a+n) l hl⟩
    .simp at h
theorem GN:∀(r:List (Int×Int)) (e:Int),Dy r e→∃W,CU r e=some W∧W.Pairwise (·<·)∧(∀x∈W,e<x)∧(∀x,x∈W↔Bw r x=true)∧∀x∈W,0≤x∧x<16
 | [],e,_=>⟨[],rfl,by simp,by simp,by simp[Bw],by simp⟩
 | (a,n)::rs,e,h=>by
   obtain⟨h1,h2,h3,h4,h5,h6⟩:=h
   obtain⟨W,a1,a2,a3,a4,a5⟩:=GN rs (a+n) h6
   have hmem:∀x:Int,x∈(List.range n.toNat).map (fun i=>a+(i:Nat))↔a≤x∧x<a+n:=by
    intro x
    simp only[List.mem_map,List.mem_range]
    constructor
    .rintro⟨i,hi,rfl⟩;omega
    .intro hx;exact⟨(x-a).toNat,by omega,by omega⟩
   refine⟨_,by simp only[CU];rw[if_neg (by omega),a1],?_,?_,?_,?_⟩
   .rw[List.pairwise_append]
    refine⟨List.pairwise_map.2 (List.pairwise_lt_range.imp fun h=>by omega),a2,fun x hx y hy=>?_⟩
    have:=(hmem x).1 hx;have:=a3 y hy;omega
   .intro x hx
    rcases List.mem_append.1 hx with hx|hx
    .have:=(hmem x).1 hx;omega
    .have:=a3 x hx;omega
   .intro x
    rw[List.mem_append,hmem,a4]
    simp[Bw]
   .intro x hx
    rcases List.mem_append.1 hx with hx|hx
    .have:=(hmem x).1 hx;omega
    .exact a5 x hx
theorem HM (r:List (Int×Int)) (g:List Int) (hg:AI g) (l:List Int):EA r g=some l↔C6 r g=some l:=by
 unfold EA C6
 constructor
 .intro h
  split at h
  .simp at h
  .rename_i W hW
   have hr:=I0 _ _ _ hW
   obtain⟨W',b1,b2,b3,b4,b5⟩:=GN r (-1) hr
   rw[hW] at b1;simp at b1;subst b1
   split at h
   .rename_i hm
    simp at h;subst h
    have hd:=(HK _).1 hm.2
    rw[List.nodup_append] at hd
    rw[if_pos]
    .congr 1
     refine Kb _ _ (HJ _) hm.2.2 fun x=>?_
     rw[GE,GF,List.mem_append,b4]
     simp only[Bool.or_eq_true,List.contains_eq_mem,decide_eq_true_eq]
     constructor
     .rintro⟨_,h|h⟩
      .exact .inr h
      .exact .inl h
     .intro h
      refine⟨hd.1 x (by rw[List.mem_append,b4];exact h),h.symm⟩
    .refine⟨hm.1,hr,fun x hx=>?_⟩
     cases hi:Bw r x with
     |false=>rfl
     |true=>exact absurd rfl (hd.2.2.2 x hx x ((b4 x).2 hi))
   .simp at h
 .intro h
  split at h
  .rename_i hc
   simp at h;subst h
   obtain⟨W,b1,b2,b3,b4,b5⟩:=GN r (-1) hc.2.1
   rw[b1]
   simp only
   have hm:AI (BN (g++W)):=by
    rw[HK]
    refine⟨fun x hx=>?_,?_⟩
    .rcases List.mem_append.1 hx with hx|hx
     .exact hg.1 x hx
     .exact b5 x hx
    .rw[List.nodup_append]
     refine⟨HL hg.2,HL b2,fun x hx y hy e=>?_⟩
     subst e
     have:=hc.2.2 x hx
     rw[(b4 x).1 hy] at this;simp at this
   rw[if_pos ⟨hg,hm⟩]
   congr 1
   refine Kb _ _ hm.2 (HJ _) fun x=>?_
   rw[GE,GF,List.mem_append,b4]
   simp only[Bool.or_eq_true,List.contains_eq_mem,decide_eq_true_eq]
   constructor
   .intro h
    refine⟨(HK _).1 hm|>.1 x (by rw[List.mem_append,b4];exact h),h.symm⟩
   .rintro⟨_,h|h⟩
    .exact .inr h
    .exact .inl h
  .simp at h
theorem Fs {bs:List Bool}:∀(k:Nat) (f:Bool) (p:Nat) (e:Int) (r:List (Int×Int)×Nat),BJ bs k f p e=some r↔Cr bs k f p e=some r∧∀q∈r.1,q.2≤18
 |0,f,p,e,r=>by
  simp only[BJ,Cr,Option.some.injEq]
  constructor
  .rintro rfl;simp
  .exact fun h=>h.1
 |k+1,f,p,e,r=>by
  simp only[BJ,Cr]
  cases hx:AH bs p with
  |none=>simp
  |some x=>
   simp only
   cases hy:AH bs x.2 with
   |none=>simp
   |some y=>
    simp only
    generalize (e+(if f=true then Cc ((x.1:Int)-1) else(x.1:Int)))=a
    have ih:=Fs (bs:=bs) k false y.2 (a+((y.1:Int)-1+3))
    constructor
    .intro h
     split at h
     .split at h
      .rename_i q hq
       simp at h;subst h
       rw[((ih q).1 hq).1]
       refine⟨rfl,fun w hw=>?_⟩
       simp only[List.mem_cons] at hw
       rcases hw with rfl|hw
       .simp only;omega
       .exact((ih q).1 hq).2 w hw
      .simp at h
     .simp at h
    .rintro⟨h,hb⟩
     split at h
     .rename_i q hq
      simp at h;subst h
      have:=hb _ (List.mem_cons_self ..)
      simp only at this
      rw[if_pos (by omega),(ih q).2 ⟨hq,fun w hw=>hb w (List.mem_cons_of_mem _ hw)⟩]
     .simp at h
theorem Kd:∀(r:List (Int×Int)) (e:Int),Dy r e→∀q∈r,q.2≤16
 | [],_,_,q,hq=>by simp at hq
 | (a,n)::rs,e,h,q,hq=>by
   obtain⟨h1,h2,h3,h4,h5,h6⟩:=h
   simp only[List.mem_cons] at hq
   rcases hq with rfl|hq
   .simp only;omega
   .exact Kd rs _ h6 q hq
theorem Ke:∀(r:List (Int×Int)) (f:Bool) (e:Int),Dy r e→GM r f e
 | [],_,_,_=>trivial
 | (a,n)::rs,f,e,h=>by
   obtain⟨h1,h2,h3,h4,h5,h6⟩:=h
   exact⟨.inr h5,h3,Ke rs false _ h6⟩
theorem Vc {r:List (Int×Int)} {e e' :Int} (h:GM r true e):GM r true e' :=by
 cases r with
 |nil=>trivial
 |cons q r=>exact⟨.inl rfl,h.2⟩
theorem Ft (bs:List Bool) (p:Nat) (v:Int):Bo bs p v=CV bs p v:=by
 unfold Bo CV
 cases hx:AH bs p with
 |none=>rfl
 |some x=>
  simp only
  obtain⟨h1,h2,h3,h4,h5⟩:=AJ hx
  cases hr:Cr bs (x.1-1) true x.2 v with
  |none=>
   have:BJ bs (x.1-1) true x.2 v=none:=by
    cases h:BJ bs (x.1-1) true x.2 v with
    |none=>rfl
    |some r=>have:=((Fs _ _ _ _ _).1 h).1;rw[hr] at this;simp at this
   rw[this];simp
  |some r=>
   obtain⟨r1,r2,r3,r4⟩:=Ka v _ _ _ _ _ (fun _=>rfl) h4 hr
   simp only
   have href:BJ bs (x.1-1) true x.2 v=if∀q∈r.1,q.2≤18 then some r else none:=by
    split
    .rename_i hb;exact(Fs _ _ _ _ _).2 ⟨hr,hb⟩
    .rename_i hb
     cases h:BJ bs (x.1-1) true x.2 v with
     |none=>rfl
     |some r' =>
      have:=(Fs _ _ _ _ _).1 h
      rw[hr] at this
      have e:=this.1
      simp at e;subst e
      exact absurd this.2 hb
   rw[href]
   cases hg:Dx bs r.2 v with
   |none=>simp only[EC];split<;>split<;>first|rfl|simp_all
   |some g=>
    obtain⟨g1,g2,g3⟩:=P6 hg
    have gm:=(HD hg).2.1
    have hj:C6 r.1 g.1=EA r.1 g.1:=Option.ext fun l=>(HM r.1 g.1 gm l).symm
    have hseg:FG bs p g.2=Ba (r.1.length+1)++(CW v r.1 true 0++DS v g.1):=by
     rw[r1,show x.1-1+1=x.1 by omega,←h5,T2 v r.1 0 v,←r4,←g3,FR r2 g1,FR (by omega) (by omega)]
    have hlen:=TC (l:=bs) (p:=p) (x:=g.2) g2
    cases hw:EA r.1 g.1 with
    |none=>split<;>(try split)<;>simp_all[EC]
    |some l=>
     have hrun:Dy r.1 (-1):=by
      have h:=(HM _ _ gm l).1 hw
      unfold C6 at h
      split at h
      .rename_i hc;exact hc.2.1
      .simp at h
     have hm:AI l:=by
      have h:=(HM _ _ gm l).1 hw
      unfold C6 at h
      split at h
      .simp at h;subst h;exact Lm _
      .simp at h
     have hall:∀q∈r.1,q.2≤18:=fun q hq=>by have:=Kd _ _ hrun q hq;omega
     rw[if_pos hall]
     have key:(x.1≤16∧As l=(r.1,g.1))↔(x.1≤17∧(BL v l).length=g.2-p∧(bs.drop p).take (BL v l).length=BL v l):=by
      constructor
      .rintro⟨k1,k2⟩
       have hb:BL v l=FG bs p g.2:=by rw[BL,k2,hseg,List.append_assoc]
       refine⟨by omega,by rw[hb,hlen],?_⟩
       rw[hb,hlen];rfl
      .rintro⟨k1,k2,k3⟩
       rw[k2] at k3
       have hb:BL v l=FG bs p g.2:=k3.symm
       rw[hseg,BL,List.append_assoc] at hb
       obtain⟨c1,c2⟩:=Fz (by omega) (by omega) hb
       obtain⟨p1,p2,p3,p4⟩:=GD l.length l true 0 (Nat.le_refl _) hm.2 (.inl rfl)
       obtain⟨d1,d2⟩:=Ll v _ _ true 0 _ _ (by omega) p1 (Vc (Ke r.1 true (-1) hrun)) c2
       simp only[DS] at d2
       obtain⟨c3,c4⟩:=Fz (by omega) (by omega) d2
       have d3:=(Lk v (As l).2 g.1 true 0 [] [] (by omega) (KF _ _ _ p3 (.inl rfl)) (KF _ _ _ gm.2 (.inl rfl)) (by simpa using c4)).1
       have hl:=BQ hm
       refine⟨by rw[d1] at p2;omega,Prod.ext d1 d3⟩
     simp only[EC,hg,hj,hw]
     by_cases hk:x.1≤16∧As l=(r.1,g.1)
     .have hk' :=key.1 hk
      rw[if_pos hk'.1,if_pos hk.1,if_pos hk.2,if_pos hk'.2]
     .have hk' :=fun g=>hk (key.2 g)
      by_cases a1:x.1≤16
      .rw[if_pos a1,if_pos (by omega),if_neg (fun h=>hk ⟨a1,h⟩),if_neg (fun h=>hk' ⟨by omega,h⟩)]
      .rw[if_neg a1]
       by_cases a2:x.1≤17
       .rw[if_pos a2,if_neg (fun h=>hk' ⟨a2,h⟩)]
       .rw[if_neg a2]
end Go.Abs
namespace Go.Abs
theorem HN:∀(bl left:List Int) (i:Bool) (W:List Int),A0 bl left i=some W→W.Sublist left∧∀n∈bl,0≤n∧n≤left.length
 | [],left,i,W,h=>by
   simp only[A0,Option.some.injEq] at h
   subst h
   refine⟨?_,by simp⟩
   split
   .exact List.Sublist.refl _
   .exact List.nil_sublist _
 |n::bs,left,i,W,h=>by
  simp only[A0] at h
  split at h
  .simp at h
  .split at h
   .rename_i l hl
    simp at h;subst h
    obtain⟨a1,a2⟩:=HN bs _ _ l hl
    refine⟨?_,fun m hm=>?_⟩
    .have e:left=left.take n.toNat++left.drop n.toNat:=(List.take_append_drop _ _).symm
     conv=>rhs;rw[e]
     refine List.Sublist.append ?_ a1
     split
     .exact List.Sublist.refl _
     .exact List.nil_sublist _
    .simp only[List.mem_cons] at hm
     rcases hm with rfl|hm
     .omega
     .have:=a2 m hm
      simp at this;omega
   .simp at h
theorem Ln (ref bl rest:List Int) (hr:AI ref) (hs:AI rest) (hb:bl.length≤16):DT ref bl rest=Cs ref bl rest:=by
 unfold DT Cs
 rw[if_neg (fun h=>h ⟨hr,hs,hb⟩)]
 cases hc:A0 bl ref true with
 |none=>rfl
 |some W=>
  simp only
  obtain⟨a1,a2⟩:=HN _ _ _ _ hc
  have hW:∀x∈W,0≤x∧x<16:=fun x hx=>hr.1 x (a1.subset hx)
  have hall:∀x∈rest++W,0≤x∧x<16:=fun x hx=>by
   rcases List.mem_append.1 hx with h|h
   .exact hs.1 x h
   .exact hW x h
  have eqm:AI (BN (rest++W))→(Gv fun i=>W.contains i||rest.contains i)=BN (rest++W):=by
   intro hm
   refine Kb _ _ (HJ _) hm.2 fun x=>?_
   rw[GE,GF,List.mem_append]
   simp only[Bool.or_eq_true,List.contains_eq_mem,decide_eq_true_eq]
   constructor
   .rintro⟨_,h|h⟩
    .exact .inr h
    .exact .inl h
   .intro h;exact⟨hall x (List.mem_append.2 h),h.symm⟩
  by_cases hm:AI (BN (rest++W))
  .rw[eqm hm]
   by_cases h2:blocks ref (BN (rest++W))=bl∧Bi ref (BN (rest++W))=rest
   .rw[if_pos h2,if_pos ⟨hm,h2⟩]
   .rw[if_neg h2,if_neg (fun h=>h2 h.2)]
  .conv=>rhs;rw[if_neg (fun h=>hm h.1)]
   rw[if_neg]
   rintro⟨_,h2⟩
   apply hm
   rw[HK]
   refine⟨hall,?_⟩
   rw[List.nodup_append]
   refine⟨HL hs.2,(HL hr.2).sublist a1,fun x hx y hy e=>?_⟩
   subst e
   rw[←h2] at hx
   simp only[Bi,List.mem_filter] at hx
   have h3:=a1.subset hy
   have h4:=hx.2
   simp[h3] at h4
theorem MO {bs:List Bool}:∀(k:Nat) (f:Bool) (p:Nat) (r:List Int×Nat),p≤bs.length→Ci bs k f p=some r→r.1.length=k∧p≤r.2∧r.2≤bs.length
 |0,f,p,r,hp,h=>by simp[Ci] at h;subst h;simp;exact hp
 |k+1,f,p,r,hp,h=>by
  simp only[Ci] at h
  split at h
  .simp at h
  .rename_i x hx
   obtain⟨h1,h2,h3,h4,_⟩:=AJ hx
   split at h
   .rename_i q hq
    simp at h;subst h
    have:=MO k false x.2 q h4 hq
    exact⟨by simp[this.1],by simp only;omega,this.2.2⟩
   .simp at h
theorem GO {bs:List Bool}:∀(k:Nat) (f:Bool) (p:Nat) (r:List Int×Nat),(∀n∈r.1,n≤16)→(Bj bs k f p=some r↔Ci bs k f p=some r)
 |0,f,p,r,_=>by simp[Bj,Ci]
 |k+1,f,p,r,hr=>by
  simp only[Bj,Ci]
  cases hx:AH bs p with
  |none=>simp
  |some x=>
   simp only
   constructor
   .intro h
    split at h
    .split at h
     .rename_i q hq
      simp at h;subst h
      rw[(GO k false x.2 q (fun n hn=>hr n (by simp[hn]))).1 hq]
     .simp at h
    .simp at h
   .intro h
    split at h
    .rename_i q hq
     simp at h;subst h
     have h1:=hr _ (List.mem_cons_self ..)
     rw[if_pos (by split at h1<;>omega),(GO k false x.2 q (fun n hn=>hr n (by simp[hn]))).2 hq]
    .simp at h
theorem GP {bs:List Bool}:∀(k:Nat) (f:Bool) (p:Nat) (r:List Int×Nat),Bj bs k f p=some r→Ci bs k f p=some r
 |0,f,p,r,h=>by simpa[Bj,Ci] using h
 |k+1,f,p,r,h=>by
  simp only[Bj] at h
  simp only[Ci]
  split at h
  .simp at h
  .rename_i x hx
   split at h
   .split at h
    .rename_i q hq
     rw[GP k false x.2 q hq];exact h
    .simp at h
   .simp at h
theorem Lo {bs:List Bool} {p:Nat} {v:Int} {r:List Int×Nat} (h:CV bs p v=some r):AI r.1:=by
 unfold CV at h
 (repeat' split at h)<;>first| (simp at h;done) |skip
 rename_i x hx _ q hq _ g hg _ l hl hp
 simp at h;subst h
 unfold EA at hl
 (repeat' split at hl)<;>first| (simp at hl;done) |skip
 rename_i hm
 simp at hl;subst hl
 exact hm.2
theorem Lp (bs:List Bool) (p:Nat) (v:Int) (ref:List Int) (hr:AI ref):DJ bs p v ref=CD bs p v ref:=by
 have hl:=BQ hr
 unfold DJ CD
 cases hx:AH bs p with
 |none=>rfl
 |some x=>
  simp only
  obtain⟨h1,h2,h3,h4,_⟩:=AJ hx
  by_cases hk:x.1≤17
  rotate_left
  .rw[if_neg hk,if_neg hk]
  rw[if_pos hk,if_pos hk]
  cases hn:Ci bs (x.1-1) true x.2 with
  |none=>
   have:Bj bs (x.1-1) true x.2=none:=by
    cases h:Bj bs (x.1-1) true x.2 with
    |none=>rfl
    |some r=>have:=GP _ _ _ _ h;rw[hn] at this;simp at this
   rw[this]
  |some q=>
   have hq:=MO _ _ _ _ h4 hn
   simp only
   by_cases hb:∀n∈q.1,n≤16
   .rw[(GO _ _ _ q hb).2 hn]
    simp only[Ft]
    cases hs:CV bs q.2 v with
    |none=>rfl
    |some r=>
     simp only
     rw[Ln ref q.1 r.1 hr (Lo hs) (by omega)]
   .have hcw:∀r:List Int,Cs ref q.1 r=none:=by
     intro r
     unfold Cs
     split
     .rfl
     .rename_i W hW
      exact absurd (fun n hn=>by have:=(HN _ _ _ _ hW).2 n hn;omega) hb
    have:Bj bs (x.1-1) true x.2=none∨Bj bs (x.1-1) true x.2=some q:=by
     cases h:Bj bs (x.1-1) true x.2 with
     |none=>exact .inl rfl
     |some r=>have:=GP _ _ _ _ h;rw[hn] at this;simp at this;subst this;exact .inr rfl
    have hjc:∀r:List Int,AI r→DT ref q.1 r=none:=fun r hm=>by rw[Ln ref q.1 r hr hm (by omega),hcw]
    rcases this with h|h
    .rw[h]
     simp only[hcw]
     split<;>rfl
    .rw[h]
     simp only[Ft,hcw]
     split
     .rfl
     .rename_i r hs
      rw[hjc _ (Lo hs)]
theorem ID {g:Gr} (h:AY g) (v:Int):AI (AC g v):=by
 unfold AC
 rw[List.getD_eq_getElem?_getD]
 cases hx:g.out[v.toNat]? with
 |none=>simp[AI]
 |some l=>exact(h.2.2.2.1 l (List.mem_of_getElem? hx)).1
theorem MP (bs:List Bool):Ee bs=Cj bs:=by
 unfold Ee Cj
 have:Bo bs=CV bs:=funext fun p=>funext fun v=>Ft bs p v
 rw[this]
theorem MQ (a:Gr) (bs:List Bool) (h:AY a):Gw a bs=Ck a bs:=by
 unfold Gw Ck
 congr 1
 exact funext fun p=>funext fun v=>Lp bs p v _ (ID h v)
end Go.Abs
