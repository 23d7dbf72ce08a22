/- Blocks that are taken. -/
import Derived.Test.YtoklapibcmnaeaaGreatP8
set_option linter.unusedVariables false
set_option linter.unusedSimpArgs false
set_option maxRecDepth 100000
namespace Go.Abs
open Go.Proofs
def AA (xs:List Bool):List AV:=xs.map AV.bool
section
variable (xs ys:List Bool) (M:List Ae) (k:Nat)
@[simp] theorem XC (i:Nat):(AA xs)[i]?=(xs[i]?).map AV.bool:=by simp[AA]
@[simp] theorem XD:(AA xs).length=xs.length:=by simp[AA]
@[simp] theorem XE:AA []=[]:=rfl
@[simp] theorem WQ:(AA xs).take k=AA (xs.take k):=by simp[AA,List.map_take]
@[simp] theorem WR:(AA xs).drop k=AA (xs.drop k):=by simp[AA,List.map_drop]
@[simp] theorem YU:EC (AA xs)=true:=by simp[AA,EC,-Kc]
@[simp] theorem YV:ED (AA xs)=true:=by simp[AA,ED,-Kd]
@[simp] theorem YW:EE (AA xs)=true:=by simp[AA,EE,-Ke]
@[simp] theorem YX:Db k (AA xs)=true:=by induction xs<;>simp_all[AA]
@[simp] theorem XF:CJ (AA xs)=true:=by induction xs<;>simp_all[AA]
@[simp] theorem XG:Et (AA xs)=AA xs:=by induction xs<;>simp_all[AA]
@[simp] theorem XH:(AA xs).map D0=AA xs:=by simp[AA]
@[simp] theorem XI:(AA xs).map (B6 M k)=AA xs:=by cases k<;>simp[AA]
theorem EV (i:Nat) (b:Bool):(AA xs).set i (.bool b)=AA (xs.set i b):=by simp[AA]
theorem Pn (n:Nat) (b:Bool):DI n [.bool b]=AA (List.replicate n b):=by
 unfold DI AA
 induction n with
 |zero=>rfl
 |succ n ih=>simp[List.replicate_succ]
end
def Dy (l:List (Int×Int)) (i:Int):Bool:=l.any fun x=>decide (x.1≤i∧i<x.1+x.2)
def B3 (l:List (Int×Int)) (n:Nat):List Bool:=(List.range n).map fun(j:Nat)=>Dy l (j:Int)
def CA (l:List (Int×Int)) (n:Nat) (a i:Int):List Bool:=(List.range n).map fun(j:Nat)=>Dy l (j:Int) ||decide (a≤(j:Int)∧(j:Int)<i)
@[simp] theorem Po (l:List (Int×Int)) (n:Nat):(B3 l n).length=n:=by simp[B3]
@[simp] theorem V6 (l:List (Int×Int)) (n:Nat):(B3 l n).take n=B3 l n:=List.take_of_length_le (by simp)
@[simp] theorem V7 (l:List (Int×Int)) (n:Nat) (a i:Int):(CA l n a i).length=n:=by simp[CA]
theorem NH {l:List (Int×Int)} {n i:Nat} {a:Int} (hi:i<n):(CA l n a i)[i]'(by simpa using hi)=Dy l i:=by simp[CA]
theorem QK (l:List (Int×Int)) (n:Nat) (a:Int):CA l n a a=B3 l n:=by
 unfold CA B3
 refine List.map_congr_left fun j _=>?_
 have:decide (a≤(j:Int)∧(j:Int)<a)=false:=by simp
 rw[this,Bool.or_false]
theorem NI (l:List (Int×Int)) (n:Nat) (x:Int×Int):CA l n x.1 (x.1+x.2)=B3 (l++[x]) n:=by
 unfold CA B3
 refine List.map_congr_left fun j _=>?_
 simp[Dy]
theorem NJ (l:List (Int×Int)) (n i:Nat) (a:Int) (ha:a≤i) (hi:i<n):(CA l n a i).set i true=CA l n a ((i:Int)+1):=by
 refine List.ext_getElem (by simp[CA]) fun j h1 h2=>?_
 simp only[CA,List.length_map,List.length_range] at h2
 rw[List.getElem_set]
 by_cases e:i=j
 .subst e
  rw[if_pos rfl]
  simp[CA]
  right;omega
 .rw[if_neg e]
  simp only[CA,List.getElem_map,List.getElem_range]
  congr 1
  simp only[decide_eq_decide]
  omega
theorem Kr {l:List (Int×Int)} {x:Int×Int} (hl:∀y∈l,1≤y.2) (hx:1≤x.2):(l++[x]).Pairwise apart↔l.Pairwise apart∧∀i,x.1≤i→i<x.1+x.2→Dy l i=false:=by
 rw[List.pairwise_append]
 simp only[List.pairwise_singleton,true_and,List.mem_singleton,forall_eq,Dy,List.any_eq_false,decide_eq_true_eq,apart]
 constructor
 .rintro⟨h1,h2⟩
  refine⟨h1,fun i a b y hy c=>?_⟩
  have:=h2 y hy
  omega
 .rintro⟨h1,h2⟩
  refine⟨h1,fun y hy c=>?_⟩
  have hy1:=hl y hy
  by_cases e:y.1≤x.1
  .exact h2 x.1 (by omega) (by omega) y hy (by omega)
  .exact h2 y.1 (by omega) (by omega) y hy (by omega)
def Gk (l:List (Int×Int)) (n:Int):AV:=if CL l n then .tup [.own 1 n.toNat (AA (B3 l n.toNat)),.bool true] else .tup [.own 1 0 [],.bool false]
def IP (l:List (Int×Int)) (n:Int):Prop:=(∀x∈l,0≤x.1∧1≤x.2∧x.1+x.2≤n)∧l.Pairwise apart
theorem LJ {l:List (Int×Int)} {n:Int} {x:Int×Int}:IP (l++[x]) n↔IP l n∧(0≤x.1∧1≤x.2∧x.1+x.2≤n)∧∀i,x.1≤i→i<x.1+x.2→Dy l i=false:=by
 unfold IP
 constructor
 .rintro⟨h1,h2⟩
  have hx:=h1 x (by simp)
  have h3:=(Kr (fun y hy=>(h1 y (by simp[hy])).2.1) hx.2.1).1 h2
  exact⟨⟨fun y hy=>h1 y (by simp[hy]),h3.1⟩,hx,h3.2⟩
 .rintro⟨⟨h1,h2⟩,hx,h3⟩
  refine⟨fun y hy=>?_,(Kr (fun y hy=>(h1 y hy).2.1) hx.2.1).2 ⟨h2,h3⟩⟩
  rcases List.mem_append.1 hy with h|h
  .exact h1 y h
  .simp at h;subst h;exact hx
theorem QL {l:List (Int×Int)} {n:Int} (k:Nat) (h:IP l n):IP (l.take k) n:=⟨fun x hx=>h.1 x (List.mem_of_mem_take hx),h.2.sublist (List.take_sublist _ _)⟩
theorem Oo (l:List (Int×Int)) (n:Int) (hl:l.length<1000000000):Aa pg 121 [.ro l.length (Af At l),.int .i64 n] [] (fun r _=>r=Gk l n):=by
 refine Aa.start (fn:=Tryz.f121) [.tmp 4,.tmp 5] tk rfl rfl rfl (by kernel_rfl) (Nat.le_of_ble_eq_true rfl) rfl (by kernel_rfl) ?_
 rw[Ar]
 refine zs ?_
 refine z0 ?_;intro K hK
 refine Ab.eq (Nk n) (by simp) (by simp) ?_
 by_cases c1:1≤n∧n≤100
 rotate_left
 .rw[decide_eq_false c1]
  refine zx ?_
  refine zk ?_;clear hK K
  refine zt ?_
  refine zs ?_
  refine zr ?_
  rw[Gk,if_neg (fun g=>c1 ⟨g.1,g.2.1⟩)]
 rw[decide_eq_true c1]
 by_cases c2:l.length≤13
 rotate_left
 .refine AI c2 ?_
  refine zk ?_;clear hK K
  refine zt ?_
  refine zs ?_
  refine zr ?_
  rw[Gk,if_neg (fun g=>c2 g.2.2.1)]
 refine AI c2 ?_
 refine zk ?_;clear hK K
 refine zn ?_
 refine W.skip ?_
 refine z1 ?_;intro K hK
 refine⟨by omega,by omega,by show n≤(9223372036854775807:Int);omega,?_⟩
 refine zk ?_;clear hK K
 have e0:DI n.toNat [.bool false]=AA (B3 (l.take 0) n.toNat):=by
  rw[Pn];congr 1
  exact List.ext_getElem (by simp[B3]) fun j _ _=>by simp[B3,Dy]
 rw[e0]
 refine zs ?_
 (repeat refine W.seq ?_);refine W.block (W.loopS (fun k:Nat=> [(0,.ro l.length (Af At l)),(1,.int .i64 n),(6,.tok 0 0 1 0 n.toNat),(20,.ro l.length (Af At l)),(21,.int .i64 l.length),(22,.int .i64 k)]) (fun k=> [.live 0 (AA (B3 (l.take k) n.toNat))]) (fun k=>l.length-k) (fun k=>k≤l.length∧IP (l.take k) n) 0 (Wk.fr (by simp[Ad])) ⟨by omega,by simp[IP]⟩ ?_)
 rintro k ⟨hk,hok⟩
 refine zs ?_
 refine zc ?_ ?_<;>intro h
 .refine W.skip ?_
  have hlt:k<l.length:=by omega
  have hto:l.take (k+1)=l.take k++[l[k]]:=by rw[List.take_add_one];simp[hlt]
  have bad:¬IP (l.take k++[l[k]]) n→Gk l n= .tup [.own 1 0 [],.bool false]:=fun g=>by
   rw[Gk,if_neg]
   intro w
   rw[←hto] at g
   exact g (QL (k+1) ⟨w.2.2.2.1,w.2.2.2.2⟩)
  rw[LJ] at bad
  refine zb ?_
  (repeat refine W.seq ?_);refine W.reg 1 rfl fun K hK=>?_;simp -implicitDefEqProofs (maxSteps:=999999) (disch:=omega) [hlt]
  refine zk ?_;clear hK K
  generalize hv:l[k]=x at*
  obtain⟨x1,x2⟩:=x
  simp only at bad
  by_cases d1:x2<1
  .refine Ag d1 ?_;intro K hK
   refine zk ?_;clear hK K
   refine zt ?_
   refine zs ?_
   refine zr ?_
   rw[bad (by omega)]
  by_cases d2:x1<0
  .refine Ag (an d1 d2) ?_;intro K hK
   refine zk ?_;clear hK K
   refine zt ?_
   refine zs ?_
   refine zr ?_
   rw[bad (by omega)]
  by_cases d3:n≤x1
  .refine Ag (an d1 (an d2 d3)) ?_;intro K hK
   refine zk ?_;clear hK K
   refine zt ?_
   refine zs ?_
   refine zr ?_
   rw[bad (by omega)]
  by_cases d4:x2≤n-x1
  rotate_left
  .refine Ag (an d1 (an d2 (an d3 d4))) ?_;intro K hK
   refine zk ?_;clear hK K
   refine zt ?_
   refine zs ?_
   refine zr ?_
   rw[bad (by omega)]
  refine Ag (an d1 (an d2 (an d3 d4))) ?_;intro K hK
  refine zk ?_;clear hK K
  refine zn ?_
  refine W.skip ?_
  refine zs ?_
  obtain⟨b,rfl⟩:=Int.eq_ofNat_of_zero_le (by omega:0≤x1)
  obtain⟨e,rfl⟩:=Int.eq_ofNat_of_zero_le (by omega:0≤x2)
  rw[←QK _ _ (b:Int)]
  (repeat refine W.seq ?_);refine W.block (W.loopS (fun i:Nat=> [(0,.ro l.length (Af At l)),(1,.int .i64 n),(6,.tok 0 0 1 0 n.toNat),(8,.ptr 1 0 0),(9,.int .i64 i),(20,.ro l.length (Af At l)),(21,.int .i64 l.length),(22,.int .i64 k)]) (fun i=> [.live 0 (AA (CA (l.take k) n.toNat b i)),.live 0 [.int .i64 b,.int .i64 e]]) (fun i=>b+e-i) (fun i=>b≤i∧i≤b+e∧∀j:Int,b≤j→j<i→Dy (l.take k) j=false) b (Wk.fr (by simp[Ad])) ⟨by omega,by omega,fun j h1 h2=>by omega⟩ ?_)
  rintro i ⟨hb,hi,hf⟩
  refine zs ?_
  refine zc ?_ ?_<;>intro h
  .refine W.skip ?_
   have hin:i<n.toNat:=by omega
   refine zb ?_
   have hget:(CA (List.take k l) n.toNat (b:Int) (i:Int))[i]?=some (Dy (l.take k) i):=by rw[List.getElem?_eq_getElem (by simpa using hin),NH hin]
   cases ht:Dy (l.take k) i
   .rw[ht] at hget
    refine Ag (an hin hget) ?_;intro K hK
    refine⟨by omega,?_⟩
    refine zk ?_;clear hK K
    refine zn ?_
    refine W.skip ?_
    refine Ag (an hin EV) ?_;intro K hK
    refine⟨by omega,?_⟩
    refine zk ?_;clear hK K
    refine zs ?_
    refine⟨i+1,by omega,⟨by omega,by omega,fun j h1 h2=>?_⟩,?_⟩
    .by_cases e:j=i
     .subst e;exact ht
     .exact hf j h1 (by omega)
    .rw[NJ _ _ _ _ (by omega) hin]
     exact Wk.fr (by simp[Ad])
   .rw[ht] at hget
    refine Ag (an hin hget) ?_;intro K hK
    refine⟨by omega,?_⟩
    refine zk ?_;clear hK K
    refine zt ?_
    refine zs ?_
    refine zr ?_
    rw[bad (fun g=>by have:=g.2.2 i (by omega) (by omega);rw[ht] at this;cases this)]
  .refine W.exit ?_
   have hie:i=b+e:=by omega
   subst hie
   refine zs ?_
   refine⟨k+1,by omega,⟨by omega,?_⟩,?_⟩
   .rw[hto,LJ]
    exact⟨hok,⟨by omega,by omega,by omega⟩,fun j h1 h2=>hf j h1 (by simpa using h2)⟩
   .rw[hto]
    have e2:=NI (l.take k) n.toNat ((b:Int),(e:Int))
    simp only at e2
    rw[e2]
    exact Wk.cutM (k:=1) (by simp[Ad]) (by simp) (by simp) (by simp) (by simp) (by simp)
 .refine W.exit ?_
  have hk' :k=l.length:=by omega
  subst hk'
  rw[List.take_length] at hok
  have e:Gk l n= .tup [.own 1 n.toNat (AA (B3 l n.toNat)),.bool true]:=by rw[Gk,if_pos ⟨c1.1,c1.2,c2,hok.1,hok.2⟩]
  have e2:l.take l.length=l:=List.take_length
  rw[e2]
  refine zs ?_
  refine zr ?_
  rw[e]
end Go.Abs
set_option maxRecDepth 100000
namespace Go.Abs
open Go.Proofs
theorem VX (l:List (Int×Int)) (n:Int) (hl:l.length<1000000000):Aa pg 115 [.ro l.length (Af At l),.int .i64 n] [] (fun r _=>r= .bool (decide (CL l n))):=by
 have sp:=Oo l n hl
 refine Aa.start (fn:=Tryz.f115) [.tmp 4] tk rfl rfl rfl (by kernel_rfl) (Nat.le_of_ble_eq_true rfl) rfl (by kernel_rfl) ?_
 rw[Ar]
 refine zs ?_
 refine z0 ?_;intro K hK
 by_cases h:CL l n
 .rw[Gk,if_pos h] at sp
  refine Ab.eq sp (by simp) (by simp) ?_
  refine zx ?_
  refine zk ?_;clear hK K
  refine zs ?_
  refine zr ?_
  simp[h]
 .rw[Gk,if_neg h] at sp
  refine Ab.eq sp (by simp) (by simp) ?_
  refine zx ?_
  refine zk ?_;clear hK K
  refine zs ?_
  refine zr ?_
  simp[h]
theorem LT (xs:List CD) (f:Nat) (caps:List AV) (p:CD→Bool) (hx:xs.length<1000000000000) (hf:∀x∈xs,Aa pg f ([.agg ((Ay false) x)]++caps) [] fun r _=>r= .bool (p x)) (hcv:∀M,caps.map (vw M)=caps) (hcc:∀M k,caps.map (B6 M k)=caps):
 Aa pg 155 [.ro xs.length (Af (Ay false) xs),.fn f caps] [] (fun r _=>r= .bool (xs.any p)):=by
 refine Aa.start (fn:=Tryz.f155) [.tmp 4] tk rfl rfl rfl (by kernel_rfl) (Nat.le_of_ble_eq_true rfl) rfl (by kernel_rfl) ?_
 rw[Ar]
 refine zs ?_
 refine z0 ?_;intro K hK
 refine Ab.eq (Pl xs f caps p hx hf hcv) (by simp[hcc]) (by simp) ?_
 refine zx ?_
 refine zk ?_;clear hK K
 refine zr ?_
 rw[Bool.eq_iff_iff]
 simp[Cv]
def pinned (s:AT) (id:Int):Bool:=s.sess.any fun x=>decide (x.pin=id)
def SK (l:List AS):List Int:=(l.filter fun v=> !v.gone).map AS.id
def WS (s:AT):List Int:=(SK s.vers).drop (max 0 (((SK s.vers).length:Int)-s.keep)).toNat
def WT (s:AT) (v:AS):Bool:=v.tag|| (WS s).contains v.id||pinned s v.id
def UJ (s:AT) (want:Bool) (l:List AS):List Int:=(l.filter fun v=>WT s v==want).map AS.id
def Z4 (s:AT) (want:Bool):List Int:=UJ s want s.vers
end Go.Abs
set_option maxRecDepth 100000
namespace Go.Abs
open Go.Proofs
theorem HQ (n m:Int):Aa pg 62 [.int .i64 n,.int .i64 m] [] (fun r _=>r= .bool (decide (0≤n∧n≤m))):=by
 refine Aa.start (fn:=Tryz.f62) [.tmp 4] tk rfl rfl rfl (by kernel_rfl) (Nat.le_of_ble_eq_true rfl) rfl (by kernel_rfl) ?_
 rw[Ar]
 refine zs ?_
 by_cases h1:0≤n
 .refine Ag h1 ?_;intro K hK
  refine zk ?_;clear hK K
  exact zR
 .refine Ag h1 ?_;intro K hK
  refine zk ?_;clear hK K
  exact zR
theorem Em (n a b:Int):Aa pg 42 [.int .i64 n,.int .i64 a,.int .i64 b] [] (fun r _=>r= .bool (decide (a≤n∧n≤b))):=by
 refine Aa.start (fn:=Tryz.f42) [.tmp 6] tk rfl rfl rfl (by kernel_rfl) (Nat.le_of_ble_eq_true rfl) rfl (by kernel_rfl) ?_
 rw[Bg]
 refine zs ?_
 by_cases h1:a≤n
 . (repeat refine W.seq ?_);refine W.reg 0 rfl fun K hK=>?_;simp -implicitDefEqProofs (maxSteps:=999999) (disch:=omega) [h1]
   refine zk ?_;clear hK K
   refine W.ret ?_;simp only[Ca,CU,Cp];refine Ce (d:=0) ?_;simp -implicitDefEqProofs (maxSteps:=999999) (disch:=omega)
   try simp[h1]
 . (repeat refine W.seq ?_);refine W.reg 0 rfl fun K hK=>?_;simp -implicitDefEqProofs (maxSteps:=999999) (disch:=omega) [h1]
   refine zk ?_;clear hK K
   refine W.ret ?_;simp only[Ca,CU,Cp];refine Ce (d:=0) ?_;simp -implicitDefEqProofs (maxSteps:=999999) (disch:=omega)
   try simp[h1]
theorem Sn (xs:List Int) (x:Int) (hx:xs.length<4611686018427387904):Aa pg 18 [.ro xs.length (Ac xs),.int .i64 x] [] (fun r _=>r= .int .i64 (BN (fun y=>decide (y=x)) xs)):=by
 refine Aa.start (fn:=Tryz.f18) [.tmp 4] tk rfl rfl rfl (by kernel_rfl) (Nat.le_of_ble_eq_true rfl) rfl (by kernel_rfl) ?_
 rw[Ar]
 refine zs ?_
 refine zs ?_
 (repeat refine W.seq ?_);refine W.block (W.loopS (fun k:Nat=> [(0,.ro xs.length (Ac xs)),(1,.int .i64 x),(5,.int .i64 k)]) (fun _=> []) (fun k=>xs.length-k) (fun k=>k≤xs.length∧∀i (h:i<xs.length),i<k→xs[i]≠x) 0 (Wk.fr ?_) (by simp) ?_)
 .simp[Ad]
 .rintro k ⟨hk,ht⟩
  refine zs ?_
  refine zc ?_ ?_<;>intro h
  .refine W.skip ?_
   refine zb ?_
   refine zs ?_
   refine zc ?_ ?_<;>intro h
   .refine zs ?_
    refine zr ?_
    exact(Ek (by omega) (by simp[h]) fun i hi hik=>by simpa using ht i hi hik).symm
   .refine W.skip ?_
    refine zs ?_
    refine⟨k+1,by omega,⟨by omega,?_⟩,Wk.fr (by simp[Ad])⟩
    intro i hi hik
    by_cases e:i=k
    .subst e;exact fun e=>h e
    .exact ht i hi (by omega)
  .refine W.exit ?_
   refine zs ?_
   refine zr ?_
   exact(DP fun i hi=>by simpa using ht i hi (by omega)).symm
theorem FF (a b:Gr) (ha:Ex a):Aa pg 38 [.agg (AX false a),.agg (AX false b)] [] (fun r _=>r= .bool (decide (a=b))):=by
 have e0:(a=b)↔a.n=b.n∧a.out=b.out:=Gr.ext_iff
 have h1:=ha.1
 refine Aa.start (fn:=Tryz.f38) [.tmp 4] tk rfl rfl rfl (by kernel_rfl) (Nat.le_of_ble_eq_true rfl) rfl (by kernel_rfl) ?_
 rw[Ar]
 refine z2 ?_;intro K hK;refine zk ?_;clear hK K
 by_cases h1:a.n=b.n
 .refine Ag h1 ?_;intro K hK
  refine Ab.eq (IG a.out b.out (by omega) (fun r hr=>by have:=ha.2 r hr;omega)) (by simp) (by simp) ?_
  refine zx ?_
  refine zk ?_;clear hK K
  refine zr ?_
  simp[e0,h1]
 .refine Ag h1 ?_;intro K hK
  refine zk ?_;clear hK K
  refine zr ?_
  simp[e0,h1]
def IZ (j:BW):Prop:=j.list.length<1000000000∧j.out.length<1000000000
theorem FZ (a b:BW) (ha:IZ a):Aa pg 110 [.agg (BA false a),.agg (BA false b)] [] (fun r _=>r= .bool (decide (a=b))):=by
 have e0:(a=b)↔a.kind=b.kind∧a.a=b.a∧a.at_=b.at_∧a.move=b.move∧a.list=b.list∧a.out=b.out:=BW.ext_iff
 have hl1:=ha.1
 have hl2:=ha.2
 refine Aa.start (fn:=Tryz.f110) [.tmp 4] tk rfl rfl rfl (by kernel_rfl) (Nat.le_of_ble_eq_true rfl) rfl (by kernel_rfl) ?_
 rw[Ar]
 refine z2 ?_;intro K hK;refine zk ?_;clear hK K
 by_cases h1:a.kind=b.kind
 .by_cases h2:a.a=b.a
  .by_cases h3:a.at_=b.at_
   .by_cases h4:a.move=b.move
    .refine Ag (an h1 (an h2 (an h3 h4))) ?_;intro K hK
     refine Ab.eq (DN a.list b.list (by omega)) (by simp) (by simp) ?_
     by_cases h5:a.list=b.list
     .rw[decide_eq_true h5]
      refine zx ?_
      refine Ab.eq (DN a.out b.out (by omega)) (by simp) (by simp) ?_
      refine zx ?_
      refine zk ?_;clear hK K
      refine zr ?_
      simp[e0,h1,h2,h3,h4,h5]
     .rw[decide_eq_false h5]
      refine zx ?_
      refine zk ?_;clear hK K
      refine zr ?_
      simp[e0,h5]
    .refine Ag (an h1 (an h2 (an h3 h4))) ?_;intro K hK
     refine zk ?_;clear hK K
     refine zr ?_
     simp[e0,h4]
   .refine Ag (an h1 (an h2 h3)) ?_;intro K hK
    refine zk ?_;clear hK K
    refine zr ?_
    simp[e0,h3]
  .refine Ag (an h1 h2) ?_;intro K hK
   refine zk ?_;clear hK K
   refine zr ?_
   simp[e0,h2]
 .refine Ag h1 ?_;intro K hK
  refine zk ?_;clear hK K
  refine zr ?_
  simp[e0,h1]
def DZ (s:CD):Prop:=Ex s.stage∧IZ s.job
theorem NK (a b:CD) (ha:DZ a):Aa pg 97 [.agg (Ay false a),.agg (Ay false b)] [] (fun r _=>r= .bool (decide (a=b))):=by
 have e0:(a=b)↔a.opn=b.opn∧a.pin=b.pin∧a.on=b.on∧a.frm=b.frm∧a.stage=b.stage∧a.job=b.job:=CD.ext_iff
 refine Aa.start (fn:=Tryz.f97) [.tmp 4] tk rfl rfl rfl (by kernel_rfl) (Nat.le_of_ble_eq_true rfl) rfl (by kernel_rfl) ?_
 rw[Ar]
 refine z2 ?_;intro K hK;refine zk ?_;clear hK K
 by_cases h1:a.opn=b.opn
 .by_cases h2:a.pin=b.pin
  .by_cases h3:a.on=b.on
   .by_cases h4:a.frm=b.frm
    .refine Ag (an h1 (an h2 (an h3 h4))) ?_;intro K hK
     refine Ab.eq (FF a.stage b.stage ha.1) (by simp) (by simp) ?_
     by_cases h5:a.stage=b.stage
     .rw[decide_eq_true h5]
      refine zx ?_
      refine Ab.eq (FZ a.job b.job ha.2) (by simp) (by simp) ?_
      refine zx ?_
      refine zk ?_;clear hK K
      refine zr ?_
      simp[e0,h1,h2,h3,h4,h5]
     .rw[decide_eq_false h5]
      refine zx ?_
      refine zk ?_;clear hK K
      refine zr ?_
      simp[e0,h5]
    .refine Ag (an h1 (an h2 (an h3 h4))) ?_;intro K hK
     refine zk ?_;clear hK K
     refine zr ?_
     simp[e0,h4]
   .refine Ag (an h1 (an h2 h3)) ?_;intro K hK
    refine zk ?_;clear hK K
    refine zr ?_
    simp[e0,h3]
  .refine Ag (an h1 h2) ?_;intro K hK
   refine zk ?_;clear hK K
   refine zr ?_
   simp[e0,h2]
 .refine Ag h1 ?_;intro K hK
  refine zk ?_;clear hK K
  refine zr ?_
  simp[e0,h1]
end Go.Abs
set_option maxRecDepth 100000
namespace Go.Abs
open Go.Proofs
theorem KX (xs:List AS) (hx:xs.length<1000000000):Aa pg 70 [.ro xs.length (Af AE xs)] [] (fun r _=>r= .own 8 xs.length (Af AE xs)):=by
 refine Aa.start (fn:=Tryz.f70) [.tmp 2] tk rfl rfl rfl (by kernel_rfl) (Nat.le_of_ble_eq_true rfl) rfl (by kernel_rfl) ?_
 rw[As]
 refine zs ?_
 refine zs ?_
 refine zs ?_
 (repeat refine W.seq ?_);refine W.block (W.loopS (fun k:Nat=> [(0,.ro xs.length (Af AE xs)),(3,.tok 0 k 8 0 k),(4,.int .i64 k)]) (fun k=> [.live k (Af AE (xs.take k))]) (fun k=>xs.length-k) (fun k=>k≤xs.length) 0 ((Wk.nil (t:=3) (s:=8) ?_).trans (Wk.fr ?_)) (by simp) ?_)
 .simp
 .simp[Ad]
 .intro k hk
  refine zs ?_
  refine zc ?_ ?_<;>intro h
  .refine W.skip ?_
   have hlt:k<xs.length:=by omega
   refine zb ?_
   (repeat refine W.seq ?_);refine W.reg 1 rfl fun K hK=>?_;simp -implicitDefEqProofs (maxSteps:=999999) (disch:=omega) [hlt]
   refine⟨by omega,by omega,?_⟩
   refine zk ?_;clear hK K
   refine zs ?_
   refine⟨k+1,by omega,by omega,Wk.cutM (k:=1) (by simp[Ad]) ?_ (by simp) (by simp) (by simp) (by simp)⟩
   have hto:xs.take (k+1)=xs.take k++[xs[k]]:=by rw[List.take_add_one];simp[hlt]
   rw[hto,Co]
   simp[AD]
  .refine W.exit ?_
   have hk' :k=xs.length:=by omega
   subst hk'
   refine zs ?_
   exact zR
theorem En (j:BW) (hj:IZ j):Aa pg 153 [.agg (BA false j)] [] (fun r _=>r= .agg (BA true j)):=by
 have h1:=hj.1
 have h2:=hj.2
 refine Aa.start (fn:=Tryz.f153) [.cell 2 53] tk rfl rfl rfl (by kernel_rfl) (Nat.le_of_ble_eq_true rfl) rfl (by kernel_rfl) ?_
 rw[As]
 refine z2 ?_;intro K hK;refine zk ?_;clear hK K
 refine z1 ?_;intro K hK;refine zk ?_;clear hK K
 refine z0 ?_;intro K hK
 refine Ab.eq (DV j.list (by omega)) (by simp) (by simp) ?_
 refine zx ?_
 refine zk ?_;clear hK K
 refine z0 ?_;intro K hK
 refine Ab.eq (DV j.out (by omega)) (by simp) (by simp) ?_
 refine zx ?_
 refine zk ?_;clear hK K
 refine zs ?_
 exact zR
end Go.Abs
set_option maxRecDepth 100000
namespace Go.Abs
open Go.Proofs
theorem NL (xs:List (List Int)) (hx:xs.length<1000000000) (hr:∀r∈xs,r.length<1000000000):Aa pg 188 [.ro xs.length (Au false xs)] [] (fun r _=>r= .own 1 xs.length (Au true xs)):=by
 refine Aa.start (fn:=Tryz.f188) [.tmp 2] tk rfl rfl rfl (by kernel_rfl) (Nat.le_of_ble_eq_true rfl) rfl (by kernel_rfl) ?_
 rw[As]
 refine zs ?_
 refine zs ?_
 refine zs ?_
 (repeat refine W.seq ?_);refine W.block (W.loopS (fun k:Nat=> [(0,.ro xs.length (Au false xs)),(3,.tok 0 k 1 0 k),(4,.int .i64 k)]) (fun k=> [.live k (Au true (xs.take k))]) (fun k=>xs.length-k) (fun k=>k≤xs.length) 0 ((Wk.nil (t:=3) (s:=1) ?_).trans (Wk.fr ?_)) (by simp) ?_)
 .simp
 .simp[Ad]
 .intro k hk
  refine zs ?_
  refine zc ?_ ?_<;>intro h
  .refine W.skip ?_
   have hlt:k<xs.length:=by omega
   have sp:=DV xs[k] (by have:=hr _ (List.getElem_mem hlt);omega)
   refine zb ?_
   (repeat refine W.seq ?_);refine W.reg 1 rfl fun K hK=>?_;simp -implicitDefEqProofs (maxSteps:=999999) (disch:=omega) [hlt]
   refine Ab.eq sp (by simp) (by simp) ?_
   refine AI hlt ?_
   refine⟨by omega,by omega,?_⟩
   refine zk ?_;clear hK K
   refine zs ?_
   have hto:xs.take (k+1)=xs.take k++[xs[k]]:=by rw[List.take_add_one];simp[hlt]
   have hll:(Au true (xs.take k)).length=k:=by simp;omega
   refine⟨k+1,by omega,by omega,(Wk.intern (B:=0) (v:=k+1) (j:=k) (T:=2) (u:=0) (s:=1) (off:=0) (n:=xs[k].length) (cs:=Au true (xs.take k)++[AV.tok 2 0 1 0 xs[k].length]) (xs:=Ac xs[k]) (by simp) ?_ (by simp) (by simp) (by simp) (by simp)).trans (Wk.cutM (k:=1) (by simp[Ad]) ?_ (by simp) (by simp) (by simp) (by simp))⟩
   .rw[List.getElem?_append_right (by omega),hll];simp
   .rw[hto,Qw]
    simp only[List.set_cons_zero,List.take_succ_cons,List.take_zero,List.cons.injEq,Ae.live.injEq,true_and,and_true]
    rw[List.set_append_right _ _ (by omega),hll]
    simp[Au]
  .refine W.exit ?_
   have hk' :k=xs.length:=by omega
   subst hk'
   refine zs ?_
   exact zR
theorem So {P L:List AV} {n i:Nat} {x:AV} (h:P.length=n):(P++L).set (n+i) x=P++L.set i x:=by
 rw[List.set_append_right _ _ (by omega),h,Nat.add_sub_cancel_left]
theorem Sp {P L:List AV} {n i:Nat} (h:P.length=n):(P++L)[n+i]?=L[i]?:=by
 rw[List.getElem?_append_right (by omega),h,Nat.add_sub_cancel_left]
theorem NM (g:Gr) (hg:Ex g):Aa pg 152 [.agg (AX false g)] [] (fun r _=>r= .agg (AX true g)):=by
 refine Aa.start (fn:=Tryz.f152) [.cell 2 51] tk rfl rfl rfl (by kernel_rfl) (Nat.le_of_ble_eq_true rfl) rfl (by kernel_rfl) ?_
 rw[As]
 refine z2 ?_;intro K hK;refine zk ?_;clear hK K
 refine z1 ?_;intro K hK;refine zk ?_;clear hK K
 refine z0 ?_;intro K hK
 refine Ab.eq (NL g.out hg.1 hg.2) (by simp) (by simp) ?_
 refine zx ?_
 refine zk ?_;clear hK K
 refine zs ?_
 exact zR
theorem LU (s:CD) (hs:DZ s):Aa pg 113 [.agg (Ay false s)] [] (fun r _=>r= .agg (Ay true s)):=by
 refine Aa.start (fn:=Tryz.f113) [.cell 2 55] tk rfl rfl rfl (by kernel_rfl) (Nat.le_of_ble_eq_true rfl) rfl (by kernel_rfl) ?_
 rw[As]
 refine z2 ?_;intro K hK;refine zk ?_;clear hK K
 refine z1 ?_;intro K hK;refine zk ?_;clear hK K
 refine z0 ?_;intro K hK
 refine Ab.eq (NM s.stage hs.1) (by simp) (by simp) ?_
 refine zx ?_
 refine zk ?_;clear hK K
 refine z0 ?_;intro K hK
 refine Ab.eq (En s.job hs.2) (by simp) (by simp) ?_
 refine zx ?_
 refine zk ?_;clear hK K
 refine zs ?_
 exact zR
theorem KY (xs:List CD) (hx:xs.length<1000000000) (hr:∀r∈xs,DZ r):Aa pg 71 [.ro xs.length (Af (Ay false) xs)] [] (fun r _=>r= .own 12 xs.length (Af (Ay true) xs)):=by
 refine Aa.start (fn:=Tryz.f71) [.tmp 2] tk rfl rfl rfl (by kernel_rfl) (Nat.le_of_ble_eq_true rfl) rfl (by kernel_rfl) ?_
 rw[As]
 refine zs ?_
 refine zs ?_
 refine zs ?_
 (repeat refine W.seq ?_);refine W.block (W.loopS (fun k:Nat=> [(0,.ro xs.length (Af (Ay false) xs)),(3,.tok 0 k 12 0 k),(4,.int .i64 k)]) (fun k=> [.live k (Af (Ay true) (xs.take k))]) (fun k=>xs.length-k) (fun k=>k≤xs.length) 0 ((Wk.nil (t:=3) (s:=12) ?_).trans (Wk.fr ?_)) (by simp) ?_)
 .simp
 .simp[Ad]
 .intro k hk
  refine zs ?_
  refine zc ?_ ?_<;>intro h
  .refine W.skip ?_
   have hlt:k<xs.length:=by omega
   have sp:=LU xs[k] (hr _ (List.getElem_mem hlt))
   refine zb ?_
   (repeat refine W.seq ?_);refine W.reg 1 rfl fun K hK=>?_;simp -implicitDefEqProofs (maxSteps:=999999) (disch:=omega) [hlt]
   refine Ab.eq sp (by simp) (by simp) ?_
   refine AI hlt ?_
   refine⟨by omega,by omega,?_⟩
   refine zk ?_;clear hK K
   refine zs ?_
   have hto:xs.take (k+1)=xs.take k++[xs[k]]:=by rw[List.take_add_one];simp[hlt]
   have hll:(Af (Ay true) (xs.take k)).length=k*12:=by simp;omega
   refine⟨k+1,by omega,by omega,?_⟩
   have hpn:(Af (Ay true) (xs.take k)).all (Gc 1)=true:=by rw[←Ha];simp
   rw[hto,Co]
   generalize Af (Ay true) (xs.take k)=P at*
   generalize xs[k]=x at*
   refine Wk.trans (Wk.intern (B:=0) (v:=k+1) (j:=k*12+5) (T:=2) (u:=0) (s:=1) (off:=0) (n:=x.stage.out.length) (cs:=P++[AV.bool x.opn,AV.int .i64 x.pin,AV.bool x.on,AV.int .i64 x.frm,AV.int .i64 x.stage.n,AV.tok 2 0 1 0 x.stage.out.length,AV.int .i64 x.job.kind,AV.int .i64 x.job.a,AV.int .i64 x.job.at_,AV.bool x.job.move,AV.tok 3 0 1 0 x.job.list.length,AV.tok 4 0 1 0 x.job.out.length]) (xs:=Au true x.stage.out) (by simp[Ai]) (by rw[Sp hll];rfl) (by simp[Ai]) (by decide) (by simp) (by simp)) ?_
   rw[So hll]
   simp only[List.set_cons_zero,List.set_cons_succ,List.drop_zero,Nat.mul_one,HJ,ID,List.take_length]
   refine Wk.trans (Wk.intern (B:=0) (v:=k+1) (j:=k*12+10) (T:=3) (u:=0) (s:=1) (off:=0) (n:=x.job.list.length) (cs:=P++[AV.bool x.opn,AV.int .i64 x.pin,AV.bool x.on,AV.int .i64 x.frm,AV.int .i64 x.stage.n,AV.own 1 x.stage.out.length (Au true x.stage.out),AV.int .i64 x.job.kind,AV.int .i64 x.job.a,AV.int .i64 x.job.at_,AV.bool x.job.move,AV.tok 3 0 1 0 x.job.list.length,AV.tok 4 0 1 0 x.job.out.length]) (xs:=Ac x.job.list) (by simp[Ai]) (by rw[Sp hll];rfl) (by simp[Ai]) (by decide) (by simp) (by simp)) ?_
   rw[So hll]
   simp only[List.set_cons_zero,List.set_cons_succ,List.drop_zero,Nat.mul_one,HJ,ID,List.take_length]
   refine Wk.trans (Wk.intern (B:=0) (v:=k+1) (j:=k*12+11) (T:=4) (u:=0) (s:=1) (off:=0) (n:=x.job.out.length) (cs:=P++[AV.bool x.opn,AV.int .i64 x.pin,AV.bool x.on,AV.int .i64 x.frm,AV.int .i64 x.stage.n,AV.own 1 x.stage.out.length (Au true x.stage.out),AV.int .i64 x.job.kind,AV.int .i64 x.job.a,AV.int .i64 x.job.at_,AV.bool x.job.move,AV.own 1 x.job.list.length (Ac x.job.list),AV.tok 4 0 1 0 x.job.out.length]) (xs:=Ac x.job.out) (by simp[Ai]) (by rw[Sp hll];rfl) (by simp[Ai]) (by decide) (by simp) (by simp)) ?_
   rw[So hll]
   simp only[List.set_cons_zero,List.set_cons_succ,List.drop_zero,Nat.mul_one,HJ,ID,List.take_length]
   refine Wk.cutM (k:=1) (by simp[Ad]) ?_ (by simp) (by simp) ?_ (by simp)
   .simp[AD]
   .simp only[List.all_cons,List.all_nil,Bool.and_true,Hz,List.all_append,hpn,Ha]
    simp[AD]
  .refine W.exit ?_
   have hk' :k=xs.length:=by omega
   subst hk'
   refine zs ?_
   exact zR
theorem NN (s:AT) (hs:Bp s) (hr:∀r∈s.sess,DZ r):Aa pg 14 [.agg (AJ false s)] [] (fun r _=>r= .agg (AJ true s)):=by
 refine Aa.start (fn:=Tryz.f14) [.cell 2 38] tk rfl rfl rfl (by kernel_rfl) (Nat.le_of_ble_eq_true rfl) rfl (by kernel_rfl) ?_
 rw[As]
 refine z2 ?_;intro K hK;refine zk ?_;clear hK K
 refine z1 ?_;intro K hK;refine zk ?_;clear hK K
 refine z0 ?_;intro K hK
 refine Ab.eq (KX s.vers hs.1) (by simp) (by simp) ?_
 refine zx ?_
 refine zk ?_;clear hK K
 refine z0 ?_;intro K hK
 refine Ab.eq (KY s.sess hs.2.1 hr) (by simp) (by simp) ?_
 refine zx ?_
 refine zk ?_;clear hK K
 refine zs ?_
 exact zR
end Go.Abs
set_option maxRecDepth 100000
namespace Go.Abs
open Go.Proofs
theorem QM (b:CM) (i:Nat) (hn:b.data.size<1000000000000) (hi:i/8<b.data.size):Aa pg 142 [.agg (Ch b),.int .i64 i] [] (fun r _=>r= .int .i64 (if Eh b.data i=true then 1 else 0)):=by
 refine Aa.start (fn:=Tryz.f142) [.tmp 4] tk rfl rfl rfl (by kernel_rfl) (Nat.le_of_ble_eq_true rfl) rfl (by kernel_rfl) ?_
 rw[Ar]
 refine z1 ?_;intro K hK;refine zk ?_;clear hK K
 refine z0 ?_;intro K hK
 refine⟨by omega,?_⟩
 have hB:=GH b.data (i/8)
 have h3:=MV b.data (i/8) (7-(i:Int)%8).toNat
 have e1:((i:Int)/8).toNat=i/8:=by omega
 rw[e1,wrap_i64 (by omega) (by omega),JC _ h3.1 (by omega),Oh]
 simp
 refine zk ?_;clear hK K
 exact zR
theorem UK (b:CM) (h3:b.data.size<1000000000):Aa pg 106 [.agg (Ch b)] [] (fun r _=>r= .bool (decide (C2 b))):=by
 refine Aa.start (fn:=Tryz.f106) [.tmp 2] tk rfl rfl rfl (by kernel_rfl) (Nat.le_of_ble_eq_true rfl) rfl (by kernel_rfl) ?_
 rw[As]
 refine z1 ?_;intro K hK;refine zk ?_;clear hK K
 refine z0 ?_;intro K hK
 refine Ab.eq (HQ b.n 6000) (by simp) (by simp) ?_
 by_cases h0:0≤b.n∧b.n≤6000
 rotate_left
 .rw[decide_eq_false h0]
  refine zx ?_
  refine zk ?_;clear hK K
  refine zt ?_
  refine zs ?_
  refine zr ?_
  intro h;exact h0 ⟨h.1,h.2.1⟩
 .rw[decide_eq_true h0]
  obtain⟨n,hn⟩:=Int.eq_ofNat_of_zero_le h0.1
  refine zx ?_
  refine zk ?_;clear hK K
  refine zc ?_ ?_<;>intro h
  .refine zs ?_
   refine zr ?_
   intro g;have:=g.2.2.1;omega
  .refine W.skip ?_
   refine Ag hn ?_;intro K hK
   refine zk ?_;clear hK K
   (repeat refine W.seq ?_);refine W.block (W.loopS (fun i:Nat=> [(1,.ptr 0 0 0),(3,.int .i64 i)]) (fun _=> [.live 0 [.str b.data,.int .i64 n]]) (fun i=>8*b.data.size-i) (fun i=>n≤i∧(i≤8*b.data.size∨i=n)∧∀j,n≤j→j<i→Eh b.data j=false) n (Wk.fr (by simp[Ad])) ⟨by omega,by omega,fun j h1 h2=>by omega⟩ ?_)
   rintro i ⟨hi,hi2,ht⟩
   refine zs ?_
   refine zc ?_ ?_<;>intro h
   .refine W.skip ?_
    have hlt:i<8*b.data.size:=by omega
    have sp:=QM b i (by omega) (by omega)
    refine zb ?_
    refine z0 ?_;intro K hK
    rw[←hn]
    cases hb:Eh b.data i
    .simp only[hb,Bool.false_eq_true,if_false] at sp
     refine Ab.eq sp (by simp) (by simp) ?_
     refine zx ?_
     refine zk ?_;clear hK K
     refine zn ?_
     refine W.skip ?_
     refine zs ?_
     refine⟨i+1,by omega,⟨by omega,by omega,fun j h1 h2=>?_⟩,?_⟩
     .by_cases e:j=i
      .subst e;exact hb
      .exact ht j h1 (by omega)
     .rw[hn];exact Wk.fr (by simp[Ad])
    .simp only[hb,if_true] at sp
     refine Ab.eq sp (by simp) (by simp) ?_
     refine zx ?_
     refine zk ?_;clear hK K
     refine zt ?_
     refine zs ?_
     refine zr ?_
     intro g
     have:=g.2.2.2 i hlt (by omega)
     rw[hb] at this;cases this
   .refine W.exit ?_
    refine zs ?_
    refine zr ?_
    refine⟨h0.1,h0.2,by omega,fun j h1 h2=>ht j (by omega) (by omega)⟩
end Go.Abs
set_option maxRecDepth 100000
namespace Go.Abs
open Go.Proofs
def b8 (b:Bool):AV:= .int .u8 (if b=true then 1 else 0)
def AO (xs:List Bool):List AV:=xs.map b8
section
variable (xs ys:List Bool) (M:List Ae) (k:Nat)
@[simp] theorem YY (i:Nat):(AO xs)[i]?=(xs[i]?).map b8:=by simp[AO]
@[simp] theorem YZ:(AO xs).length=xs.length:=by simp[AO]
@[simp] theorem Y0:AO []=[]:=rfl
theorem Nm:AO (xs++ys)=AO xs++AO ys:=by simp[AO]
@[simp] theorem XJ:(AO xs).take k=AO (xs.take k):=by simp[AO,List.map_take]
@[simp] theorem XK:(AO xs).drop k=AO (xs.drop k):=by simp[AO,List.map_drop]
@[simp] theorem Z5:EC (AO xs)=true:=by simp[AO,EC,-Kc,b8]
@[simp] theorem Z6:ED (AO xs)=true:=by simp[AO,ED,-Kd,b8]
@[simp] theorem Z7:EE (AO xs)=true:=by simp[AO,EE,-Ke,b8]
@[simp] theorem Z8:Db k (AO xs)=true:=by induction xs<;>simp_all[AO,b8]
@[simp] theorem Y1:CJ (AO xs)=true:=by induction xs<;>simp_all[AO,b8]
@[simp] theorem Y2:Et (AO xs)=AO xs:=by induction xs<;>simp_all[AO,b8]
@[simp] theorem Y3:(AO xs).map D0=AO xs:=by simp[AO,b8]
@[simp] theorem Y4:(AO xs).map (B6 M k)=AO xs:=by cases k<;>simp[AO,b8]
end
theorem VY (b:CM) (h0:0≤b.n) (h1:b.n≤8*b.data.size) (h3:b.data.size<1000000000):Aa pg 107 [.agg (Ch b)] [] (fun r _=>r= .own 1 (An b).length (AO (An b))):=by
 have hl:=BX b
 obtain⟨n,hn⟩:=Int.eq_ofNat_of_zero_le h0
 have hln:(An b).length=n:=by omega
 refine Aa.start (fn:=Tryz.f107) [.tmp 2] tk rfl rfl rfl (by kernel_rfl) (Nat.le_of_ble_eq_true rfl) rfl (by kernel_rfl) ?_
 rw[As]
 refine z1 ?_;intro K hK;refine zk ?_;clear hK K
 refine zs ?_
 refine zs ?_
 (repeat refine W.seq ?_);refine W.block (W.loopS (fun k:Nat=> [(1,.ptr 0 0 0),(3,.tok 1 k 1 0 k),(4,.int .i64 k)]) (fun k=> [.live 0 (Ch b),.live k (AO ((An b).take k))]) (fun k=>n-k) (fun k=>k≤n) 0 ((Wk.nil (t:=3) (s:=1) ?_).trans (Wk.fr ?_)) (Nat.zero_le _) ?_)
 .simp
 .simp[Ad]
 .intro k hk
  refine zs ?_
  refine zc ?_ ?_<;>intro h
  .refine W.skip ?_
   have hlt:k<n:=by omega
   have sp:=QM b k (by omega) (by omega)
   have hbk:(An b)[k]'(by omega)=Eh b.data k:=by simp[An]
   have hto:(An b).take (k+1)=(An b).take k++[Eh b.data k]:=by rw[List.take_add_one,List.getElem?_eq_getElem (by omega),hbk];rfl
   refine zb ?_
   refine z1 ?_;intro K hK
   refine Ab.eq sp (by simp) (by simp) ?_
   refine zx ?_
   have e8:AV.int .u8 (IntKind.u8.wrap (if Eh b.data k=true then 1 else 0))=b8 (Eh b.data k):=by
    cases Eh b.data k<;>rfl
   rw[e8]
   refine⟨by omega,by omega,?_⟩
   refine zk ?_;clear hK K
   refine zs ?_
   refine⟨k+1,by omega,by omega,Wk.cutM (k:=2) (by simp[Ad]) ?_ (by simp) (by simp) (by simp) (by simp)⟩
   rw[hto,Nm]
   rfl
  .refine W.exit ?_
   have hk' :k=n:=by omega
   subst hk'
   have e:(An b).take k=An b:=List.take_of_length_le (by omega)
   rw[e]
   refine zs ?_
   refine zr ?_
   rw[e]
   exact⟨hln.symm,rfl⟩
end Go.Abs
set_option maxRecDepth 100000
namespace Go.Abs
open Go.Proofs
theorem UL (l:List Bool) (p:Nat) (hl:l.length<1000000000000) (hp:p≤l.length):Aa pg 178 [.ro l.length (AO l),.int .i64 p] [] (fun r _=>r= .int .i64 (nb (ahead l p))):=by
 refine Aa.start (fn:=Tryz.f178) [.tmp 4] tk rfl rfl rfl (by kernel_rfl) (Nat.le_of_ble_eq_true rfl) rfl (by kernel_rfl) ?_
 rw[Ar]
 refine zs ?_
 refine zs ?_
 (repeat refine W.seq ?_);refine W.block (W.loopS (fun q:Nat=> [(0,.ro l.length (AO l)),(1,.int .i64 p),(5,.int .i64 q)]) (fun _=> []) (fun q=>l.length-q) (fun q=>p≤q∧q≤l.length∧(l.drop p).take (q-p)=List.replicate (q-p) false) p (Wk.fr (by simp[Ad])) ⟨by omega,by omega,by simp⟩ ?_)
 rintro q ⟨hpq,hq,ht⟩
 refine zs ?_
 refine zc ?_ ?_<;>intro h
 .refine W.skip ?_
  have hlt:q<l.length:=by omega
  have hst:(l[q]=true→ahead l p=some (q-p))∧(l[q]=false→(l.drop p).take (q+1-p)=List.replicate (q+1-p) false):=by
   obtain⟨k,rfl⟩:∃k,q=p+k:=⟨q-p,by omega⟩
   have:=Kh hlt (by simpa using ht)
   rw[show p+k+1-p=k+1 by omega,show p+k-p=k by omega]
   exact this
  refine zb ?_
  cases hb:l[q]
  . (repeat refine W.seq ?_);refine W.reg 0 rfl fun K hK=>?_;simp -implicitDefEqProofs (maxSteps:=999999) (disch:=omega) [hlt,hb,b8]
    refine zk ?_;clear hK K
    refine zn ?_
    refine W.skip ?_
    refine zs ?_
    refine⟨q+1,by omega,⟨by omega,by omega,hst.2 hb⟩,Wk.fr (by simp[Ad])⟩
  . (repeat refine W.seq ?_);refine W.reg 0 rfl fun K hK=>?_;simp -implicitDefEqProofs (maxSteps:=999999) (disch:=omega) [hlt,hb,b8]
    refine zk ?_;clear hK K
    refine zt ?_
    refine z0 ?_;intro K hK
    refine zk ?_;clear hK K
    refine zr ?_
    rw[hst.1 hb];simp[nb];omega
 .refine W.exit ?_
  have hq' :q=l.length:=by omega
  refine zs ?_
  refine zr ?_
  rw[Lv (k:=q-p) (by omega) ht];rfl
theorem WU (l:List Bool) (p w:Nat) (hl:l.length<1000000000000) (hw:w≤60) (hp:p+w≤l.length):Aa pg 179 [.ro l.length (AO l),.int .i64 p,.int .i64 w] [] (fun r _=>r= .int .i64 (Bq ((l.drop p).take w))):=by
 refine Aa.start (fn:=Tryz.f179) [.tmp 6] tk rfl rfl rfl (by kernel_rfl) (Nat.le_of_ble_eq_true rfl) rfl (by kernel_rfl) ?_
 rw[Bg]
 refine zs ?_
 refine zs ?_
 refine zs ?_
 (repeat refine W.seq ?_);refine W.block (W.loopS (fun q:Nat=> [(0,.ro l.length (AO l)),(1,.int .i64 p),(2,.int .i64 w),(7,.int .i64 (Bq ((l.drop p).take (q-p)))),(8,.int .i64 q)]) (fun _=> []) (fun q=>p+w-q) (fun q=>p≤q∧q≤p+w) p (Wk.fr (by simp[Ad])) ⟨by omega,by omega⟩ ?_)
 rintro q ⟨hpq,hq⟩
 refine zs ?_
 refine zc ?_ ?_<;>intro h
 .refine W.skip ?_
  have hlt:q<l.length:=by omega
  have hst:Bq ((l.drop p).take (q+1-p))=2*Bq ((l.drop p).take (q-p))+(l[q]).toNat:=by
   obtain⟨k,rfl⟩:∃k,q=p+k:=⟨q-p,by omega⟩
   rw[show p+k+1-p=k+1 by omega,show p+k-p=k by omega]
   exact Lx (w:=w) hlt
  have hnl:Bq ((l.drop p).take (q-p))<2^60:=Nat.lt_of_lt_of_le (FV _) (Nat.pow_le_pow_right (by omega) (by simp;omega))
  refine zb ?_
  generalize Bq ((l.drop p).take (q-p))=v at*
  cases hb:l[q]
  .rw[hb] at hst
   (repeat refine W.seq ?_);refine W.reg 0 rfl fun K hK=>?_;simp -implicitDefEqProofs (maxSteps:=999999) (disch:=omega) [hlt,hb,b8]
   refine zk ?_;clear hK K
   refine zs ?_
   refine⟨q+1,by omega,⟨by omega,by omega⟩,Wk.fr (by rw[hst];simp[Ad])⟩
  .rw[hb] at hst
   (repeat refine W.seq ?_);refine W.reg 0 rfl fun K hK=>?_;simp -implicitDefEqProofs (maxSteps:=999999) (disch:=omega) [hlt,hb,b8]
   refine zk ?_;clear hK K
   refine zs ?_
   refine⟨q+1,by omega,⟨by omega,by omega⟩,Wk.fr (by rw[hst];simp[Ad])⟩
 .refine W.exit ?_
  have hq' :q=p+w:=by omega
  subst hq'
  refine zs ?_
  exact zR
end Go.Abs
set_option maxRecDepth 100000
namespace Go.Abs
open Go.Proofs
theorem SL (n:Int) (h0:0≤n) (h1:n≤4611686018427387904):Aa pg 182 [.int .i64 n] [] (fun r _=>r= .int .i64 (Cb n)):=by
 refine Aa.start (fn:=Tryz.f182) [.tmp 2] tk rfl rfl rfl (by kernel_rfl) (Nat.le_of_ble_eq_true rfl) rfl (by kernel_rfl) ?_
 rw[As]
 refine zs ?_
 refine zs ?_
 refine zc ?_ ?_<;>intro h
 .refine z0 ?_;intro K hK
  refine zk ?_;clear hK K
  refine zr ?_
  rw[Cb,if_neg (by omega)]
 .refine W.skip ?_
  have e:(-(n+1)).tdiv 2=-((n+1)/2):=by rw[Int.neg_tdiv,Int.tdiv_eq_ediv_of_nonneg (by omega)]
  refine Ag e ?_;intro K hK
  refine zk ?_;clear hK K
  refine zr ?_
  rw[Cb,if_pos (by omega)]
theorem Nn (n:Int):Aa pg 127 [.int .i64 n] [] (fun r _=>r= .bool (decide (0≤n∧n≤15))):=by
 refine Aa.start (fn:=Tryz.f127) [.tmp 2] tk rfl rfl rfl (by kernel_rfl) (Nat.le_of_ble_eq_true rfl) rfl (by kernel_rfl) ?_
 rw[As]
 refine zs ?_
 refine z0 ?_;intro K hK
 refine Ab.eq (HQ n 15) (by simp) (by simp) ?_
 refine zx ?_
 refine zk ?_;clear hK K
 exact zR
theorem JE (k:Int):Aa pg 149 [.int .i64 k] [] (fun r _=>r= .bool (BS k)):=by
 refine Aa.start (fn:=Tryz.f149) [.tmp 2] tk rfl rfl rfl (by kernel_rfl) (Nat.le_of_ble_eq_true rfl) rfl (by kernel_rfl) ?_
 rw[As]
 refine zs ?_
 by_cases h1:k=1
 .refine Ag h1 ?_;intro K hK
  refine zk ?_;clear hK K
  refine zr ?_
  simp[BS,h1]
 .by_cases h2:k=2
  .refine Ag (an h1 h2) ?_;intro K hK
   refine zk ?_;clear hK K
   refine zr ?_
   simp[BS,h2]
  .refine Ag (an h1 h2) ?_;intro K hK
   refine zk ?_;clear hK K
   refine zr ?_
   simp[BS,h1,h2]
theorem I0 (s:AT) (hs:Bp s):Aa pg 20 [.agg (AJ false s)] [] (fun r _=>r= .int .i64 (AP s.vers)):=by
 have h1:=hs.1
 refine Aa.start (fn:=Tryz.f20) [.tmp 2] tk rfl rfl rfl (by kernel_rfl) (Nat.le_of_ble_eq_true rfl) rfl (by kernel_rfl) ?_
 rw[As]
 refine z1 ?_;intro K hK;refine zk ?_;clear hK K
 refine zs ?_
 refine zc ?_ ?_<;>intro h
 .refine zs ?_
  refine zr ?_
  simp[AP,h]
 .refine W.skip ?_
  have hp:0<s.vers.length:=List.length_pos_iff.2 h
  have hlt:s.vers.length-1<s.vers.length:=by omega
  (repeat refine W.seq ?_);refine W.reg 0 rfl fun K hK=>?_;simp -implicitDefEqProofs (maxSteps:=999999) (disch:=omega) [hlt]
  refine⟨by omega,?_⟩
  refine zk ?_;clear hK K
  refine zr ?_
  rw[AP,List.getLast?_eq_getElem?,List.getElem?_eq_getElem hlt]
theorem KZ (b:CM) (hb:b.data.size<1000000000):Aa pg 21 [.agg (Ch b)] [] (fun r _=>r= .int .i64 (Ba b)):=by
 refine Aa.start (fn:=Tryz.f21) [.tmp 2] tk rfl rfl rfl (by kernel_rfl) (Nat.le_of_ble_eq_true rfl) rfl (by kernel_rfl) ?_
 rw[As]
 refine z1 ?_;intro K hK;refine zk ?_;clear hK K
 refine z0 ?_;intro K hK
 refine zk ?_;clear hK K
 refine zr ?_
 unfold Ba
 congr 1
 omega
end Go.Abs
set_option maxRecDepth 100000
namespace Go.Abs
open Go.Proofs
theorem K0 (g:Gr) (j:BW) (hl:j.list.length<1000000000000):Aa pg 112 [.agg (AX false g),.agg (BA false j)] [] (fun r _=>r= .bool (Bv g j)):=by
 refine Aa.start (fn:=Tryz.f112) [.tmp 4] tk rfl rfl rfl (by kernel_rfl) (Nat.le_of_ble_eq_true rfl) rfl (by kernel_rfl) ?_
 rw[Ar]
 refine z2 ?_;intro K hK;refine zk ?_;clear hK K
 refine zs ?_
 refine zb ?_
 refine zs ?_
 refine zc ?_ ?_<;>intro h
 .refine zs ?_
  refine zr ?_
  simp[Bv,h]
 .have h1:=h;clear h
  refine zs ?_
  refine zc ?_ ?_<;>intro h
  .refine zs ?_
   refine zr ?_
   simp[Bv,h]
  .refine W.skip ?_
   refine zs ?_
   refine zr ?_
   simp[Bv, *]
theorem VZ (s:AT) (id:Int) (hs:Bp s):Aa pg 36 [.agg (AJ false s),.int .i64 id] [] (fun r _=>r= .int .i64 (BN (fun v=>decide (v.id=id)) s.vers)):=by
 have h1:=hs.1
 refine Aa.start (fn:=Tryz.f36) [.tmp 4] tk rfl rfl rfl (by kernel_rfl) (Nat.le_of_ble_eq_true rfl) rfl (by kernel_rfl) ?_
 rw[Ar]
 refine z1 ?_;intro K hK;refine zk ?_;clear hK K
 refine zs ?_
 (repeat refine W.seq ?_);refine W.block (W.loopS (fun k:Nat=> [(1,.int .i64 id),(2,.ptr 0 0 0),(5,.int .i64 k)]) (fun _=> [.live 0 (AJ false s)]) (fun k=>s.vers.length-k) (fun k=>k≤s.vers.length∧∀i (h:i<s.vers.length),i<k→s.vers[i].id≠id) 0 (Wk.fr (by simp[Ad])) (by simp) ?_)
 rintro k ⟨hk,ht⟩
 refine zs ?_
 refine zc ?_ ?_<;>intro h
 .refine W.skip ?_
  have hlt:k<s.vers.length:=by omega
  refine zb ?_
  (repeat refine W.seq ?_);refine W.reg 0 rfl fun K hK=>?_;simp -implicitDefEqProofs (maxSteps:=999999) (disch:=omega) [hlt]
  refine zk ?_;clear hK K
  refine zc ?_ ?_<;>intro h
  .refine zs ?_
   refine zr ?_
   exact(Ek hlt (by simp[h]) fun i hi hik=>by simpa using ht i hi hik).symm
  .refine W.skip ?_
   refine zs ?_
   refine⟨k+1,by omega,⟨by omega,?_⟩,Wk.fr (by simp[Ad])⟩
   intro i hi hik
   by_cases e:i=k
   .subst e;exact fun e=>h e
   .exact ht i hi (by omega)
 .refine W.exit ?_
  refine zs ?_
  refine zr ?_
  exact(DP fun i hi=>by simpa using ht i hi (by omega)).symm
end Go.Abs
set_option maxRecDepth 100000
namespace Go.Abs
open Go.Proofs
theorem FG (l:List Int) (hl:l.length<1000000000000):Aa pg 87 [.ro l.length (Ac l)] [] (fun r _=>r= .bool (decide (AL l))):=by
 refine Aa.start (fn:=Tryz.f87) [.tmp 2] tk rfl rfl rfl (by kernel_rfl) (Nat.le_of_ble_eq_true rfl) rfl (by kernel_rfl) ?_
 rw[As]
 refine zs ?_
 refine zs ?_
 (repeat refine W.seq ?_);refine W.block (W.loopS (fun k:Nat=> [(0,.ro l.length (Ac l)),(3,.int .i64 k)]) (fun _=> []) (fun k=>l.length-k) (fun k=>k≤l.length∧AL (l.take k)) 0 (Wk.fr (by simp[Ad])) (by simp[AL]) ?_)
 rintro k ⟨hk,hm⟩
 have hk16:k≤16:=by have:=BU hm;simp at this;omega
 by_cases hlt:k<l.length
 .have hs:=M0 hlt hm
  have bad:¬AL (l.take (k+1))→¬AL l:=fun g w=>g (MZ (k+1) w)
  refine Ag (an hlt hk16) ?_;intro K hK
  refine zk ?_;clear hK K
  refine zt ?_
  refine W.skip ?_
  have sp:=Nn l[k]
  refine zb ?_
  by_cases c1:0≤l[k]∧l[k]≤15
  rotate_left
  .rw[decide_eq_false c1] at sp
   (repeat refine W.seq ?_);refine W.regd 0 rfl true Ci (by kernel_rfl) fun K hK=>?_;simp -implicitDefEqProofs (maxSteps:=999999) (disch:=omega) [hlt]
   refine Ah.eq sp (by simp) (by simp) ?_
   refine AI hlt ?_
   refine zk ?_;clear hK K
   refine zt ?_
   refine zs ?_
   refine zr ?_
   exact bad fun g=>c1 (by have:=(hs.1 g).1;omega)
  .rw[decide_eq_true c1] at sp
   by_cases c2:0<k
   .by_cases c3:l[k]≤l[k-1]
    . (repeat refine W.seq ?_);refine W.regd 0 rfl true Ci (by kernel_rfl) fun K hK=>?_;simp -implicitDefEqProofs (maxSteps:=999999) (disch:=omega) [hlt]
      refine Ah.eq sp (by simp) (by simp) ?_
      refine AI (an hlt (an c2 c3)) ?_
      refine⟨by omega,?_⟩
      refine zk ?_;clear hK K
      refine zt ?_
      refine zs ?_
      refine zr ?_
      exact bad fun g=>by have:=(hs.1 g).2 c2;omega
    . (repeat refine W.seq ?_);refine W.regd 0 rfl true Ci (by kernel_rfl) fun K hK=>?_;simp -implicitDefEqProofs (maxSteps:=999999) (disch:=omega) [hlt]
      refine Ah.eq sp (by simp) (by simp) ?_
      refine AI (an hlt (an c2 c3)) ?_
      refine⟨by omega,?_⟩
      refine zk ?_;clear hK K
      refine zn ?_
      refine W.skip ?_
      refine zs ?_
      exact⟨k+1,by omega,⟨by omega,hs.2 ⟨by omega,fun _=>by omega⟩⟩,Wk.fr (by simp[Ad])⟩
   . (repeat refine W.seq ?_);refine W.regd 0 rfl true Ci (by kernel_rfl) fun K hK=>?_;simp -implicitDefEqProofs (maxSteps:=999999) (disch:=omega) [hlt]
     refine Ah.eq sp (by simp) (by simp) ?_
     refine AI (an hlt c2) ?_
     refine zk ?_;clear hK K
     refine zn ?_
     refine W.skip ?_
     refine zs ?_
     exact⟨k+1,by omega,⟨by omega,hs.2 ⟨by omega,fun h=>absurd h c2⟩⟩,Wk.fr (by simp[Ad])⟩
 .have hk' :k=l.length:=by omega
  subst hk'
  rw[List.take_length] at hm
  refine z0 ?_;intro K hK
  refine zk ?_;clear hK K
  refine zn ?_
  refine W.exit ?_
  refine zs ?_
  refine zr ?_
  have:=BU hm
  simp[hm]
  try omega
end Go.Abs
set_option maxRecDepth 100000
namespace Go.Abs
open Go.Proofs
theorem SM (n:Int) (h:-1000000≤n∧n≤1000000):Aa pg 205 [.int .i64 n] [] (fun r _=>r= .int .i64 (D5 n)):=by
 refine Aa.start (fn:=Tryz.f205) [.tmp 2] tk rfl rfl rfl (by kernel_rfl) (Nat.le_of_ble_eq_true rfl) rfl (by kernel_rfl) ?_
 rw[As]
 refine zs ?_
 refine zs ?_
 refine zc ?_ ?_<;>intro h
 .refine z0 ?_;intro K hK
  refine zk ?_;clear hK K
  refine zr ?_
  simp[D5];omega
 .refine W.skip ?_
  refine z0 ?_;intro K hK
  refine zk ?_;clear hK K
  refine zr ?_
  simp[D5];omega
theorem Sq (a b:Nat):(a:Int).fdiv (b:Int)=((a/b:Nat):Int):=by rw[Int.fdiv_eq_ediv_of_nonneg _ (by omega)];rfl
theorem WV (n:Nat) (h:1≤n) (h2:n<1099511627776):Aa pg 180 [.int .i64 n] [] (fun r _=>r= .int .i64 (Nat.log2 n)):=by
 have hlg:=(Nat.log2_lt (n:=n) (k:=40) (by omega)).2 (by omega)
 refine Aa.start (fn:=Tryz.f180) [.tmp 2] tk rfl rfl rfl (by kernel_rfl) (Nat.le_of_ble_eq_true rfl) rfl (by kernel_rfl) ?_
 rw[As]
 refine zs ?_
 refine zs ?_
 (repeat refine W.seq ?_);refine W.block (W.loopS (fun z:Nat×Nat=> [(0,.int .i64 (z.1:Nat)),(3,.int .i64 (z.2:Nat))]) (fun _=> []) (fun z=>z.1) (fun z=>z.1=n/2^z.2∧1≤z.1∧z.2≤Nat.log2 n) (n,0) (Wk.fr (by simp[Ad])) ⟨by simp,h,by simp⟩ ?_)
 rintro⟨q,k⟩ ⟨hq,hq1,hk⟩
 simp only at hq hq1 hk
 have hp:0<2^k:=Nat.pow_pos (by omega)
 have hdm:=Nat.div_add_mod n (2^k)
 have hml:=Nat.mod_lt n hp
 rw[←hq] at hdm
 refine zs ?_
 refine zc ?_ ?_<;>intro h
 .refine W.skip ?_
  have hf:(q:Int).fdiv 2=((q/2:Nat):Int):=Sq q 2
  have hk1:k+1≤Nat.log2 n:=by
   refine(Nat.le_log2 (by omega)).2 ?_
   rw[Nat.pow_succ]
   have:2^k*2≤2^k*q:=Nat.mul_le_mul_left _ (by omega)
   omega
  refine zb ?_
  refine Ag hf ?_;intro K hK
  refine zk ?_;clear hK K
  refine zs ?_
  exact⟨(q/2,k+1),by simp only;omega,⟨by simp only;rw[hq,Nat.div_div_eq_div_mul,Nat.pow_succ],by simp only;omega,hk1⟩,Wk.fr (by simp[Ad])⟩
 .refine W.exit ?_
  have:q=1:=by omega
  subst this
  refine zs ?_
  refine zr ?_
  rw[Lu (q:=k) (by omega) (by rw[Nat.pow_succ];omega)]
theorem SN (xs:List Bool) (u v w:Nat) (hx:xs.length<1000000000) (hw:w≤60) (hv:v<1099511627776):Aa pg 203 [.tok 0 u 1 0 xs.length,.int .i64 v,.int .i64 w] [.live u (AO xs)] (fun r M=>r= .own 1 (xs.length+w) (AO (xs++By v w))∧M=[.dead]):=by
 refine Aa.start (fn:=Tryz.f203) [.tmp 6] tk rfl rfl rfl (by kernel_rfl) (Nat.le_of_ble_eq_true rfl) rfl (by kernel_rfl) ?_
 rw[Bg]
 refine zs ?_
 refine zs ?_
 rw[show AO xs=AO (xs++(By v w).take 0) by simp]
 (repeat refine W.seq ?_);refine W.block (W.loopS (fun k:Nat=> [(0,.tok 0 (u+k) 1 0 (xs.length+k)),(1,.int .i64 v),(7,.int .i64 ((w:Int)-1-k))]) (fun k=> [.live (u+k) (AO (xs++(By v w).take k))]) (fun k=>w-k) (fun k=>k≤w) 0 (Wk.fr (by simp[Ad])) (by simp) ?_)
 intro k hk
 by_cases hlt:k<w
 .obtain⟨i,hi⟩:∃i:Nat,(w:Int)-1-k=i:=⟨w-1-k,by omega⟩
  have hmin:min i 64=i:=by omega
  rw[hi]
  refine zs ?_
  refine zt ?_
  refine W.skip ?_
  refine zb ?_
  obtain⟨Q,hQd⟩:∃Q,Q=v/2^i:=⟨_,rfl⟩
  have hQ:(v:Int)/2^i=(Q:Int):=by rw[hQd,Int.natCast_ediv,Int.natCast_pow];rfl
  have hQv:Q≤v:=by rw[hQd];exact Nat.div_le_self _ _
  have hand:=JC (Q:Int) (by omega) (by omega)
  have hw8:IntKind.u8.wrap ((Q:Int)%2)=(if Q%2=1 then 1 else 0):=by
   by_cases h:Q%2=1
   .have:(Q:Int)%2=1:=by omega
    rw[this,if_pos h];rfl
   .have:(Q:Int)%2=0:=by omega
    rw[this,if_neg h];rfl
  have hto:(By v w).take (k+1)=(By v w).take k++[decide (Q%2=1)]:=by
   rw[List.take_add_one,List.getElem?_eq_getElem (by simpa using hlt)]
   have:(By v w)[k]'(by simpa using hlt)=decide (Q%2=1):=by
    simp only[By,List.getElem_map,List.getElem_range]
    rw[hQd,show w-1-k=i by omega]
   rw[this];rfl
  refine MU (an hmin (an hQ (an hand hw8))) ?_;intro K hK
  refine⟨by omega,by omega,?_⟩
  refine zk ?_;clear hK K
  refine zs ?_
  refine⟨k+1,by omega,by omega,Wk.cutM (k:=1) ?_ ?_ (by simp) (by simp) (by simp) (by simp)⟩
  .simp[Ad]
   omega
  .rw[hto,←List.append_assoc,Nm]
   simp[AO,b8];omega
 .have hk' :k=w:=by omega
  subst hk'
  have e:((k:Int)-1-k)=-1:=by omega
  rw[e]
  refine zs ?_
  refine zn ?_
  refine W.exit ?_
  refine zs ?_
  refine zr ?_
  rw[List.take_of_length_le (by simp),List.take_of_length_le (by simp)]
end Go.Abs
set_option maxRecDepth 100000
namespace Go.Abs
open Go.Proofs
theorem EW (xs:List Bool) (u n:Nat) (hx:xs.length<100000000) (h1:1≤n) (h2:n<1099511627776):Aa pg 166 [.tok 0 u 1 0 xs.length,.int .i64 2,.int .i64 n] [.live u (AO xs)] (fun r M=>r= .own 1 (xs.length+(Bc n).length) (AO (xs++Bc n))∧M=[.dead]):=by
 have hlg:=(Nat.log2_lt (n:=n) (k:=40) (by omega)).2 (by omega)
 have hgl:=GF n
 obtain⟨q,hq⟩:∃q,q=Nat.log2 n:=⟨_,rfl⟩
 have spl:=WV n h1 h2
 rw[←hq] at spl hlg hgl
 refine Aa.start (fn:=Tryz.f166) [.tmp 6] tk rfl rfl rfl (by kernel_rfl) (Nat.le_of_ble_eq_true rfl) rfl (by kernel_rfl) ?_
 rw[Bg]
 refine zs ?_
 refine zs ?_
 refine zb ?_
 refine zs ?_
 refine zn ?_
 refine zs ?_
 refine zt ?_
 refine z0 ?_;intro K hK
 refine Ab.eq spl (by simp) (by simp) ?_
 refine zx ?_
 refine Ab.pass [0] (SN xs u 0 q (by omega) (by omega) (by omega)) (by simp) (by simp) (by simp) (by simp) ?_
 rintro r M ⟨rfl,rfl⟩ _
 refine zx ?_
 refine Ab.eq spl (by simp) (by simp) ?_
 refine zx ?_
 have sp2:=SN (xs++By 0 q) 0 n (q+1) (by simp;omega) (by omega) (by omega)
 refine Ab.pass [1] sp2 (by simp) (by simp) (by simp) (by simp) ?_
 rintro r M ⟨rfl,rfl⟩ _
 refine zx ?_
 refine zk ?_;clear hK K
 refine zr ?_
 have hgb:Bc n=By 0 q++By n (q+1):=by rw[Bc,hq]
 exact⟨by omega,by rw[List.take_of_length_le (by simp;omega),hgb]⟩
theorem V0 (n:Int):Aa pg 181 [.int .i64 2,.int .i64 n] [] (fun r _=>r= .bool (decide (1≤n∧n≤1073741824))):=by
 refine Aa.start (fn:=Tryz.f181) [.tmp 4] tk rfl rfl rfl (by kernel_rfl) (Nat.le_of_ble_eq_true rfl) rfl (by kernel_rfl) ?_
 rw[Ar]
 refine zs ?_
 refine zs ?_
 refine zn ?_
 refine W.skip ?_
 refine z0 ?_;intro K hK
 refine Ab.eq (Em 2 2 5) (by simp) (by simp) ?_
 rw[decide_eq_true (by omega)]
 refine zx ?_
 refine Ab.eq (Em n 1 1073741824) (by simp) (by simp) ?_
 refine zx ?_
 refine zk ?_;clear hK K
 exact zR
def EX (o:Option (Nat×Nat)):AV:=match o with|some x=> .tup [.int .i64 x.1,.int .i64 x.2] |none=> .tup [.int .i64 (-1),.int .i64 0]
theorem Er (l:List Bool) (p:Nat) (hl:l.length<1000000000) (hp:p≤l.length):Aa pg 143 [.ro l.length (AO l),.int .i64 p,.int .i64 2] [] (fun r _=>r=EX (AK l p)):=by
 have spz:=UL l p (by omega) hp
 refine Aa.start (fn:=Tryz.f143) [.tmp 6,.tmp 7] tk rfl rfl rfl (by kernel_rfl) (Nat.le_of_ble_eq_true rfl) rfl (by kernel_rfl) ?_
 rw[Bg]
 refine zs ?_
 refine z0 ?_;intro K hK
 refine Ab.eq spz (by simp) (by simp) ?_
 cases ha:ahead l p with
 |none=>
  have hg:AK l p=none:=by unfold AK;rw[ha]
  simp only[DU];simp -implicitDefEqProofs (maxSteps:=999999) (disch:=omega) [nb]
  refine zk ?_;clear hK K
  refine zs ?_
  refine zt ?_
  refine zs ?_
  refine zr ?_
  rw[hg];rfl
 |some q=>
  have hql:p+q<l.length:=by
   have:=List.findIdx?_eq_some_iff_findIdx_eq.1 ha
   simp at this;omega
  simp only[DU];simp -implicitDefEqProofs (maxSteps:=999999) (disch:=omega) [nb]
  refine zk ?_;clear hK K
  refine zs ?_
  refine zn ?_
  refine W.skip ?_
  refine z0 ?_;intro K hK
  refine zk ?_;clear hK K
  refine zs ?_
  refine zb ?_
  refine zs ?_
  refine zn ?_
  refine zs ?_
  refine zt ?_
  by_cases c:q≤30∧p+2*q+1≤l.length
  rotate_left
  .have hg:AK l p=none:=by unfold AK;rw[ha];simp only;rw[if_neg c]
   by_cases c1:q≤30
   .have c2:¬p+2*q+1≤l.length:=fun h=>c ⟨c1,h⟩
    have c3:(l.length:Int)<(p:Int)+2*q+1:=by omega
    have c4:¬(30:Int)<(q:Int):=by omega
    refine Ag (an c3 c4) ?_;intro K hK
    refine zk ?_;clear hK K
    refine zt ?_
    refine zs ?_
    refine zr ?_
    rw[hg];rfl
   .have c4:(30:Int)<(q:Int):=by omega
    refine Ag c4 ?_;intro K hK
    refine zk ?_;clear hK K
    refine zt ?_
    refine zs ?_
    refine zr ?_
    rw[hg];rfl
  have c4:¬(30:Int)<(q:Int):=by omega
  have c3:¬(l.length:Int)<(p:Int)+2*q+1:=by omega
  refine Ag (an c3 c4) ?_;intro K hK
  refine zk ?_;clear hK K
  refine zn ?_
  refine W.skip ?_
  have spg:=WU l (p+q) (q+1) (by omega) (by omega) (by omega)
  have hgr:AK l p=if Bq ((l.drop (p+q)).take (q+1))≤1073741824 then some (Bq ((l.drop (p+q)).take (q+1)),p+2*q+1) else none:=by
   unfold AK;rw[ha];simp only;rw[if_pos c]
  have hpos:1≤Bq ((l.drop (p+q)).take (q+1)):=by
   obtain⟨r,hr⟩:=GG ha
   have e1:(l.drop (p+q)).take (q+1)=true::r.take q:=by
    rw[←List.drop_drop,hr,List.drop_append];simp
   rw[e1,ET]
   have:0<2^(r.take q).length:=Nat.pow_pos (by omega)
   simp only[Bool.toNat_true,Nat.one_mul];omega
  generalize Bq ((l.drop (p+q)).take (q+1))=v at*
  refine z0 ?_;intro K hK
  refine Ab.eq spg (by simp) (by simp) ?_
  refine zx ?_
  refine zk ?_;clear hK K
  refine z0 ?_;intro K hK
  refine Ab.eq (V0 v) (by simp) (by simp) ?_
  by_cases cv:v≤1073741824
  .rw[decide_eq_true (by omega)]
   refine zx ?_
   refine zk ?_;clear hK K
   refine zn ?_
   refine W.skip ?_
   refine zs ?_
   refine zr ?_
   rw[hgr,if_pos cv]
   simp[EX]
  .rw[decide_eq_false (by omega)]
   refine zx ?_
   refine zk ?_;clear hK K
   refine zt ?_
   refine zs ?_
   refine zr ?_
   rw[hgr,if_neg cv];rfl
end Go.Abs
namespace Go.Abs
theorem LK {bs:List Bool}:∀(k:Nat) (f:Bool) (p:Nat) (last:Int) (r:List Int×Nat),CR bs k f p last=some r→r.1.Pairwise (·<·)∧(f=false→∀x∈r.1,last<x)
 |0,f,p,last,r,h=>by simp[CR] at h;subst h;simp
 |k+1,f,p,last,r,h=>by
  simp only[CR] at h
  split at h
  .simp at h
  .rename_i x hx
   obtain⟨h1,h2,h3,h4,_⟩:=AN hx
   split at h
   .rename_i q hq
    simp at h;subst h
    obtain⟨g1,g2⟩:=LK k false x.2 _ q hq
    refine⟨?_,?_⟩
    .simp only[List.pairwise_cons];exact⟨fun z hz=>g2 rfl z hz,g1⟩
    .intro hf z hz
     subst hf
     have g3:=g2 rfl
     simp only[Bool.false_eq_true,if_false] at g3 hz
     simp only[List.mem_cons] at hz
     rcases hz with rfl|hz
     .omega
     .have:=g3 z hz;omega
   .simp at h
theorem Jg {bs:List Bool}:∀(k:Nat) (f:Bool) (p:Nat) (last:Int),B2 bs k f p last=match CR bs k f p last with|some r=>if∀x∈r.1,0≤x∧x<16 then some r else none|none=>none
 |0,f,p,last=>by simp[B2,CR]
 |k+1,f,p,last=>by
  simp only[B2,CR]
  cases hx:AK bs p with
  |none=>rfl
  |some x=>
   simp only
   generalize (last+(if f=true then Cb ((x.1:Int)-1) else(x.1:Int)))=y
   rw[Jg k false x.2 y]
   cases CR bs k false x.2 y with
   |none=>simp
   |some r=>
    simp only[List.mem_cons,forall_eq_or_imp]
    by_cases h1:0≤y∧y<16
    .by_cases h2:∀x∈r.1,0≤x∧x<16
     .rw[if_pos h1,if_pos h2,if_pos ⟨h1,h2⟩]
     .rw[if_pos h1,if_neg h2,if_neg (fun g=>h2 g.2)]
    .rw[if_neg h1,if_neg (fun g=>h1 g.1)]
theorem EG (bs:List Bool) (p:Nat) (v:Int):DC bs p v=Dv bs p v:=by
 unfold DC Dv
 cases hx:AK bs p with
 |none=>rfl
 |some x=>
  simp only
  split
  .rw[Jg]
   cases hq:CR bs (x.1-1) true x.2 v with
   |none=>rfl
   |some r=>
    simp only
    have:=(LK _ _ _ _ _ hq).1
    by_cases h2:∀x∈r.1,0≤x∧x<16
    .rw[if_pos h2,if_pos ⟨h2,this⟩]
    .rw[if_neg h2,if_neg (fun g=>h2 g.1)]
  .rfl
theorem Oq (l:List Bool) (p:Nat):FM l p p=[]:=by simp[FM]
theorem No {f:Bool} {last v:Int} {n:Nat} (h:1≤n) (hv:f=true→last=v):(if f=true then D5 (last+(if f=true then Cb ((n:Int)-1) else(n:Int))-v)+1 else last+(if f=true then Cb ((n:Int)-1) else(n:Int))-last).toNat=n:=by
 cases f
 .simp;omega
 .have:=hv rfl;subst this
  simp only[if_true]
  have:last+Cb ((n:Int)-1)-last=Cb ((n:Int)-1):=by omega
  rw[this,Uq _ (by omega)];omega
theorem Ks {bs:List Bool} (v:Int):∀(k:Nat) (f:Bool) (p:Nat) (last:Int) (r:List Int×Nat),(f=true→last=v)→p≤bs.length→B2 bs k f p last=some r→p≤r.2∧r.2≤bs.length∧FM bs p r.2=C7 v r.1 f last
 |0,f,p,last,r,hv,hp,h=>by simp[B2] at h;subst h;simp[C7,Oq,hp]
 |k+1,f,p,last,r,hv,hp,h=>by
  simp only[B2] at h
  split at h
  .simp at h
  .rename_i x hx
   obtain⟨h1,h2,h3,h4,h5⟩:=AN hx
   have hc:=No h1 hv
   generalize (last+(if f=true then Cb ((x.1:Int)-1) else(x.1:Int)))=y at h hc
   split at h
   .split at h
    .rename_i q hq
     simp at h;subst h
     obtain⟨g1,g2,g3⟩:=Ks v k false x.2 _ q (by simp) h4 hq
     refine⟨by simp only;omega,g2,?_⟩
     simp only[C7]
     rw[hc,←h5,←g3,FW (by omega) g1]
    .simp at h
   .simp at h
theorem UM (v:Int) (l:List Int) (e e' :Int):C7 v l true e=C7 v l true e' :=by cases l<;>simp[C7]
theorem UN (v:Int) (l:List (Int×Int)) (e e' :Int):CX v l true e=CX v l true e' :=by cases l<;>simp[CX]
theorem QN {bs:List Bool} {p:Nat} {v:Int} {r:List Int×Nat} (h:Dv bs p v=some r):p≤r.2∧r.2≤bs.length∧FM bs p r.2=DW v r.1:=by
 unfold Dv at h
 split at h
 .simp at h
 .rename_i x hx
  obtain⟨h1,h2,h3,h4,h5⟩:=AN hx
  split at h
  .obtain⟨g1,g2,g3⟩:=Ks v _ _ _ _ _ (fun _=>rfl) h4 h
   have h6:=(GI _ _ _ _ _ h4 h).1
   refine⟨by omega,g2,?_⟩
   rw[DW,h6,show x.1-1+1=x.1 by omega,←h5,UM v r.1 0 v,←g3,FW (by omega) g1]
  .simp at h
theorem Kt {bs:List Bool} (v:Int):∀(k:Nat) (f:Bool) (p:Nat) (e:Int) (r:List (Int×Int)×Nat),(f=true→e=v)→p≤bs.length→Cq bs k f p e=some r→r.1.length=k∧p≤r.2∧r.2≤bs.length∧FM bs p r.2=CX v r.1 f e
 |0,f,p,e,r,hv,hp,h=>by simp[Cq] at h;subst h;simp[CX,Oq,hp]
 |k+1,f,p,e,r,hv,hp,h=>by
  simp only[Cq] at h
  split at h
  .simp at h
  .rename_i x hx
   obtain⟨h1,h2,h3,h4,h5⟩:=AN hx
   have hc:=No h1 hv
   generalize (e+(if f=true then Cb ((x.1:Int)-1) else(x.1:Int)))=a at h hc
   split at h
   .simp at h
   .rename_i y hy
    obtain⟨i1,i2,i3,i4,i5⟩:=AN hy
    split at h
    .rename_i q hq
     simp at h;subst h
     obtain⟨g0,g1,g2,g3⟩:=Kt v k false y.2 _ q (by simp) i4 hq
     refine⟨by simp[g0],by simp only;omega,g2,?_⟩
     simp only[CX]
     rw[hc,show((y.1:Int)-1+3-3+1).toNat=y.1 by omega,←h5,←i5,←g3,FW (by omega) (by omega),FW (by omega) g1]
    .simp at h
def Np:List Int→Bool→Int→Prop
 | [],_,_=>True
 |x::l,f,e=>(f=true∨e<x)∧Np l false x
def GV:List (Int×Int)→Bool→Int→Prop
 | [],_,_=>True
 | (a,n)::l,f,e=>(f=true∨e<a)∧3≤n∧GV l false (a+n)
theorem Nq {f:Bool} {v e a b:Int} {s t:List Bool} (ha:f=true∨e<a) (hb:f=true∨e<b) (h:Bc (if f=true then D5 (a-v)+1 else a-e).toNat++s=Bc (if f=true then D5 (b-v)+1 else b-e).toNat++t):a=b∧s=t:=by
 cases f
 .simp only[Bool.false_eq_true,if_false,false_or] at*
  obtain⟨h1,h2⟩:=FD (by omega) (by omega) h
  exact⟨by omega,h2⟩
 .simp only[if_true] at*
  have z1:=FT (a-v)
  have z2:=FT (b-v)
  obtain⟨h1,h2⟩:=FD (by omega) (by omega) h
  have:=Ur (a:=a-v) (b:=b-v) (by omega)
  exact⟨by omega,h2⟩
theorem LL (v:Int):∀(l m:List Int) (f:Bool) (e:Int) (s t:List Bool),l.length=m.length→Np l f e→Np m f e→C7 v l f e++s=C7 v m f e++t→l=m∧s=t
 | [],[],f,e,s,t,_,_,_,h=>by simpa[C7] using h
 | [],_::_,f,e,s,t,hl,_,_,h=>by simp at hl
 |_::_,[],f,e,s,t,hl,_,_,h=>by simp at hl
 |x::l,y::m,f,e,s,t,hl,h1,h2,h=>by
  simp only[C7,List.append_assoc,Np] at*
  obtain⟨rfl,h3⟩:=Nq h1.1 h2.1 h
  obtain⟨rfl,h4⟩:=LL v l m false x s t (by simpa using hl) h1.2 h2.2 h3
  exact⟨rfl,h4⟩
theorem LM (v:Int):∀(l m:List (Int×Int)) (f:Bool) (e:Int) (s t:List Bool),l.length=m.length→GV l f e→GV m f e→CX v l f e++s=CX v m f e++t→l=m∧s=t
 | [],[],f,e,s,t,_,_,_,h=>by simpa[CX] using h
 | [],_::_,f,e,s,t,hl,_,_,h=>by simp at hl
 |_::_,[],f,e,s,t,hl,_,_,h=>by simp at hl
 | (x,n)::l,(y,k)::m,f,e,s,t,hl,h1,h2,h=>by
   simp only[CX,List.append_assoc,GV] at*
   obtain⟨rfl,h3⟩:=Nq h1.1 h2.1 h
   obtain⟨h5,h3⟩:=FD (by omega) (by omega) h3
   have:n=k:=by omega
   subst this
   obtain⟨rfl,h4⟩:=LM v l m false (x+n) s t (by simpa using hl) h1.2.2 h2.2.2 h3
   exact⟨rfl,h4⟩
theorem K3:∀(l:List Int) (f:Bool) (e:Int),l.Pairwise (·<·)→(f=true∨∀x∈l,e<x)→Np l f e
 | [],_,_,_,_=>trivial
 |x::l,f,e,h,he=>by
  rw[List.pairwise_cons] at h
  exact⟨he.imp id fun g=>g x (by simp),K3 l false x h.2 (.inr h.1)⟩
theorem Jh:∀(l:List Int) (x:Int),(x::l).Pairwise (·<·)→∀y∈(x::l).drop (A9 (x::l)),x+(A9 (x::l):Nat)<y
 | [],x,_,y,hy=>by simp[A9] at hy
 |z::t,x,h,y,hy=>by
  rw[List.pairwise_cons] at h
  have hz:=h.1 z (by simp)
  simp only[A9] at hy ⊢
  split at hy
  .rename_i e
   subst e
   simp only[List.drop_succ_cons] at hy
   have:=Jh t (x+1) h.2 y hy
   simp only[if_true]
   omega
  .rename_i e
   rw[if_neg e]
   simp only[List.drop_succ_cons,List.drop_zero] at hy
   have h2:=h.2
   rw[List.pairwise_cons] at h2
   simp only[List.mem_cons] at hy
   rcases hy with rfl|hy
   .omega
   .have:=h2.1 y hy;omega
theorem GK:∀(n:Nat) (l:List Int) (f:Bool) (e:Int),l.length≤n→l.Pairwise (·<·)→(f=true∨∀x∈l,e<x)→GV (Aq l).1 f e∧3*(Aq l).1.length≤l.length∧(Aq l).2.Pairwise (·<·)∧∀x∈(Aq l).2,x∈l
 |_,[],_,_,_,_,_=>by simp[Aq,GV]
 |0,x::l,_,_,h,_,_=>by simp at h
 |n+1,x::l,f,e,h,hp,he=>by
  have h1:=FR x l
  have h2:=GC (x::l)
  have h3:((x::l).drop (A9 (x::l))).length=(x::l).length-A9 (x::l):=by simp
  have hd:=hp.sublist (List.drop_sublist (A9 (x::l)) (x::l))
  have hn:=Jh l x hp
  have hm:∀y∈(x::l).drop (A9 (x::l)),y∈x::l:=fun y hy=>List.mem_of_mem_drop hy
  rw[Aq]
  split
  .rename_i hk
   obtain⟨a1,a2,a3,a4⟩:=GK n ((x::l).drop (A9 (x::l))) false (x+(A9 (x::l):Nat)) (by omega) hd (.inr hn)
   refine⟨⟨he.imp id fun g=>g x (by simp),by omega,a1⟩,?_,a3,fun y hy=>hm y (a4 y hy)⟩
   simp only[List.length_cons] at*;omega
  .obtain⟨a1,a2,a3,a4⟩:=GK n ((x::l).drop (A9 (x::l))) f e (by omega) hd (he.imp id fun g y hy=>g y (hm y hy))
   refine⟨a1,by show 3*(Aq ((x::l).drop (A9 (x::l)))).1.length≤_;omega,?_,fun y hy=>?_⟩
   .rw[List.pairwise_append]
    refine⟨hp.sublist (List.take_sublist _ _),a3,fun y hy z hz=>?_⟩
    have hp' :((x::l).take (A9 (x::l))++(x::l).drop (A9 (x::l))).Pairwise (·<·):=by rw[List.take_append_drop];exact hp
    rw[List.pairwise_append] at hp'
    exact hp'.2.2 y hy z (a4 z hz)
   .simp only[List.mem_append] at hy
    rcases hy with hy|hy
    .exact List.mem_of_mem_take hy
    .exact hm y (a4 y hy)
theorem Ku:∀(l m:List Int),l.Pairwise (·<·)→m.Pairwise (·<·)→(∀x,x∈l↔x∈m)→l=m
 | [],[],_,_,_=>rfl
 | [],y::m,_,_,h=>by have:=(h y).2 (by simp);simp at this
 |x::l,[],_,_,h=>by have:=(h x).1 (by simp);simp at this
 |x::l,y::m,h1,h2,h=>by
  rw[List.pairwise_cons] at h1 h2
  have e:x=y:=by
   have a:=(h x).1 (by simp)
   have b:=(h y).2 (by simp)
   simp only[List.mem_cons] at a b
   rcases a with a|a
   .exact a
   .rcases b with b|b
    .exact b.symm
    .have:=h2.1 x a;have:=h1.1 y b;omega
  subst e
  congr 1
  refine Ku l m h1.2 h2.2 fun z=>⟨fun hz=>?_,fun hz=>?_⟩
  .have a:=(h z).1 (by simp[hz])
   simp only[List.mem_cons] at a
   rcases a with rfl|a
   .have:=h1.1 z hz;omega
   .exact a
  .have a:=(h z).2 (by simp[hz])
   simp only[List.mem_cons] at a
   rcases a with rfl|a
   .have:=h2.1 z hz;omega
   .exact a
theorem GL (p:Int→Bool) (x:Int):x∈GD p↔(0≤x∧x<16)∧p x=true:=by
 simp only[GD,List.mem_filter,List.mem_map,List.mem_range]
 constructor
 .rintro⟨⟨i,hi,rfl⟩,h⟩;exact⟨by omega,h⟩
 .rintro⟨h,hp⟩;exact⟨⟨x.toNat,by omega,by omega⟩,hp⟩
theorem HR (p:Int→Bool):(GD p).Pairwise (·<·):=by
 unfold GD
 refine List.Pairwise.filter _ (List.pairwise_map.2 ?_)
 exact(List.pairwise_lt_range).imp fun h=>by omega
theorem LN (p:Int→Bool):AL (GD p):=⟨fun x hx=>((GL p x).1 hx).1,HR p⟩
theorem Kv (l:List Int):(BQ l).Perm l:=List.mergeSort_perm _ _
theorem GM (l:List Int) (x:Int):x∈BQ l↔x∈l:=(Kv l).mem_iff
theorem Sr (l:List Int):(BQ l).Pairwise (·≤·):=by
 have:=List.pairwise_mergeSort (le:=fun x y:Int=>decide (x≤y)) (fun a b c h1 h2=>by simp at*;omega) (fun a b=>by simp;omega) l
 exact this.imp fun h=>by simpa using h
theorem Ss (l:List Int):(BQ l).Pairwise (·<·)↔l.Nodup:=by
 rw[←(Kv l).nodup_iff]
 constructor
 .intro h;exact h.imp fun h=>by omega
 .intro h
  exact(Sr l).imp₂ (fun a b h1 h2=>by have:a≠b:=h2;omega) h
theorem HS (l:List Int):AL (BQ l)↔(∀x∈l,0≤x∧x<16)∧l.Nodup:=by
 unfold AL
 rw[Ss]
 simp only[GM]
theorem HT {l:List Int} (h:l.Pairwise (·<·)):l.Nodup:=h.imp fun h=>by omega
theorem Ji:∀(r:List (Int×Int)) (e:Int) (W:List Int),CV r e=some W→Dw r e
 | [],_,_,_=>trivial
 | (a,n)::rs,e,W,h=>by
   simp only[CV] at h
   split at h
   .simp at h
   .split at h
    .rename_i l hl
     exact⟨by omega,by omega,by omega,by omega,by omega,Ji rs (a+n) l hl⟩
    .simp at h
theorem GW:∀(r:List (Int×Int)) (e:Int),Dw r e→∃W,CV r e=some W∧W.Pairwise (·<·)∧(∀x∈W,e<x)∧(∀x,x∈W↔Bz r x=true)∧∀x∈W,0≤x∧x<16
 | [],e,_=>⟨[],rfl,by simp,by simp,by simp[Bz],by simp⟩
 | (a,n)::rs,e,h=>by
   obtain⟨h1,h2,h3,h4,h5,h6⟩:=h
   obtain⟨W,a1,a2,a3,a4,a5⟩:=GW rs (a+n) h6
   have hmem:∀x:Int,x∈(List.range n.toNat).map (fun i=>a+(i:Nat))↔a≤x∧x<a+n:=by
    intro x
    simp only[List.mem_map,List.mem_range]
    constructor
    .rintro⟨i,hi,rfl⟩;omega
    .intro hx;exact⟨(x-a).toNat,by omega,by omega⟩
   refine⟨_,by simp only[CV];rw[if_neg (by omega),a1],?_,?_,?_,?_⟩
   .rw[List.pairwise_append]
    refine⟨List.pairwise_map.2 (List.pairwise_lt_range.imp fun h=>by omega),a2,fun x hx y hy=>?_⟩
    have:=(hmem x).1 hx;have:=a3 y hy;omega
   .intro x hx
    rcases List.mem_append.1 hx with hx|hx
    .have:=(hmem x).1 hx;omega
    .have:=a3 x hx;omega
   .intro x
    rw[List.mem_append,hmem,a4]
    simp[Bz]
   .intro x hx
    rcases List.mem_append.1 hx with hx|hx
    .have:=(hmem x).1 hx;omega
    .exact a5 x hx
theorem HU (r:List (Int×Int)) (g:List Int) (hg:AL g) (l:List Int):EF r g=some l↔C6 r g=some l:=by
 unfold EF C6
 constructor
 .intro h
  split at h
  .simp at h
  .rename_i W hW
   have hr:=Ji _ _ _ hW
   obtain⟨W',b1,b2,b3,b4,b5⟩:=GW r (-1) hr
   rw[hW] at b1;simp at b1;subst b1
   split at h
   .rename_i hm
    simp at h;subst h
    have hd:=(HS _).1 hm.2
    rw[List.nodup_append] at hd
    rw[if_pos]
    .congr 1
     refine Ku _ _ (HR _) hm.2.2 fun x=>?_
     rw[GL,GM,List.mem_append,b4]
     simp only[Bool.or_eq_true,List.contains_eq_mem,decide_eq_true_eq]
     constructor
     .rintro⟨_,h|h⟩
      .exact .inr h
      .exact .inl h
     .intro h
      refine⟨hd.1 x (by rw[List.mem_append,b4];exact h),h.symm⟩
    .refine⟨hm.1,hr,fun x hx=>?_⟩
     cases hi:Bz r x with
     |false=>rfl
     |true=>exact absurd rfl (hd.2.2.2 x hx x ((b4 x).2 hi))
   .simp at h
 .intro h
  split at h
  .rename_i hc
   simp at h;subst h
   obtain⟨W,b1,b2,b3,b4,b5⟩:=GW r (-1) hc.2.1
   rw[b1]
   simp only
   have hm:AL (BQ (g++W)):=by
    rw[HS]
    refine⟨fun x hx=>?_,?_⟩
    .rcases List.mem_append.1 hx with hx|hx
     .exact hg.1 x hx
     .exact b5 x hx
    .rw[List.nodup_append]
     refine⟨HT hg.2,HT b2,fun x hx y hy e=>?_⟩
     subst e
     have:=hc.2.2 x hx
     rw[(b4 x).1 hy] at this;simp at this
   rw[if_pos ⟨hg,hm⟩]
   congr 1
   refine Ku _ _ hm.2 (HR _) fun x=>?_
   rw[GL,GM,List.mem_append,b4]
   simp only[Bool.or_eq_true,List.contains_eq_mem,decide_eq_true_eq]
   constructor
   .intro h
    refine⟨(HS _).1 hm|>.1 x (by rw[List.mem_append,b4];exact h),h.symm⟩
   .rintro⟨_,h|h⟩
    .exact .inr h
    .exact .inl h
  .simp at h
theorem Fx {bs:List Bool}:∀(k:Nat) (f:Bool) (p:Nat) (e:Int) (r:List (Int×Int)×Nat),BJ bs k f p e=some r↔Cq bs k f p e=some r∧∀q∈r.1,q.2≤18
 |0,f,p,e,r=>by
  simp only[BJ,Cq,Option.some.injEq]
  constructor
  .rintro rfl;simp
  .exact fun h=>h.1
 |k+1,f,p,e,r=>by
  simp only[BJ,Cq]
  cases hx:AK bs p with
  |none=>simp
  |some x=>
   simp only
   cases hy:AK bs x.2 with
   |none=>simp
   |some y=>
    simp only
    generalize (e+(if f=true then Cb ((x.1:Int)-1) else(x.1:Int)))=a
    have ih:=Fx (bs:=bs) k false y.2 (a+((y.1:Int)-1+3))
    constructor
    .intro h
     split at h
     .split at h
      .rename_i q hq
       simp at h;subst h
       rw[((ih q).1 hq).1]
       refine⟨rfl,fun w hw=>?_⟩
       simp only[List.mem_cons] at hw
       rcases hw with rfl|hw
       .simp only;omega
       .exact((ih q).1 hq).2 w hw
      .simp at h
     .simp at h
    .rintro⟨h,hb⟩
     split at h
     .rename_i q hq
      simp at h;subst h
      have:=hb _ (List.mem_cons_self ..)
      simp only at this
      rw[if_pos (by omega),(ih q).2 ⟨hq,fun w hw=>hb w (List.mem_cons_of_mem _ hw)⟩]
     .simp at h
theorem Kw:∀(r:List (Int×Int)) (e:Int),Dw r e→∀q∈r,q.2≤16
 | [],_,_,q,hq=>by simp at hq
 | (a,n)::rs,e,h,q,hq=>by
   obtain⟨h1,h2,h3,h4,h5,h6⟩:=h
   simp only[List.mem_cons] at hq
   rcases hq with rfl|hq
   .simp only;omega
   .exact Kw rs _ h6 q hq
theorem Kx:∀(r:List (Int×Int)) (f:Bool) (e:Int),Dw r e→GV r f e
 | [],_,_,_=>trivial
 | (a,n)::rs,f,e,h=>by
   obtain⟨h1,h2,h3,h4,h5,h6⟩:=h
   exact⟨.inr h5,h3,Kx rs false _ h6⟩
theorem V1 {r:List (Int×Int)} {e e' :Int} (h:GV r true e):GV r true e' :=by
 cases r with
 |nil=>trivial
 |cons q r=>exact⟨.inl rfl,h.2⟩
theorem Fy (bs:List Bool) (p:Nat) (v:Int):Br bs p v=CW bs p v:=by
 unfold Br CW
 cases hx:AK bs p with
 |none=>rfl
 |some x=>
  simp only
  obtain⟨h1,h2,h3,h4,h5⟩:=AN hx
  cases hr:Cq bs (x.1-1) true x.2 v with
  |none=>
   have:BJ bs (x.1-1) true x.2 v=none:=by
    cases h:BJ bs (x.1-1) true x.2 v with
    |none=>rfl
    |some r=>have:=((Fx _ _ _ _ _).1 h).1;rw[hr] at this;simp at this
   rw[this];simp
  |some r=>
   obtain⟨r1,r2,r3,r4⟩:=Kt v _ _ _ _ _ (fun _=>rfl) h4 hr
   simp only
   have href:BJ bs (x.1-1) true x.2 v=if∀q∈r.1,q.2≤18 then some r else none:=by
    split
    .rename_i hb;exact(Fx _ _ _ _ _).2 ⟨hr,hb⟩
    .rename_i hb
     cases h:BJ bs (x.1-1) true x.2 v with
     |none=>rfl
     |some r' =>
      have:=(Fx _ _ _ _ _).1 h
      rw[hr] at this
      have e:=this.1
      simp at e;subst e
      exact absurd this.2 hb
   rw[href]
   cases hg:Dv bs r.2 v with
   |none=>simp only[EG];split<;>split<;>first|rfl|simp_all
   |some g=>
    obtain⟨g1,g2,g3⟩:=QN hg
    have gm:=(HN hg).2.1
    have hj:C6 r.1 g.1=EF r.1 g.1:=Option.ext fun l=>(HU r.1 g.1 gm l).symm
    have hseg:FM bs p g.2=Bc (r.1.length+1)++(CX v r.1 true 0++DW v g.1):=by
     rw[r1,show x.1-1+1=x.1 by omega,←h5,UN v r.1 0 v,←r4,←g3,FW r2 g1,FW (by omega) (by omega)]
    have hlen:=Up (l:=bs) (p:=p) (x:=g.2) g2
    cases hw:EF r.1 g.1 with
    |none=>split<;>(try split)<;>simp_all[EG]
    |some l=>
     have hrun:Dw r.1 (-1):=by
      have h:=(HU _ _ gm l).1 hw
      unfold C6 at h
      split at h
      .rename_i hc;exact hc.2.1
      .simp at h
     have hm:AL l:=by
      have h:=(HU _ _ gm l).1 hw
      unfold C6 at h
      split at h
      .simp at h;subst h;exact LN _
      .simp at h
     have hall:∀q∈r.1,q.2≤18:=fun q hq=>by have:=Kw _ _ hrun q hq;omega
     rw[if_pos hall]
     have key:(x.1≤16∧Aq l=(r.1,g.1))↔(x.1≤17∧(BL v l).length=g.2-p∧(bs.drop p).take (BL v l).length=BL v l):=by
      constructor
      .rintro⟨k1,k2⟩
       have hb:BL v l=FM bs p g.2:=by rw[BL,k2,hseg,List.append_assoc]
       refine⟨by omega,by rw[hb,hlen],?_⟩
       rw[hb,hlen];rfl
      .rintro⟨k1,k2,k3⟩
       rw[k2] at k3
       have hb:BL v l=FM bs p g.2:=k3.symm
       rw[hseg,BL,List.append_assoc] at hb
       obtain⟨c1,c2⟩:=FD (by omega) (by omega) hb
       obtain⟨p1,p2,p3,p4⟩:=GK l.length l true 0 (Nat.le_refl _) hm.2 (.inl rfl)
       obtain⟨d1,d2⟩:=LM v _ _ true 0 _ _ (by omega) p1 (V1 (Kx r.1 true (-1) hrun)) c2
       simp only[DW] at d2
       obtain⟨c3,c4⟩:=FD (by omega) (by omega) d2
       have d3:=(LL v (Aq l).2 g.1 true 0 [] [] (by omega) (K3 _ _ _ p3 (.inl rfl)) (K3 _ _ _ gm.2 (.inl rfl)) (by simpa using c4)).1
       have hl:=BU hm
       refine⟨by rw[d1] at p2;omega,Prod.ext d1 d3⟩
     simp only[EG,hg,hj,hw]
     by_cases hk:x.1≤16∧Aq l=(r.1,g.1)
     .have hk' :=key.1 hk
      rw[if_pos hk'.1,if_pos hk.1,if_pos hk.2,if_pos hk'.2]
     .have hk' :=fun g=>hk (key.2 g)
      by_cases a1:x.1≤16
      .rw[if_pos a1,if_pos (by omega),if_neg (fun h=>hk ⟨a1,h⟩),if_neg (fun h=>hk' ⟨by omega,h⟩)]
      .rw[if_neg a1]
       by_cases a2:x.1≤17
       .rw[if_pos a2,if_neg (fun h=>hk' ⟨a2,h⟩)]
       .rw[if_neg a2]
end Go.Abs
namespace Go.Abs
theorem HV:∀(bl left:List Int) (i:Bool) (W:List Int),A2 bl left i=some W→W.Sublist left∧∀n∈bl,0≤n∧n≤left.length
 | [],left,i,W,h=>by
   simp only[A2,Option.some.injEq] at h
   subst h
   refine⟨?_,by simp⟩
   split
   .exact List.Sublist.refl _
   .exact List.nil_sublist _
 |n::bs,left,i,W,h=>by
  simp only[A2] at h
  split at h
  .simp at h
  .split at h
   .rename_i l hl
    simp at h;subst h
    obtain⟨a1,a2⟩:=HV bs _ _ l hl
    refine⟨?_,fun m hm=>?_⟩
    .have e:left=left.take n.toNat++left.drop n.toNat:=(List.take_append_drop _ _).symm
     conv=>rhs;rw[e]
     refine List.Sublist.append ?_ a1
     split
     .exact List.Sublist.refl _
     .exact List.nil_sublist _
    .simp only[List.mem_cons] at hm
     rcases hm with rfl|hm
     .omega
     .have:=a2 m hm
      simp at this;omega
   .simp at h
theorem LO (ref bl rest:List Int) (hr:AL ref) (hs:AL rest) (hb:bl.length≤16):DX ref bl rest=Cr ref bl rest:=by
 unfold DX Cr
 rw[if_neg (fun h=>h ⟨hr,hs,hb⟩)]
 cases hc:A2 bl ref true with
 |none=>rfl
 |some W=>
  simp only
  obtain⟨a1,a2⟩:=HV _ _ _ _ hc
  have hW:∀x∈W,0≤x∧x<16:=fun x hx=>hr.1 x (a1.subset hx)
  have hall:∀x∈rest++W,0≤x∧x<16:=fun x hx=>by
   rcases List.mem_append.1 hx with h|h
   .exact hs.1 x h
   .exact hW x h
  have eqm:AL (BQ (rest++W))→(GD fun i=>W.contains i||rest.contains i)=BQ (rest++W):=by
   intro hm
   refine Ku _ _ (HR _) hm.2 fun x=>?_
   rw[GL,GM,List.mem_append]
   simp only[Bool.or_eq_true,List.contains_eq_mem,decide_eq_true_eq]
   constructor
   .rintro⟨_,h|h⟩
    .exact .inr h
    .exact .inl h
   .intro h;exact⟨hall x (List.mem_append.2 h),h.symm⟩
  by_cases hm:AL (BQ (rest++W))
  .rw[eqm hm]
   by_cases h2:blocks ref (BQ (rest++W))=bl∧Bk ref (BQ (rest++W))=rest
   .rw[if_pos h2,if_pos ⟨hm,h2⟩]
   .rw[if_neg h2,if_neg (fun h=>h2 h.2)]
  .conv=>rhs;rw[if_neg (fun h=>hm h.1)]
   rw[if_neg]
   rintro⟨_,h2⟩
   apply hm
   rw[HS]
   refine⟨hall,?_⟩
   rw[List.nodup_append]
   refine⟨HT hs.2,(HT hr.2).sublist a1,fun x hx y hy e=>?_⟩
   subst e
   rw[←h2] at hx
   simp only[Bk,List.mem_filter] at hx
   have h3:=a1.subset hy
   have h4:=hx.2
   simp[h3] at h4
theorem Nr {bs:List Bool}:∀(k:Nat) (f:Bool) (p:Nat) (r:List Int×Nat),p≤bs.length→Cj bs k f p=some r→r.1.length=k∧p≤r.2∧r.2≤bs.length
 |0,f,p,r,hp,h=>by simp[Cj] at h;subst h;simp;exact hp
 |k+1,f,p,r,hp,h=>by
  simp only[Cj] at h
  split at h
  .simp at h
  .rename_i x hx
   obtain⟨h1,h2,h3,h4,_⟩:=AN hx
   split at h
   .rename_i q hq
    simp at h;subst h
    have:=Nr k false x.2 q h4 hq
    exact⟨by simp[this.1],by simp only;omega,this.2.2⟩
   .simp at h
theorem GX {bs:List Bool}:∀(k:Nat) (f:Bool) (p:Nat) (r:List Int×Nat),(∀n∈r.1,n≤16)→(Bm bs k f p=some r↔Cj bs k f p=some r)
 |0,f,p,r,_=>by simp[Bm,Cj]
 |k+1,f,p,r,hr=>by
  simp only[Bm,Cj]
  cases hx:AK bs p with
  |none=>simp
  |some x=>
   simp only
   constructor
   .intro h
    split at h
    .split at h
     .rename_i q hq
      simp at h;subst h
      rw[(GX k false x.2 q (fun n hn=>hr n (by simp[hn]))).1 hq]
     .simp at h
    .simp at h
   .intro h
    split at h
    .rename_i q hq
     simp at h;subst h
     have h1:=hr _ (List.mem_cons_self ..)
     rw[if_pos (by split at h1<;>omega),(GX k false x.2 q (fun n hn=>hr n (by simp[hn]))).2 hq]
    .simp at h
theorem GY {bs:List Bool}:∀(k:Nat) (f:Bool) (p:Nat) (r:List Int×Nat),Bm bs k f p=some r→Cj bs k f p=some r
 |0,f,p,r,h=>by simpa[Bm,Cj] using h
 |k+1,f,p,r,h=>by
  simp only[Bm] at h
  simp only[Cj]
  split at h
  .simp at h
  .rename_i x hx
   split at h
   .split at h
    .rename_i q hq
     rw[GY k false x.2 q hq];exact h
    .simp at h
   .simp at h
theorem LP {bs:List Bool} {p:Nat} {v:Int} {r:List Int×Nat} (h:CW bs p v=some r):AL r.1:=by
 unfold CW at h
 (repeat' split at h)<;>first| (simp at h;done) |skip
 rename_i x hx _ q hq _ g hg _ l hl hp
 simp at h;subst h
 unfold EF at hl
 (repeat' split at hl)<;>first| (simp at hl;done) |skip
 rename_i hm
 simp at hl;subst hl
 exact hm.2
theorem LQ (bs:List Bool) (p:Nat) (v:Int) (ref:List Int) (hr:AL ref):DO bs p v ref=Cz bs p v ref:=by
 have hl:=BU hr
 unfold DO Cz
 cases hx:AK bs p with
 |none=>rfl
 |some x=>
  simp only
  obtain⟨h1,h2,h3,h4,_⟩:=AN hx
  by_cases hk:x.1≤17
  rotate_left
  .rw[if_neg hk,if_neg hk]
  rw[if_pos hk,if_pos hk]
  cases hn:Cj bs (x.1-1) true x.2 with
  |none=>
   have:Bm bs (x.1-1) true x.2=none:=by
    cases h:Bm bs (x.1-1) true x.2 with
    |none=>rfl
    |some r=>have:=GY _ _ _ _ h;rw[hn] at this;simp at this
   rw[this]
  |some q=>
   have hq:=Nr _ _ _ _ h4 hn
   simp only
   by_cases hb:∀n∈q.1,n≤16
   .rw[(GX _ _ _ q hb).2 hn]
    simp only[Fy]
    cases hs:CW bs q.2 v with
    |none=>rfl
    |some r=>
     simp only
     rw[LO ref q.1 r.1 hr (LP hs) (by omega)]
   .have hcw:∀r:List Int,Cr ref q.1 r=none:=by
     intro r
     unfold Cr
     split
     .rfl
     .rename_i W hW
      exact absurd (fun n hn=>by have:=(HV _ _ _ _ hW).2 n hn;omega) hb
    have:Bm bs (x.1-1) true x.2=none∨Bm bs (x.1-1) true x.2=some q:=by
     cases h:Bm bs (x.1-1) true x.2 with
     |none=>exact .inl rfl
     |some r=>have:=GY _ _ _ _ h;rw[hn] at this;simp at this;subst this;exact .inr rfl
    have hjc:∀r:List Int,AL r→DX ref q.1 r=none:=fun r hm=>by rw[LO ref q.1 r hr hm (by omega),hcw]
    rcases this with h|h
    .rw[h]
     simp only[hcw]
     split<;>rfl
    .rw[h]
     simp only[Fy,hcw]
     split
     .rfl
     .rename_i r hs
      rw[hjc _ (LP hs)]
theorem IQ {g:Gr} (h:A5 g) (v:Int):AL (AC g v):=by
 unfold AC
 rw[List.getD_eq_getElem?_getD]
 cases hx:g.out[v.toNat]? with
 |none=>simp[AL]
 |some l=>exact(h.2.2.2.1 l (List.mem_of_getElem? hx)).1
theorem Ns (bs:List Bool):Ei bs=Ck bs:=by
 unfold Ei Ck
 have:Br bs=CW bs:=funext fun p=>funext fun v=>Fy bs p v
 rw[this]
theorem Nt (a:Gr) (bs:List Bool) (h:A5 a):GE a bs=Cl a bs:=by
 unfold GE Cl
 congr 1
 exact funext fun p=>funext fun v=>LQ bs p v _ (IQ h v)
end Go.Abs
