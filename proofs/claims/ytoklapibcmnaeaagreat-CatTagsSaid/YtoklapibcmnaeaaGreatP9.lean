/- Blocks that are taken. -/
import Derived.Test.YtoklapibcmnaeaaGreatP8
set_option linter.unusedVariables false
set_option linter.unusedSimpArgs false
set_option maxRecDepth 100000
namespace Go.Abs
open Go.Proofs
def AA (xs:List Bool):List AV:=xs.map AV.bool
section
variable (xs ys:List Bool) (M:List Ae) (k:Nat)
@[simp] theorem Wc (i:Nat):(AA xs)[i]?=(xs[i]?).map AV.bool:=by simp[AA]
@[simp] theorem Wd:(AA xs).length=xs.length:=by simp[AA]
@[simp] theorem We:AA []=[]:=rfl
@[simp] theorem Vv:(AA xs).take k=AA (xs.take k):=by simp[AA,List.map_take]
@[simp] theorem Vw:(AA xs).drop k=AA (xs.drop k):=by simp[AA,List.map_drop]
@[simp] theorem XC:Er (AA xs)=true:=by simp[AA,Er,-JF]
@[simp] theorem XD:Es (AA xs)=true:=by simp[AA,Es,-JG]
@[simp] theorem XE:Et (AA xs)=true:=by simp[AA,Et,-JH]
@[simp] theorem XF:Dj k (AA xs)=true:=by induction xs<;>simp_all[AA]
@[simp] theorem Wf:CC (AA xs)=true:=by induction xs<;>simp_all[AA]
@[simp] theorem Wg:Ej (AA xs)=AA xs:=by induction xs<;>simp_all[AA]
@[simp] theorem Wh:(AA xs).map DO=AA xs:=by simp[AA]
@[simp] theorem Wi:(AA xs).map (BZ M k)=AA xs:=by cases k<;>simp[AA]
theorem EJ (i:Nat) (b:Bool):(AA xs).set i (.bool b)=AA (xs.set i b):=by simp[AA]
theorem Oq (n:Nat) (b:Bool):Dw n [.bool b]=AA (List.replicate n b):=by
 unfold Dw AA
 induction n with
 |zero=>rfl
 |succ n ih=>simp[List.replicate_succ]
end
def Ec (l:List (Int×Int)) (i:Int):Bool:=l.any fun x=>decide (x.1≤i∧i<x.1+x.2)
def Do (l:List (Int×Int)) (n:Nat):List Bool:=(List.range n).map fun(j:Nat)=>Ec l (j:Int)
def Cs (l:List (Int×Int)) (n:Nat) (a i:Int):List Bool:=(List.range n).map fun(j:Nat)=>Ec l (j:Int) ||decide (a≤(j:Int)∧(j:Int)<i)
@[simp] theorem Vx (l:List (Int×Int)) (n:Nat):(Do l n).length=n:=by simp[Do]
@[simp] theorem UO (l:List (Int×Int)) (n:Nat):(Do l n).take n=Do l n:=List.take_of_length_le (by simp)
@[simp] theorem UP (l:List (Int×Int)) (n:Nat) (a i:Int):(Cs l n a i).length=n:=by simp[Cs]
theorem MI {l:List (Int×Int)} {n i:Nat} {a:Int} (hi:i<n):(Cs l n a i)[i]'(by simpa using hi)=Ec l i:=by simp[Cs]
theorem PI (l:List (Int×Int)) (n:Nat) (a:Int):Cs l n a a=Do l n:=by
 unfold Cs Do
 refine List.map_congr_left fun j _=>?_
 have:decide (a≤(j:Int)∧(j:Int)<a)=false:=by simp
 rw[this,Bool.or_false]
theorem MJ (l:List (Int×Int)) (n:Nat) (x:Int×Int):Cs l n x.1 (x.1+x.2)=Do (l++[x]) n:=by
 unfold Cs Do
 refine List.map_congr_left fun j _=>?_
 simp[Ec]
theorem MK (l:List (Int×Int)) (n i:Nat) (a:Int) (ha:a≤i) (hi:i<n):(Cs l n a i).set i true=Cs l n a ((i:Int)+1):=by
 refine List.ext_getElem (by simp[Cs]) fun j h1 h2=>?_
 simp only[Cs,List.length_map,List.length_range] at h2
 rw[List.getElem_set]
 by_cases e:i=j
 .subst e
  rw[if_pos rfl]
  simp[Cs]
  right;omega
 .rw[if_neg e]
  simp only[Cs,List.getElem_map,List.getElem_range]
  congr 1
  simp only[decide_eq_decide]
  omega
theorem JT {l:List (Int×Int)} {x:Int×Int} (hl:∀y∈l,1≤y.2) (hx:1≤x.2):(l++[x]).Pairwise apart↔l.Pairwise apart∧∀i,x.1≤i→i<x.1+x.2→Ec l i=false:=by
 rw[List.pairwise_append]
 simp only[List.pairwise_singleton,true_and,List.mem_singleton,forall_eq,Ec,List.any_eq_false,decide_eq_true_eq,apart]
 constructor
 .rintro⟨h1,h2⟩
  refine⟨h1,fun i a b y hy c=>?_⟩
  have:=h2 y hy
  omega
 .rintro⟨h1,h2⟩
  refine⟨h1,fun y hy c=>?_⟩
  have hy1:=hl y hy
  by_cases e:y.1≤x.1
  .exact h2 x.1 (by omega) (by omega) y hy (by omega)
  .exact h2 y.1 (by omega) (by omega) y hy (by omega)
def Hv (l:List (Int×Int)) (n:Int):AV:=if DL l n then .tup [.own 1 n.toNat (AA (Do l n.toNat)),.bool true] else .tup [.own 1 0 [],.bool false]
def Ir (l:List (Int×Int)) (n:Int):Prop:=(∀x∈l,0≤x.1∧1≤x.2∧x.1+x.2≤n)∧l.Pairwise apart
theorem KZ {l:List (Int×Int)} {n:Int} {x:Int×Int}:Ir (l++[x]) n↔Ir l n∧(0≤x.1∧1≤x.2∧x.1+x.2≤n)∧∀i,x.1≤i→i<x.1+x.2→Ec l i=false:=by
 unfold Ir
 constructor
 .rintro⟨h1,h2⟩
  have hx:=h1 x (by simp)
  have h3:=(JT (fun y hy=>(h1 y (by simp[hy])).2.1) hx.2.1).1 h2
  exact⟨⟨fun y hy=>h1 y (by simp[hy]),h3.1⟩,hx,h3.2⟩
 .rintro⟨⟨h1,h2⟩,hx,h3⟩
  refine⟨fun y hy=>?_,(JT (fun y hy=>(h1 y hy).2.1) hx.2.1).2 ⟨h2,h3⟩⟩
  rcases List.mem_append.1 hy with h|h
  .exact h1 y h
  .simp at h;subst h;exact hx
theorem PJ {l:List (Int×Int)} {n:Int} (k:Nat) (h:Ir l n):Ir (l.take k) n:=⟨fun x hx=>h.1 x (List.mem_of_mem_take hx),h.2.sublist (List.take_sublist _ _)⟩
theorem Tu (l:List (Int×Int)) (n:Int) (hl:l.length<1000000000):Aa pg 121 [.ro l.length (Ag Av l),.int .i64 n] [] (fun r _=>r=Hv l n):=by
 refine Aa.start (fn:=Tryz.f121) [.tmp 4,.tmp 5] tk rfl rfl rfl (by kernel_rfl) (Nat.le_of_ble_eq_true rfl) rfl (by kernel_rfl) ?_
 rw[Aq]
 refine zs ?_
 refine z0 ?_;intro K hK
 refine Ab.eq (Q3 n) (by simp) (by simp) ?_
 by_cases c1:1≤n∧n≤100
 rotate_left
 .rw[decide_eq_false c1]
  refine zx ?_
  refine zk ?_;clear hK K
  refine zt ?_
  refine zs ?_
  refine zr ?_
  rw[Hv,if_neg (fun g=>c1 ⟨g.1,g.2.1⟩)]
 rw[decide_eq_true c1]
 by_cases c2:l.length≤13
 rotate_left
 .refine AJ c2 ?_
  refine zk ?_;clear hK K
  refine zt ?_
  refine zs ?_
  refine zr ?_
  rw[Hv,if_neg (fun g=>c2 g.2.2.1)]
 refine AJ c2 ?_
 refine zk ?_;clear hK K
 refine zn ?_
 refine W.skip ?_
 refine z1 ?_;intro K hK
 refine⟨by omega,by omega,by show n≤(9223372036854775807:Int);omega,?_⟩
 refine zk ?_;clear hK K
 have e0:Dw n.toNat [.bool false]=AA (Do (l.take 0) n.toNat):=by
  rw[Oq];congr 1
  exact List.ext_getElem (by simp[Do]) fun j _ _=>by simp[Do,Ec]
 rw[e0]
 refine zs ?_
 (repeat refine W.seq ?_);refine W.block (W.loopS (fun k:Nat=> [(0,.ro l.length (Ag Av l)),(1,.int .i64 n),(6,.tok 0 0 1 0 n.toNat),(20,.ro l.length (Ag Av l)),(21,.int .i64 l.length),(22,.int .i64 k)]) (fun k=> [.live 0 (AA (Do (l.take k) n.toNat))]) (fun k=>l.length-k) (fun k=>k≤l.length∧Ir (l.take k) n) 0 (Wk.fr (by simp[Ad])) ⟨by omega,by simp[Ir]⟩ ?_)
 rintro k ⟨hk,hok⟩
 refine zs ?_
 refine zc ?_ ?_<;>intro h
 .refine W.skip ?_
  have hlt:k<l.length:=by omega
  have hto:l.take (k+1)=l.take k++[l[k]]:=by rw[List.take_add_one];simp[hlt]
  have bad:¬Ir (l.take k++[l[k]]) n→Hv l n= .tup [.own 1 0 [],.bool false]:=fun g=>by
   rw[Hv,if_neg]
   intro w
   rw[←hto] at g
   exact g (PJ (k+1) ⟨w.2.2.2.1,w.2.2.2.2⟩)
  rw[KZ] at bad
  refine zb ?_
  (repeat refine W.seq ?_);refine W.reg 1 rfl fun K hK=>?_;simp -implicitDefEqProofs (maxSteps:=999999) (disch:=omega) [hlt]
  refine zk ?_;clear hK K
  generalize hv:l[k]=x at*
  obtain⟨x1,x2⟩:=x
  simp only at bad
  by_cases d1:x2<1
  .refine Af d1 ?_;intro K hK
   refine zk ?_;clear hK K
   refine zt ?_
   refine zs ?_
   refine zr ?_
   rw[bad (by omega)]
  by_cases d2:x1<0
  .refine Af (an d1 d2) ?_;intro K hK
   refine zk ?_;clear hK K
   refine zt ?_
   refine zs ?_
   refine zr ?_
   rw[bad (by omega)]
  by_cases d3:n≤x1
  .refine Af (an d1 (an d2 d3)) ?_;intro K hK
   refine zk ?_;clear hK K
   refine zt ?_
   refine zs ?_
   refine zr ?_
   rw[bad (by omega)]
  by_cases d4:x2≤n-x1
  rotate_left
  .refine Af (an d1 (an d2 (an d3 d4))) ?_;intro K hK
   refine zk ?_;clear hK K
   refine zt ?_
   refine zs ?_
   refine zr ?_
   rw[bad (by omega)]
  refine Af (an d1 (an d2 (an d3 d4))) ?_;intro K hK
  refine zk ?_;clear hK K
  refine zn ?_
  refine W.skip ?_
  refine zs ?_
  obtain⟨b,rfl⟩:=Int.eq_ofNat_of_zero_le (by omega:0≤x1)
  obtain⟨e,rfl⟩:=Int.eq_ofNat_of_zero_le (by omega:0≤x2)
  rw[←PI _ _ (b:Int)]
  (repeat refine W.seq ?_);refine W.block (W.loopS (fun i:Nat=> [(0,.ro l.length (Ag Av l)),(1,.int .i64 n),(6,.tok 0 0 1 0 n.toNat),(8,.ptr 1 0 0),(9,.int .i64 i),(20,.ro l.length (Ag Av l)),(21,.int .i64 l.length),(22,.int .i64 k)]) (fun i=> [.live 0 (AA (Cs (l.take k) n.toNat b i)),.live 0 [.int .i64 b,.int .i64 e]]) (fun i=>b+e-i) (fun i=>b≤i∧i≤b+e∧∀j:Int,b≤j→j<i→Ec (l.take k) j=false) b (Wk.fr (by simp[Ad])) ⟨by omega,by omega,fun j h1 h2=>by omega⟩ ?_)
  rintro i ⟨hb,hi,hf⟩
  refine zs ?_
  refine zc ?_ ?_<;>intro h
  .refine W.skip ?_
   have hin:i<n.toNat:=by omega
   refine zb ?_
   have hget:(Cs (List.take k l) n.toNat (b:Int) (i:Int))[i]?=some (Ec (l.take k) i):=by rw[List.getElem?_eq_getElem (by simpa using hin),MI hin]
   cases ht:Ec (l.take k) i
   .rw[ht] at hget
    refine Af (an hin hget) ?_;intro K hK
    refine⟨by omega,?_⟩
    refine zk ?_;clear hK K
    refine zn ?_
    refine W.skip ?_
    refine Af (an hin EJ) ?_;intro K hK
    refine⟨by omega,?_⟩
    refine zk ?_;clear hK K
    refine zs ?_
    refine⟨i+1,by omega,⟨by omega,by omega,fun j h1 h2=>?_⟩,?_⟩
    .by_cases e:j=i
     .subst e;exact ht
     .exact hf j h1 (by omega)
    .rw[MK _ _ _ _ (by omega) hin]
     exact Wk.fr (by simp[Ad])
   .rw[ht] at hget
    refine Af (an hin hget) ?_;intro K hK
    refine⟨by omega,?_⟩
    refine zk ?_;clear hK K
    refine zt ?_
    refine zs ?_
    refine zr ?_
    rw[bad (fun g=>by have:=g.2.2 i (by omega) (by omega);rw[ht] at this;cases this)]
  .refine W.exit ?_
   have hie:i=b+e:=by omega
   subst hie
   refine zs ?_
   refine⟨k+1,by omega,⟨by omega,?_⟩,?_⟩
   .rw[hto,KZ]
    exact⟨hok,⟨by omega,by omega,by omega⟩,fun j h1 h2=>hf j h1 (by simpa using h2)⟩
   .rw[hto]
    have e2:=MJ (l.take k) n.toNat ((b:Int),(e:Int))
    simp only at e2
    rw[e2]
    exact Wk.cutM (k:=1) (by simp[Ad]) (by simp) (by simp) (by simp) (by simp) (by simp)
 .refine W.exit ?_
  have hk' :k=l.length:=by omega
  subst hk'
  rw[List.take_length] at hok
  have e:Hv l n= .tup [.own 1 n.toNat (AA (Do l n.toNat)),.bool true]:=by rw[Hv,if_pos ⟨c1.1,c1.2,c2,hok.1,hok.2⟩]
  have e2:l.take l.length=l:=List.take_length
  rw[e2]
  refine zs ?_
  refine zr ?_
  rw[e]
end Go.Abs
set_option maxRecDepth 100000
namespace Go.Abs
open Go.Proofs
theorem UF (l:List (Int×Int)) (n:Int) (hl:l.length<1000000000):Aa pg 115 [.ro l.length (Ag Av l),.int .i64 n] [] (fun r _=>r= .bool (decide (DL l n))):=by
 have sp:=Tu l n hl
 refine Aa.start (fn:=Tryz.f115) [.tmp 4] tk rfl rfl rfl (by kernel_rfl) (Nat.le_of_ble_eq_true rfl) rfl (by kernel_rfl) ?_
 rw[Aq]
 refine zs ?_
 refine z0 ?_;intro K hK
 by_cases h:DL l n
 .rw[Hv,if_pos h] at sp
  refine Ab.eq sp (by simp) (by simp) ?_
  refine zx ?_
  refine zk ?_;clear hK K
  refine zs ?_
  refine zr ?_
  simp[h]
 .rw[Hv,if_neg h] at sp
  refine Ab.eq sp (by simp) (by simp) ?_
  refine zx ?_
  refine zk ?_;clear hK K
  refine zs ?_
  refine zr ?_
  simp[h]
theorem HK (xs:List C8) (f:Nat) (caps:List AV) (p:C8→Bool) (hx:xs.length<1000000000000) (hf:∀x∈xs,Aa pg f ([.agg ((AQ false) x)]++caps) [] fun r _=>r= .bool (p x)) (hcv:∀M,caps.map (vw M)=caps) (hcc:∀M k,caps.map (BZ M k)=caps):
 Aa pg 155 [.ro xs.length (Ag (AQ false) xs),.fn f caps] [] (fun r _=>r= .bool (xs.any p)):=by
 refine Aa.start (fn:=Tryz.f155) [.tmp 4] tk rfl rfl rfl (by kernel_rfl) (Nat.le_of_ble_eq_true rfl) rfl (by kernel_rfl) ?_
 rw[Aq]
 refine zs ?_
 refine z0 ?_;intro K hK
 refine Ab.eq (On xs f caps p hx hf hcv) (by simp[hcc]) (by simp) ?_
 refine zx ?_
 refine zk ?_;clear hK K
 refine zr ?_
 rw[Bool.eq_iff_iff]
 simp[Cl]
theorem PK (x:C8) (id:Int):Aa pg 159 ([.agg (AQ false x)]++[.rptr [.int .i64 id]]) [] (fun r _=>r= .bool (decide (x.pin=id))):=by
 refine Aa.start (fn:=Tryz.f159) [.tmp 3] tk rfl rfl rfl (by kernel_rfl) (Nat.le_of_ble_eq_true rfl) rfl (by kernel_rfl) ?_
 simp only[List.cons_append,List.nil_append]
 rw[Aq]
 refine z1 ?_;intro K hK;refine zk ?_;clear hK K
 refine zs ?_
 exact zR
def pinned (s:AS) (id:Int):Bool:=s.sess.any fun x=>decide (x.pin=id)
theorem Mm (s:AS) (id:Int) (hs:Be s):Aa pg 117 [.agg (AC false s),.int .i64 id] [] (fun r _=>r= .bool (pinned s id)):=by
 have h1:=hs.2.1
 refine Aa.start (fn:=Tryz.f117) [.tmp 4] tk rfl rfl rfl (by kernel_rfl) (Nat.le_of_ble_eq_true rfl) rfl (by kernel_rfl) ?_
 rw[Aq]
 refine z2 ?_;intro K hK;refine zk ?_;clear hK K
 refine z0 ?_;intro K hK
 refine Ab.eq (HK s.sess 159 [.rptr [.int .i64 id]] (fun x=>decide (x.pin=id)) (by omega) (fun x _=>PK x id) (by simp) (by simp)) (by simp) (by simp) ?_
 refine zx ?_
 refine zk ?_;clear hK K
 refine zr ?_
 rfl
def BU (l:List Cw):List Int:=(l.filter fun v=> !v.gone).map Cw.id
theorem Ot {l:List Cw} {k:Nat} (hk:k<l.length):BU (l.take (k+1))=BU (l.take k)++if l[k].gone=true then [] else [l[k].id]:=by
 rw[List.take_add_one,BU,List.filter_append,List.map_append]
 simp only[List.getElem?_eq_getElem hk,Option.toList_some]
 cases h:l[k].gone<;>simp[BU,h]
theorem Gu (l:List Cw):(BU l).length≤l.length:=by
 simp only[BU,List.length_map];exact List.length_filter_le _ _
theorem PL (s:AS) (hs:Be s):Aa pg 74 [.agg (AC false s)] [] (fun r _=>r= .own 1 (BU s.vers).length (Ac (BU s.vers))):=by
 have h1:=hs.1
 refine Aa.start (fn:=Tryz.f74) [.tmp 2] tk rfl rfl rfl (by kernel_rfl) (Nat.le_of_ble_eq_true rfl) rfl (by kernel_rfl) ?_
 rw[As]
 refine z1 ?_;intro K hK;refine zk ?_;clear hK K
 refine zs ?_
 (repeat refine W.seq ?_);refine W.block (W.loopS (fun s2:Nat×List Int=> [(2,.tok 1 s2.2.length 1 0 s2.2.length),(6,FE false s.vers),(7,.int .i64 s.vers.length),(8,.int .i64 s2.1)]) (fun s2=> [.live 0 (AC false s),.live s2.2.length (Ac s2.2)]) (fun s2=>s.vers.length-s2.1) (fun s2=>s2.1≤s.vers.length∧s2.2=BU (s.vers.take s2.1)) (0,[]) ((Wk.nil (t:=2) (s:=1) ?_).trans (Wk.fr ?_)) (by simp[BU]) ?_)
 .simp
 .simp[Ad]
 .rintro⟨k,acc⟩ ⟨hk,hacc⟩
  simp only at hk hacc
  have hal:acc.length≤k:=by rw[hacc];exact Nat.le_trans (Gu _) (by simp;omega)
  refine zs ?_
  refine zc ?_ ?_<;>intro h
  .refine W.skip ?_
   have hlt:k<s.vers.length:=by omega
   have hst:=Ot hlt
   refine zb ?_
   (repeat refine W.seq ?_);refine W.reg 1 rfl fun K hK=>?_;simp -implicitDefEqProofs (maxSteps:=999999) (disch:=omega) [hlt]
   refine zk ?_;clear hK K
   cases hg:s.vers[k].gone
   .rw[hg] at hst
    refine Af hg ?_;intro K hK
    refine zk ?_;clear hK K
    refine zt ?_
    refine z1 ?_;intro K hK
    refine⟨by omega,by omega,?_⟩
    refine zk ?_;clear hK K
    refine zs ?_
    refine⟨(k+1,acc++[s.vers[k].id]),by simp;omega,⟨by simp;omega,?_⟩,Wk.cutM (k:=2) (by simp[Ad]) ?_ (by simp) (by simp) (by simp) (by simp)⟩
    .simp only;rw[hst,hacc];simp
    .simp[BP,Ac]
   .rw[hg] at hst
    refine Af hg ?_;intro K hK
    refine zk ?_;clear hK K
    refine zn ?_
    refine W.skip ?_
    refine zs ?_
    refine⟨(k+1,acc),by simp;omega,⟨by simp;omega,?_⟩,Wk.cutM (k:=2) (by simp[Ad]) (by simp) (by simp) (by simp) (by simp) (by simp)⟩
    simp only;rw[hst,hacc];simp
  .refine W.exit ?_
   have hk' :k=s.vers.length:=by omega
   subst hk'
   rw[List.take_length] at hacc
   subst hacc
   refine zs ?_
   exact zR
def Ou (s:AS):List Int:=(BU s.vers).drop (max 0 (((BU s.vers).length:Int)-s.keep)).toNat
def E0 (s:AS) (v:Cw):Bool:=v.tag|| (Ou s).contains v.id||pinned s v.id
def Dc (s:AS) (want:Bool) (l:List Cw):List Int:=(l.filter fun v=>E0 s v==want).map Cw.id
def Ct (s:AS) (want:Bool):List Int:=Dc s want s.vers
theorem Is {s:AS} {want:Bool} {l:List Cw} {k:Nat} (hk:k<l.length):Dc s want (l.take (k+1))=Dc s want (l.take k)++if (E0 s l[k]==want)=true then [l[k].id] else []:=by
 rw[List.take_add_one,Dc,List.filter_append,List.map_append]
 simp only[List.getElem?_eq_getElem hk,Option.toList_some]
 cases h:E0 s l[k]==want<;>simp[Dc,h]
theorem Fk (s:AS) (want:Bool) (l:List Cw):(Dc s want l).length≤l.length:=by
 simp only[Dc,List.length_map];exact List.length_filter_le _ _
theorem Q5 (s:AS) (want:Bool) (hs:Be s) (hk0:0≤s.keep∧s.keep≤1000000):Aa pg 73 [.agg (AC false s),.bool want] [] (fun r _=>r= .own 1 (Ct s want).length (Ac (Ct s want))):=by
 have h1:=hs.1
 have hsl:=Gu s.vers
 obtain⟨m,hm⟩:∃m:Nat,max 0 (((BU s.vers).length:Int)-s.keep)=(m:Int):=⟨_,(Int.toNat_of_nonneg (by omega)).symm⟩
 have hml:m≤(BU s.vers).length:=by omega
 have hla:Ou s=(BU s.vers).drop m:=by rw[Ou,hm];rfl
 refine Aa.start (fn:=Tryz.f73) [.tmp 4] tk rfl rfl rfl (by kernel_rfl) (Nat.le_of_ble_eq_true rfl) rfl (by kernel_rfl) ?_
 rw[Aq]
 refine z1 ?_;intro K hK;refine zk ?_;clear hK K
 refine z0 ?_;intro K hK
 refine Ab.eq (PL s hs) (by simp) (by simp) ?_
 refine zx ?_
 refine zk ?_;clear hK K
 generalize BU s.vers=seen at*
 by_cases hlk:s.keep<(seen.length:Int)
 .have em:(seen.length:Int)-s.keep=m:=by omega
  have hm0:0<m:=by omega
  refine Af (an em (an hlk hm0)) ?_;intro K hK
  refine zk ?_;clear hK K
  refine zs ?_
  (repeat refine W.seq ?_);refine W.block (W.loopS (fun s2:Nat×List Int=> [(1,.bool want),(2,.ptr 0 0 0),(4,.tok 2 s2.2.length 1 0 s2.2.length),(5,.tok 1 0 1 m (seen.length-m)),(19,FE false s.vers),(20,.int .i64 s.vers.length),(21,.int .i64 s2.1)]) (fun s2=> [.live 0 (AC false s),.live 0 (Ac seen),.live s2.2.length (Ac s2.2)]) (fun s2=>s.vers.length-s2.1) (fun s2=>s2.1≤s.vers.length∧s2.2=Dc s want (s.vers.take s2.1)) (0,[]) ((Wk.nil (t:=4) (s:=1) (by simp)).trans (Wk.fr (by simp[Ad,em]))) (by simp[Dc]) ?_)
  rintro⟨k,acc⟩ ⟨hk,hacc⟩
  simp only at hk hacc
  have hal:acc.length≤k:=by rw[hacc];exact Nat.le_trans (Fk _ _ _) (by simp;omega)
  refine zs ?_
  refine zc ?_ ?_<;>intro h
  .refine W.skip ?_
   have hlt:k<s.vers.length:=by omega
   have hst:=Is (s:=s) (want:=want) hlt
   refine zb ?_
   (repeat refine W.seq ?_);refine W.reg 1 rfl fun K hK=>?_;simp -implicitDefEqProofs (maxSteps:=999999) (disch:=omega) [hlt]
   refine zk ?_;clear hK K
   generalize hv:s.vers[k]=v at*
   have hkb:E0 s v=(v.tag|| (seen.drop m).contains v.id||pinned s v.id):=by rw[E0,hla]
   cases ht:v.tag
   .refine Af ht ?_;intro K hK
    refine Ab.eq (EY (seen.drop m) v.id (by simp;omega)) (by simp(disch:=omega);rw[List.take_of_length_le (by simp)]) (by simp) ?_
    cases hc:(seen.drop m).contains v.id
    .refine zx ?_
     refine Ab.eq (Mm s v.id hs) (by simp) (by simp) ?_
     refine zx ?_
     refine zk ?_;clear hK K
     refine zc ?_ ?_<;>intro h
     .refine z1 ?_;intro K hK
      refine⟨by omega,by omega,?_⟩
      refine zk ?_;clear hK K
      refine zs ?_
      refine⟨(k+1,acc++[v.id]),by simp;omega,⟨by simp;omega,?_⟩,Wk.cutM (k:=3) (by simp[Ad]) ?_ (by simp) (by simp) (by simp) (by simp)⟩
      .simp only;rw[hst,hacc,hkb,ht,hc];simp[h]
      .simp[BP,Ac]
     .refine W.skip ?_
      refine zs ?_
      refine⟨(k+1,acc),by simp;omega,⟨by simp;omega,?_⟩,Wk.cutM (k:=3) (by simp[Ad]) (by simp) (by simp) (by simp) (by simp) (by simp)⟩
      simp only;rw[hst,hacc,hkb,ht,hc];simp[h]
    .refine zx ?_
     refine zk ?_;clear hK K
     refine zc ?_ ?_<;>intro h
     .refine z1 ?_;intro K hK
      refine⟨by omega,by omega,?_⟩
      refine zk ?_;clear hK K
      refine zs ?_
      refine⟨(k+1,acc++[v.id]),by simp;omega,⟨by simp;omega,?_⟩,Wk.cutM (k:=3) (by simp[Ad]) ?_ (by simp) (by simp) (by simp) (by simp)⟩
      .simp only;rw[hst,hacc,hkb,ht,hc];simp[h]
      .simp[BP,Ac]
     .refine W.skip ?_
      refine zs ?_
      refine⟨(k+1,acc),by simp;omega,⟨by simp;omega,?_⟩,Wk.cutM (k:=3) (by simp[Ad]) (by simp) (by simp) (by simp) (by simp) (by simp)⟩
      simp only;rw[hst,hacc,hkb,ht,hc];simp[h]
   .refine Af ht ?_;intro K hK
    refine zk ?_;clear hK K
    refine zc ?_ ?_<;>intro h
    .refine z1 ?_;intro K hK
     refine⟨by omega,by omega,?_⟩
     refine zk ?_;clear hK K
     refine zs ?_
     refine⟨(k+1,acc++[v.id]),by simp;omega,⟨by simp;omega,?_⟩,Wk.cutM (k:=3) (by simp[Ad]) ?_ (by simp) (by simp) (by simp) (by simp)⟩
     .simp only;rw[hst,hacc,hkb,ht];simp[h]
     .simp[BP,Ac]
    .refine W.skip ?_
     refine zs ?_
     refine⟨(k+1,acc),by simp;omega,⟨by simp;omega,?_⟩,Wk.cutM (k:=3) (by simp[Ad]) (by simp) (by simp) (by simp) (by simp) (by simp)⟩
     simp only;rw[hst,hacc,hkb,ht];simp[h]
  .refine W.exit ?_
   have hk' :k=s.vers.length:=by omega
   subst hk'
   rw[List.take_length] at hacc
   have e:Ct s want=acc:=hacc.symm
   rw[e]
   refine zs ?_
   exact zR
 .have em:m=0:=by omega
  refine Af hlk ?_;intro K hK
  refine zk ?_;clear hK K
  refine zs ?_
  (repeat refine W.seq ?_);refine W.block (W.loopS (fun s2:Nat×List Int=> [(1,.bool want),(2,.ptr 0 0 0),(4,.tok 2 s2.2.length 1 0 s2.2.length),(5,.tok 1 0 1 m (seen.length-m)),(19,FE false s.vers),(20,.int .i64 s.vers.length),(21,.int .i64 s2.1)]) (fun s2=> [.live 0 (AC false s),.live 0 (Ac seen),.live s2.2.length (Ac s2.2)]) (fun s2=>s.vers.length-s2.1) (fun s2=>s2.1≤s.vers.length∧s2.2=Dc s want (s.vers.take s2.1)) (0,[]) ((Wk.nil (t:=4) (s:=1) (by simp)).trans (Wk.fr (by simp[Ad,em]))) (by simp[Dc]) ?_)
  rintro⟨k,acc⟩ ⟨hk,hacc⟩
  simp only at hk hacc
  have hal:acc.length≤k:=by rw[hacc];exact Nat.le_trans (Fk _ _ _) (by simp;omega)
  refine zs ?_
  refine zc ?_ ?_<;>intro h
  .refine W.skip ?_
   have hlt:k<s.vers.length:=by omega
   have hst:=Is (s:=s) (want:=want) hlt
   refine zb ?_
   (repeat refine W.seq ?_);refine W.reg 1 rfl fun K hK=>?_;simp -implicitDefEqProofs (maxSteps:=999999) (disch:=omega) [hlt]
   refine zk ?_;clear hK K
   generalize hv:s.vers[k]=v at*
   have hkb:E0 s v=(v.tag|| (seen.drop m).contains v.id||pinned s v.id):=by rw[E0,hla]
   cases ht:v.tag
   .refine Af ht ?_;intro K hK
    refine Ab.eq (EY (seen.drop m) v.id (by simp;omega)) (by simp(disch:=omega);rw[List.take_of_length_le (by simp)]) (by simp) ?_
    cases hc:(seen.drop m).contains v.id
    .refine zx ?_
     refine Ab.eq (Mm s v.id hs) (by simp) (by simp) ?_
     refine zx ?_
     refine zk ?_;clear hK K
     refine zc ?_ ?_<;>intro h
     .refine z1 ?_;intro K hK
      refine⟨by omega,by omega,?_⟩
      refine zk ?_;clear hK K
      refine zs ?_
      refine⟨(k+1,acc++[v.id]),by simp;omega,⟨by simp;omega,?_⟩,Wk.cutM (k:=3) (by simp[Ad]) ?_ (by simp) (by simp) (by simp) (by simp)⟩
      .simp only;rw[hst,hacc,hkb,ht,hc];simp[h]
      .simp[BP,Ac]
     .refine W.skip ?_
      refine zs ?_
      refine⟨(k+1,acc),by simp;omega,⟨by simp;omega,?_⟩,Wk.cutM (k:=3) (by simp[Ad]) (by simp) (by simp) (by simp) (by simp) (by simp)⟩
      simp only;rw[hst,hacc,hkb,ht,hc];simp[h]
    .refine zx ?_
     refine zk ?_;clear hK K
     refine zc ?_ ?_<;>intro h
     .refine z1 ?_;intro K hK
      refine⟨by omega,by omega,?_⟩
      refine zk ?_;clear hK K
      refine zs ?_
      refine⟨(k+1,acc++[v.id]),by simp;omega,⟨by simp;omega,?_⟩,Wk.cutM (k:=3) (by simp[Ad]) ?_ (by simp) (by simp) (by simp) (by simp)⟩
      .simp only;rw[hst,hacc,hkb,ht,hc];simp[h]
      .simp[BP,Ac]
     .refine W.skip ?_
      refine zs ?_
      refine⟨(k+1,acc),by simp;omega,⟨by simp;omega,?_⟩,Wk.cutM (k:=3) (by simp[Ad]) (by simp) (by simp) (by simp) (by simp) (by simp)⟩
      simp only;rw[hst,hacc,hkb,ht,hc];simp[h]
   .refine Af ht ?_;intro K hK
    refine zk ?_;clear hK K
    refine zc ?_ ?_<;>intro h
    .refine z1 ?_;intro K hK
     refine⟨by omega,by omega,?_⟩
     refine zk ?_;clear hK K
     refine zs ?_
     refine⟨(k+1,acc++[v.id]),by simp;omega,⟨by simp;omega,?_⟩,Wk.cutM (k:=3) (by simp[Ad]) ?_ (by simp) (by simp) (by simp) (by simp)⟩
     .simp only;rw[hst,hacc,hkb,ht];simp[h]
     .simp[BP,Ac]
    .refine W.skip ?_
     refine zs ?_
     refine⟨(k+1,acc),by simp;omega,⟨by simp;omega,?_⟩,Wk.cutM (k:=3) (by simp[Ad]) (by simp) (by simp) (by simp) (by simp) (by simp)⟩
     simp only;rw[hst,hacc,hkb,ht];simp[h]
  .refine W.exit ?_
   have hk' :k=s.vers.length:=by omega
   subst hk'
   rw[List.take_length] at hacc
   have e:Ct s want=acc:=hacc.symm
   rw[e]
   refine zs ?_
   exact zR
end Go.Abs
set_option maxRecDepth 100000
namespace Go.Abs
open Go.Proofs
theorem Hw (n m:Int):Aa pg 62 [.int .i64 n,.int .i64 m] [] (fun r _=>r= .bool (decide (0≤n∧n≤m))):=by
 refine Aa.start (fn:=Tryz.f62) [.tmp 4] tk rfl rfl rfl (by kernel_rfl) (Nat.le_of_ble_eq_true rfl) rfl (by kernel_rfl) ?_
 rw[Aq]
 refine zs ?_
 by_cases h1:0≤n
 .refine Af h1 ?_;intro K hK
  refine zk ?_;clear hK K
  exact zR
 .refine Af h1 ?_;intro K hK
  refine zk ?_;clear hK K
  exact zR
theorem Ed (n a b:Int):Aa pg 42 [.int .i64 n,.int .i64 a,.int .i64 b] [] (fun r _=>r= .bool (decide (a≤n∧n≤b))):=by
 refine Aa.start (fn:=Tryz.f42) [.tmp 6] tk rfl rfl rfl (by kernel_rfl) (Nat.le_of_ble_eq_true rfl) rfl (by kernel_rfl) ?_
 rw[Bm]
 refine zs ?_
 by_cases h1:a≤n
 . (repeat refine W.seq ?_);refine W.reg 0 rfl fun K hK=>?_;simp -implicitDefEqProofs (maxSteps:=999999) (disch:=omega) [h1]
   refine zk ?_;clear hK K
   refine W.ret ?_;simp only[B4,CM,Ch];refine B8 (d:=0) ?_;simp -implicitDefEqProofs (maxSteps:=999999) (disch:=omega)
   try simp[h1]
 . (repeat refine W.seq ?_);refine W.reg 0 rfl fun K hK=>?_;simp -implicitDefEqProofs (maxSteps:=999999) (disch:=omega) [h1]
   refine zk ?_;clear hK K
   refine W.ret ?_;simp only[B4,CM,Ch];refine B8 (d:=0) ?_;simp -implicitDefEqProofs (maxSteps:=999999) (disch:=omega)
   try simp[h1]
theorem Ja (xs:List Int) (x:Int) (hx:xs.length<4611686018427387904):Aa pg 18 [.ro xs.length (Ac xs),.int .i64 x] [] (fun r _=>r= .int .i64 (BX (fun y=>decide (y=x)) xs)):=by
 refine Aa.start (fn:=Tryz.f18) [.tmp 4] tk rfl rfl rfl (by kernel_rfl) (Nat.le_of_ble_eq_true rfl) rfl (by kernel_rfl) ?_
 rw[Aq]
 refine zs ?_
 refine zs ?_
 (repeat refine W.seq ?_);refine W.block (W.loopS (fun k:Nat=> [(0,.ro xs.length (Ac xs)),(1,.int .i64 x),(5,.int .i64 k)]) (fun _=> []) (fun k=>xs.length-k) (fun k=>k≤xs.length∧∀i (h:i<xs.length),i<k→xs[i]≠x) 0 (Wk.fr ?_) (by simp) ?_)
 .simp[Ad]
 .rintro k ⟨hk,ht⟩
  refine zs ?_
  refine zc ?_ ?_<;>intro h
  .refine W.skip ?_
   refine zb ?_
   refine zs ?_
   refine zc ?_ ?_<;>intro h
   .refine zs ?_
    refine zr ?_
    exact(Ea (by omega) (by simp[h]) fun i hi hik=>by simpa using ht i hi hik).symm
   .refine W.skip ?_
    refine zs ?_
    refine⟨k+1,by omega,⟨by omega,?_⟩,Wk.fr (by simp[Ad])⟩
    intro i hi hik
    by_cases e:i=k
    .subst e;exact fun e=>h e
    .exact ht i hi (by omega)
  .refine W.exit ?_
   refine zs ?_
   refine zr ?_
   exact(DC fun i hi=>by simpa using ht i hi (by omega)).symm
theorem Fu (a b:Gr) (ha:EA a):Aa pg 38 [.agg (AO false a),.agg (AO false b)] [] (fun r _=>r= .bool (decide (a=b))):=by
 have e0:(a=b)↔a.n=b.n∧a.out=b.out:=Gr.ext_iff
 have h1:=ha.1
 refine Aa.start (fn:=Tryz.f38) [.tmp 4] tk rfl rfl rfl (by kernel_rfl) (Nat.le_of_ble_eq_true rfl) rfl (by kernel_rfl) ?_
 rw[Aq]
 refine z2 ?_;intro K hK;refine zk ?_;clear hK K
 by_cases h1:a.n=b.n
 .refine Af h1 ?_;intro K hK
  refine Ab.eq (Ii a.out b.out (by omega) (fun r hr=>by have:=ha.2 r hr;omega)) (by simp) (by simp) ?_
  refine zx ?_
  refine zk ?_;clear hK K
  refine zr ?_
  simp[e0,h1]
 .refine Af h1 ?_;intro K hK
  refine zk ?_;clear hK K
  refine zr ?_
  simp[e0,h1]
def IA (j:BQ):Prop:=j.list.length<1000000000∧j.out.length<1000000000
theorem FL (a b:BQ) (ha:IA a):Aa pg 110 [.agg (BA false a),.agg (BA false b)] [] (fun r _=>r= .bool (decide (a=b))):=by
 have e0:(a=b)↔a.kind=b.kind∧a.a=b.a∧a.at_=b.at_∧a.move=b.move∧a.list=b.list∧a.out=b.out:=BQ.ext_iff
 have hl1:=ha.1
 have hl2:=ha.2
 refine Aa.start (fn:=Tryz.f110) [.tmp 4] tk rfl rfl rfl (by kernel_rfl) (Nat.le_of_ble_eq_true rfl) rfl (by kernel_rfl) ?_
 rw[Aq]
 refine z2 ?_;intro K hK;refine zk ?_;clear hK K
 by_cases h1:a.kind=b.kind
 .by_cases h2:a.a=b.a
  .by_cases h3:a.at_=b.at_
   .by_cases h4:a.move=b.move
    .refine Af (an h1 (an h2 (an h3 h4))) ?_;intro K hK
     refine Ab.eq (DA a.list b.list (by omega)) (by simp) (by simp) ?_
     by_cases h5:a.list=b.list
     .rw[decide_eq_true h5]
      refine zx ?_
      refine Ab.eq (DA a.out b.out (by omega)) (by simp) (by simp) ?_
      refine zx ?_
      refine zk ?_;clear hK K
      refine zr ?_
      simp[e0,h1,h2,h3,h4,h5]
     .rw[decide_eq_false h5]
      refine zx ?_
      refine zk ?_;clear hK K
      refine zr ?_
      simp[e0,h5]
    .refine Af (an h1 (an h2 (an h3 h4))) ?_;intro K hK
     refine zk ?_;clear hK K
     refine zr ?_
     simp[e0,h4]
   .refine Af (an h1 (an h2 h3)) ?_;intro K hK
    refine zk ?_;clear hK K
    refine zr ?_
    simp[e0,h3]
  .refine Af (an h1 h2) ?_;intro K hK
   refine zk ?_;clear hK K
   refine zr ?_
   simp[e0,h2]
 .refine Af h1 ?_;intro K hK
  refine zk ?_;clear hK K
  refine zr ?_
  simp[e0,h1]
def DN (s:C8):Prop:=EA s.stage∧IA s.job
theorem ML (a b:C8) (ha:DN a):Aa pg 97 [.agg (AQ false a),.agg (AQ false b)] [] (fun r _=>r= .bool (decide (a=b))):=by
 have e0:(a=b)↔a.opn=b.opn∧a.pin=b.pin∧a.on=b.on∧a.frm=b.frm∧a.stage=b.stage∧a.job=b.job:=C8.ext_iff
 refine Aa.start (fn:=Tryz.f97) [.tmp 4] tk rfl rfl rfl (by kernel_rfl) (Nat.le_of_ble_eq_true rfl) rfl (by kernel_rfl) ?_
 rw[Aq]
 refine z2 ?_;intro K hK;refine zk ?_;clear hK K
 by_cases h1:a.opn=b.opn
 .by_cases h2:a.pin=b.pin
  .by_cases h3:a.on=b.on
   .by_cases h4:a.frm=b.frm
    .refine Af (an h1 (an h2 (an h3 h4))) ?_;intro K hK
     refine Ab.eq (Fu a.stage b.stage ha.1) (by simp) (by simp) ?_
     by_cases h5:a.stage=b.stage
     .rw[decide_eq_true h5]
      refine zx ?_
      refine Ab.eq (FL a.job b.job ha.2) (by simp) (by simp) ?_
      refine zx ?_
      refine zk ?_;clear hK K
      refine zr ?_
      simp[e0,h1,h2,h3,h4,h5]
     .rw[decide_eq_false h5]
      refine zx ?_
      refine zk ?_;clear hK K
      refine zr ?_
      simp[e0,h5]
    .refine Af (an h1 (an h2 (an h3 h4))) ?_;intro K hK
     refine zk ?_;clear hK K
     refine zr ?_
     simp[e0,h4]
   .refine Af (an h1 (an h2 h3)) ?_;intro K hK
    refine zk ?_;clear hK K
    refine zr ?_
    simp[e0,h3]
  .refine Af (an h1 h2) ?_;intro K hK
   refine zk ?_;clear hK K
   refine zr ?_
   simp[e0,h2]
 .refine Af h1 ?_;intro K hK
  refine zk ?_;clear hK K
  refine zr ?_
  simp[e0,h1]
end Go.Abs
set_option maxRecDepth 100000
namespace Go.Abs
open Go.Proofs
theorem Km (xs:List Cw) (hx:xs.length<1000000000):Aa pg 70 [.ro xs.length (Ag AU xs)] [] (fun r _=>r= .own 8 xs.length (Ag AU xs)):=by
 refine Aa.start (fn:=Tryz.f70) [.tmp 2] tk rfl rfl rfl (by kernel_rfl) (Nat.le_of_ble_eq_true rfl) rfl (by kernel_rfl) ?_
 rw[As]
 refine zs ?_
 refine zs ?_
 refine zs ?_
 (repeat refine W.seq ?_);refine W.block (W.loopS (fun k:Nat=> [(0,.ro xs.length (Ag AU xs)),(3,.tok 0 k 8 0 k),(4,.int .i64 k)]) (fun k=> [.live k (Ag AU (xs.take k))]) (fun k=>xs.length-k) (fun k=>k≤xs.length) 0 ((Wk.nil (t:=3) (s:=8) ?_).trans (Wk.fr ?_)) (by simp) ?_)
 .simp
 .simp[Ad]
 .intro k hk
  refine zs ?_
  refine zc ?_ ?_<;>intro h
  .refine W.skip ?_
   have hlt:k<xs.length:=by omega
   refine zb ?_
   (repeat refine W.seq ?_);refine W.reg 1 rfl fun K hK=>?_;simp -implicitDefEqProofs (maxSteps:=999999) (disch:=omega) [hlt]
   refine⟨by omega,by omega,?_⟩
   refine zk ?_;clear hK K
   refine zs ?_
   refine⟨k+1,by omega,by omega,Wk.cutM (k:=1) (by simp[Ad]) ?_ (by simp) (by simp) (by simp) (by simp)⟩
   have hto:xs.take (k+1)=xs.take k++[xs[k]]:=by rw[List.take_add_one];simp[hlt]
   rw[hto,CS]
   simp[AM]
  .refine W.exit ?_
   have hk' :k=xs.length:=by omega
   subst hk'
   refine zs ?_
   exact zR
theorem Ee (j:BQ) (hj:IA j):Aa pg 153 [.agg (BA false j)] [] (fun r _=>r= .agg (BA true j)):=by
 have h1:=hj.1
 have h2:=hj.2
 refine Aa.start (fn:=Tryz.f153) [.cell 2 53] tk rfl rfl rfl (by kernel_rfl) (Nat.le_of_ble_eq_true rfl) rfl (by kernel_rfl) ?_
 rw[As]
 refine z2 ?_;intro K hK;refine zk ?_;clear hK K
 refine z1 ?_;intro K hK;refine zk ?_;clear hK K
 refine z0 ?_;intro K hK
 refine Ab.eq (DI j.list (by omega)) (by simp) (by simp) ?_
 refine zx ?_
 refine zk ?_;clear hK K
 refine z0 ?_;intro K hK
 refine Ab.eq (DI j.out (by omega)) (by simp) (by simp) ?_
 refine zx ?_
 refine zk ?_;clear hK K
 refine zs ?_
 exact zR
end Go.Abs
set_option maxRecDepth 100000
namespace Go.Abs
open Go.Proofs
theorem MN (xs:List (List Int)) (hx:xs.length<1000000000) (hr:∀r∈xs,r.length<1000000000):Aa pg 188 [.ro xs.length (Ax false xs)] [] (fun r _=>r= .own 1 xs.length (Ax true xs)):=by
 refine Aa.start (fn:=Tryz.f188) [.tmp 2] tk rfl rfl rfl (by kernel_rfl) (Nat.le_of_ble_eq_true rfl) rfl (by kernel_rfl) ?_
 rw[As]
 refine zs ?_
 refine zs ?_
 refine zs ?_
 (repeat refine W.seq ?_);refine W.block (W.loopS (fun k:Nat=> [(0,.ro xs.length (Ax false xs)),(3,.tok 0 k 1 0 k),(4,.int .i64 k)]) (fun k=> [.live k (Ax true (xs.take k))]) (fun k=>xs.length-k) (fun k=>k≤xs.length) 0 ((Wk.nil (t:=3) (s:=1) ?_).trans (Wk.fr ?_)) (by simp) ?_)
 .simp
 .simp[Ad]
 .intro k hk
  refine zs ?_
  refine zc ?_ ?_<;>intro h
  .refine W.skip ?_
   have hlt:k<xs.length:=by omega
   have sp:=DI xs[k] (by have:=hr _ (List.getElem_mem hlt);omega)
   refine zb ?_
   (repeat refine W.seq ?_);refine W.reg 1 rfl fun K hK=>?_;simp -implicitDefEqProofs (maxSteps:=999999) (disch:=omega) [hlt]
   refine Ab.eq sp (by simp) (by simp) ?_
   refine AJ hlt ?_
   refine⟨by omega,by omega,?_⟩
   refine zk ?_;clear hK K
   refine zs ?_
   have hto:xs.take (k+1)=xs.take k++[xs[k]]:=by rw[List.take_add_one];simp[hlt]
   have hll:(Ax true (xs.take k)).length=k:=by simp;omega
   refine⟨k+1,by omega,by omega,(Wk.intern (B:=0) (v:=k+1) (j:=k) (T:=2) (u:=0) (s:=1) (off:=0) (n:=xs[k].length) (cs:=Ax true (xs.take k)++[AV.tok 2 0 1 0 xs[k].length]) (xs:=Ac xs[k]) (by simp) ?_ (by simp) (by simp) (by simp) (by simp)).trans (Wk.cutM (k:=1) (by simp[Ad]) ?_ (by simp) (by simp) (by simp) (by simp))⟩
   .rw[List.getElem?_append_right (by omega),hll];simp
   .rw[hto,Pu]
    simp only[List.set_cons_zero,List.take_succ_cons,List.take_zero,List.cons.injEq,Ae.live.injEq,true_and,and_true]
    rw[List.set_append_right _ _ (by omega),hll]
    simp[Ax]
  .refine W.exit ?_
   have hk' :k=xs.length:=by omega
   subst hk'
   refine zs ?_
   exact zR
theorem Q6 {P L:List AV} {n i:Nat} {x:AV} (h:P.length=n):(P++L).set (n+i) x=P++L.set i x:=by
 rw[List.set_append_right _ _ (by omega),h,Nat.add_sub_cancel_left]
theorem Q7 {P L:List AV} {n i:Nat} (h:P.length=n):(P++L)[n+i]?=L[i]?:=by
 rw[List.getElem?_append_right (by omega),h,Nat.add_sub_cancel_left]
theorem MO (g:Gr) (hg:EA g):Aa pg 152 [.agg (AO false g)] [] (fun r _=>r= .agg (AO true g)):=by
 refine Aa.start (fn:=Tryz.f152) [.cell 2 51] tk rfl rfl rfl (by kernel_rfl) (Nat.le_of_ble_eq_true rfl) rfl (by kernel_rfl) ?_
 rw[As]
 refine z2 ?_;intro K hK;refine zk ?_;clear hK K
 refine z1 ?_;intro K hK;refine zk ?_;clear hK K
 refine z0 ?_;intro K hK
 refine Ab.eq (MN g.out hg.1 hg.2) (by simp) (by simp) ?_
 refine zx ?_
 refine zk ?_;clear hK K
 refine zs ?_
 exact zR
theorem Lc (s:C8) (hs:DN s):Aa pg 113 [.agg (AQ false s)] [] (fun r _=>r= .agg (AQ true s)):=by
 refine Aa.start (fn:=Tryz.f113) [.cell 2 55] tk rfl rfl rfl (by kernel_rfl) (Nat.le_of_ble_eq_true rfl) rfl (by kernel_rfl) ?_
 rw[As]
 refine z2 ?_;intro K hK;refine zk ?_;clear hK K
 refine z1 ?_;intro K hK;refine zk ?_;clear hK K
 refine z0 ?_;intro K hK
 refine Ab.eq (MO s.stage hs.1) (by simp) (by simp) ?_
 refine zx ?_
 refine zk ?_;clear hK K
 refine z0 ?_;intro K hK
 refine Ab.eq (Ee s.job hs.2) (by simp) (by simp) ?_
 refine zx ?_
 refine zk ?_;clear hK K
 refine zs ?_
 exact zR
theorem Kn (xs:List C8) (hx:xs.length<1000000000) (hr:∀r∈xs,DN r):Aa pg 71 [.ro xs.length (Ag (AQ false) xs)] [] (fun r _=>r= .own 12 xs.length (Ag (AQ true) xs)):=by
 refine Aa.start (fn:=Tryz.f71) [.tmp 2] tk rfl rfl rfl (by kernel_rfl) (Nat.le_of_ble_eq_true rfl) rfl (by kernel_rfl) ?_
 rw[As]
 refine zs ?_
 refine zs ?_
 refine zs ?_
 (repeat refine W.seq ?_);refine W.block (W.loopS (fun k:Nat=> [(0,.ro xs.length (Ag (AQ false) xs)),(3,.tok 0 k 12 0 k),(4,.int .i64 k)]) (fun k=> [.live k (Ag (AQ true) (xs.take k))]) (fun k=>xs.length-k) (fun k=>k≤xs.length) 0 ((Wk.nil (t:=3) (s:=12) ?_).trans (Wk.fr ?_)) (by simp) ?_)
 .simp
 .simp[Ad]
 .intro k hk
  refine zs ?_
  refine zc ?_ ?_<;>intro h
  .refine W.skip ?_
   have hlt:k<xs.length:=by omega
   have sp:=Lc xs[k] (hr _ (List.getElem_mem hlt))
   refine zb ?_
   (repeat refine W.seq ?_);refine W.reg 1 rfl fun K hK=>?_;simp -implicitDefEqProofs (maxSteps:=999999) (disch:=omega) [hlt]
   refine Ab.eq sp (by simp) (by simp) ?_
   refine AJ hlt ?_
   refine⟨by omega,by omega,?_⟩
   refine zk ?_;clear hK K
   refine zs ?_
   have hto:xs.take (k+1)=xs.take k++[xs[k]]:=by rw[List.take_add_one];simp[hlt]
   have hll:(Ag (AQ true) (xs.take k)).length=k*12:=by simp;omega
   refine⟨k+1,by omega,by omega,?_⟩
   have hpn:(Ag (AQ true) (xs.take k)).all (FS 1)=true:=by rw[←GT];simp
   rw[hto,CS]
   generalize Ag (AQ true) (xs.take k)=P at*
   generalize xs[k]=x at*
   refine Wk.trans (Wk.intern (B:=0) (v:=k+1) (j:=k*12+5) (T:=2) (u:=0) (s:=1) (off:=0) (n:=x.stage.out.length) (cs:=P++[AV.bool x.opn,AV.int .i64 x.pin,AV.bool x.on,AV.int .i64 x.frm,AV.int .i64 x.stage.n,AV.tok 2 0 1 0 x.stage.out.length,AV.int .i64 x.job.kind,AV.int .i64 x.job.a,AV.int .i64 x.job.at_,AV.bool x.job.move,AV.tok 3 0 1 0 x.job.list.length,AV.tok 4 0 1 0 x.job.out.length]) (xs:=Ax true x.stage.out) (by simp[Ai]) (by rw[Q7 hll];rfl) (by simp[Ai]) (by decide) (by simp) (by simp)) ?_
   rw[Q6 hll]
   simp only[List.set_cons_zero,List.set_cons_succ,List.drop_zero,Nat.mul_one,Hn,If,List.take_length]
   refine Wk.trans (Wk.intern (B:=0) (v:=k+1) (j:=k*12+10) (T:=3) (u:=0) (s:=1) (off:=0) (n:=x.job.list.length) (cs:=P++[AV.bool x.opn,AV.int .i64 x.pin,AV.bool x.on,AV.int .i64 x.frm,AV.int .i64 x.stage.n,AV.own 1 x.stage.out.length (Ax true x.stage.out),AV.int .i64 x.job.kind,AV.int .i64 x.job.a,AV.int .i64 x.job.at_,AV.bool x.job.move,AV.tok 3 0 1 0 x.job.list.length,AV.tok 4 0 1 0 x.job.out.length]) (xs:=Ac x.job.list) (by simp[Ai]) (by rw[Q7 hll];rfl) (by simp[Ai]) (by decide) (by simp) (by simp)) ?_
   rw[Q6 hll]
   simp only[List.set_cons_zero,List.set_cons_succ,List.drop_zero,Nat.mul_one,Hn,If,List.take_length]
   refine Wk.trans (Wk.intern (B:=0) (v:=k+1) (j:=k*12+11) (T:=4) (u:=0) (s:=1) (off:=0) (n:=x.job.out.length) (cs:=P++[AV.bool x.opn,AV.int .i64 x.pin,AV.bool x.on,AV.int .i64 x.frm,AV.int .i64 x.stage.n,AV.own 1 x.stage.out.length (Ax true x.stage.out),AV.int .i64 x.job.kind,AV.int .i64 x.job.a,AV.int .i64 x.job.at_,AV.bool x.job.move,AV.own 1 x.job.list.length (Ac x.job.list),AV.tok 4 0 1 0 x.job.out.length]) (xs:=Ac x.job.out) (by simp[Ai]) (by rw[Q7 hll];rfl) (by simp[Ai]) (by decide) (by simp) (by simp)) ?_
   rw[Q6 hll]
   simp only[List.set_cons_zero,List.set_cons_succ,List.drop_zero,Nat.mul_one,Hn,If,List.take_length]
   refine Wk.cutM (k:=1) (by simp[Ad]) ?_ (by simp) (by simp) ?_ (by simp)
   .simp[AM]
   .simp only[List.all_cons,List.all_nil,Bool.and_true,Hd,List.all_append,hpn,GT]
    simp[AM]
  .refine W.exit ?_
   have hk' :k=xs.length:=by omega
   subst hk'
   refine zs ?_
   exact zR
theorem MP (s:AS) (hs:Be s) (hr:∀r∈s.sess,DN r):Aa pg 14 [.agg (AC false s)] [] (fun r _=>r= .agg (AC true s)):=by
 refine Aa.start (fn:=Tryz.f14) [.cell 2 38] tk rfl rfl rfl (by kernel_rfl) (Nat.le_of_ble_eq_true rfl) rfl (by kernel_rfl) ?_
 rw[As]
 refine z2 ?_;intro K hK;refine zk ?_;clear hK K
 refine z1 ?_;intro K hK;refine zk ?_;clear hK K
 refine z0 ?_;intro K hK
 refine Ab.eq (Km s.vers hs.1) (by simp) (by simp) ?_
 refine zx ?_
 refine zk ?_;clear hK K
 refine z0 ?_;intro K hK
 refine Ab.eq (Kn s.sess hs.2.1 hr) (by simp) (by simp) ?_
 refine zx ?_
 refine zk ?_;clear hK K
 refine zs ?_
 exact zR
end Go.Abs
set_option maxRecDepth 100000
namespace Go.Abs
open Go.Proofs
theorem PM (b:CI) (i:Nat) (hn:b.data.size<1000000000000) (hi:i/8<b.data.size):Aa pg 142 [.agg (Cb b),.int .i64 i] [] (fun r _=>r= .int .i64 (if D7 b.data i=true then 1 else 0)):=by
 refine Aa.start (fn:=Tryz.f142) [.tmp 4] tk rfl rfl rfl (by kernel_rfl) (Nat.le_of_ble_eq_true rfl) rfl (by kernel_rfl) ?_
 rw[Aq]
 refine z1 ?_;intro K hK;refine zk ?_;clear hK K
 refine z0 ?_;intro K hK
 refine⟨by omega,?_⟩
 have hB:=Gq b.data (i/8)
 have h3:=L3 b.data (i/8) (7-(i:Int)%8).toNat
 have e1:((i:Int)/8).toNat=i/8:=by omega
 rw[e1,wrap_i64 (by omega) (by omega),I8 _ h3.1 (by omega),No]
 simp
 refine zk ?_;clear hK K
 exact zR
theorem Tv (b:CI) (h3:b.data.size<1000000000):Aa pg 106 [.agg (Cb b)] [] (fun r _=>r= .bool (decide (DR b))):=by
 refine Aa.start (fn:=Tryz.f106) [.tmp 2] tk rfl rfl rfl (by kernel_rfl) (Nat.le_of_ble_eq_true rfl) rfl (by kernel_rfl) ?_
 rw[As]
 refine z1 ?_;intro K hK;refine zk ?_;clear hK K
 refine z0 ?_;intro K hK
 refine Ab.eq (Hw b.n 6000) (by simp) (by simp) ?_
 by_cases h0:0≤b.n∧b.n≤6000
 rotate_left
 .rw[decide_eq_false h0]
  refine zx ?_
  refine zk ?_;clear hK K
  refine zt ?_
  refine zs ?_
  refine zr ?_
  intro h;exact h0 ⟨h.1,h.2.1⟩
 .rw[decide_eq_true h0]
  obtain⟨n,hn⟩:=Int.eq_ofNat_of_zero_le h0.1
  refine zx ?_
  refine zk ?_;clear hK K
  refine zc ?_ ?_<;>intro h
  .refine zs ?_
   refine zr ?_
   intro g;have:=g.2.2.1;omega
  .refine W.skip ?_
   refine Af hn ?_;intro K hK
   refine zk ?_;clear hK K
   (repeat refine W.seq ?_);refine W.block (W.loopS (fun i:Nat=> [(1,.ptr 0 0 0),(3,.int .i64 i)]) (fun _=> [.live 0 [.str b.data,.int .i64 n]]) (fun i=>8*b.data.size-i) (fun i=>n≤i∧(i≤8*b.data.size∨i=n)∧∀j,n≤j→j<i→D7 b.data j=false) n (Wk.fr (by simp[Ad])) ⟨by omega,by omega,fun j h1 h2=>by omega⟩ ?_)
   rintro i ⟨hi,hi2,ht⟩
   refine zs ?_
   refine zc ?_ ?_<;>intro h
   .refine W.skip ?_
    have hlt:i<8*b.data.size:=by omega
    have sp:=PM b i (by omega) (by omega)
    refine zb ?_
    refine z0 ?_;intro K hK
    rw[←hn]
    cases hb:D7 b.data i
    .simp only[hb,Bool.false_eq_true,if_false] at sp
     refine Ab.eq sp (by simp) (by simp) ?_
     refine zx ?_
     refine zk ?_;clear hK K
     refine zn ?_
     refine W.skip ?_
     refine zs ?_
     refine⟨i+1,by omega,⟨by omega,by omega,fun j h1 h2=>?_⟩,?_⟩
     .by_cases e:j=i
      .subst e;exact hb
      .exact ht j h1 (by omega)
     .rw[hn];exact Wk.fr (by simp[Ad])
    .simp only[hb,if_true] at sp
     refine Ab.eq sp (by simp) (by simp) ?_
     refine zx ?_
     refine zk ?_;clear hK K
     refine zt ?_
     refine zs ?_
     refine zr ?_
     intro g
     have:=g.2.2.2 i hlt (by omega)
     rw[hb] at this;cases this
   .refine W.exit ?_
    refine zs ?_
    refine zr ?_
    refine⟨h0.1,h0.2,by omega,fun j h1 h2=>ht j (by omega) (by omega)⟩
end Go.Abs
set_option maxRecDepth 100000
namespace Go.Abs
open Go.Proofs
def b8 (b:Bool):AV:= .int .u8 (if b=true then 1 else 0)
def AI (xs:List Bool):List AV:=xs.map b8
section
variable (xs ys:List Bool) (M:List Ae) (k:Nat)
@[simp] theorem XG (i:Nat):(AI xs)[i]?=(xs[i]?).map b8:=by simp[AI]
@[simp] theorem XH:(AI xs).length=xs.length:=by simp[AI]
@[simp] theorem XI:AI []=[]:=rfl
theorem Mn:AI (xs++ys)=AI xs++AI ys:=by simp[AI]
@[simp] theorem Wj:(AI xs).take k=AI (xs.take k):=by simp[AI,List.map_take]
@[simp] theorem Wl:(AI xs).drop k=AI (xs.drop k):=by simp[AI,List.map_drop]
@[simp] theorem YM:Er (AI xs)=true:=by simp[AI,Er,-JF,b8]
@[simp] theorem YN:Es (AI xs)=true:=by simp[AI,Es,-JG,b8]
@[simp] theorem YO:Et (AI xs)=true:=by simp[AI,Et,-JH,b8]
@[simp] theorem YP:Dj k (AI xs)=true:=by induction xs<;>simp_all[AI,b8]
@[simp] theorem XJ:CC (AI xs)=true:=by induction xs<;>simp_all[AI,b8]
@[simp] theorem XK:Ej (AI xs)=AI xs:=by induction xs<;>simp_all[AI,b8]
@[simp] theorem XL:(AI xs).map DO=AI xs:=by simp[AI,b8]
@[simp] theorem XM:(AI xs).map (BZ M k)=AI xs:=by cases k<;>simp[AI,b8]
end
theorem UG (b:CI) (h0:0≤b.n) (h1:b.n≤8*b.data.size) (h3:b.data.size<1000000000):Aa pg 107 [.agg (Cb b)] [] (fun r _=>r= .own 1 (Am b).length (AI (Am b))):=by
 have hl:=BM b
 obtain⟨n,hn⟩:=Int.eq_ofNat_of_zero_le h0
 have hln:(Am b).length=n:=by omega
 refine Aa.start (fn:=Tryz.f107) [.tmp 2] tk rfl rfl rfl (by kernel_rfl) (Nat.le_of_ble_eq_true rfl) rfl (by kernel_rfl) ?_
 rw[As]
 refine z1 ?_;intro K hK;refine zk ?_;clear hK K
 refine zs ?_
 refine zs ?_
 (repeat refine W.seq ?_);refine W.block (W.loopS (fun k:Nat=> [(1,.ptr 0 0 0),(3,.tok 1 k 1 0 k),(4,.int .i64 k)]) (fun k=> [.live 0 (Cb b),.live k (AI ((Am b).take k))]) (fun k=>n-k) (fun k=>k≤n) 0 ((Wk.nil (t:=3) (s:=1) ?_).trans (Wk.fr ?_)) (Nat.zero_le _) ?_)
 .simp
 .simp[Ad]
 .intro k hk
  refine zs ?_
  refine zc ?_ ?_<;>intro h
  .refine W.skip ?_
   have hlt:k<n:=by omega
   have sp:=PM b k (by omega) (by omega)
   have hbk:(Am b)[k]'(by omega)=D7 b.data k:=by simp[Am]
   have hto:(Am b).take (k+1)=(Am b).take k++[D7 b.data k]:=by rw[List.take_add_one,List.getElem?_eq_getElem (by omega),hbk];rfl
   refine zb ?_
   refine z1 ?_;intro K hK
   refine Ab.eq sp (by simp) (by simp) ?_
   refine zx ?_
   have e8:AV.int .u8 (IntKind.u8.wrap (if D7 b.data k=true then 1 else 0))=b8 (D7 b.data k):=by
    cases D7 b.data k<;>rfl
   rw[e8]
   refine⟨by omega,by omega,?_⟩
   refine zk ?_;clear hK K
   refine zs ?_
   refine⟨k+1,by omega,by omega,Wk.cutM (k:=2) (by simp[Ad]) ?_ (by simp) (by simp) (by simp) (by simp)⟩
   rw[hto,Mn]
   rfl
  .refine W.exit ?_
   have hk' :k=n:=by omega
   subst hk'
   have e:(Am b).take k=Am b:=List.take_of_length_le (by omega)
   rw[e]
   refine zs ?_
   refine zr ?_
   rw[e]
   exact⟨hln.symm,rfl⟩
end Go.Abs
set_option maxRecDepth 100000
namespace Go.Abs
open Go.Proofs
theorem Tw (l:List Bool) (p:Nat) (hl:l.length<1000000000000) (hp:p≤l.length):Aa pg 178 [.ro l.length (AI l),.int .i64 p] [] (fun r _=>r= .int .i64 (nb (ahead l p))):=by
 refine Aa.start (fn:=Tryz.f178) [.tmp 4] tk rfl rfl rfl (by kernel_rfl) (Nat.le_of_ble_eq_true rfl) rfl (by kernel_rfl) ?_
 rw[Aq]
 refine zs ?_
 refine zs ?_
 (repeat refine W.seq ?_);refine W.block (W.loopS (fun q:Nat=> [(0,.ro l.length (AI l)),(1,.int .i64 p),(5,.int .i64 q)]) (fun _=> []) (fun q=>l.length-q) (fun q=>p≤q∧q≤l.length∧(l.drop p).take (q-p)=List.replicate (q-p) false) p (Wk.fr (by simp[Ad])) ⟨by omega,by omega,by simp⟩ ?_)
 rintro q ⟨hpq,hq,ht⟩
 refine zs ?_
 refine zc ?_ ?_<;>intro h
 .refine W.skip ?_
  have hlt:q<l.length:=by omega
  have hst:(l[q]=true→ahead l p=some (q-p))∧(l[q]=false→(l.drop p).take (q+1-p)=List.replicate (q+1-p) false):=by
   obtain⟨k,rfl⟩:∃k,q=p+k:=⟨q-p,by omega⟩
   have:=JK hlt (by simpa using ht)
   rw[show p+k+1-p=k+1 by omega,show p+k-p=k by omega]
   exact this
  refine zb ?_
  cases hb:l[q]
  . (repeat refine W.seq ?_);refine W.reg 0 rfl fun K hK=>?_;simp -implicitDefEqProofs (maxSteps:=999999) (disch:=omega) [hlt,hb,b8]
    refine zk ?_;clear hK K
    refine zn ?_
    refine W.skip ?_
    refine zs ?_
    refine⟨q+1,by omega,⟨by omega,by omega,hst.2 hb⟩,Wk.fr (by simp[Ad])⟩
  . (repeat refine W.seq ?_);refine W.reg 0 rfl fun K hK=>?_;simp -implicitDefEqProofs (maxSteps:=999999) (disch:=omega) [hlt,hb,b8]
    refine zk ?_;clear hK K
    refine zt ?_
    refine z0 ?_;intro K hK
    refine zk ?_;clear hK K
    refine zr ?_
    rw[hst.1 hb];simp[nb];omega
 .refine W.exit ?_
  have hq' :q=l.length:=by omega
  refine zs ?_
  refine zr ?_
  rw[KL (k:=q-p) (by omega) ht];rfl
theorem Vy (l:List Bool) (p w:Nat) (hl:l.length<1000000000000) (hw:w≤60) (hp:p+w≤l.length):Aa pg 179 [.ro l.length (AI l),.int .i64 p,.int .i64 w] [] (fun r _=>r= .int .i64 (Bj ((l.drop p).take w))):=by
 refine Aa.start (fn:=Tryz.f179) [.tmp 6] tk rfl rfl rfl (by kernel_rfl) (Nat.le_of_ble_eq_true rfl) rfl (by kernel_rfl) ?_
 rw[Bm]
 refine zs ?_
 refine zs ?_
 refine zs ?_
 (repeat refine W.seq ?_);refine W.block (W.loopS (fun q:Nat=> [(0,.ro l.length (AI l)),(1,.int .i64 p),(2,.int .i64 w),(7,.int .i64 (Bj ((l.drop p).take (q-p)))),(8,.int .i64 q)]) (fun _=> []) (fun q=>p+w-q) (fun q=>p≤q∧q≤p+w) p (Wk.fr (by simp[Ad])) ⟨by omega,by omega⟩ ?_)
 rintro q ⟨hpq,hq⟩
 refine zs ?_
 refine zc ?_ ?_<;>intro h
 .refine W.skip ?_
  have hlt:q<l.length:=by omega
  have hst:Bj ((l.drop p).take (q+1-p))=2*Bj ((l.drop p).take (q-p))+(l[q]).toNat:=by
   obtain⟨k,rfl⟩:∃k,q=p+k:=⟨q-p,by omega⟩
   rw[show p+k+1-p=k+1 by omega,show p+k-p=k by omega]
   exact KN (w:=w) hlt
  have hnl:Bj ((l.drop p).take (q-p))<2^60:=Nat.lt_of_lt_of_le (FJ _) (Nat.pow_le_pow_right (by omega) (by simp;omega))
  refine zb ?_
  generalize Bj ((l.drop p).take (q-p))=v at*
  cases hb:l[q]
  .rw[hb] at hst
   (repeat refine W.seq ?_);refine W.reg 0 rfl fun K hK=>?_;simp -implicitDefEqProofs (maxSteps:=999999) (disch:=omega) [hlt,hb,b8]
   refine zk ?_;clear hK K
   refine zs ?_
   refine⟨q+1,by omega,⟨by omega,by omega⟩,Wk.fr (by rw[hst];simp[Ad])⟩
  .rw[hb] at hst
   (repeat refine W.seq ?_);refine W.reg 0 rfl fun K hK=>?_;simp -implicitDefEqProofs (maxSteps:=999999) (disch:=omega) [hlt,hb,b8]
   refine zk ?_;clear hK K
   refine zs ?_
   refine⟨q+1,by omega,⟨by omega,by omega⟩,Wk.fr (by rw[hst];simp[Ad])⟩
 .refine W.exit ?_
  have hq' :q=p+w:=by omega
  subst hq'
  refine zs ?_
  exact zR
end Go.Abs
set_option maxRecDepth 100000
namespace Go.Abs
open Go.Proofs
theorem Rt (n:Int) (h0:0≤n) (h1:n≤4611686018427387904):Aa pg 182 [.int .i64 n] [] (fun r _=>r= .int .i64 (B5 n)):=by
 refine Aa.start (fn:=Tryz.f182) [.tmp 2] tk rfl rfl rfl (by kernel_rfl) (Nat.le_of_ble_eq_true rfl) rfl (by kernel_rfl) ?_
 rw[As]
 refine zs ?_
 refine zs ?_
 refine zc ?_ ?_<;>intro h
 .refine z0 ?_;intro K hK
  refine zk ?_;clear hK K
  refine zr ?_
  rw[B5,if_neg (by omega)]
 .refine W.skip ?_
  have e:(-(n+1)).tdiv 2=-((n+1)/2):=by rw[Int.neg_tdiv,Int.tdiv_eq_ediv_of_nonneg (by omega)]
  refine Af e ?_;intro K hK
  refine zk ?_;clear hK K
  refine zr ?_
  rw[B5,if_pos (by omega)]
theorem Mo (n:Int):Aa pg 127 [.int .i64 n] [] (fun r _=>r= .bool (decide (0≤n∧n≤15))):=by
 refine Aa.start (fn:=Tryz.f127) [.tmp 2] tk rfl rfl rfl (by kernel_rfl) (Nat.le_of_ble_eq_true rfl) rfl (by kernel_rfl) ?_
 rw[As]
 refine zs ?_
 refine z0 ?_;intro K hK
 refine Ab.eq (Hw n 15) (by simp) (by simp) ?_
 refine zx ?_
 refine zk ?_;clear hK K
 exact zR
theorem Jb (k:Int):Aa pg 149 [.int .i64 k] [] (fun r _=>r= .bool (BI k)):=by
 refine Aa.start (fn:=Tryz.f149) [.tmp 2] tk rfl rfl rfl (by kernel_rfl) (Nat.le_of_ble_eq_true rfl) rfl (by kernel_rfl) ?_
 rw[As]
 refine zs ?_
 by_cases h1:k=1
 .refine Af h1 ?_;intro K hK
  refine zk ?_;clear hK K
  refine zr ?_
  simp[BI,h1]
 .by_cases h2:k=2
  .refine Af (an h1 h2) ?_;intro K hK
   refine zk ?_;clear hK K
   refine zr ?_
   simp[BI,h2]
  .refine Af (an h1 h2) ?_;intro K hK
   refine zk ?_;clear hK K
   refine zr ?_
   simp[BI,h1,h2]
theorem Nw (s:AS) (hs:Be s):Aa pg 20 [.agg (AC false s)] [] (fun r _=>r= .int .i64 (B1 s.vers)):=by
 have h1:=hs.1
 refine Aa.start (fn:=Tryz.f20) [.tmp 2] tk rfl rfl rfl (by kernel_rfl) (Nat.le_of_ble_eq_true rfl) rfl (by kernel_rfl) ?_
 rw[As]
 refine z1 ?_;intro K hK;refine zk ?_;clear hK K
 refine zs ?_
 refine zc ?_ ?_<;>intro h
 .refine zs ?_
  refine zr ?_
  simp[B1,h]
 .refine W.skip ?_
  have hp:0<s.vers.length:=List.length_pos_iff.2 h
  have hlt:s.vers.length-1<s.vers.length:=by omega
  (repeat refine W.seq ?_);refine W.reg 0 rfl fun K hK=>?_;simp -implicitDefEqProofs (maxSteps:=999999) (disch:=omega) [hlt]
  refine⟨by omega,?_⟩
  refine zk ?_;clear hK K
  refine zr ?_
  rw[B1,List.getLast?_eq_getElem?,List.getElem?_eq_getElem hlt]
theorem Tx (b:CI) (hb:b.data.size<1000000000):Aa pg 21 [.agg (Cb b)] [] (fun r _=>r= .int .i64 (I6 b)):=by
 refine Aa.start (fn:=Tryz.f21) [.tmp 2] tk rfl rfl rfl (by kernel_rfl) (Nat.le_of_ble_eq_true rfl) rfl (by kernel_rfl) ?_
 rw[As]
 refine z1 ?_;intro K hK;refine zk ?_;clear hK K
 refine z0 ?_;intro K hK
 refine zk ?_;clear hK K
 refine zr ?_
 unfold I6
 congr 1
 omega
end Go.Abs
set_option maxRecDepth 100000
namespace Go.Abs
open Go.Proofs
theorem Ko (g:Gr) (j:BQ) (hl:j.list.length<1000000000000):Aa pg 112 [.agg (AO false g),.agg (BA false j)] [] (fun r _=>r= .bool (Bn g j)):=by
 refine Aa.start (fn:=Tryz.f112) [.tmp 4] tk rfl rfl rfl (by kernel_rfl) (Nat.le_of_ble_eq_true rfl) rfl (by kernel_rfl) ?_
 rw[Aq]
 refine z2 ?_;intro K hK;refine zk ?_;clear hK K
 refine zs ?_
 refine zb ?_
 refine zs ?_
 refine zc ?_ ?_<;>intro h
 .refine zs ?_
  refine zr ?_
  simp[Bn,h]
 .have h1:=h;clear h
  refine zs ?_
  refine zc ?_ ?_<;>intro h
  .refine zs ?_
   refine zr ?_
   simp[Bn,h]
  .refine W.skip ?_
   refine zs ?_
   refine zr ?_
   simp[Bn, *]
theorem UH (s:AS) (id:Int) (hs:Be s):Aa pg 36 [.agg (AC false s),.int .i64 id] [] (fun r _=>r= .int .i64 (BX (fun v=>decide (v.id=id)) s.vers)):=by
 have h1:=hs.1
 refine Aa.start (fn:=Tryz.f36) [.tmp 4] tk rfl rfl rfl (by kernel_rfl) (Nat.le_of_ble_eq_true rfl) rfl (by kernel_rfl) ?_
 rw[Aq]
 refine z1 ?_;intro K hK;refine zk ?_;clear hK K
 refine zs ?_
 (repeat refine W.seq ?_);refine W.block (W.loopS (fun k:Nat=> [(1,.int .i64 id),(2,.ptr 0 0 0),(5,.int .i64 k)]) (fun _=> [.live 0 (AC false s)]) (fun k=>s.vers.length-k) (fun k=>k≤s.vers.length∧∀i (h:i<s.vers.length),i<k→s.vers[i].id≠id) 0 (Wk.fr (by simp[Ad])) (by simp) ?_)
 rintro k ⟨hk,ht⟩
 refine zs ?_
 refine zc ?_ ?_<;>intro h
 .refine W.skip ?_
  have hlt:k<s.vers.length:=by omega
  refine zb ?_
  (repeat refine W.seq ?_);refine W.reg 0 rfl fun K hK=>?_;simp -implicitDefEqProofs (maxSteps:=999999) (disch:=omega) [hlt]
  refine zk ?_;clear hK K
  refine zc ?_ ?_<;>intro h
  .refine zs ?_
   refine zr ?_
   exact(Ea hlt (by simp[h]) fun i hi hik=>by simpa using ht i hi hik).symm
  .refine W.skip ?_
   refine zs ?_
   refine⟨k+1,by omega,⟨by omega,?_⟩,Wk.fr (by simp[Ad])⟩
   intro i hi hik
   by_cases e:i=k
   .subst e;exact fun e=>h e
   .exact ht i hi (by omega)
 .refine W.exit ?_
  refine zs ?_
  refine zr ?_
  exact(DC fun i hi=>by simpa using ht i hi (by omega)).symm
end Go.Abs
set_option maxRecDepth 100000
namespace Go.Abs
open Go.Proofs
theorem Fv (l:List Int) (hl:l.length<1000000000000):Aa pg 87 [.ro l.length (Ac l)] [] (fun r _=>r= .bool (decide (AG l))):=by
 refine Aa.start (fn:=Tryz.f87) [.tmp 2] tk rfl rfl rfl (by kernel_rfl) (Nat.le_of_ble_eq_true rfl) rfl (by kernel_rfl) ?_
 rw[As]
 refine zs ?_
 refine zs ?_
 (repeat refine W.seq ?_);refine W.block (W.loopS (fun k:Nat=> [(0,.ro l.length (Ac l)),(3,.int .i64 k)]) (fun _=> []) (fun k=>l.length-k) (fun k=>k≤l.length∧AG (l.take k)) 0 (Wk.fr (by simp[Ad])) (by simp[AG]) ?_)
 rintro k ⟨hk,hm⟩
 have hk16:k≤16:=by have:=BK hm;simp at this;omega
 by_cases hlt:k<l.length
 .have hs:=L8 hlt hm
  have bad:¬AG (l.take (k+1))→¬AG l:=fun g w=>g (L7 (k+1) w)
  refine Af (an hlt hk16) ?_;intro K hK
  refine zk ?_;clear hK K
  refine zt ?_
  refine W.skip ?_
  have sp:=Mo l[k]
  refine zb ?_
  by_cases c1:0≤l[k]∧l[k]≤15
  rotate_left
  .rw[decide_eq_false c1] at sp
   (repeat refine W.seq ?_);refine W.regd 0 rfl true Cc (by kernel_rfl) fun K hK=>?_;simp -implicitDefEqProofs (maxSteps:=999999) (disch:=omega) [hlt]
   refine Ah.eq sp (by simp) (by simp) ?_
   refine AJ hlt ?_
   refine zk ?_;clear hK K
   refine zt ?_
   refine zs ?_
   refine zr ?_
   exact bad fun g=>c1 (by have:=(hs.1 g).1;omega)
  .rw[decide_eq_true c1] at sp
   by_cases c2:0<k
   .by_cases c3:l[k]≤l[k-1]
    . (repeat refine W.seq ?_);refine W.regd 0 rfl true Cc (by kernel_rfl) fun K hK=>?_;simp -implicitDefEqProofs (maxSteps:=999999) (disch:=omega) [hlt]
      refine Ah.eq sp (by simp) (by simp) ?_
      refine AJ (an hlt (an c2 c3)) ?_
      refine⟨by omega,?_⟩
      refine zk ?_;clear hK K
      refine zt ?_
      refine zs ?_
      refine zr ?_
      exact bad fun g=>by have:=(hs.1 g).2 c2;omega
    . (repeat refine W.seq ?_);refine W.regd 0 rfl true Cc (by kernel_rfl) fun K hK=>?_;simp -implicitDefEqProofs (maxSteps:=999999) (disch:=omega) [hlt]
      refine Ah.eq sp (by simp) (by simp) ?_
      refine AJ (an hlt (an c2 c3)) ?_
      refine⟨by omega,?_⟩
      refine zk ?_;clear hK K
      refine zn ?_
      refine W.skip ?_
      refine zs ?_
      exact⟨k+1,by omega,⟨by omega,hs.2 ⟨by omega,fun _=>by omega⟩⟩,Wk.fr (by simp[Ad])⟩
   . (repeat refine W.seq ?_);refine W.regd 0 rfl true Cc (by kernel_rfl) fun K hK=>?_;simp -implicitDefEqProofs (maxSteps:=999999) (disch:=omega) [hlt]
     refine Ah.eq sp (by simp) (by simp) ?_
     refine AJ (an hlt c2) ?_
     refine zk ?_;clear hK K
     refine zn ?_
     refine W.skip ?_
     refine zs ?_
     exact⟨k+1,by omega,⟨by omega,hs.2 ⟨by omega,fun h=>absurd h c2⟩⟩,Wk.fr (by simp[Ad])⟩
 .have hk' :k=l.length:=by omega
  subst hk'
  rw[List.take_length] at hm
  refine z0 ?_;intro K hK
  refine zk ?_;clear hK K
  refine zn ?_
  refine W.exit ?_
  refine zs ?_
  refine zr ?_
  have:=BK hm
  simp[hm]
  try omega
end Go.Abs
set_option maxRecDepth 100000
namespace Go.Abs
open Go.Proofs
theorem Ru (n:Int) (h:-1000000≤n∧n≤1000000):Aa pg 205 [.int .i64 n] [] (fun r _=>r= .int .i64 (DV n)):=by
 refine Aa.start (fn:=Tryz.f205) [.tmp 2] tk rfl rfl rfl (by kernel_rfl) (Nat.le_of_ble_eq_true rfl) rfl (by kernel_rfl) ?_
 rw[As]
 refine zs ?_
 refine zs ?_
 refine zc ?_ ?_<;>intro h
 .refine z0 ?_;intro K hK
  refine zk ?_;clear hK K
  refine zr ?_
  simp[DV];omega
 .refine W.skip ?_
  refine z0 ?_;intro K hK
  refine zk ?_;clear hK K
  refine zr ?_
  simp[DV];omega
theorem Q8 (a b:Nat):(a:Int).fdiv (b:Int)=((a/b:Nat):Int):=by rw[Int.fdiv_eq_ediv_of_nonneg _ (by omega)];rfl
theorem Vz (n:Nat) (h:1≤n) (h2:n<1099511627776):Aa pg 180 [.int .i64 n] [] (fun r _=>r= .int .i64 (Nat.log2 n)):=by
 have hlg:=(Nat.log2_lt (n:=n) (k:=40) (by omega)).2 (by omega)
 refine Aa.start (fn:=Tryz.f180) [.tmp 2] tk rfl rfl rfl (by kernel_rfl) (Nat.le_of_ble_eq_true rfl) rfl (by kernel_rfl) ?_
 rw[As]
 refine zs ?_
 refine zs ?_
 (repeat refine W.seq ?_);refine W.block (W.loopS (fun z:Nat×Nat=> [(0,.int .i64 (z.1:Nat)),(3,.int .i64 (z.2:Nat))]) (fun _=> []) (fun z=>z.1) (fun z=>z.1=n/2^z.2∧1≤z.1∧z.2≤Nat.log2 n) (n,0) (Wk.fr (by simp[Ad])) ⟨by simp,h,by simp⟩ ?_)
 rintro⟨q,k⟩ ⟨hq,hq1,hk⟩
 simp only at hq hq1 hk
 have hp:0<2^k:=Nat.pow_pos (by omega)
 have hdm:=Nat.div_add_mod n (2^k)
 have hml:=Nat.mod_lt n hp
 rw[←hq] at hdm
 refine zs ?_
 refine zc ?_ ?_<;>intro h
 .refine W.skip ?_
  have hf:(q:Int).fdiv 2=((q/2:Nat):Int):=Q8 q 2
  have hk1:k+1≤Nat.log2 n:=by
   refine(Nat.le_log2 (by omega)).2 ?_
   rw[Nat.pow_succ]
   have:2^k*2≤2^k*q:=Nat.mul_le_mul_left _ (by omega)
   omega
  refine zb ?_
  refine Af hf ?_;intro K hK
  refine zk ?_;clear hK K
  refine zs ?_
  exact⟨(q/2,k+1),by simp only;omega,⟨by simp only;rw[hq,Nat.div_div_eq_div_mul,Nat.pow_succ],by simp only;omega,hk1⟩,Wk.fr (by simp[Ad])⟩
 .refine W.exit ?_
  have:q=1:=by omega
  subst this
  refine zs ?_
  refine zr ?_
  rw[KJ (q:=k) (by omega) (by rw[Nat.pow_succ];omega)]
theorem Rv (xs:List Bool) (u v w:Nat) (hx:xs.length<1000000000) (hw:w≤60) (hv:v<1099511627776):Aa pg 203 [.tok 0 u 1 0 xs.length,.int .i64 v,.int .i64 w] [.live u (AI xs)] (fun r M=>r= .own 1 (xs.length+w) (AI (xs++Bq v w))∧M=[.dead]):=by
 refine Aa.start (fn:=Tryz.f203) [.tmp 6] tk rfl rfl rfl (by kernel_rfl) (Nat.le_of_ble_eq_true rfl) rfl (by kernel_rfl) ?_
 rw[Bm]
 refine zs ?_
 refine zs ?_
 rw[show AI xs=AI (xs++(Bq v w).take 0) by simp]
 (repeat refine W.seq ?_);refine W.block (W.loopS (fun k:Nat=> [(0,.tok 0 (u+k) 1 0 (xs.length+k)),(1,.int .i64 v),(7,.int .i64 ((w:Int)-1-k))]) (fun k=> [.live (u+k) (AI (xs++(Bq v w).take k))]) (fun k=>w-k) (fun k=>k≤w) 0 (Wk.fr (by simp[Ad])) (by simp) ?_)
 intro k hk
 by_cases hlt:k<w
 .obtain⟨i,hi⟩:∃i:Nat,(w:Int)-1-k=i:=⟨w-1-k,by omega⟩
  have hmin:min i 64=i:=by omega
  rw[hi]
  refine zs ?_
  refine zt ?_
  refine W.skip ?_
  refine zb ?_
  obtain⟨Q,hQd⟩:∃Q,Q=v/2^i:=⟨_,rfl⟩
  have hQ:(v:Int)/2^i=(Q:Int):=by rw[hQd,Int.natCast_ediv,Int.natCast_pow];rfl
  have hQv:Q≤v:=by rw[hQd];exact Nat.div_le_self _ _
  have hand:=I8 (Q:Int) (by omega) (by omega)
  have hw8:IntKind.u8.wrap ((Q:Int)%2)=(if Q%2=1 then 1 else 0):=by
   by_cases h:Q%2=1
   .have:(Q:Int)%2=1:=by omega
    rw[this,if_pos h];rfl
   .have:(Q:Int)%2=0:=by omega
    rw[this,if_neg h];rfl
  have hto:(Bq v w).take (k+1)=(Bq v w).take k++[decide (Q%2=1)]:=by
   rw[List.take_add_one,List.getElem?_eq_getElem (by simpa using hlt)]
   have:(Bq v w)[k]'(by simpa using hlt)=decide (Q%2=1):=by
    simp only[Bq,List.getElem_map,List.getElem_range]
    rw[hQd,show w-1-k=i by omega]
   rw[this];rfl
  refine Pw (an hmin (an hQ (an hand hw8))) ?_;intro K hK
  refine⟨by omega,by omega,?_⟩
  refine zk ?_;clear hK K
  refine zs ?_
  refine⟨k+1,by omega,by omega,Wk.cutM (k:=1) ?_ ?_ (by simp) (by simp) (by simp) (by simp)⟩
  .simp[Ad]
   omega
  .rw[hto,←List.append_assoc,Mn]
   simp[AI,b8];omega
 .have hk' :k=w:=by omega
  subst hk'
  have e:((k:Int)-1-k)=-1:=by omega
  rw[e]
  refine zs ?_
  refine zn ?_
  refine W.exit ?_
  refine zs ?_
  refine zr ?_
  rw[List.take_of_length_le (by simp),List.take_of_length_le (by simp)]
end Go.Abs
set_option maxRecDepth 100000
namespace Go.Abs
open Go.Proofs
theorem EK (xs:List Bool) (u n:Nat) (hx:xs.length<100000000) (h1:1≤n) (h2:n<1099511627776):Aa pg 166 [.tok 0 u 1 0 xs.length,.int .i64 2,.int .i64 n] [.live u (AI xs)] (fun r M=>r= .own 1 (xs.length+(A7 n).length) (AI (xs++A7 n))∧M=[.dead]):=by
 have hlg:=(Nat.log2_lt (n:=n) (k:=40) (by omega)).2 (by omega)
 have hgl:=Gn n
 obtain⟨q,hq⟩:∃q,q=Nat.log2 n:=⟨_,rfl⟩
 have spl:=Vz n h1 h2
 rw[←hq] at spl hlg hgl
 refine Aa.start (fn:=Tryz.f166) [.tmp 6] tk rfl rfl rfl (by kernel_rfl) (Nat.le_of_ble_eq_true rfl) rfl (by kernel_rfl) ?_
 rw[Bm]
 refine zs ?_
 refine zs ?_
 refine zb ?_
 refine zs ?_
 refine zn ?_
 refine zs ?_
 refine zt ?_
 refine z0 ?_;intro K hK
 refine Ab.eq spl (by simp) (by simp) ?_
 refine zx ?_
 refine Ab.pass [0] (Rv xs u 0 q (by omega) (by omega) (by omega)) (by simp) (by simp) (by simp) (by simp) ?_
 rintro r M ⟨rfl,rfl⟩ _
 refine zx ?_
 refine Ab.eq spl (by simp) (by simp) ?_
 refine zx ?_
 have sp2:=Rv (xs++Bq 0 q) 0 n (q+1) (by simp;omega) (by omega) (by omega)
 refine Ab.pass [1] sp2 (by simp) (by simp) (by simp) (by simp) ?_
 rintro r M ⟨rfl,rfl⟩ _
 refine zx ?_
 refine zk ?_;clear hK K
 refine zr ?_
 have hgb:A7 n=Bq 0 q++Bq n (q+1):=by rw[A7,hq]
 exact⟨by omega,by rw[List.take_of_length_le (by simp;omega),hgb]⟩
theorem UI (n:Int):Aa pg 181 [.int .i64 2,.int .i64 n] [] (fun r _=>r= .bool (decide (1≤n∧n≤1073741824))):=by
 refine Aa.start (fn:=Tryz.f181) [.tmp 4] tk rfl rfl rfl (by kernel_rfl) (Nat.le_of_ble_eq_true rfl) rfl (by kernel_rfl) ?_
 rw[Aq]
 refine zs ?_
 refine zs ?_
 refine zn ?_
 refine W.skip ?_
 refine z0 ?_;intro K hK
 refine Ab.eq (Ed 2 2 5) (by simp) (by simp) ?_
 rw[decide_eq_true (by omega)]
 refine zx ?_
 refine Ab.eq (Ed n 1 1073741824) (by simp) (by simp) ?_
 refine zx ?_
 refine zk ?_;clear hK K
 exact zR
def EL (o:Option (Nat×Nat)):AV:=match o with|some x=> .tup [.int .i64 x.1,.int .i64 x.2] |none=> .tup [.int .i64 (-1),.int .i64 0]
theorem Eh (l:List Bool) (p:Nat) (hl:l.length<1000000000) (hp:p≤l.length):Aa pg 143 [.ro l.length (AI l),.int .i64 p,.int .i64 2] [] (fun r _=>r=EL (AF l p)):=by
 have spz:=Tw l p (by omega) hp
 refine Aa.start (fn:=Tryz.f143) [.tmp 6,.tmp 7] tk rfl rfl rfl (by kernel_rfl) (Nat.le_of_ble_eq_true rfl) rfl (by kernel_rfl) ?_
 rw[Bm]
 refine zs ?_
 refine z0 ?_;intro K hK
 refine Ab.eq spz (by simp) (by simp) ?_
 cases ha:ahead l p with
 |none=>
  have hg:AF l p=none:=by unfold AF;rw[ha]
  simp only[D6];simp -implicitDefEqProofs (maxSteps:=999999) (disch:=omega) [nb]
  refine zk ?_;clear hK K
  refine zs ?_
  refine zt ?_
  refine zs ?_
  refine zr ?_
  rw[hg];rfl
 |some q=>
  have hql:p+q<l.length:=by
   have:=List.findIdx?_eq_some_iff_findIdx_eq.1 ha
   simp at this;omega
  simp only[D6];simp -implicitDefEqProofs (maxSteps:=999999) (disch:=omega) [nb]
  refine zk ?_;clear hK K
  refine zs ?_
  refine zn ?_
  refine W.skip ?_
  refine z0 ?_;intro K hK
  refine zk ?_;clear hK K
  refine zs ?_
  refine zb ?_
  refine zs ?_
  refine zn ?_
  refine zs ?_
  refine zt ?_
  by_cases c:q≤30∧p+2*q+1≤l.length
  rotate_left
  .have hg:AF l p=none:=by unfold AF;rw[ha];simp only;rw[if_neg c]
   by_cases c1:q≤30
   .have c2:¬p+2*q+1≤l.length:=fun h=>c ⟨c1,h⟩
    have c3:(l.length:Int)<(p:Int)+2*q+1:=by omega
    have c4:¬(30:Int)<(q:Int):=by omega
    refine Af (an c3 c4) ?_;intro K hK
    refine zk ?_;clear hK K
    refine zt ?_
    refine zs ?_
    refine zr ?_
    rw[hg];rfl
   .have c4:(30:Int)<(q:Int):=by omega
    refine Af c4 ?_;intro K hK
    refine zk ?_;clear hK K
    refine zt ?_
    refine zs ?_
    refine zr ?_
    rw[hg];rfl
  have c4:¬(30:Int)<(q:Int):=by omega
  have c3:¬(l.length:Int)<(p:Int)+2*q+1:=by omega
  refine Af (an c3 c4) ?_;intro K hK
  refine zk ?_;clear hK K
  refine zn ?_
  refine W.skip ?_
  have spg:=Vy l (p+q) (q+1) (by omega) (by omega) (by omega)
  have hgr:AF l p=if Bj ((l.drop (p+q)).take (q+1))≤1073741824 then some (Bj ((l.drop (p+q)).take (q+1)),p+2*q+1) else none:=by
   unfold AF;rw[ha];simp only;rw[if_pos c]
  have hpos:1≤Bj ((l.drop (p+q)).take (q+1)):=by
   obtain⟨r,hr⟩:=Gp ha
   have e1:(l.drop (p+q)).take (q+1)=true::r.take q:=by
    rw[←List.drop_drop,hr,List.drop_append];simp
   rw[e1,EH]
   have:0<2^(r.take q).length:=Nat.pow_pos (by omega)
   simp only[Bool.toNat_true,Nat.one_mul];omega
  generalize Bj ((l.drop (p+q)).take (q+1))=v at*
  refine z0 ?_;intro K hK
  refine Ab.eq spg (by simp) (by simp) ?_
  refine zx ?_
  refine zk ?_;clear hK K
  refine z0 ?_;intro K hK
  refine Ab.eq (UI v) (by simp) (by simp) ?_
  by_cases cv:v≤1073741824
  .rw[decide_eq_true (by omega)]
   refine zx ?_
   refine zk ?_;clear hK K
   refine zn ?_
   refine W.skip ?_
   refine zs ?_
   refine zr ?_
   rw[hgr,if_pos cv]
   simp[EL]
  .rw[decide_eq_false (by omega)]
   refine zx ?_
   refine zk ?_;clear hK K
   refine zt ?_
   refine zs ?_
   refine zr ?_
   rw[hgr,if_neg cv];rfl
end Go.Abs
namespace Go.Abs
theorem K0 {bs:List Bool}:∀(k:Nat) (f:Bool) (p:Nat) (last:Int) (r:List Int×Nat),CJ bs k f p last=some r→r.1.Pairwise (·<·)∧(f=false→∀x∈r.1,last<x)
 |0,f,p,last,r,h=>by simp[CJ] at h;subst h;simp
 |k+1,f,p,last,r,h=>by
  simp only[CJ] at h
  split at h
  .simp at h
  .rename_i x hx
   obtain⟨h1,h2,h3,h4,_⟩:=AH hx
   split at h
   .rename_i q hq
    simp at h;subst h
    obtain⟨g1,g2⟩:=K0 k false x.2 _ q hq
    refine⟨?_,?_⟩
    .simp only[List.pairwise_cons];exact⟨fun z hz=>g2 rfl z hz,g1⟩
    .intro hf z hz
     subst hf
     have g3:=g2 rfl
     simp only[Bool.false_eq_true,if_false] at g3 hz
     simp only[List.mem_cons] at hz
     rcases hz with rfl|hz
     .omega
     .have:=g3 z hz;omega
   .simp at h
theorem IN {bs:List Bool}:∀(k:Nat) (f:Bool) (p:Nat) (last:Int),BW bs k f p last=match CJ bs k f p last with|some r=>if∀x∈r.1,0≤x∧x<16 then some r else none|none=>none
 |0,f,p,last=>by simp[BW,CJ]
 |k+1,f,p,last=>by
  simp only[BW,CJ]
  cases hx:AF bs p with
  |none=>rfl
  |some x=>
   simp only
   generalize (last+(if f=true then B5 ((x.1:Int)-1) else(x.1:Int)))=y
   rw[IN k false x.2 y]
   cases CJ bs k false x.2 y with
   |none=>simp
   |some r=>
    simp only[List.mem_cons,forall_eq_or_imp]
    by_cases h1:0≤y∧y<16
    .by_cases h2:∀x∈r.1,0≤x∧x<16
     .rw[if_pos h1,if_pos h2,if_pos ⟨h1,h2⟩]
     .rw[if_pos h1,if_neg h2,if_neg (fun g=>h2 g.2)]
    .rw[if_neg h1,if_neg (fun g=>h1 g.1)]
theorem Ev (bs:List Bool) (p:Nat) (v:Int):Ds bs p v=Dl bs p v:=by
 unfold Ds Dl
 cases hx:AF bs p with
 |none=>rfl
 |some x=>
  simp only
  split
  .rw[IN]
   cases hq:CJ bs (x.1-1) true x.2 v with
   |none=>rfl
   |some r=>
    simp only
    have:=(K0 _ _ _ _ _ hq).1
    by_cases h2:∀x∈r.1,0≤x∧x<16
    .rw[if_pos h2,if_pos ⟨h2,this⟩]
    .rw[if_neg h2,if_neg (fun g=>h2 g.1)]
  .rfl
theorem Nx (l:List Bool) (p:Nat):Fz l p p=[]:=by simp[Fz]
theorem Mp {f:Bool} {last v:Int} {n:Nat} (h:1≤n) (hv:f=true→last=v):(if f=true then DV (last+(if f=true then B5 ((n:Int)-1) else(n:Int))-v)+1 else last+(if f=true then B5 ((n:Int)-1) else(n:Int))-last).toNat=n:=by
 cases f
 .simp;omega
 .have:=hv rfl;subst this
  simp only[if_true]
  have:last+B5 ((n:Int)-1)-last=B5 ((n:Int)-1):=by omega
  rw[this,Ta _ (by omega)];omega
theorem JU {bs:List Bool} (v:Int):∀(k:Nat) (f:Bool) (p:Nat) (last:Int) (r:List Int×Nat),(f=true→last=v)→p≤bs.length→BW bs k f p last=some r→p≤r.2∧r.2≤bs.length∧Fz bs p r.2=CX v r.1 f last
 |0,f,p,last,r,hv,hp,h=>by simp[BW] at h;subst h;simp[CX,Nx,hp]
 |k+1,f,p,last,r,hv,hp,h=>by
  simp only[BW] at h
  split at h
  .simp at h
  .rename_i x hx
   obtain⟨h1,h2,h3,h4,h5⟩:=AH hx
   have hc:=Mp h1 hv
   generalize (last+(if f=true then B5 ((x.1:Int)-1) else(x.1:Int)))=y at h hc
   split at h
   .split at h
    .rename_i q hq
     simp at h;subst h
     obtain⟨g1,g2,g3⟩:=JU v k false x.2 _ q (by simp) h4 hq
     refine⟨by simp only;omega,g2,?_⟩
     simp only[CX]
     rw[hc,←h5,←g3,FK (by omega) g1]
    .simp at h
   .simp at h
theorem Ty (v:Int) (l:List Int) (e e' :Int):CX v l true e=CX v l true e' :=by cases l<;>simp[CX]
theorem Tz (v:Int) (l:List (Int×Int)) (e e' :Int):CP v l true e=CP v l true e' :=by cases l<;>simp[CP]
theorem PN {bs:List Bool} {p:Nat} {v:Int} {r:List Int×Nat} (h:Dl bs p v=some r):p≤r.2∧r.2≤bs.length∧Fz bs p r.2=DJ v r.1:=by
 unfold Dl at h
 split at h
 .simp at h
 .rename_i x hx
  obtain⟨h1,h2,h3,h4,h5⟩:=AH hx
  split at h
  .obtain⟨g1,g2,g3⟩:=JU v _ _ _ _ _ (fun _=>rfl) h4 h
   have h6:=(Gs _ _ _ _ _ h4 h).1
   refine⟨by omega,g2,?_⟩
   rw[DJ,h6,show x.1-1+1=x.1 by omega,←h5,Ty v r.1 0 v,←g3,FK (by omega) g1]
  .simp at h
theorem JV {bs:List Bool} (v:Int):∀(k:Nat) (f:Bool) (p:Nat) (e:Int) (r:List (Int×Int)×Nat),(f=true→e=v)→p≤bs.length→Ci bs k f p e=some r→r.1.length=k∧p≤r.2∧r.2≤bs.length∧Fz bs p r.2=CP v r.1 f e
 |0,f,p,e,r,hv,hp,h=>by simp[Ci] at h;subst h;simp[CP,Nx,hp]
 |k+1,f,p,e,r,hv,hp,h=>by
  simp only[Ci] at h
  split at h
  .simp at h
  .rename_i x hx
   obtain⟨h1,h2,h3,h4,h5⟩:=AH hx
   have hc:=Mp h1 hv
   generalize (e+(if f=true then B5 ((x.1:Int)-1) else(x.1:Int)))=a at h hc
   split at h
   .simp at h
   .rename_i y hy
    obtain⟨i1,i2,i3,i4,i5⟩:=AH hy
    split at h
    .rename_i q hq
     simp at h;subst h
     obtain⟨g0,g1,g2,g3⟩:=JV v k false y.2 _ q (by simp) i4 hq
     refine⟨by simp[g0],by simp only;omega,g2,?_⟩
     simp only[CP]
     rw[hc,show((y.1:Int)-1+3-3+1).toNat=y.1 by omega,←h5,←i5,←g3,FK (by omega) (by omega),FK (by omega) g1]
    .simp at h
def Mq:List Int→Bool→Int→Prop
 | [],_,_=>True
 |x::l,f,e=>(f=true∨e<x)∧Mq l false x
def GE:List (Int×Int)→Bool→Int→Prop
 | [],_,_=>True
 | (a,n)::l,f,e=>(f=true∨e<a)∧3≤n∧GE l false (a+n)
theorem Mr {f:Bool} {v e a b:Int} {s t:List Bool} (ha:f=true∨e<a) (hb:f=true∨e<b) (h:A7 (if f=true then DV (a-v)+1 else a-e).toNat++s=A7 (if f=true then DV (b-v)+1 else b-e).toNat++t):a=b∧s=t:=by
 cases f
 .simp only[Bool.false_eq_true,if_false,false_or] at*
  obtain⟨h1,h2⟩:=Fs (by omega) (by omega) h
  exact⟨by omega,h2⟩
 .simp only[if_true] at*
  have z1:=FG (a-v)
  have z2:=FG (b-v)
  obtain⟨h1,h2⟩:=Fs (by omega) (by omega) h
  have:=Tb (a:=a-v) (b:=b-v) (by omega)
  exact⟨by omega,h2⟩
theorem K3 (v:Int):∀(l m:List Int) (f:Bool) (e:Int) (s t:List Bool),l.length=m.length→Mq l f e→Mq m f e→CX v l f e++s=CX v m f e++t→l=m∧s=t
 | [],[],f,e,s,t,_,_,_,h=>by simpa[CX] using h
 | [],_::_,f,e,s,t,hl,_,_,h=>by simp at hl
 |_::_,[],f,e,s,t,hl,_,_,h=>by simp at hl
 |x::l,y::m,f,e,s,t,hl,h1,h2,h=>by
  simp only[CX,List.append_assoc,Mq] at*
  obtain⟨rfl,h3⟩:=Mr h1.1 h2.1 h
  obtain⟨rfl,h4⟩:=K3 v l m false x s t (by simpa using hl) h1.2 h2.2 h3
  exact⟨rfl,h4⟩
theorem K4 (v:Int):∀(l m:List (Int×Int)) (f:Bool) (e:Int) (s t:List Bool),l.length=m.length→GE l f e→GE m f e→CP v l f e++s=CP v m f e++t→l=m∧s=t
 | [],[],f,e,s,t,_,_,_,h=>by simpa[CP] using h
 | [],_::_,f,e,s,t,hl,_,_,h=>by simp at hl
 |_::_,[],f,e,s,t,hl,_,_,h=>by simp at hl
 | (x,n)::l,(y,k)::m,f,e,s,t,hl,h1,h2,h=>by
   simp only[CP,List.append_assoc,GE] at*
   obtain⟨rfl,h3⟩:=Mr h1.1 h2.1 h
   obtain⟨h5,h3⟩:=Fs (by omega) (by omega) h3
   have:n=k:=by omega
   subst this
   obtain⟨rfl,h4⟩:=K4 v l m false (x+n) s t (by simpa using hl) h1.2.2 h2.2.2 h3
   exact⟨rfl,h4⟩
theorem Kp:∀(l:List Int) (f:Bool) (e:Int),l.Pairwise (·<·)→(f=true∨∀x∈l,e<x)→Mq l f e
 | [],_,_,_,_=>trivial
 |x::l,f,e,h,he=>by
  rw[List.pairwise_cons] at h
  exact⟨he.imp id fun g=>g x (by simp),Kp l false x h.2 (.inr h.1)⟩
theorem IP:∀(l:List Int) (x:Int),(x::l).Pairwise (·<·)→∀y∈(x::l).drop (A5 (x::l)),x+(A5 (x::l):Nat)<y
 | [],x,_,y,hy=>by simp[A5] at hy
 |z::t,x,h,y,hy=>by
  rw[List.pairwise_cons] at h
  have hz:=h.1 z (by simp)
  simp only[A5] at hy ⊢
  split at hy
  .rename_i e
   subst e
   simp only[List.drop_succ_cons] at hy
   have:=IP t (x+1) h.2 y hy
   simp only[if_true]
   omega
  .rename_i e
   rw[if_neg e]
   simp only[List.drop_succ_cons,List.drop_zero] at hy
   have h2:=h.2
   rw[List.pairwise_cons] at h2
   simp only[List.mem_cons] at hy
   rcases hy with rfl|hy
   .omega
   .have:=h2.1 y hy;omega
theorem Gv:∀(n:Nat) (l:List Int) (f:Bool) (e:Int),l.length≤n→l.Pairwise (·<·)→(f=true∨∀x∈l,e<x)→GE (Ao l).1 f e∧3*(Ao l).1.length≤l.length∧(Ao l).2.Pairwise (·<·)∧∀x∈(Ao l).2,x∈l
 |_,[],_,_,_,_,_=>by simp[Ao,GE]
 |0,x::l,_,_,h,_,_=>by simp at h
 |n+1,x::l,f,e,h,hp,he=>by
  have h1:=FF x l
  have h2:=Gi (x::l)
  have h3:((x::l).drop (A5 (x::l))).length=(x::l).length-A5 (x::l):=by simp
  have hd:=hp.sublist (List.drop_sublist (A5 (x::l)) (x::l))
  have hn:=IP l x hp
  have hm:∀y∈(x::l).drop (A5 (x::l)),y∈x::l:=fun y hy=>List.mem_of_mem_drop hy
  rw[Ao]
  split
  .rename_i hk
   obtain⟨a1,a2,a3,a4⟩:=Gv n ((x::l).drop (A5 (x::l))) false (x+(A5 (x::l):Nat)) (by omega) hd (.inr hn)
   refine⟨⟨he.imp id fun g=>g x (by simp),by omega,a1⟩,?_,a3,fun y hy=>hm y (a4 y hy)⟩
   simp only[List.length_cons] at*;omega
  .obtain⟨a1,a2,a3,a4⟩:=Gv n ((x::l).drop (A5 (x::l))) f e (by omega) hd (he.imp id fun g y hy=>g y (hm y hy))
   refine⟨a1,by show 3*(Ao ((x::l).drop (A5 (x::l)))).1.length≤_;omega,?_,fun y hy=>?_⟩
   .rw[List.pairwise_append]
    refine⟨hp.sublist (List.take_sublist _ _),a3,fun y hy z hz=>?_⟩
    have hp' :((x::l).take (A5 (x::l))++(x::l).drop (A5 (x::l))).Pairwise (·<·):=by rw[List.take_append_drop];exact hp
    rw[List.pairwise_append] at hp'
    exact hp'.2.2 y hy z (a4 z hz)
   .simp only[List.mem_append] at hy
    rcases hy with hy|hy
    .exact List.mem_of_mem_take hy
    .exact hm y (a4 y hy)
theorem JW:∀(l m:List Int),l.Pairwise (·<·)→m.Pairwise (·<·)→(∀x,x∈l↔x∈m)→l=m
 | [],[],_,_,_=>rfl
 | [],y::m,_,_,h=>by have:=(h y).2 (by simp);simp at this
 |x::l,[],_,_,h=>by have:=(h x).1 (by simp);simp at this
 |x::l,y::m,h1,h2,h=>by
  rw[List.pairwise_cons] at h1 h2
  have e:x=y:=by
   have a:=(h x).1 (by simp)
   have b:=(h y).2 (by simp)
   simp only[List.mem_cons] at a b
   rcases a with a|a
   .exact a
   .rcases b with b|b
    .exact b.symm
    .have:=h2.1 x a;have:=h1.1 y b;omega
  subst e
  congr 1
  refine JW l m h1.2 h2.2 fun z=>⟨fun hz=>?_,fun hz=>?_⟩
  .have a:=(h z).1 (by simp[hz])
   simp only[List.mem_cons] at a
   rcases a with rfl|a
   .have:=h1.1 z hz;omega
   .exact a
  .have a:=(h z).2 (by simp[hz])
   simp only[List.mem_cons] at a
   rcases a with rfl|a
   .have:=h2.1 z hz;omega
   .exact a
theorem Gw (p:Int→Bool) (x:Int):x∈Gj p↔(0≤x∧x<16)∧p x=true:=by
 simp only[Gj,List.mem_filter,List.mem_map,List.mem_range]
 constructor
 .rintro⟨⟨i,hi,rfl⟩,h⟩;exact⟨by omega,h⟩
 .rintro⟨h,hp⟩;exact⟨⟨x.toNat,by omega,by omega⟩,hp⟩
theorem Hx (p:Int→Bool):(Gj p).Pairwise (·<·):=by
 unfold Gj
 refine List.Pairwise.filter _ (List.pairwise_map.2 ?_)
 exact(List.pairwise_lt_range).imp fun h=>by omega
theorem K5 (p:Int→Bool):AG (Gj p):=⟨fun x hx=>((Gw p x).1 hx).1,Hx p⟩
theorem JX (l:List Int):(BH l).Perm l:=List.mergeSort_perm _ _
theorem Gx (l:List Int) (x:Int):x∈BH l↔x∈l:=(JX l).mem_iff
theorem Q9 (l:List Int):(BH l).Pairwise (·≤·):=by
 have:=List.pairwise_mergeSort (le:=fun x y:Int=>decide (x≤y)) (fun a b c h1 h2=>by simp at*;omega) (fun a b=>by simp;omega) l
 exact this.imp fun h=>by simpa using h
theorem Ra (l:List Int):(BH l).Pairwise (·<·)↔l.Nodup:=by
 rw[←(JX l).nodup_iff]
 constructor
 .intro h;exact h.imp fun h=>by omega
 .intro h
  exact(Q9 l).imp₂ (fun a b h1 h2=>by have:a≠b:=h2;omega) h
theorem Hz (l:List Int):AG (BH l)↔(∀x∈l,0≤x∧x<16)∧l.Nodup:=by
 unfold AG
 rw[Ra]
 simp only[Gx]
theorem HA {l:List Int} (h:l.Pairwise (·<·)):l.Nodup:=h.imp fun h=>by omega
theorem IQ:∀(r:List (Int×Int)) (e:Int) (W:List Int),CN r e=some W→Dm r e
 | [],_,_,_=>trivial
 | (a,n)::rs,e,W,h=>by
   simp only[CN] at h
   split at h
   .simp at h
   .split at h
    .rename_i l hl
     exact⟨by omega,by omega,by omega,by omega,by omega,IQ rs (a+n) l hl⟩
    .simp at h
theorem GF:∀(r:List (Int×Int)) (e:Int),Dm r e→∃W,CN r e=some W∧W.Pairwise (·<·)∧(∀x∈W,e<x)∧(∀x,x∈W↔Br r x=true)∧∀x∈W,0≤x∧x<16
 | [],e,_=>⟨[],rfl,by simp,by simp,by simp[Br],by simp⟩
 | (a,n)::rs,e,h=>by
   obtain⟨h1,h2,h3,h4,h5,h6⟩:=h
   obtain⟨W,a1,a2,a3,a4,a5⟩:=GF rs (a+n) h6
   have hmem:∀x:Int,x∈(List.range n.toNat).map (fun i=>a+(i:Nat))↔a≤x∧x<a+n:=by
    intro x
    simp only[List.mem_map,List.mem_range]
    constructor
    .rintro⟨i,hi,rfl⟩;omega
    .intro hx;exact⟨(x-a).toNat,by omega,by omega⟩
   refine⟨_,by simp only[CN];rw[if_neg (by omega),a1],?_,?_,?_,?_⟩
   .rw[List.pairwise_append]
    refine⟨List.pairwise_map.2 (List.pairwise_lt_range.imp fun h=>by omega),a2,fun x hx y hy=>?_⟩
    have:=(hmem x).1 hx;have:=a3 y hy;omega
   .intro x hx
    rcases List.mem_append.1 hx with hx|hx
    .have:=(hmem x).1 hx;omega
    .have:=a3 x hx;omega
   .intro x
    rw[List.mem_append,hmem,a4]
    simp[Br]
   .intro x hx
    rcases List.mem_append.1 hx with hx|hx
    .have:=(hmem x).1 hx;omega
    .exact a5 x hx
theorem HB (r:List (Int×Int)) (g:List Int) (hg:AG g) (l:List Int):Eu r g=some l↔CW r g=some l:=by
 unfold Eu CW
 constructor
 .intro h
  split at h
  .simp at h
  .rename_i W hW
   have hr:=IQ _ _ _ hW
   obtain⟨W',b1,b2,b3,b4,b5⟩:=GF r (-1) hr
   rw[hW] at b1;simp at b1;subst b1
   split at h
   .rename_i hm
    simp at h;subst h
    have hd:=(Hz _).1 hm.2
    rw[List.nodup_append] at hd
    rw[if_pos]
    .congr 1
     refine JW _ _ (Hx _) hm.2.2 fun x=>?_
     rw[Gw,Gx,List.mem_append,b4]
     simp only[Bool.or_eq_true,List.contains_eq_mem,decide_eq_true_eq]
     constructor
     .rintro⟨_,h|h⟩
      .exact .inr h
      .exact .inl h
     .intro h
      refine⟨hd.1 x (by rw[List.mem_append,b4];exact h),h.symm⟩
    .refine⟨hm.1,hr,fun x hx=>?_⟩
     cases hi:Br r x with
     |false=>rfl
     |true=>exact absurd rfl (hd.2.2.2 x hx x ((b4 x).2 hi))
   .simp at h
 .intro h
  split at h
  .rename_i hc
   simp at h;subst h
   obtain⟨W,b1,b2,b3,b4,b5⟩:=GF r (-1) hc.2.1
   rw[b1]
   simp only
   have hm:AG (BH (g++W)):=by
    rw[Hz]
    refine⟨fun x hx=>?_,?_⟩
    .rcases List.mem_append.1 hx with hx|hx
     .exact hg.1 x hx
     .exact b5 x hx
    .rw[List.nodup_append]
     refine⟨HA hg.2,HA b2,fun x hx y hy e=>?_⟩
     subst e
     have:=hc.2.2 x hx
     rw[(b4 x).1 hy] at this;simp at this
   rw[if_pos ⟨hg,hm⟩]
   congr 1
   refine JW _ _ hm.2 (Hx _) fun x=>?_
   rw[Gw,Gx,List.mem_append,b4]
   simp only[Bool.or_eq_true,List.contains_eq_mem,decide_eq_true_eq]
   constructor
   .intro h
    refine⟨(Hz _).1 hm|>.1 x (by rw[List.mem_append,b4];exact h),h.symm⟩
   .rintro⟨_,h|h⟩
    .exact .inr h
    .exact .inl h
  .simp at h
theorem Fl {bs:List Bool}:∀(k:Nat) (f:Bool) (p:Nat) (e:Int) (r:List (Int×Int)×Nat),BC bs k f p e=some r↔Ci bs k f p e=some r∧∀q∈r.1,q.2≤18
 |0,f,p,e,r=>by
  simp only[BC,Ci,Option.some.injEq]
  constructor
  .rintro rfl;simp
  .exact fun h=>h.1
 |k+1,f,p,e,r=>by
  simp only[BC,Ci]
  cases hx:AF bs p with
  |none=>simp
  |some x=>
   simp only
   cases hy:AF bs x.2 with
   |none=>simp
   |some y=>
    simp only
    generalize (e+(if f=true then B5 ((x.1:Int)-1) else(x.1:Int)))=a
    have ih:=Fl (bs:=bs) k false y.2 (a+((y.1:Int)-1+3))
    constructor
    .intro h
     split at h
     .split at h
      .rename_i q hq
       simp at h;subst h
       rw[((ih q).1 hq).1]
       refine⟨rfl,fun w hw=>?_⟩
       simp only[List.mem_cons] at hw
       rcases hw with rfl|hw
       .simp only;omega
       .exact((ih q).1 hq).2 w hw
      .simp at h
     .simp at h
    .rintro⟨h,hb⟩
     split at h
     .rename_i q hq
      simp at h;subst h
      have:=hb _ (List.mem_cons_self ..)
      simp only at this
      rw[if_pos (by omega),(ih q).2 ⟨hq,fun w hw=>hb w (List.mem_cons_of_mem _ hw)⟩]
     .simp at h
theorem JY:∀(r:List (Int×Int)) (e:Int),Dm r e→∀q∈r,q.2≤16
 | [],_,_,q,hq=>by simp at hq
 | (a,n)::rs,e,h,q,hq=>by
   obtain⟨h1,h2,h3,h4,h5,h6⟩:=h
   simp only[List.mem_cons] at hq
   rcases hq with rfl|hq
   .simp only;omega
   .exact JY rs _ h6 q hq
theorem JZ:∀(r:List (Int×Int)) (f:Bool) (e:Int),Dm r e→GE r f e
 | [],_,_,_=>trivial
 | (a,n)::rs,f,e,h=>by
   obtain⟨h1,h2,h3,h4,h5,h6⟩:=h
   exact⟨.inr h5,h3,JZ rs false _ h6⟩
theorem UJ {r:List (Int×Int)} {e e' :Int} (h:GE r true e):GE r true e' :=by
 cases r with
 |nil=>trivial
 |cons q r=>exact⟨.inl rfl,h.2⟩
theorem Fm (bs:List Bool) (p:Nat) (v:Int):Bk bs p v=CO bs p v:=by
 unfold Bk CO
 cases hx:AF bs p with
 |none=>rfl
 |some x=>
  simp only
  obtain⟨h1,h2,h3,h4,h5⟩:=AH hx
  cases hr:Ci bs (x.1-1) true x.2 v with
  |none=>
   have:BC bs (x.1-1) true x.2 v=none:=by
    cases h:BC bs (x.1-1) true x.2 v with
    |none=>rfl
    |some r=>have:=((Fl _ _ _ _ _).1 h).1;rw[hr] at this;simp at this
   rw[this];simp
  |some r=>
   obtain⟨r1,r2,r3,r4⟩:=JV v _ _ _ _ _ (fun _=>rfl) h4 hr
   simp only
   have href:BC bs (x.1-1) true x.2 v=if∀q∈r.1,q.2≤18 then some r else none:=by
    split
    .rename_i hb;exact(Fl _ _ _ _ _).2 ⟨hr,hb⟩
    .rename_i hb
     cases h:BC bs (x.1-1) true x.2 v with
     |none=>rfl
     |some r' =>
      have:=(Fl _ _ _ _ _).1 h
      rw[hr] at this
      have e:=this.1
      simp at e;subst e
      exact absurd this.2 hb
   rw[href]
   cases hg:Dl bs r.2 v with
   |none=>simp only[Ev];split<;>split<;>first|rfl|simp_all
   |some g=>
    obtain⟨g1,g2,g3⟩:=PN hg
    have gm:=(Hq hg).2.1
    have hj:CW r.1 g.1=Eu r.1 g.1:=Option.ext fun l=>(HB r.1 g.1 gm l).symm
    have hseg:Fz bs p g.2=A7 (r.1.length+1)++(CP v r.1 true 0++DJ v g.1):=by
     rw[r1,show x.1-1+1=x.1 by omega,←h5,Tz v r.1 0 v,←r4,←g3,FK r2 g1,FK (by omega) (by omega)]
    have hlen:=S9 (l:=bs) (p:=p) (x:=g.2) g2
    cases hw:Eu r.1 g.1 with
    |none=>split<;>(try split)<;>simp_all[Ev]
    |some l=>
     have hrun:Dm r.1 (-1):=by
      have h:=(HB _ _ gm l).1 hw
      unfold CW at h
      split at h
      .rename_i hc;exact hc.2.1
      .simp at h
     have hm:AG l:=by
      have h:=(HB _ _ gm l).1 hw
      unfold CW at h
      split at h
      .simp at h;subst h;exact K5 _
      .simp at h
     have hall:∀q∈r.1,q.2≤18:=fun q hq=>by have:=JY _ _ hrun q hq;omega
     rw[if_pos hall]
     have key:(x.1≤16∧Ao l=(r.1,g.1))↔(x.1≤17∧(BF v l).length=g.2-p∧(bs.drop p).take (BF v l).length=BF v l):=by
      constructor
      .rintro⟨k1,k2⟩
       have hb:BF v l=Fz bs p g.2:=by rw[BF,k2,hseg,List.append_assoc]
       refine⟨by omega,by rw[hb,hlen],?_⟩
       rw[hb,hlen];rfl
      .rintro⟨k1,k2,k3⟩
       rw[k2] at k3
       have hb:BF v l=Fz bs p g.2:=k3.symm
       rw[hseg,BF,List.append_assoc] at hb
       obtain⟨c1,c2⟩:=Fs (by omega) (by omega) hb
       obtain⟨p1,p2,p3,p4⟩:=Gv l.length l true 0 (Nat.le_refl _) hm.2 (.inl rfl)
       obtain⟨d1,d2⟩:=K4 v _ _ true 0 _ _ (by omega) p1 (UJ (JZ r.1 true (-1) hrun)) c2
       simp only[DJ] at d2
       obtain⟨c3,c4⟩:=Fs (by omega) (by omega) d2
       have d3:=(K3 v (Ao l).2 g.1 true 0 [] [] (by omega) (Kp _ _ _ p3 (.inl rfl)) (Kp _ _ _ gm.2 (.inl rfl)) (by simpa using c4)).1
       have hl:=BK hm
       refine⟨by rw[d1] at p2;omega,Prod.ext d1 d3⟩
     simp only[Ev,hg,hj,hw]
     by_cases hk:x.1≤16∧Ao l=(r.1,g.1)
     .have hk' :=key.1 hk
      rw[if_pos hk'.1,if_pos hk.1,if_pos hk.2,if_pos hk'.2]
     .have hk' :=fun g=>hk (key.2 g)
      by_cases a1:x.1≤16
      .rw[if_pos a1,if_pos (by omega),if_neg (fun h=>hk ⟨a1,h⟩),if_neg (fun h=>hk' ⟨by omega,h⟩)]
      .rw[if_neg a1]
       by_cases a2:x.1≤17
       .rw[if_pos a2,if_neg (fun h=>hk' ⟨a2,h⟩)]
       .rw[if_neg a2]
end Go.Abs
namespace Go.Abs
theorem HC:∀(bl left:List Int) (i:Bool) (W:List Int),AX bl left i=some W→W.Sublist left∧∀n∈bl,0≤n∧n≤left.length
 | [],left,i,W,h=>by
   simp only[AX,Option.some.injEq] at h
   subst h
   refine⟨?_,by simp⟩
   split
   .exact List.Sublist.refl _
   .exact List.nil_sublist _
 |n::bs,left,i,W,h=>by
  simp only[AX] at h
  split at h
  .simp at h
  .split at h
   .rename_i l hl
    simp at h;subst h
    obtain⟨a1,a2⟩:=HC bs _ _ l hl
    refine⟨?_,fun m hm=>?_⟩
    .have e:left=left.take n.toNat++left.drop n.toNat:=(List.take_append_drop _ _).symm
     conv=>rhs;rw[e]
     refine List.Sublist.append ?_ a1
     split
     .exact List.Sublist.refl _
     .exact List.nil_sublist _
    .simp only[List.mem_cons] at hm
     rcases hm with rfl|hm
     .omega
     .have:=a2 m hm
      simp at this;omega
   .simp at h
theorem K6 (ref bl rest:List Int) (hr:AG ref) (hs:AG rest) (hb:bl.length≤16):DK ref bl rest=Cj ref bl rest:=by
 unfold DK Cj
 rw[if_neg (fun h=>h ⟨hr,hs,hb⟩)]
 cases hc:AX bl ref true with
 |none=>rfl
 |some W=>
  simp only
  obtain⟨a1,a2⟩:=HC _ _ _ _ hc
  have hW:∀x∈W,0≤x∧x<16:=fun x hx=>hr.1 x (a1.subset hx)
  have hall:∀x∈rest++W,0≤x∧x<16:=fun x hx=>by
   rcases List.mem_append.1 hx with h|h
   .exact hs.1 x h
   .exact hW x h
  have eqm:AG (BH (rest++W))→(Gj fun i=>W.contains i||rest.contains i)=BH (rest++W):=by
   intro hm
   refine JW _ _ (Hx _) hm.2 fun x=>?_
   rw[Gw,Gx,List.mem_append]
   simp only[Bool.or_eq_true,List.contains_eq_mem,decide_eq_true_eq]
   constructor
   .rintro⟨_,h|h⟩
    .exact .inr h
    .exact .inl h
   .intro h;exact⟨hall x (List.mem_append.2 h),h.symm⟩
  by_cases hm:AG (BH (rest++W))
  .rw[eqm hm]
   by_cases h2:blocks ref (BH (rest++W))=bl∧Bd ref (BH (rest++W))=rest
   .rw[if_pos h2,if_pos ⟨hm,h2⟩]
   .rw[if_neg h2,if_neg (fun h=>h2 h.2)]
  .conv=>rhs;rw[if_neg (fun h=>hm h.1)]
   rw[if_neg]
   rintro⟨_,h2⟩
   apply hm
   rw[Hz]
   refine⟨hall,?_⟩
   rw[List.nodup_append]
   refine⟨HA hs.2,(HA hr.2).sublist a1,fun x hx y hy e=>?_⟩
   subst e
   rw[←h2] at hx
   simp only[Bd,List.mem_filter] at hx
   have h3:=a1.subset hy
   have h4:=hx.2
   simp[h3] at h4
theorem Ms {bs:List Bool}:∀(k:Nat) (f:Bool) (p:Nat) (r:List Int×Nat),p≤bs.length→Cd bs k f p=some r→r.1.length=k∧p≤r.2∧r.2≤bs.length
 |0,f,p,r,hp,h=>by simp[Cd] at h;subst h;simp;exact hp
 |k+1,f,p,r,hp,h=>by
  simp only[Cd] at h
  split at h
  .simp at h
  .rename_i x hx
   obtain⟨h1,h2,h3,h4,_⟩:=AH hx
   split at h
   .rename_i q hq
    simp at h;subst h
    have:=Ms k false x.2 q h4 hq
    exact⟨by simp[this.1],by simp only;omega,this.2.2⟩
   .simp at h
theorem GG {bs:List Bool}:∀(k:Nat) (f:Bool) (p:Nat) (r:List Int×Nat),(∀n∈r.1,n≤16)→(Bf bs k f p=some r↔Cd bs k f p=some r)
 |0,f,p,r,_=>by simp[Bf,Cd]
 |k+1,f,p,r,hr=>by
  simp only[Bf,Cd]
  cases hx:AF bs p with
  |none=>simp
  |some x=>
   simp only
   constructor
   .intro h
    split at h
    .split at h
     .rename_i q hq
      simp at h;subst h
      rw[(GG k false x.2 q (fun n hn=>hr n (by simp[hn]))).1 hq]
     .simp at h
    .simp at h
   .intro h
    split at h
    .rename_i q hq
     simp at h;subst h
     have h1:=hr _ (List.mem_cons_self ..)
     rw[if_pos (by split at h1<;>omega),(GG k false x.2 q (fun n hn=>hr n (by simp[hn]))).2 hq]
    .simp at h
theorem GH {bs:List Bool}:∀(k:Nat) (f:Bool) (p:Nat) (r:List Int×Nat),Bf bs k f p=some r→Cd bs k f p=some r
 |0,f,p,r,h=>by simpa[Bf,Cd] using h
 |k+1,f,p,r,h=>by
  simp only[Bf] at h
  simp only[Cd]
  split at h
  .simp at h
  .rename_i x hx
   split at h
   .split at h
    .rename_i q hq
     rw[GH k false x.2 q hq];exact h
    .simp at h
   .simp at h
theorem K7 {bs:List Bool} {p:Nat} {v:Int} {r:List Int×Nat} (h:CO bs p v=some r):AG r.1:=by
 unfold CO at h
 (repeat' split at h)<;>first| (simp at h;done) |skip
 rename_i x hx _ q hq _ g hg _ l hl hp
 simp at h;subst h
 unfold Eu at hl
 (repeat' split at hl)<;>first| (simp at hl;done) |skip
 rename_i hm
 simp at hl;subst hl
 exact hm.2
theorem K8 (bs:List Bool) (p:Nat) (v:Int) (ref:List Int) (hr:AG ref):DB bs p v ref=Cr bs p v ref:=by
 have hl:=BK hr
 unfold DB Cr
 cases hx:AF bs p with
 |none=>rfl
 |some x=>
  simp only
  obtain⟨h1,h2,h3,h4,_⟩:=AH hx
  by_cases hk:x.1≤17
  rotate_left
  .rw[if_neg hk,if_neg hk]
  rw[if_pos hk,if_pos hk]
  cases hn:Cd bs (x.1-1) true x.2 with
  |none=>
   have:Bf bs (x.1-1) true x.2=none:=by
    cases h:Bf bs (x.1-1) true x.2 with
    |none=>rfl
    |some r=>have:=GH _ _ _ _ h;rw[hn] at this;simp at this
   rw[this]
  |some q=>
   have hq:=Ms _ _ _ _ h4 hn
   simp only
   by_cases hb:∀n∈q.1,n≤16
   .rw[(GG _ _ _ q hb).2 hn]
    simp only[Fm]
    cases hs:CO bs q.2 v with
    |none=>rfl
    |some r=>
     simp only
     rw[K6 ref q.1 r.1 hr (K7 hs) (by omega)]
   .have hcw:∀r:List Int,Cj ref q.1 r=none:=by
     intro r
     unfold Cj
     split
     .rfl
     .rename_i W hW
      exact absurd (fun n hn=>by have:=(HC _ _ _ _ hW).2 n hn;omega) hb
    have:Bf bs (x.1-1) true x.2=none∨Bf bs (x.1-1) true x.2=some q:=by
     cases h:Bf bs (x.1-1) true x.2 with
     |none=>exact .inl rfl
     |some r=>have:=GH _ _ _ _ h;rw[hn] at this;simp at this;subst this;exact .inr rfl
    have hjc:∀r:List Int,AG r→DK ref q.1 r=none:=fun r hm=>by rw[K6 ref q.1 r hr hm (by omega),hcw]
    rcases this with h|h
    .rw[h]
     simp only[hcw]
     split<;>rfl
    .rw[h]
     simp only[Fm,hcw]
     split
     .rfl
     .rename_i r hs
      rw[hjc _ (K7 hs)]
theorem It {g:Gr} (h:A1 g) (v:Int):AG (Az g v):=by
 unfold Az
 rw[List.getD_eq_getElem?_getD]
 cases hx:g.out[v.toNat]? with
 |none=>simp[AG]
 |some l=>exact(h.2.2.2.1 l (List.mem_of_getElem? hx)).1
theorem Mt (bs:List Bool):D8 bs=Ce bs:=by
 unfold D8 Ce
 have:Bk bs=CO bs:=funext fun p=>funext fun v=>Fm bs p v
 rw[this]
theorem Mu (a:Gr) (bs:List Bool) (h:A1 a):Gk a bs=Cf a bs:=by
 unfold Gk Cf
 congr 1
 exact funext fun p=>funext fun v=>K8 bs p v _ (It h v)
end Go.Abs
