/- Lists by runs: read. -/
import Derived.Test.YtoklapibcmnaeaaGreatP7
set_option linter.unusedVariables false
set_option linter.unusedSimpArgs false
set_option maxRecDepth 100000
namespace Go.Abs
open Go.Proofs
def J3 (o:Option (List Int×Nat)) (r:AV):Prop:=match o with
 |some q=>r= .tup [.own 1 q.1.length (Ae q.1),.int .i64 q.2,.bool true]
 |none=>∃(xs:List Int) (a:Int),r= .tup [.own 1 xs.length (Ae xs),.int .i64 a,.bool false]
theorem L2 (b:Da) (p:Nat) (v:Int) (hb:Du b) (hp:p<50000000000) (hv:0≤v∧v<100000):Aa pg 199 [.agg (Cs b),.int .i64 p,.int .i64 v] [] (fun r _=>J3 (Dd (As b) p v) r):=by
 have hl:=Cg b
 have h2:=hb.2.1;have h3:=hb.2.2;have h0:=hb.1
 have e0:Dd (As b) p v=match Gx (As b) p v with
  |none=>none
  |some r=>match Dv (As b) r.2 v with
   |none=>none
   |some g=>match Ex r.1 g.1 with
    |none=>none
    |some l=>if Am l=(r.1,g.1) then some (l,g.2) else none:=by
  unfold Dd Gx
  cases AS (As b) p with
  |none=>rfl
  |some x=>simp only;split<;>rfl
 refine Aa.start (fn:=Tryz.f199) [.tmp 6,.tmp 7,.tmp 8] tk rfl rfl rfl (by kernel_rfl) (Nat.le_of_ble_eq_true rfl) rfl (by kernel_rfl) ?_
 rw[Bi]
 refine z1 ?_;intro K hK;refine zk ?_;clear hK K
 refine z0 ?_;intro K hK
 have sp:=RC b p v hb hp hv
 cases hr:Gx (As b) p v with
 |none=>
  simp only[hr,NA] at sp e0
  refine Ab.eq sp (by simp) (by simp) ?_
  refine zx ?_
  refine zk ?_;clear hK K
  refine z0 ?_;intro K hK;refine zk ?_;clear hK K
  refine zt ?_
  refine z0 ?_;intro K hK;refine zk ?_;clear hK K
  refine zr ?_
  rw[e0]
  exact⟨[],0,rfl⟩
 |some r=>
  simp only[hr,NA] at sp e0
  obtain⟨i1,i2,i3,i4,i5⟩:r.1.length≤15∧(∀q∈r.1,(-1000000000000<q.1∧q.1<1000000000000)∧(-1000000000000<q.2∧q.2<1000000000000))∧r.2≤(As b).length∧True∧True:=by
   unfold Gx at hr
   split at hr
   .simp at hr
   .rename_i x hx
    obtain⟨j1,j2,j3,j4,_⟩:=AX hx
    split at hr
    .have:=J2 _ _ _ _ _ 100000 j4 (by omega) (by omega) hr
     refine⟨by omega,fun q hq=>?_,this.2.2.2,trivial,trivial⟩
     have:=this.2.1 q hq
     omega
    .simp at hr
  refine Ab.eq sp (by simp) (by simp) ?_
  refine zx ?_
  refine zk ?_;clear hK K
  refine z0 ?_;intro K hK;refine zk ?_;clear hK K
  refine zn ?_
  refine W.skip ?_
  refine z0 ?_;intro K hK
  have sp:=RB b r.2 v hb (by omega) hv
  cases hg:Dv (As b) r.2 v with
  |none=>
   simp only[hg,Dm] at sp e0
   refine Ab.eq sp (by simp) (by simp) ?_
   refine zx ?_
   refine zk ?_;clear hK K
   refine z0 ?_;intro K hK;refine zk ?_;clear hK K
   refine zt ?_
   refine z0 ?_;intro K hK;refine zk ?_;clear hK K
   refine zr ?_
   rw[e0]
   exact⟨[],0,rfl⟩
  |some g=>
   obtain⟨g1,g2,g3,g4⟩:=IX hg
   simp only[hg,Dm] at sp e0
   refine Ab.eq sp (by simp) (by simp) ?_
   refine zx ?_
   refine zk ?_;clear hK K
   refine z0 ?_;intro K hK;refine zk ?_;clear hK K
   refine zn ?_
   refine W.skip ?_
   refine z0 ?_;intro K hK
   have sp:=XG r.1 g.1 (by omega) (by omega) i2
   cases hw:Do r.1 (-1) with
   |none=>
    simp only[hw,Qx,Ex] at sp e0
    refine Ab.eq sp (by simp) (by simp) ?_
    refine zx ?_
    refine zk ?_;clear hK K
    refine z0 ?_;intro K hK;refine zk ?_;clear hK K
    refine zt ?_
    refine z0 ?_;intro K hK;refine zk ?_;clear hK K
    refine zr ?_
    rw[e0]
    exact⟨[],0,rfl⟩
   |some l=>
    simp only[hw,Qx,Ex] at sp e0
    generalize BW (g.1++l)=L at sp e0
    by_cases hm:AH g.1∧AH L
    .rw[if_pos hm] at e0
     rw[decide_eq_true hm] at sp
     have hll:=Bq hm.2
     have hpl:=ND _ L (Nat.le_refl _)
     simp only at e0
     refine Ab.eq sp (by simp) (by simp) ?_
     refine zx ?_
     refine zk ?_;clear hK K
     refine z0 ?_;intro K hK;refine zk ?_;clear hK K
     refine zn ?_
     refine W.skip ?_
     refine z0 ?_;intro K hK
     have sp:=Qw L (by omega) (fun x hx=>by have:=hm.2.1 x hx;omega)
     refine Ab.eq sp (by simp) (by simp[Nz]) ?_
     simp only[Nz]
     refine zx ?_
     refine zk ?_;clear hK K
     refine z0 ?_;intro K hK
     refine Ab.eq (U5 (Am L).1 r.1 (by omega)) (by simp) (by simp) ?_
     by_cases c1:(Am L).1=r.1
     .rw[decide_eq_true c1]
      refine zx ?_
      refine Ab.eq (Ij (Am L).2 g.1 (by omega)) (by simp) (by simp) ?_
      by_cases c2:(Am L).2=g.1
      .rw[decide_eq_true c2]
       refine zx ?_
       refine zk ?_;clear hK K
       refine zr ?_
       have c3:Am L=(r.1,g.1):=Prod.ext c1 c2
       rw[e0,if_pos c3]
       rfl
      .rw[decide_eq_false c2]
       refine zx ?_
       refine zk ?_;clear hK K
       refine zr ?_
       rw[e0,if_neg (fun e=>c2 (by rw[e]))]
       exact⟨L,g.2,rfl⟩
     .rw[decide_eq_false c1]
      refine zx ?_
      refine zk ?_;clear hK K
      refine zr ?_
      rw[e0,if_neg (fun e=>c1 (by rw[e]))]
      exact⟨L,g.2,rfl⟩
    .rw[if_neg hm] at e0
     rw[decide_eq_false hm] at sp
     refine Ab.eq sp (by simp) (by simp) ?_
     refine zx ?_
     refine zk ?_;clear hK K
     refine z0 ?_;intro K hK;refine zk ?_;clear hK K
     refine zt ?_
     refine z0 ?_;intro K hK;refine zk ?_;clear hK K
     refine zr ?_
     rw[e0]
     exact⟨[],0,rfl⟩
end Go.Abs
set_option maxRecDepth 100000
namespace Go.Abs
open Go.Proofs
def Gy (l:List Nat):List Int:=l.map fun n=>((n:Nat):Int)
theorem Tq (a b:List Nat):Gy (a++b)=Gy a++Gy b:=by simp[Gy]
@[simp] theorem aO (a:List Nat):(Gy a).length=a.length:=by simp[Gy]
def Tr (q:List Int×List Int):AV:= .tup [.own 1 q.1.length (Ae q.1),.own 1 q.2.length (Ae q.2)]
theorem Pi (ref l:List Int) (h1:ref.length<1000000000) (h2:l.length<1000000000):Aa pg 235 [.ro ref.length (Ae ref),.ro l.length (Ae l)] [] (fun r _=>r=Tr (blocks ref l,Bf ref l)):=by
 refine Aa.start (fn:=Tryz.f235) [.tmp 4,.tmp 5] tk rfl rfl rfl (by kernel_rfl) (Nat.le_of_ble_eq_true rfl) rfl (by kernel_rfl) ?_
 rw[Ar]
 refine zs ?_
 refine zs ?_
 refine zs ?_
 (repeat refine W.seq ?_);refine W.block (W.loopS (fun s:Nat×List Nat×Bool×Nat=> [(0,.ro ref.length (Ae ref)),(1,.ro l.length (Ae l)),(4,.tok 0 s.2.1.length 1 0 s.2.1.length),(5,.tok 1 0 1 0 0),(6,.bool s.2.2.1),(7,.int .i64 s.2.2.2),(12,.ro ref.length (Ae ref)),(13,.int .i64 ref.length),(14,.int .i64 s.1)]) (fun s=> [.live s.2.1.length (Ae (Gy s.2.1)),.live 0 []]) (fun s=>ref.length-s.1)
   (fun s=>s.1≤ref.length∧s.2.1.length≤s.1∧s.2.2.2≤s.1∧AU l ref true 0=s.2.1++AU l (ref.drop s.1) s.2.2.1 s.2.2.2) (0,[],true,0) ((Wk.nil (t:=4) (s:=1) (by simp)).trans ((Wk.nil (t:=5) (s:=1) (by simp)).trans (Wk.fr (by simp[Ad])))) (by simp) ?_)
 rintro⟨k,acc,i,n⟩ ⟨hk,hacc,hn,hinv⟩
 simp only at hk hacc hn hinv
 refine zs ?_
 refine zc ?_ ?_<;>intro h
 .refine W.skip ?_
  have hlt:k<ref.length:=by omega
  rw[List.drop_eq_getElem_cons hlt] at hinv
  simp only[AU] at hinv
  refine zb ?_
  refine zs ?_
  refine z0 ?_;intro K hK
  refine Ab.eq (FV l ref[k] (by omega)) (by simp) (by simp) ?_
  by_cases hc:l.contains ref[k]=i
  .rw[hc]
   refine zx ?_
   refine zk ?_;clear hK K
   refine zn ?_
   refine W.skip ?_
   refine zs ?_
   refine zs ?_
   rw[if_pos hc] at hinv
   refine⟨(k+1,acc,i,n+1),by simp;omega,⟨by simp;omega,by simp;omega,by simp;omega,hinv⟩,Wk.fr (by simp[Ad])⟩
  .have hc' :l.contains ref[k]= !i:=by cases i<;>simp_all
   rw[hc']
   refine zx ?_
   refine zk ?_;clear hK K
   refine zt ?_
   refine z1 ?_;intro K hK
   refine zk ?_;clear hK K
   refine zs ?_
   refine zs ?_
   refine zs ?_
   rw[if_neg hc] at hinv
   refine⟨(k+1,acc++[n],!i,1),by simp;omega,⟨by simp;omega,by simp;omega,by simp,?_⟩,Wk.cutM (k:=2) (by simp[Ad]) (by simp[Tq,B6];simp[Gy,Ae]) (by simp) (by simp) (by simp) (by simp)⟩
   rw[hinv];simp
 .refine W.exit ?_
  have:ref.drop k=[]:=List.drop_of_length_le (by omega)
  rw[this] at hinv
  simp[AU] at hinv
  subst hinv
  refine zs ?_
  (repeat refine W.seq ?_);refine W.block (W.loopS (fun s:Nat×List Int=> [(0,.ro ref.length (Ae ref)),(4,.tok 0 (AU l ref true 0).length 1 0 (AU l ref true 0).length),(5,.tok 1 s.2.length 1 0 s.2.length),(32,.ro l.length (Ae l)),(33,.int .i64 l.length),(34,.int .i64 s.1)]) (fun s=> [.live (AU l ref true 0).length (Ae (Gy (AU l ref true 0))),.live s.2.length (Ae s.2)]) (fun s=>l.length-s.1)
    (fun s=>s.1≤l.length∧s.2.length≤s.1∧Bf ref l=s.2++Bf ref (l.drop s.1)) (0,[]) (Wk.fr (by simp[Ad])) (by simp) ?_)
  rintro⟨j,oc⟩ ⟨hj,hoc,hio⟩
  simp only at hj hoc hio
  refine zs ?_
  refine zc ?_ ?_<;>intro h
  .refine W.skip ?_
   have hlt:j<l.length:=by omega
   rw[List.drop_eq_getElem_cons hlt] at hio
   refine zb ?_
   refine zs ?_
   refine z0 ?_;intro K hK
   refine Ab.eq (FV ref l[j] (by omega)) (by simp) (by simp) ?_
   by_cases hc:ref.contains l[j]=true
   .rw[hc]
    refine zx ?_
    refine zk ?_;clear hK K
    refine zn ?_
    refine W.skip ?_
    refine zs ?_
    refine⟨(j+1,oc),by simp;omega,⟨by simp;omega,by simp;omega,?_⟩,Wk.fr (by simp[Ad])⟩
    rw[hio,Bf,List.filter_cons_of_neg (by rw[hc];decide)];rfl
   .have hc:ref.contains l[j]=false:=by simpa using hc
    rw[hc]
    refine zx ?_
    refine zk ?_;clear hK K
    refine zt ?_
    refine z1 ?_;intro K hK
    refine zk ?_;clear hK K
    refine zs ?_
    refine⟨(j+1,oc++[l[j]]),by simp;omega,⟨by simp;omega,by simp;omega,?_⟩,Wk.cutM (k:=2) (by simp[Ad]) (by simp[B6];simp[Ae]) (by simp) (by simp) (by simp) (by simp)⟩
    rw[hio,Bf,List.filter_cons_of_pos (by rw[hc];decide)];simp[Bf]
  .refine W.exit ?_
   have:l.drop j=[]:=List.drop_of_length_le (by omega)
   rw[this] at hio
   simp[Bf] at hio
   refine zs ?_
   refine zr ?_
   simp[Tr,blocks,Bf,hio,Gy]
   rw[List.take_of_length_le (by simp)]
end Go.Abs
set_option maxRecDepth 100000
namespace Go.Abs
open Go.Proofs
def jj (ref bl rest:List Int):Option (List Int):=match Bc bl ref true with
 |none=>none
 |some l=>if AH (BW (rest++l)) then some (BW (rest++l)) else none
theorem Hk (l:List Int):∀(ref:List Int) (i:Bool) (n:Nat),(AU l ref i n).length≤ref.length
 | [],i,n=>by simp[AU]
 |x::ref,i,n=>by
  simp only[AU]
  split
  .have:=Hk l ref i (n+1);simp;omega
  .have:=Hk l ref (!i) 1;simp;omega
theorem U6 (ref bl rest:List Int) (h1:ref.length<1000000) (h2:bl.length<1000000) (h3:rest.length<1000000) (hb:∀x∈bl,-1000000000000<x∧x<1000000000000):
 Aa pg 227 [.ro ref.length (Ae ref),.ro bl.length (Ae bl),.ro rest.length (Ae rest)] [] (fun r _=>match Cu ref bl rest with
  |some l=>r= .tup [.own 1 l.length (Ae l),.bool true]
  |none=>∃xs:List Int,r= .tup [.own 1 xs.length (Ae xs),.bool false]):=by
 refine Aa.start (fn:=Tryz.f227) [.tmp 6,.tmp 7] tk rfl rfl rfl (by kernel_rfl) (Nat.le_of_ble_eq_true rfl) rfl (by kernel_rfl) ?_
 rw[Bi]
 refine zs ?_
 refine z0 ?_;intro K hK
 refine Ab.eq (GZ rest (by omega)) (by simp) (by simp) ?_
 refine zx ?_
 refine zk ?_;clear hK K
 refine zs ?_
 refine zs ?_
 refine zs ?_
 (repeat refine W.seq ?_);refine W.block (W.loopS (fun s:Nat×List Int×List Int×Bool×Nat=> [(0,.ro ref.length (Ae ref)),(1,.ro bl.length (Ae bl)),(2,.ro rest.length (Ae rest)),(8,.tok 0 s.2.2.2.2 1 0 s.2.1.length),(9,.ro s.2.2.1.length (Ae s.2.2.1)),(10,.bool s.2.2.2.1),(18,.ro bl.length (Ae bl)),(19,.int .i64 bl.length),(20,.int .i64 s.1)]) (fun s=> [.live s.2.2.2.2 (Ae s.2.1)]) (fun s=>bl.length-s.1)
   (fun s=>s.1≤bl.length∧s.2.1.length+s.2.2.1.length≤rest.length+ref.length∧(Bc bl ref true).map (rest++·)=(Bc (bl.drop s.1) s.2.2.1 s.2.2.2.1).map (s.2.1++·)) (0,rest,ref,true,0) (Wk.fr (by simp[Ad])) (by simp) ?_)
 rintro⟨k,acc,left,i,c⟩ ⟨hk,hacc,hinv⟩
 simp only at hk hacc hinv
 refine zs ?_
 refine zc ?_ ?_<;>intro h
 .refine W.skip ?_
  have hlt:k<bl.length:=by omega
  have hbk:=hb _ (List.getElem_mem hlt)
  rw[List.drop_eq_getElem_cons hlt] at hinv
  simp only[Bc] at hinv
  generalize hn:bl[k]=n at hinv hbk
  refine zb ?_
  refine Af (an hlt hn) ?_;intro K hK
  refine zk ?_;clear hK K
  by_cases hbad:n<0∨(left.length:Int)<n
  .rw[if_pos hbad] at hinv
   have hcg:Bc bl ref true=none:=by simpa using hinv
   have hcw:Cu ref bl rest=none:=by simp[Cu,hcg]
   (repeat refine W.seq ?_);refine W.midS (fun _:Unit=> [(31,.bool true)]) (fun _=> []) (fun _=>True) ?_ ?_
   .by_cases hz:n<0
    .refine z0 ?_;intro K hK
     refine zk ?_;clear hK K
     exact⟨(),trivial,Wk.cutM (k:=0) (by simp[Ad]) (by simp) (by simp) (by simp) (by simp) (by simp)⟩
    .refine z0 ?_;intro K hK
     refine zk ?_;clear hK K
     exact⟨(),trivial,Wk.cutM (k:=0) (by simp[Ad]) (by simp) (by simp) (by simp) (by simp) (by simp)⟩
   .rintro _ _
    refine zt ?_
    refine zs ?_
    refine zr ?_
    rw[hcw]
    exact⟨[],rfl,rfl⟩
  .rw[if_neg hbad] at hinv
   refine z0 ?_;intro K hK
   refine zk ?_;clear hK K
   refine zn ?_
   refine W.skip ?_
   refine zs ?_
   have hle:n.toNat≤left.length:=by omega
   have htk:(left.drop n.toNat).take (left.length-n.toNat)=left.drop n.toNat:=List.take_of_length_le (by simp)
   cases i with
   |true=>
    refine zt ?_
    refine zs ?_
    refine zs ?_
    refine zs ?_
    refine⟨(k+1,acc++left.take n.toNat,left.drop n.toNat,false,c+1),by simp;omega,⟨by simp;omega,by simp;omega,?_⟩,Wk.cutM (k:=1) (by simp[Ad,htk];try omega) (by simp[B6]) (by simp) (by simp) (by simp) (by simp)⟩
    rw[hinv]
    simp only[Bool.not_true]
    cases Bc (bl.drop (k+1)) (left.drop n.toNat) false<;>simp
   |false=>
    refine zn ?_
    refine W.skip ?_
    refine zs ?_
    refine zs ?_
    refine⟨(k+1,acc,left.drop n.toNat,true,c),by simp;omega,⟨by simp;omega,by simp;omega,?_⟩,Wk.fr (by simp[Ad,htk];try omega)⟩
    rw[hinv]
    simp only[Bool.not_false]
    cases Bc (bl.drop (k+1)) (left.drop n.toNat) true<;>simp
 .refine W.exit ?_
  have hkk:bl.drop k=[]:=List.drop_of_length_le (by omega)
  rw[hkk] at hinv
  simp only[Bc,Option.map_some] at hinv
  obtain⟨e,he,hee⟩:∃e,Bc bl ref true=some e∧rest++e=acc++(if i=true then left else []):=by
   cases hc:Bc bl ref true with
   |none=>rw[hc] at hinv;simp at hinv
   |some e=>rw[hc] at hinv;simp at hinv;exact⟨e,rfl,hinv⟩
  refine zs ?_
  (repeat refine W.seq ?_);refine W.midS (fun c:Nat=> [(0,.ro ref.length (Ae ref)),(1,.ro bl.length (Ae bl)),(2,.ro rest.length (Ae rest)),(8,.tok 0 c 1 0 (rest++e).length)]) (fun c=> [.live c (Ae (rest++e))]) (fun _=>True) ?_ ?_
  .cases i with
   |true=>
    refine zt ?_
    refine z0 ?_;intro K hK
    refine zk ?_;clear hK K
    exact⟨c+1,trivial,Wk.cutM (k:=1) (by simp[Ad,hee]) (by simp[hee,B6]) (by simp) (by simp) (by simp) (by simp)⟩
   |false=>
    refine zn ?_
    refine W.skip ?_
    exact⟨c,trivial,Wk.cutM (k:=1) (by simp[Ad,hee]) (by simp[hee]) (by simp) (by simp) (by simp) (by simp)⟩
  .rintro c _
   have hel:(rest++e).length≤rest.length+ref.length:=by rw[hee];split<;>simp<;>omega
   generalize hX:rest++e=X at hel
   have hln:=FB X
   generalize hL:BW X=L at hln
   refine z0 ?_;intro K hK
   refine Ab.pass [0] (Tp X c (by omega)) (by simp) (by simp) (by simp) (by simp) ?_
   rw[hL]
   rintro _ M ⟨rfl,rfl⟩ _
   rw[←hln]
   refine zx ?_
   refine zk ?_;clear hK K
   refine z0 ?_;intro K hK
   refine Ab.eq (NU L (by omega)) (by simp) (by simp) ?_
   have hcw:Cu ref bl rest=if AH L∧blocks ref L=bl∧Bf ref L=rest then some L else none:=by simp only[Cu,he,hX,hL]
   by_cases hm:AH L
   .rw[decide_eq_true hm]
    refine zx ?_
    refine zk ?_;clear hK K
    refine zn ?_
    refine W.skip ?_
    have hll:=Bq hm
    refine z0 ?_;intro K hK
    refine Ab.eq (Pi ref L (by omega) (by omega)) (by simp) (by simp[Tr]) ?_
    simp only[Tr]
    refine zx ?_
    refine zk ?_;clear hK K
    refine z0 ?_;intro K hK
    refine Ab.eq (Ij (blocks ref L) bl (by have:=Hk L ref true 0;simp[blocks];omega)) (by simp) (by simp) ?_
    by_cases c1:blocks ref L=bl
    .rw[decide_eq_true c1]
     refine zx ?_
     refine Ab.eq (Ij (Bf ref L) rest (by have:=List.length_filter_le (fun x=> !ref.contains x) L;simp only[Bf];omega)) (by simp) (by simp) ?_
     by_cases c2:Bf ref L=rest
     .rw[decide_eq_true c2]
      refine zx ?_
      refine zk ?_;clear hK K
      refine zr ?_
      rw[hcw,if_pos ⟨hm,c1,c2⟩]
      exact⟨rfl,rfl⟩
     .rw[decide_eq_false c2]
      refine zx ?_
      refine zk ?_;clear hK K
      refine zr ?_
      rw[hcw,if_neg (fun h=>c2 h.2.2)]
      exact⟨L,rfl,rfl⟩
    .rw[decide_eq_false c1]
     refine zx ?_
     refine zk ?_;clear hK K
     refine zr ?_
     rw[hcw,if_neg (fun h=>c1 h.2.1)]
     exact⟨L,rfl,rfl⟩
   .rw[decide_eq_false hm]
    refine zx ?_
    refine zk ?_;clear hK K
    refine zt ?_
    refine zs ?_
    refine zr ?_
    rw[hcw,if_neg (fun h=>hm h.1)]
    exact⟨[],rfl,rfl⟩
end Go.Abs
set_option maxRecDepth 100000
namespace Go.Abs
open Go.Proofs
theorem NE {bs:List Bool}:∀(k:Nat) (f:Bool) (p:Nat) (r:List Int×Nat),p≤bs.length→Ci bs k f p=some r→r.1.length=k∧(∀x∈r.1,0≤x∧x≤1073741824)∧r.2≤bs.length
 |0,f,p,r,hp,h=>by simp[Ci] at h;subst h;simp;exact hp
 |k+1,f,p,r,hp,h=>by
  simp only[Ci] at h
  split at h
  .simp at h
  .rename_i x hx
   obtain⟨h1,h2,h3,h4,_⟩:=AX hx
   split at h
   .rename_i q hq
    simp at h;subst h
    obtain⟨g1,g2,g3⟩:=NE k false x.2 q h4 hq
    refine⟨by simp[g1],fun z hz=>?_,g3⟩
    simp only[List.mem_cons] at hz
    rcases hz with rfl|hz
    .split<;>omega
    .exact g2 z hz
   .simp at h
theorem Pj (b:Da) (p:Nat) (v:Int) (ref:List Int) (hb:Du b) (hp:p<50000000000) (hv:0≤v∧v<100000) (href:ref.length<1000000):Aa pg 201 [.agg (Cs b),.int .i64 p,.int .i64 v,.ro ref.length (Ae ref)] [] (fun r _=>J3 (CM (As b) p v ref) r):=by
 have hl:=Cg b
 have h2:=hb.2.1;have h3:=hb.2.2;have h0:=hb.1
 refine Aa.start (fn:=Tryz.f201) [.tmp 8,.tmp 9,.tmp 10] tk rfl rfl rfl (by kernel_rfl) (Nat.le_of_ble_eq_true rfl) rfl (by kernel_rfl) ?_
 rw[Ic]
 refine z1 ?_;intro K hK;refine zk ?_;clear hK K
 refine z0 ?_;intro K hK
 have sp:=GI b p hb hp
 cases hg:AS (As b) p with
 |none=>
  simp only[hg,F7] at sp
  refine Ab.eq sp (by simp) (by simp) ?_
  refine zx ?_
  refine zk ?_;clear hK K
  refine z0 ?_;intro K hK;refine zk ?_;clear hK K
  refine zt ?_
  refine z0 ?_;intro K hK;refine zk ?_;clear hK K
  refine zr ?_
  simp only[CM,hg]
  exact⟨[],0,rfl⟩
 |some x=>
  simp only[hg,F7] at sp
  obtain⟨hx1,hx2,hx3,hx4,_⟩:=AX hg
  refine Ab.eq sp (by simp) (by simp) ?_
  refine zx ?_
  refine zk ?_;clear hK K
  refine z0 ?_;intro K hK;refine zk ?_;clear hK K
  refine zc ?_ ?_<;>intro h
  .refine z0 ?_;intro K hK;refine zk ?_;clear hK K
   refine zr ?_
   simp only[CM,hg];rw[if_neg (by omega)]
   exact⟨[],0,rfl⟩
  .refine W.skip ?_
   refine z0 ?_;intro K hK;refine zk ?_;clear hK K
   refine z0 ?_;intro K hK;refine zk ?_;clear hK K
   (repeat refine W.seq ?_);refine W.block (W.loopS (fun s:Nat×List Int×Nat=> [(2,.int .i64 v),(3,.ro ref.length (Ae ref)),(4,.ptr 0 0 0),(8,.own 1 0 []),(9,.int .i64 s.2.2),(12,.tok 1 s.1 1 0 s.1),(30,.int .i64 ((x.1:Int)-1)),(31,.int .i64 s.1)]) (fun s=> [.live 0 (Cs b),.live s.1 (Ae s.2.1)]) (fun s=>x.1-1-s.1)
     (fun s=>s.1≤x.1-1∧s.2.1.length=s.1∧s.2.2≤(As b).length∧Ci (As b) (x.1-1) true x.2=(Ci (As b) (x.1-1-s.1) (decide (s.1=0)) s.2.2).map fun r=>(s.2.1++r.1,r.2)) (0,[],x.2) ((Wk.nil (t:=12) (s:=1) (by simp)).trans (Wk.fr (by simp[Ad]))) ⟨by omega,rfl,hx4,by simp⟩ ?_)
   rintro⟨k,acc,q⟩ ⟨hk,hacc,hq,hinv⟩
   simp only at hk hacc hq hinv
   refine z0 ?_;intro K hK;refine zk ?_;clear hK K
   refine zc ?_ ?_<;>intro h
   .refine W.skip ?_
    obtain⟨m,hm⟩:∃m,x.1-1-k=m+1:=⟨x.1-1-k-1,by omega⟩
    have hm' :x.1-1-(k+1)=m:=by omega
    rw[hm] at hinv
    refine zb ?_
    refine z0 ?_;intro K hK;refine zk ?_;clear hK K
    refine z0 ?_;intro K hK;refine zk ?_;clear hK K
    refine z0 ?_;intro K hK
    have sp:=GI b q hb (by omega)
    cases hg2:AS (As b) q with
    |none=>
     simp only[hg2,F7] at sp
     refine Ab.eq sp (by simp) (by simp) ?_
     refine zx ?_
     refine zk ?_;clear hK K
     refine z0 ?_;intro K hK;refine zk ?_;clear hK K
     refine zt ?_
     refine z0 ?_;intro K hK;refine zk ?_;clear hK K
     refine zr ?_
     simp only[Ci,hg2] at hinv
     simp only[CM,hg];rw[if_pos (by omega),hinv]
     exact⟨[],0,rfl⟩
    |some y=>
     simp only[hg2,F7] at sp
     obtain⟨hy1,hy2,hy3,hy4,_⟩:=AX hg2
     refine Ab.eq sp (by simp) (by simp) ?_
     refine zx ?_
     refine zk ?_;clear hK K
     refine z0 ?_;intro K hK;refine zk ?_;clear hK K
     refine zn ?_
     refine W.skip ?_
     simp only[Ci,hg2] at hinv
     have hz:∃z:Int,z=(if k=0 then(y.1:Int)-1 else(y.1:Int)):=⟨_,rfl⟩
     obtain⟨z,hz⟩:=hz
     refine z0 ?_;intro K hK;refine zk ?_;clear hK K
     (repeat refine W.seq ?_);refine W.midS (fun _:Unit=> [(2,.int .i64 v),(3,.ro ref.length (Ae ref)),(4,.ptr 0 0 0),(8,.own 1 0 []),(9,.int .i64 y.2),(12,.tok 1 k 1 0 k),(14,.int .i64 z),(30,.int .i64 ((x.1:Int)-1)),(31,.int .i64 k)]) (fun _=> [.live 0 (Cs b),.live k (Ae acc)]) (fun _=>True) ?_ ?_
     .refine zc ?_ ?_<;>intro h
      .refine z0 ?_;intro K hK
       refine zk ?_;clear hK K
       exact⟨(),trivial,Wk.fr (by simp[Ad,hz,h])⟩
      .refine W.skip ?_
       exact⟨(),trivial,Wk.fr (by simp[Ad,hz,h])⟩
     .rintro _ _
      have hzz:(if decide (k=0)=true then(y.1:Int)-1 else(y.1:Int))=z:=by rw[hz];simp
      rw[hzz,hm'.symm] at hinv
      refine z1 ?_;intro K hK;refine zk ?_;clear hK K
      refine z0 ?_;intro K hK;refine zk ?_;clear hK K
      refine⟨(k+1,acc++[z],y.2),by simp;omega,⟨by simp;omega,by simp;omega,hy4,?_⟩,Wk.cutM (k:=2) (by simp[Ad]) (by simp[B6,Ae]) (by simp) (by simp) (by simp) (by simp)⟩
      rw[hinv]
      simp only[show decide (k+1=0)=false from by simp]
      cases Ci (As b) (x.1-1-(k+1)) false y.2<;>simp
   .refine W.exit ?_
    have hk0:x.1-1-k=0:=by omega
    rw[hk0] at hinv
    simp only[Ci,Option.map_some,List.append_nil] at hinv
    have hno:=NE _ _ _ _ hx4 hinv
    have hcr:CM (As b) p v ref=match Dd (As b) q v with
     |none=>none
     |some r=>match Cu ref acc r.1 with
      |some l=>some (l,r.2)
      |none=>none:=by
     simp only[CM,hg];rw[if_pos (by omega),hinv]
     rfl
    simp only at hno
    subst hacc
    refine z0 ?_;intro K hK
    have sp:=L2 b q v hb (by omega) hv
    cases hr:Dd (As b) q v with
    |none=>
     simp only[hr,J3] at sp hcr
     refine Ab.bor sp (by simp) ?_
     rintro _ ⟨xs,a,rfl⟩
     refine⟨by simp,?_⟩
     refine zx ?_
     refine zk ?_;clear hK K
     refine z0 ?_;intro K hK;refine zk ?_;clear hK K
     refine zt ?_
     refine z0 ?_;intro K hK;refine zk ?_;clear hK K
     refine zr ?_
     rw[hcr]
     exact⟨[],0,rfl⟩
    |some r=>
     simp only[hr,J3] at sp hcr
     refine Ab.eq sp (by simp) (by simp) ?_
     refine zx ?_
     refine zk ?_;clear hK K
     refine z0 ?_;intro K hK;refine zk ?_;clear hK K
     refine zn ?_
     refine W.skip ?_
     refine z0 ?_;intro K hK
     have sp:=U6 ref acc r.1 href (by omega) (by have:=IY (by omega) hr;omega) (fun z hz=>by have:=hno.2.1 z hz;omega)
     cases hc:Cu ref acc r.1 with
     |none=>
      simp only[hc] at sp hcr
      refine Ab.bor sp (by simp) ?_
      rintro _ ⟨xs,rfl⟩
      refine⟨by simp,?_⟩
      refine zx ?_
      refine zk ?_;clear hK K
      refine z0 ?_;intro K hK;refine zk ?_;clear hK K
      refine zr ?_
      rw[hcr]
      exact⟨xs,r.2,rfl⟩
     |some l=>
      simp only[hc] at sp hcr
      refine Ab.eq sp (by simp) (by simp) ?_
      refine zx ?_
      refine zk ?_;clear hK K
      refine z0 ?_;intro K hK;refine zk ?_;clear hK K
      refine zr ?_
      rw[hcr]
      rfl
end Go.Abs
set_option maxRecDepth 100000
namespace Go.Abs
open Go.Proofs
def FW (g:Gr):Prop:=g.out.length<1000000000∧∀l∈g.out,l.length<1000000000
theorem L3 (out:List (List Int)) (k:Nat):CR (out.take k)≤CR out:=by
 have:CR out=CR (out.take k)+CR (out.drop k):=by rw[CR,CR,CR,←List.sum_append,←List.map_append,List.take_append_drop]
 omega
theorem L4 {out:List (List Int)} {k:Nat} (hk:k<out.length):CR (out.take (k+1))=CR (out.take k)+out[k].length:=by
 have e:out.take (k+1)=out.take k++[out[k]]:=by rw[List.take_add_one,List.getElem?_eq_getElem hk];rfl
 rw[e,CR,List.map_append,List.sum_append];simp[CR]
theorem YZ (g:Gr) (h1:g.out.length<1000000000) (h2:CR g.out<4611686018427387904):Aa pg 216 [.agg (A3 false g)] [] (fun r _=>r= .int .i64 (CR g.out)):=by
 refine Aa.start (fn:=Tryz.f216) [.tmp 2] tk rfl rfl rfl (by kernel_rfl) (Nat.le_of_ble_eq_true rfl) rfl (by kernel_rfl) ?_
 rw[Av]
 refine z1 ?_;intro K hK;refine zk ?_;clear hK K
 refine zs ?_
 refine zs ?_
 (repeat refine W.seq ?_);refine W.block (W.loopS (fun k:Nat=> [(3,.int .i64 (CR (g.out.take k))),(7,Ee false g.out),(8,.int .i64 g.out.length),(9,.int .i64 k)]) (fun _=> []) (fun k=>g.out.length-k) (fun k=>k≤g.out.length) 0 (Wk.cutM (k:=0) (by simp[Ad,CR]) (by simp) (by simp) (by simp) (by simp) (by simp)) (by simp) ?_)
 intro k hk
 refine zs ?_
 refine zc ?_ ?_<;>intro h
 .refine W.skip ?_
  have hlt:k<g.out.length:=by omega
  have hs:=L4 hlt
  have ht:=L3 g.out (k+1)
  refine zb ?_
  refine z0 ?_;intro K hK
  refine zk ?_;clear hK K
  refine zs ?_
  refine zs ?_
  refine⟨k+1,by omega,by omega,Wk.fr (by simp[Ad,hs])⟩
 .refine W.exit ?_
  have:k=g.out.length:=by omega
  subst this
  refine zs ?_
  exact zR
theorem Vw (g:Gr) (v:Int):Aa pg 228 [.agg (A3 false g),.int .i64 v] [] (fun r _=>r= .bool (decide (0≤v∧v<g.n))):=by
 refine Aa.start (fn:=Tryz.f228) [.tmp 4] tk rfl rfl rfl (by kernel_rfl) (Nat.le_of_ble_eq_true rfl) rfl (by kernel_rfl) ?_
 rw[Ar]
 refine z1 ?_;intro K hK;refine zk ?_;clear hK K
 by_cases h:0≤v
 .refine z0 ?_;intro K hK
  refine zk ?_;clear hK K
  exact zR
 .refine z0 ?_;intro K hK
  refine zk ?_;clear hK K
  exact zR
theorem Pk (n:Nat):CB n [AV.own 1 0 []]=AE true (List.replicate n []):=by
 induction n with
 |zero=>rfl
 |succ n ih=>rw[List.replicate_succ,DV,←ih];rfl
theorem XH (n:Nat) (hn:n<1000000):Aa pg 125 [.int .i64 n] [] (fun r _=>r= .agg (A3 true ⟨n,List.replicate n []⟩)):=by
 refine Aa.start (fn:=Tryz.f125) [.cell 2 51] tk rfl rfl rfl (by kernel_rfl) (Nat.le_of_ble_eq_true rfl) rfl (by kernel_rfl) ?_
 rw[Av]
 refine z1 ?_;intro K hK;refine zk ?_;clear hK K
 refine z1 ?_;intro K hK
 refine zk ?_;clear hK K
 refine zr ?_
 simp[Pk]
def FY (n:Int) (l:List Int):Prop:=AH l∧∀x∈l,x<n
instance (n:Int) (l:List Int):Decidable (FY n l):=inferInstanceAs (Decidable (_∧_))
theorem NF {n:Int} {l:List Int} (hm:AH l) (h:0<l.length):FY n l↔l[l.length-1]<n:=by
 constructor
 .intro⟨_,h2⟩;exact h2 _ (List.getElem_mem _)
 .intro h2
  refine⟨hm,fun x hx=>?_⟩
  obtain⟨i,hi,rfl⟩:=List.mem_iff_getElem.1 hx
  by_cases e:i=l.length-1
  .subst e;exact h2
  .have:=List.pairwise_iff_getElem.1 hm.2 i (l.length-1) hi (by omega) (by omega)
   omega
theorem Jd {α:Type} {l:List α} {k:Nat} (hk:k<l.length) (x:α):x∈l.take (k+1)↔x∈l.take k∨x=l[k]:=by
 have e:l.take (k+1)=l.take k++[l[k]]:=by rw[List.take_add_one,List.getElem?_eq_getElem hk];rfl
 rw[e,List.mem_append,List.mem_singleton]
theorem J4 {n:Int}:∀{out:List (List Int)},(∀l∈out,FY n l)→CR out≤16*out.length
 | [],_=>by simp[CR]
 |l::out,h=>by
  have h1:=Bq (h l (by simp)).1
  have h2:=J4 (out:=out) fun x hx=>h x (by simp[hx])
  simp[CR] at*;omega
theorem L5 (g:Gr) (hg:FW g):Aa pg 192 [.agg (A3 false g)] [] (fun r _=>r= .bool (decide (A1 g))):=by
 obtain⟨h1,h2⟩:=hg
 refine Aa.start (fn:=Tryz.f192) [.tmp 2] tk rfl rfl rfl (by kernel_rfl) (Nat.le_of_ble_eq_true rfl) rfl (by kernel_rfl) ?_
 rw[Av]
 refine z1 ?_;intro K hK;refine zk ?_;clear hK K
 by_cases hbad:¬(0≤g.n∧g.n≤16∧(g.out.length:Int)=g.n)
 .have hm:¬A1 g:=fun h=>hbad ⟨h.1,h.2.1,h.2.2.1⟩
  (repeat refine W.seq ?_);refine W.midS (fun _:Unit=> [(20,.bool true)]) (fun _=> []) (fun _=>True) ?_ ?_
  .by_cases c1:g.n<0
   .refine z0 ?_;intro K hK
    refine zk ?_;clear hK K
    exact⟨(),trivial,Wk.cutM (k:=0) (by simp[Ad]) (by simp) (by simp) (by simp) (by simp) (by simp)⟩
   by_cases c2:16<g.n
   .refine z0 ?_;intro K hK
    refine zk ?_;clear hK K
    exact⟨(),trivial,Wk.cutM (k:=0) (by simp[Ad]) (by simp) (by simp) (by simp) (by simp) (by simp)⟩
   .have c3:¬(g.out.length:Int)=g.n:=fun e=>hbad ⟨by omega,by omega,e⟩
    refine Af c3 ?_;intro K hK
    refine zk ?_;clear hK K
    exact⟨(),trivial,Wk.cutM (k:=0) (by simp[Ad]) (by simp) (by simp) (by simp) (by simp) (by simp)⟩
  .rintro _ _
   refine zt ?_
   refine zs ?_
   refine zr ?_
   exact hm
 .have hbad:=Classical.not_not.1 hbad
  refine Af hbad.2.2 ?_;intro K hK
  refine zk ?_;clear hK K
  refine zn ?_
  refine W.skip ?_
  refine zs ?_
  (repeat refine W.seq ?_);refine W.block (W.loopS (fun k:Nat=> [(1,.ptr 0 0 0),(22,Ee false g.out),(23,.int .i64 g.out.length),(24,.int .i64 k)]) (fun _=> [.live 0 (A3 false g)]) (fun k=>g.out.length-k) (fun k=>k≤g.out.length∧∀l∈g.out.take k,FY g.n l) 0 (Wk.fr (by simp[Ad])) (by simp) ?_)
  rintro k ⟨hk,hinv⟩
  refine zs ?_
  refine zc ?_ ?_<;>intro h
  .refine W.skip ?_
   have hlt:k<g.out.length:=by omega
   have hl2:=h2 _ (List.getElem_mem hlt)
   have hmem:=List.getElem_mem hlt
   refine zb ?_
   refine z0 ?_;intro K hK
   refine zk ?_;clear hK K
   have hmi:=Jd hlt
   generalize g.out[k]=l at hl2 hmem hmi
   (repeat refine W.seq ?_);refine W.midS (fun b:Bool=> [(1,.ptr 0 0 0),(22,Ee false g.out),(23,.int .i64 g.out.length),(24,.int .i64 k),(46,.bool b)]) (fun _=> [.live 0 (A3 false g)]) (fun b=>b=false↔FY g.n l) ?_ ?_
   .refine B9 ?_;intro K hK
    refine Ah.eq (NU l (by omega)) (by simp) (by simp) ?_
    by_cases hm:AH l
    .rw[decide_eq_true hm]
     by_cases h0:0<l.length
     .have hla:=NF (n:=g.n) hm h0
      refine zx ?_
      refine zk ?_;clear hK K
      exact⟨decide (g.n≤l[l.length-1]),by rw[hla];simp,Wk.fr (by simp[Ad])⟩
     .have hl0:l=[]:=List.eq_nil_of_length_eq_zero (by omega)
      subst hl0
      refine zx ?_
      refine zk ?_;clear hK K
      exact⟨false,by simp[FY,AH],Wk.fr (by simp[Ad])⟩
    .rw[decide_eq_false hm]
     refine zx ?_
     refine zk ?_;clear hK K
     exact⟨true,by simp[FY,hm],Wk.fr (by simp[Ad])⟩
   .intro b hb
    refine zc ?_ ?_<;>intro h
    .refine zs ?_
     refine zr ?_
     intro h'
     have h3:=h'.2.2.2.1 l hmem
     have h4:=hb.2 h3
     have h5:b=true:=by assumption
     rw[h4] at h5;cases h5
    .refine W.skip ?_
     refine zs ?_
     refine⟨k+1,by omega,⟨by omega,fun x hx=>?_⟩,Wk.fr (by simp[Ad])⟩
     rcases(hmi x).1 hx with h6|h6
     .exact hinv x h6
     .rw[h6];exact hb.1 (by assumption)
  .refine W.exit ?_
   have:k=g.out.length:=by omega
   subst this
   rw[List.take_length] at hinv
   refine z0 ?_;intro K hK
   refine Ab.eq (YZ g h1 (by have:=J4 hinv;omega)) (by simp) (by simp) ?_
   refine zx ?_
   refine zk ?_;clear hK K
   refine zr ?_
   exact⟨fun h=>⟨hbad.1,hbad.2.1,hbad.2.2,hinv,by omega⟩,fun h=>by have:=h.2.2.2.2;omega⟩
end Go.Abs
set_option maxRecDepth 100000
namespace Go.Abs
open Go.Proofs
def Qy (o:Option (Nat×Nat)):AV:=match o with|some x=> .tup [.int .i64 ((x.1:Int)-1),.int .i64 x.2,.bool true] |none=> .tup [.int .i64 0,.int .i64 0,.bool false]
def Gz (bs:List Bool):Option (Nat×Nat):=match AS bs 0 with|some x=>if x.1≤17 then some x else none|none=>none
theorem Tt (b:Da) (hb:Du b):Aa pg 196 [.agg (Cs b)] [] (fun r _=>r=Qy (Gz (As b))):=by
 refine Aa.start (fn:=Tryz.f196) [.tmp 2,.tmp 3,.tmp 4] tk rfl rfl rfl (by kernel_rfl) (Nat.le_of_ble_eq_true rfl) rfl (by kernel_rfl) ?_
 rw[Av]
 refine z1 ?_;intro K hK;refine zk ?_;clear hK K
 refine z0 ?_;intro K hK
 have sp:=GI b 0 hb (by omega)
 cases hg:AS (As b) 0 with
 |none=>
  simp only[hg,F7] at sp
  refine Ab.eq sp (by simp) (by simp) ?_
  refine zx ?_
  refine zk ?_;clear hK K
  refine z0 ?_;intro K hK;refine zk ?_;clear hK K
  refine zt ?_
  refine z0 ?_;intro K hK;refine zk ?_;clear hK K
  refine zr ?_
  simp[Gz,hg,Qy]
 |some x=>
  simp only[hg,F7] at sp
  obtain⟨hx1,hx2,hx3,hx4,_⟩:=AX hg
  refine Ab.eq sp (by simp) (by simp) ?_
  refine zx ?_
  refine zk ?_;clear hK K
  refine z0 ?_;intro K hK;refine zk ?_;clear hK K
  refine zc ?_ ?_<;>intro h
  .refine z0 ?_;intro K hK;refine zk ?_;clear hK K
   refine zr ?_
   simp only[Gz,hg];rw[if_neg (by omega)];rfl
  .refine W.skip ?_
   refine z0 ?_;intro K hK;refine zk ?_;clear hK K
   refine zr ?_
   simp only[Gz,hg];rw[if_pos (by omega)];rfl
def U7 (f:Nat) (caps:List AV) (rd:Rd) (n:Nat):Prop:=∀(p:Nat) (v:Int),p≤n→0≤v∧v<1000→Aa pg f ([.int .i64 p,.int .i64 v]++caps) [] fun r _=>J3 (rd p v) r
def Qz (n:Nat) (o:Option (List (List Int)×Nat)):AV:=match o with
 |some q=> .tup [.agg (A3 true ⟨n,q.1⟩),.int .i64 q.2,.bool (decide (A1 ⟨n,q.1⟩))]
 |none=> .tup [.agg (A3 true AJ),.int .i64 0,.bool false]
theorem QA (f:Nat) (caps:List AV) (rd:Rd) (n p m:Nat) (hn:n≤16) (hp:p≤m) (hm:m<10000000000) (hf:U7 f caps rd m) (hrd:∀p v r,rd p v=some r→0≤v→v<1000→p≤m→r.1.length≤16∧r.2≤m) (hcv:∀M,caps.map (vw M)=caps) (hnm:∀k,C1 k caps=true):
 Aa pg 197 [.int .i64 n,.int .i64 n,.int .i64 p,.fn f caps] [] (fun r _=>r=Qz n (Bd rd n 0 p)):=by
 refine Aa.start (fn:=Tryz.f197) [.cell 8 51,.tmp 9,.tmp 10] tk rfl rfl rfl (by kernel_rfl) (Nat.le_of_ble_eq_true rfl) rfl (by kernel_rfl) ?_
 rw[Ic]
 refine z1 ?_;intro K hK;refine zk ?_;clear hK K
 refine z1 ?_;intro K hK
 refine Ab.eq (XH n (by omega)) (by simp) (by simp) ?_
 refine zx ?_
 refine zk ?_;clear hK K
 refine z0 ?_;intro K hK
 refine zk ?_;clear hK K
 (repeat refine W.seq ?_);refine W.block (W.loopS (fun s:Nat×List (List Int)×Nat=> [(2,.int .i64 s.2.2),(3,.fn f caps),(8,.ptr 0 0 0),(11,.ptr 1 0 0),(18,.int .i64 n),(19,.int .i64 s.1)]) (fun s=> [.live 0 [.int .i64 0,.own 1 0 []],.live 0 [.int .i64 n,.tok 2 0 1 0 n],.live 0 (AE true (s.2.1++List.replicate (n-s.1) []))]) (fun s=>n-s.1)
   (fun s=>s.1≤n∧s.2.1.length=s.1∧s.2.2≤m∧(∀l∈s.2.1,l.length≤16)∧Bd rd n 0 p=(Bd rd (n-s.1) s.1 s.2.2).map fun r=>(s.2.1++r.1,r.2)) (0,[],p) (Wk.fr (by simp[Ad])) ⟨by omega,rfl,hp,by simp,by simp⟩ ?_)
 rintro⟨k,acc,q⟩ ⟨hk,hacc,hq,hl16,hinv⟩
 simp only at hk hacc hq hl16 hinv
 refine zs ?_
 refine zc ?_ ?_<;>intro h
 .refine W.skip ?_
  obtain⟨d,hd⟩:∃d,n-k=d+1:=⟨n-k-1,by omega⟩
  have hd' :n-(k+1)=d:=by omega
  rw[hd] at hinv
  simp only[Bd] at hinv
  refine zb ?_
  refine zs ?_
  refine z0 ?_;intro K hK
  have sp:=hf q k hq (by omega)
  cases hr:rd q k with
  |none=>
   simp only[hr,J3] at sp hinv
   refine Ab.bor sp (by simp[hcv]) ?_
   rintro _ ⟨xs,a,rfl⟩
   refine⟨by simp,?_⟩
   refine zx ?_
   refine zk ?_;clear hK K
   refine zs ?_
   refine zt ?_
   refine zs ?_
   refine W.weak (Wk.thaw (B:=0) (v:=0) (j:=1) (s:=1) (n:=0) (cs:=[.int .i64 0,.own 1 0 []]) (xs:=[]) rfl rfl) ?_
   refine zr ?_
   rw[hinv];rfl
  |some r=>
   simp only[hr,J3] at sp hinv
   have hr2:=hrd _ _ _ hr (by omega) (by omega) hq
   refine Ab.eq sp (by simp[hcv]) (by simp) ?_
   refine zx ?_
   refine zk ?_;clear hK K
   refine zs ?_
   refine zn ?_
   refine W.skip ?_
   refine z0 ?_;intro K hK
   refine zk ?_;clear hK K
   refine zs ?_
   have hln:(AE true (acc++List.replicate (n-k) [])).length=n:=by simp;omega
   refine⟨(k+1,acc++[r.1],r.2),by simp;omega,⟨by simp;omega,by simp;omega,hr2.2,?_,?_⟩,(Wk.intern (B:=2) (v:=0) (j:=k) (T:=3) (u:=0) (s:=1) (off:=0) (n:=r.1.length) (cs:=(AE true (acc++List.replicate (n-k) [])).set k (AV.tok 3 0 1 0 r.1.length)) (xs:=Ae r.1) (by simp) ?_ (by simp) (by simp) (by simp) (by simp)).trans (Wk.cutM (k:=3) (by simp[Ad]) ?_ (by simp) (by simp[hnm]) (by simp) (by simp))⟩
   .intro l hl
    simp at hl
    rcases hl with hl|rfl
    .exact hl16 l hl
    .exact hr2.1
   .rw[hinv,hd']
    simp only[Int.natCast_add,Int.cast_ofNat_Int]
    cases Bd rd d ((k:Int)+1) r.2<;>simp
   .rw[List.getElem?_set_self (by omega)]
   .have e:n-k=(n-(k+1))+1:=by omega
    rw[e,List.replicate_succ]
    simp[AE,←hacc,Ae];rw[List.take_of_length_le (by simp)]
 .refine W.exit ?_
  have hkn:k=n:=by omega
  subst hkn
  simp[Bd] at hinv
  subst hacc
  refine B9 ?_;intro K hK
  refine Ah.eq (L5 ⟨acc.length,acc⟩ ⟨by simp;omega,fun l hl=>by have:=hl16 l hl;omega⟩) (by simp) (by simp) ?_
  refine zx ?_
  refine zk ?_;clear hK K
  refine zr ?_
  rw[hinv]
  simp[Qz]
end Go.Abs
set_option maxRecDepth 100000
namespace Go.Abs
open Go.Proofs
def NG (o:Option Gr) (r:AV):Prop:=match o with
 |some g=>r= .tup [.agg (A3 true g),.bool true]
 |none=>∃g:Gr,r= .tup [.agg (A3 true g),.bool false]
theorem NH (bs:List Bool) (rd:Rd):CQ bs rd=match Gz bs with
 |none=>none
 |some x=>match Bd rd (x.1-1) 0 x.2 with
  |none=>none
  |some r=>if r.2=bs.length∧A1 ⟨(x.1:Int)-1,r.1⟩ then some ⟨(x.1:Int)-1,r.1⟩ else none:=by
 unfold CQ Gz
 cases AS bs 0 with
 |none=>rfl
 |some x=>simp only;split<;>rfl
theorem U8 (b:Da) (hb:Du b):U7 198 [.rptr (Cs b)] (Dd (As b)) (As b).length:=by
 intro p v hp hv
 have hl:=Cg b
 have h2:=hb.2.1;have h3:=hb.2.2;have h0:=hb.1
 refine Aa.start (fn:=Tryz.f198) [.tmp 5,.tmp 6,.tmp 7] tk rfl rfl rfl (by kernel_rfl) (Nat.le_of_ble_eq_true rfl) rfl (by kernel_rfl) ?_
 simp only[List.cons_append,List.nil_append]
 rw[Bi]
 refine zs ?_
 refine z0 ?_;intro K hK
 have sp:=L2 b p v hb (by omega) (by omega)
 cases hr:Dd (As b) p v with
 |none=>
  simp only[hr,J3] at sp
  refine Ab.bor sp (by simp) ?_
  rintro _ ⟨xs,a,rfl⟩
  refine⟨by simp,?_⟩
  refine zx ?_
  refine zk ?_;clear hK K
  refine zr ?_
  rw[hr]
  exact⟨xs,a,rfl⟩
 |some r=>
  simp only[hr,J3] at sp
  refine Ab.eq sp (by simp) (by simp) ?_
  refine zx ?_
  refine zk ?_;clear hK K
  refine zr ?_
  rw[hr]
  rfl
theorem XI (b:Da) (hb:Du b):Aa pg 164 [.agg (Cs b)] [] (fun r _=>NG (BF (As b)) r):=by
 have hl:=Cg b
 have h2:=hb.2.1;have h3:=hb.2.2;have h0:=hb.1
 have e0:=NH (As b) (Dd (As b))
 refine Aa.start (fn:=Tryz.f164) [.cell 2 51,.tmp 3] tk rfl rfl rfl (by kernel_rfl) (Nat.le_of_ble_eq_true rfl) rfl (by kernel_rfl) ?_
 rw[Av]
 refine z2 ?_;intro K hK;refine zk ?_;clear hK K
 refine z0 ?_;intro K hK
 have sp:=Tt b hb
 cases hh:Gz (As b) with
 |none=>
  simp only[hh,Qy] at sp e0
  refine Ab.eq sp (by simp) (by simp) ?_
  refine zx ?_
  refine zk ?_;clear hK K
  refine zs ?_
  refine zt ?_
  refine zs ?_
  refine W.weak (Wk.thaw (B:=1) (v:=0) (j:=1) (s:=1) (n:=0) (cs:=[.int .i64 0,.own 1 0 []]) (xs:=[]) rfl rfl) ?_
  refine zr ?_
  rw[BF,e0]
  exact⟨AJ,rfl⟩
 |some x=>
  have hx:x.1≤17∧AS (As b) 0=some x:=by
   unfold Gz at hh
   split at hh
   .rename_i y hy
    split at hh
    .simp at hh;subst hh;exact⟨by assumption,hy⟩
    .simp at hh
   .simp at hh
  obtain⟨hx1,hx2,hx3,hx4,_⟩:=AX hx.2
  have ex:(x.1:Int)-1=((x.1-1:Nat):Int):=by omega
  simp only[hh,Qy] at sp e0
  rw[ex] at sp e0
  refine Ab.eq sp (by simp) (by simp) ?_
  refine zx ?_
  refine zk ?_;clear hK K
  refine zs ?_
  refine zn ?_
  refine W.skip ?_
  refine z1 ?_;intro K hK
  have sp:=QA 198 [.rptr (Cs b)] (Dd (As b)) (x.1-1) x.2 (As b).length (by omega) (by omega) (by omega) (U8 b hb) (fun p v r h h1 h2 h3=>by have:=IY (by omega) h;exact⟨this.2.1,this.2.2.2⟩) (by simp) (by simp)
  cases hli:Bd (Dd (As b)) (x.1-1) 0 x.2 with
  |none=>
   simp only[hli,Qz] at sp e0
   refine Ab.eq sp (by simp) (by simp[AJ]) ?_
   refine zx ?_
   refine zk ?_;clear hK K
   (repeat refine W.seq ?_);refine W.regdX 0 [(31,2),(31,27)] rfl true Ck (by kernel_rfl) fun K hK=>?_;simp -implicitDefEqProofs (maxSteps:=999999) (disch:=omega)
   (repeat refine⟨by first|assumption|omega,?_⟩);refine hK _ _ (by simp(disch:=omega)) ?_;clear hK K
   refine zr ?_
   rw[BF,e0]
   exact⟨AJ,rfl⟩
  |some q=>
   simp only[hli,Qz] at sp e0
   refine Ab.eq sp (by simp) (by simp) ?_
   by_cases hm:A1 ⟨((x.1-1:Nat):Int),q.1⟩
   .rw[decide_eq_true hm]
    refine zx ?_
    refine zk ?_;clear hK K
    (repeat refine W.seq ?_);refine W.regdX 0 [(31,2),(31,27)] rfl true Ck (by kernel_rfl) fun K hK=>?_;simp -implicitDefEqProofs (maxSteps:=999999) (disch:=omega)
    (repeat refine⟨by first|assumption|omega,?_⟩);refine hK _ _ (by simp(disch:=omega)) ?_;clear hK K
    refine zr ?_
    rw[BF,e0]
    by_cases hq:q.2=(As b).length
    .rw[if_pos ⟨hq,hm⟩]
     simp[NG]
     omega
    .rw[if_neg (fun h=>hq h.1)]
     refine⟨⟨((x.1-1:Nat):Int),q.1⟩,?_⟩
     simp
     omega
   .rw[decide_eq_false hm]
    refine zx ?_
    refine zk ?_;clear hK K
    (repeat refine W.seq ?_);refine W.regdX 0 [(31,2),(31,27)] rfl true Ck (by kernel_rfl) fun K hK=>?_;simp -implicitDefEqProofs (maxSteps:=999999) (disch:=omega)
    (repeat refine⟨by first|assumption|omega,?_⟩);refine hK _ _ (by simp(disch:=omega)) ?_;clear hK K
    refine zr ?_
    rw[BF,e0,if_neg (fun h=>hm h.2)]
    exact⟨⟨((x.1-1:Nat):Int),q.1⟩,by simp⟩
theorem QB (g:Gr) (v:Int) (h0:0≤v) (hg:(g.out.length:Int)=g.n):Aa pg 202 [.agg (A3 false g),.int .i64 v] [] (fun r _=>r= .ro (AF g v).length (Ae (AF g v))∨AF g v=[]∧r= .own 1 0 []):=by
 refine Aa.start (fn:=Tryz.f202) [.tmp 4] tk rfl rfl rfl (by kernel_rfl) (Nat.le_of_ble_eq_true rfl) rfl (by kernel_rfl) ?_
 rw[Ar]
 refine z1 ?_;intro K hK;refine zk ?_;clear hK K
 refine z0 ?_;intro K hK
 refine Ab.eq (Vw g v) (by simp) (by simp) ?_
 by_cases h:0≤v∧v<g.n
 .rw[decide_eq_true h]
  refine zx ?_
  refine zk ?_;clear hK K
  refine zn ?_
  refine W.skip ?_
  obtain⟨n,rfl⟩:=Int.eq_ofNat_of_zero_le h.1
  have hlt:n<g.out.length:=by omega
  (repeat refine W.seq ?_);refine W.reg 0 rfl fun K hK=>?_;simp -implicitDefEqProofs (maxSteps:=999999) (disch:=omega) [hlt]
  refine zk ?_;clear hK K
  refine zr ?_
  simp[AF,List.getD,hlt]
 .rw[decide_eq_false h]
  refine zx ?_
  refine zk ?_;clear hK K
  refine zt ?_
  refine zs ?_
  refine zr ?_
  show AF g v=[]
  unfold AF
  rw[List.getD_eq_getElem?_getD,List.getElem?_eq_none (by omega)]
  rfl
theorem L6 {bs:List Bool} {p:Nat} {v:Int} {ref:List Int} {r:List Int×Nat} (hv:-100000≤v∧v≤100000) (h:CM bs p v ref=some r):AH r.1∧r.1.length≤16∧r.2≤bs.length:=by
 unfold CM at h
 split at h
 .simp at h
 .split at h
  .split at h
   .simp at h
   .split at h
    .simp at h
    .rename_i r0 hr0
     have g0:=IY hv hr0
     split at h
     .rename_i l hl
      simp at h;subst h
      unfold Cu at hl
      split at hl
      .simp at hl
      .split at hl
       .rename_i hm
        simp at hl;subst hl
        exact⟨hm.1,Bq hm.1,g0.2.2.2⟩
       .simp at hl
     .simp at h
  .simp at h
theorem U9 (b:Da) (g:Gr) (hb:Du b) (hg:A1 g):U7 200 [.rptr (Cs b),.rptr (A3 false g)] (fun p v=>CM (As b) p v (AF g v)) (As b).length:=by
 intro p v hp hv
 have hl:=Cg b
 have h2:=hb.2.1;have h3:=hb.2.2;have h0:=hb.1
 have hbl:(AF g v).length≤16:=by
  unfold AF
  rw[List.getD_eq_getElem?_getD]
  cases hq:g.out[v.toNat]? with
  |none=>simp
  |some l=>exact Bq (hg.2.2.2.1 l (List.mem_of_getElem? hq)).1
 refine Aa.start (fn:=Tryz.f200) [.tmp 6,.tmp 7,.tmp 8] tk rfl rfl rfl (by kernel_rfl) (Nat.le_of_ble_eq_true rfl) rfl (by kernel_rfl) ?_
 simp only[List.cons_append,List.nil_append]
 rw[Ic]
 refine zs ?_
 refine B9 ?_;intro K hK
 refine⟨_,_,QB g v hv.1 hg.2.2.1,.inr ⟨by simp,?_⟩⟩
 have sp:=Pj b p v (AF g v) hb (by omega) (by omega) (by omega)
 rintro r hr
 cases hc:CM (As b) p v (AF g v) with
 |none=>
  simp only[hc,J3] at sp
  rcases hr with rfl| ⟨h1,rfl⟩
  .refine zx ?_
   refine⟨_,_,sp,.inr ⟨by simp,?_⟩⟩
   rintro _ ⟨xs,a,rfl⟩
   refine zx ?_
   refine zk ?_;clear hK K
   refine zr ?_
   rw[hc]
   exact⟨xs,a,rfl⟩
  .refine zx ?_
   rw[h1] at sp
   refine⟨_,_,sp,.inl ⟨rfl,⟨[],by simp[BK]⟩,?_⟩⟩
   rintro _ ⟨xs,a,rfl⟩
   refine⟨by simp,?_⟩
   refine zx ?_
   refine zk ?_;clear hK K
   refine zr ?_
   rw[hc]
   exact⟨xs,a,rfl⟩
 |some q=>
  simp only[hc,J3] at sp
  rcases hr with rfl| ⟨h1,rfl⟩
  .refine zx ?_
   refine Ah.eqr sp (by simp) ?_
   refine zx ?_
   refine zk ?_;clear hK K
   refine zr ?_
   rw[hc]
   rfl
  .refine zx ?_
   rw[h1] at sp
   refine Ah.eq sp (by simp) (by simp) ?_
   refine zx ?_
   refine zk ?_;clear hK K
   refine zr ?_
   rw[hc]
   rfl
theorem XJ (b:Da) (g:Gr) (hb:Du b) (hg:A1 g):Aa pg 165 [.agg (A3 false g),.agg (Cs b)] [] (fun r _=>NG (BO g (As b)) r):=by
 have hl:=Cg b
 have h2:=hb.2.1;have h3:=hb.2.2;have h0:=hb.1
 have e0:=NH (As b) (fun p v=>CM (As b) p v (AF g v))
 refine Aa.start (fn:=Tryz.f165) [.cell 4 51,.tmp 5] tk rfl rfl rfl (by kernel_rfl) (Nat.le_of_ble_eq_true rfl) rfl (by kernel_rfl) ?_
 rw[Ar]
 refine z3 ?_;intro K hK;refine zk ?_;clear hK K
 refine z0 ?_;intro K hK
 have sp:=Tt b hb
 cases hh:Gz (As b) with
 |none=>
  simp only[hh,Qy] at sp e0
  refine Ab.eq sp (by simp) (by simp) ?_
  refine zx ?_
  refine zk ?_;clear hK K
  refine zs ?_
  refine zt ?_
  refine zs ?_
  refine W.weak (Wk.thaw (B:=2) (v:=0) (j:=1) (s:=1) (n:=0) (cs:=[.int .i64 0,.own 1 0 []]) (xs:=[]) rfl rfl) ?_
  refine zr ?_
  rw[BO,e0]
  exact⟨AJ,rfl⟩
 |some x=>
  have hx:x.1≤17∧AS (As b) 0=some x:=by
   unfold Gz at hh
   split at hh
   .rename_i y hy
    split at hh
    .simp at hh;subst hh;exact⟨by assumption,hy⟩
    .simp at hh
   .simp at hh
  obtain⟨hx1,hx2,hx3,hx4,_⟩:=AX hx.2
  have ex:(x.1:Int)-1=((x.1-1:Nat):Int):=by omega
  simp only[hh,Qy] at sp e0
  rw[ex] at sp e0
  refine Ab.eq sp (by simp) (by simp) ?_
  refine zx ?_
  refine zk ?_;clear hK K
  refine zs ?_
  refine zn ?_
  refine W.skip ?_
  refine z1 ?_;intro K hK
  have sp:=QA 200 [.rptr (Cs b),.rptr (A3 false g)] (fun p v=>CM (As b) p v (AF g v)) (x.1-1) x.2 (As b).length (by omega) (by omega) (by omega) (U9 b g hb hg) (fun p v r h h1 h2 h3=>by have:=L6 (by omega) h;exact⟨this.2.1,this.2.2⟩) (by simp) (by simp)
  cases hli:Bd (fun p v=>CM (As b) p v (AF g v)) (x.1-1) 0 x.2 with
  |none=>
   simp only[hli,Qz] at sp e0
   refine Ab.eq sp (by simp) (by simp[AJ]) ?_
   refine zx ?_
   refine zk ?_;clear hK K
   (repeat refine W.seq ?_);refine W.regdX 0 [(33,4),(33,29)] rfl true Ck (by kernel_rfl) fun K hK=>?_;simp -implicitDefEqProofs (maxSteps:=999999) (disch:=omega)
   (repeat refine⟨by first|assumption|omega,?_⟩);refine hK _ _ (by simp(disch:=omega)) ?_;clear hK K
   refine zr ?_
   rw[BO,e0]
   exact⟨AJ,rfl⟩
  |some q=>
   simp only[hli,Qz] at sp e0
   refine Ab.eq sp (by simp) (by simp) ?_
   by_cases hm:A1 ⟨((x.1-1:Nat):Int),q.1⟩
   .rw[decide_eq_true hm]
    refine zx ?_
    refine zk ?_;clear hK K
    (repeat refine W.seq ?_);refine W.regdX 0 [(33,4),(33,29)] rfl true Ck (by kernel_rfl) fun K hK=>?_;simp -implicitDefEqProofs (maxSteps:=999999) (disch:=omega)
    (repeat refine⟨by first|assumption|omega,?_⟩);refine hK _ _ (by simp(disch:=omega)) ?_;clear hK K
    refine zr ?_
    rw[BO,e0]
    by_cases hq:q.2=(As b).length
    .rw[if_pos ⟨hq,hm⟩]
     simp[NG]
     omega
    .rw[if_neg (fun h=>hq h.1)]
     refine⟨⟨((x.1-1:Nat):Int),q.1⟩,?_⟩
     simp
     omega
   .rw[decide_eq_false hm]
    refine zx ?_
    refine zk ?_;clear hK K
    (repeat refine W.seq ?_);refine W.regdX 0 [(33,4),(33,29)] rfl true Ck (by kernel_rfl) fun K hK=>?_;simp -implicitDefEqProofs (maxSteps:=999999) (disch:=omega)
    (repeat refine⟨by first|assumption|omega,?_⟩);refine hK _ _ (by simp(disch:=omega)) ?_;clear hK K
    refine zr ?_
    rw[BO,e0,if_neg (fun h=>hm h.2)]
    exact⟨⟨((x.1-1:Nat):Int),q.1⟩,by simp⟩
end Go.Abs
set_option maxRecDepth 100000
namespace Go.Abs
open Go.Proofs
theorem L7 (xs:List Obj) (f:Nat) (caps:List AV) (p:Obj→Bool) (hx:xs.length<1000000000000) (hf:∀x∈xs,Aa pg f ([.agg (Aq x)]++caps) [] fun r _=>r= .bool (p x)) (hcv:∀M,caps.map (vw M)=caps):
 Aa pg 210 [.ro xs.length (Ac Aq xs),.fn f caps] [] (fun r _=>r= .int .i64 (AI p xs)):=by
 refine Aa.start (fn:=Tryz.f210) [.tmp 4] tk rfl rfl rfl (by kernel_rfl) (Nat.le_of_ble_eq_true rfl) rfl (by kernel_rfl) ?_
 rw[Ar]
 refine zs ?_
 refine zs ?_
 (repeat refine W.seq ?_);refine W.block (W.loopS (fun k:Nat=> [(0,.ro xs.length (Ac Aq xs)),(1,.fn f caps),(7,.int .i64 xs.length),(8,.int .i64 k)]) (fun _=> []) (fun k=>xs.length-k) (fun k=>k≤xs.length∧∀i (h:i<xs.length),i<k→p xs[i]=false) 0 (Wk.fr ?_) (by simp) ?_)
 .simp[Ad]
 .rintro k ⟨hk,ht⟩
  refine zs ?_
  refine zc ?_ ?_<;>intro h
  .refine W.skip ?_
   have hlt:k<xs.length:=by omega
   refine zb ?_
   refine zs ?_
   (repeat refine W.seq ?_);refine W.reg 0 rfl fun K hK=>?_;simp -implicitDefEqProofs (maxSteps:=999999) (disch:=omega) [hlt]
   have sp:=hf xs[k] (List.getElem_mem hlt)
   refine Ab.eq sp (by simp[hcv]) (by simp) ?_
   refine zx ?_
   refine zk ?_;clear hK K
   cases hp:p xs[k]
   .refine zn ?_
    refine W.skip ?_
    refine zs ?_
    refine⟨k+1,by omega,⟨by omega,?_⟩,Wk.fr (by simp[Ad])⟩
    intro i hi hik
    by_cases e:i=k
    .subst e;exact hp
    .exact ht i hi (by omega)
   .refine zt ?_
    refine zs ?_
    refine zr ?_
    exact(D4 hlt hp fun i hi hik=>ht i hi hik).symm
  .refine W.exit ?_
   refine zs ?_
   refine zr ?_
   exact(Ek fun i hi=>ht i hi (by omega)).symm
theorem IZ (xs:List Bj) (f:Nat) (caps:List AV) (p:Bj→Bool) (hx:xs.length<1000000000000) (hf:∀x∈xs,Aa pg f ([.agg (Ay x)]++caps) [] fun r _=>r= .bool (p x)) (hcv:∀M,caps.map (vw M)=caps):
 Aa pg 123 [.ro xs.length (Ac Ay xs),.fn f caps] [] (fun r _=>r= .int .i64 (AI p xs)):=by
 refine Aa.start (fn:=Tryz.f123) [.tmp 4] tk rfl rfl rfl (by kernel_rfl) (Nat.le_of_ble_eq_true rfl) rfl (by kernel_rfl) ?_
 rw[Ar]
 refine zs ?_
 refine zs ?_
 (repeat refine W.seq ?_);refine W.block (W.loopS (fun k:Nat=> [(0,.ro xs.length (Ac Ay xs)),(1,.fn f caps),(7,.int .i64 xs.length),(8,.int .i64 k)]) (fun _=> []) (fun k=>xs.length-k) (fun k=>k≤xs.length∧∀i (h:i<xs.length),i<k→p xs[i]=false) 0 (Wk.fr ?_) (by simp) ?_)
 .simp[Ad]
 .rintro k ⟨hk,ht⟩
  refine zs ?_
  refine zc ?_ ?_<;>intro h
  .refine W.skip ?_
   have hlt:k<xs.length:=by omega
   refine zb ?_
   refine zs ?_
   (repeat refine W.seq ?_);refine W.reg 0 rfl fun K hK=>?_;simp -implicitDefEqProofs (maxSteps:=999999) (disch:=omega) [hlt]
   have sp:=hf xs[k] (List.getElem_mem hlt)
   refine Ab.eq sp (by simp[hcv]) (by simp) ?_
   refine zx ?_
   refine zk ?_;clear hK K
   cases hp:p xs[k]
   .refine zn ?_
    refine W.skip ?_
    refine zs ?_
    refine⟨k+1,by omega,⟨by omega,?_⟩,Wk.fr (by simp[Ad])⟩
    intro i hi hik
    by_cases e:i=k
    .subst e;exact hp
    .exact ht i hi (by omega)
   .refine zt ?_
    refine zs ?_
    refine zr ?_
    exact(D4 hlt hp fun i hi hik=>ht i hi hik).symm
  .refine W.exit ?_
   refine zs ?_
   refine zr ?_
   exact(Ek fun i hi=>ht i hi (by omega)).symm
theorem RE (xs:List CT) (f:Nat) (caps:List AV) (p:CT→Bool) (hx:xs.length<1000000000000) (hf:∀x∈xs,Aa pg f ([.agg ((AB false) x)]++caps) [] fun r _=>r= .bool (p x)) (hcv:∀M,caps.map (vw M)=caps):
 Aa pg 189 [.ro xs.length (Ac (AB false) xs),.fn f caps] [] (fun r _=>r= .int .i64 (AI p xs)):=by
 refine Aa.start (fn:=Tryz.f189) [.tmp 4] tk rfl rfl rfl (by kernel_rfl) (Nat.le_of_ble_eq_true rfl) rfl (by kernel_rfl) ?_
 rw[Ar]
 refine zs ?_
 refine zs ?_
 (repeat refine W.seq ?_);refine W.block (W.loopS (fun k:Nat=> [(0,.ro xs.length (Ac (AB false) xs)),(1,.fn f caps),(7,.int .i64 xs.length),(8,.int .i64 k)]) (fun _=> []) (fun k=>xs.length-k) (fun k=>k≤xs.length∧∀i (h:i<xs.length),i<k→p xs[i]=false) 0 (Wk.fr ?_) (by simp) ?_)
 .simp[Ad]
 .rintro k ⟨hk,ht⟩
  refine zs ?_
  refine zc ?_ ?_<;>intro h
  .refine W.skip ?_
   have hlt:k<xs.length:=by omega
   refine zb ?_
   refine zs ?_
   (repeat refine W.seq ?_);refine W.reg 0 rfl fun K hK=>?_;simp -implicitDefEqProofs (maxSteps:=999999) (disch:=omega) [hlt]
   have sp:=hf xs[k] (List.getElem_mem hlt)
   refine Ab.eq sp (by simp[hcv]) (by simp) ?_
   refine zx ?_
   refine zk ?_;clear hK K
   cases hp:p xs[k]
   .refine zn ?_
    refine W.skip ?_
    refine zs ?_
    refine⟨k+1,by omega,⟨by omega,?_⟩,Wk.fr (by simp[Ad])⟩
    intro i hi hik
    by_cases e:i=k
    .subst e;exact hp
    .exact ht i hi (by omega)
   .refine zt ?_
    refine zs ?_
    refine zr ?_
    exact(D4 hlt hp fun i hi hik=>ht i hi hik).symm
  .refine W.exit ?_
   refine zs ?_
   refine zr ?_
   exact(Ek fun i hi=>ht i hi (by omega)).symm
theorem NO (xs:List Bj) (f:Nat) (caps:List AV) (p:Bj→Bool) (hx:xs.length<1000000000000) (hf:∀x∈xs,Aa pg f ([.agg (Ay x)]++caps) [] fun r _=>r= .bool (p x)) (hcv:∀M,caps.map (vw M)=caps) (hcc:∀M k,caps.map (Cp M k)=caps):
 Aa pg 131 [.ro xs.length (Ac Ay xs),.fn f caps] [] (fun r _=>r= .bool (xs.any p)):=by
 refine Aa.start (fn:=Tryz.f131) [.tmp 4] tk rfl rfl rfl (by kernel_rfl) (Nat.le_of_ble_eq_true rfl) rfl (by kernel_rfl) ?_
 rw[Ar]
 refine zs ?_
 refine z0 ?_;intro K hK
 refine Ab.eq (IZ xs f caps p hx hf hcv) (by simp[hcc]) (by simp) ?_
 refine zx ?_
 refine zk ?_;clear hK K
 refine zr ?_
 rw[Bool.eq_iff_iff]
 simp[Cw]
theorem XK (o:Obj) (id:Int):Aa pg 214 ([.agg (Aq o)]++[.rptr [.int .i64 id]]) [] (fun r _=>r= .bool (decide (o.id=id))):=by
 refine Aa.start (fn:=Tryz.f214) [.tmp 3] tk rfl rfl rfl (by kernel_rfl) (Nat.le_of_ble_eq_true rfl) rfl (by kernel_rfl) ?_
 simp only[List.cons_append,List.nil_append]
 rw[Ar]
 refine z1 ?_;intro K hK;refine zk ?_;clear hK K
 refine zs ?_
 exact zR
theorem L8 (xs:List Obj) (id:Int) (hx:xs.length<1000000000000):Aa pg 177 [.ro xs.length (Ac Aq xs),.int .i64 id] [] (fun r _=>r= .int .i64 (AI (fun o=>decide (o.id=id)) xs)):=by
 refine Aa.start (fn:=Tryz.f177) [.tmp 4] tk rfl rfl rfl (by kernel_rfl) (Nat.le_of_ble_eq_true rfl) rfl (by kernel_rfl) ?_
 rw[Ar]
 refine z1 ?_;intro K hK;refine zk ?_;clear hK K
 refine z0 ?_;intro K hK
 refine Ab.eq (L7 xs 214 [.rptr [.int .i64 id]] (fun o=>decide (o.id=id)) hx (fun o _=>XK o id) (by simp)) (by simp) (by simp) ?_
 refine zx ?_
 refine zk ?_;clear hK K
 exact zR
end Go.Abs
set_option maxRecDepth 100000
namespace Go.Abs
open Go.Proofs
theorem Va (x y:Nat) (hx:x<256) (hy:y<256):Cx .and (.int .u8 x) (.int .u8 y)=some (.int .u8 ((x&&&y:Nat):Int)):=by
 rw[Mz]
 have e (n:Nat) (h:n<256):(BitVec.ofInt IntKind.u8.bits (n:Int)).toNat=n:=by
  rw[BitVec.toNat_ofInt];simp[IntKind.bits] at*;omega
 have e1:(BitVec.ofInt IntKind.u8.bits (x:Int)&&&BitVec.ofInt IntKind.u8.bits (y:Int)).toNat=x&&&y:=by
  rw[BitVec.toNat_and,e x hx,e y hy]
 have h4:x&&&y<256:=Nat.lt_of_le_of_lt Nat.and_le_left hx
 rw[e1]
 simp[IntKind.wrap,IntKind.bits,IntKind.signed]
 omega
theorem Tu:∀x:Fin 256,∀l:Fin 8,((x.val&&&(255/2^l.val))=0↔∀j:Fin 8,l≤j→x.val/2^(7-j.val)%2≠1):=by decide+kernel
theorem Tv {b:Da} (h0:0≤b.n) (h1:b.n≤6000) (h:(b.data.size:Int)=(b.n+8-1)/8) (h2:¬b.n%8=0):C2 b↔(CW b.data (b.data.size-1)&&&(255/2^(b.n%8).toNat))=0:=by
 have hl:=Tu ⟨_,HN b.data (b.data.size-1)⟩ ⟨(b.n%8).toNat,by omega⟩
 simp only at hl
 rw[hl]
 refine⟨fun g j hj=>?_,fun g=>⟨h0,h1,by omega,fun i hi hn=>?_⟩⟩
 .have hj2:=Fin.le_def.1 hj
  simp only at hj2
  have:=g.2.2.2 (8*(b.data.size-1)+j) (by omega) (by omega)
  simp only[Es,decide_eq_false_iff_not] at this
  rw[show(8*(b.data.size-1)+j.val)/8=b.data.size-1 by omega,show(8*(b.data.size-1)+j.val)%8=j.val by omega] at this
  exact this
 .have:=g ⟨i%8,by omega⟩ (Fin.le_def.2 (by simp only;omega))
  simp only[Es,decide_eq_false_iff_not]
  rw[show i/8=b.data.size-1 by omega]
  exact this
theorem Tw (b:Da) (h3:b.data.size<1000000000):Aa pg 118 [.agg (Cs b)] [] (fun r _=>r= .bool (decide (C2 b))):=by
 refine Aa.start (fn:=Tryz.f118) [.tmp 2] tk rfl rfl rfl (by kernel_rfl) (Nat.le_of_ble_eq_true rfl) rfl (by kernel_rfl) ?_
 rw[Av]
 refine z1 ?_;intro K hK;refine zk ?_;clear hK K
 by_cases h0:b.n<0
 .refine Af h0 ?_;intro K hK
  refine zk ?_;clear hK K
  refine zt ?_
  refine zs ?_
  refine zr ?_
  intro h;have:=h.1;omega
 .by_cases h1:b.n≤6000
  .refine Af (an h0 h1) ?_;intro K hK
   refine zk ?_;clear hK K
   refine zc ?_ ?_<;>intro h
   .refine zs ?_
    refine zr ?_
    intro g;have:=g.2.2.1;omega
   .refine W.skip ?_
    refine zs ?_
    by_cases h2:b.n%8=0
    .refine Br h2 ?_;intro K hK
     refine zk ?_;clear hK K
     refine zr ?_
     refine⟨by omega,h1,by omega,fun i hi hn=>by omega⟩
    .have e:((255:Int)/2^(b.n%8).toNat)=((255/2^(b.n%8).toNat:Nat):Int):=by simp
     have h8:255/2^(b.n%8).toNat<256:=Nat.lt_of_le_of_lt (Nat.div_le_self _ _) (by omega)
     refine Br h2 ?_;intro K hK
     refine⟨by omega,?_⟩
     rw[e,Va _ _ (HN _ _) h8]
     simp
     refine zk ?_;clear hK K
     refine zr ?_
     rw[Tv (by omega) h1 h h2]
  .refine Af (an h0 h1) ?_;intro K hK
   refine zk ?_;clear hK K
   refine zt ?_
   refine zs ?_
   refine zr ?_
   intro h;have:=h.2.1;omega
end Go.Abs
set_option maxRecDepth 100000
namespace Go.Abs
open Go.Proofs
theorem Y0 {α:Type} (f:α→Int) (l:List α):l.Pairwise (fun a b=>f a<f b)↔∀k (h:k<l.length),0<k→f (l[k-1]'(by omega))<f l[k]:=by
 constructor
 .intro h k hk h0
  exact List.pairwise_iff_getElem.1 h (k-1) k (by omega) hk (by omega)
 .intro h
  rw[List.pairwise_iff_getElem]
  intro i j hi hj hij
  induction j with
  |zero=>omega
  |succ j ih=>
   have h1:=h (j+1) hj (by omega)
   simp only[Nat.add_sub_cancel] at h1
   by_cases e:i=j
   .subst e;exact h1
   .have:=ih (by omega) (by omega);omega
def D9 (l:List Obj):Prop:=l.length<1000000000000∧∀o∈l,o.data.data.size<1000000000
def L9 (l:List Obj) (o:Obj):Prop:=1≤o.id∧o.id≤1048576∧C2 o.data∧o.base≠o.id∧(o.base=0∨∃q∈l,q.id=o.base)
theorem K7 (l:List Obj):Cj l↔l.length≤12∧∀k (h:k<l.length),L9 l l[k]∧(0<k→l[k-1].id<l[k].id):=by
 unfold Cj
 rw[Y0 (fun o:Obj=>o.id)]
 constructor
 .rintro⟨h1,h2,h3⟩
  exact⟨h1,fun k h=>⟨h2 _ (List.getElem_mem h),h3 k h⟩⟩
 .rintro⟨h1,h2⟩
  refine⟨h1,fun o ho=>?_,fun k h=>(h2 k h).2⟩
  obtain⟨k,hk,rfl⟩:=List.mem_iff_getElem.1 ho
  exact(h2 k hk).1
theorem Tx (xs:List Obj) (hx:D9 xs):Aa pg 172 [.ro xs.length (Ac Aq xs)] [] (fun r _=>r= .bool (decide (Cj xs))):=by
 have hx1:=hx.1
 refine Aa.start (fn:=Tryz.f172) [.tmp 2] tk rfl rfl rfl (by kernel_rfl) (Nat.le_of_ble_eq_true rfl) rfl (by kernel_rfl) ?_
 rw[Av]
 refine zs ?_
 refine zs ?_
 refine zc ?_ ?_<;>intro h
 .refine zs ?_
  refine zr ?_
  intro g;have:=g.1;omega
 .refine W.skip ?_
  refine zs ?_
  (repeat refine W.seq ?_);refine W.block (W.loopS (fun k:Nat=> [(0,.ro xs.length (Ac Aq xs)),(8,.ro xs.length (Ac Aq xs)),(9,.int .i64 xs.length),(10,.int .i64 k)]) (fun _=> []) (fun k=>xs.length-k) (fun k=>k≤xs.length∧∀i (h:i<xs.length),i<k→L9 xs xs[i]∧(0<i→xs[i-1].id<xs[i].id)) 0 (Wk.fr ?_) (by simp) ?_)
  .simp[Ad]
  .rintro k ⟨hk,ht⟩
   refine zs ?_
   refine zc ?_ ?_<;>intro h
   .refine W.skip ?_
    have hlt:k<xs.length:=by omega
    have hB:=Tw xs[k].data (hx.2 _ (List.getElem_mem hlt))
    refine zb ?_
    (repeat refine W.seq ?_);refine W.reg 1 rfl fun K hK=>?_;simp -implicitDefEqProofs (maxSteps:=999999) (disch:=omega) [hlt]
    refine zk ?_;clear hK K
    have bad:¬(L9 xs xs[k]∧(0<k→xs[k-1].id<xs[k].id))→¬Cj xs:=fun g h=>g (((K7 xs).1 h).2 k hlt)
    by_cases c1:xs[k].id<1
    .refine Br c1 ?_;intro K hK
     refine zk ?_;clear hK K
     refine zt ?_
     refine zs ?_
     refine zr ?_
     exact bad fun g=>by have:=g.1.1;omega
    .by_cases c2:xs[k].id≤1048576
     .by_cases c3:0<k∧xs[k].id≤xs[k-1].id
      .have c3a:=c3.1
       have c3b:=c3.2
       refine Br (an c1 (an c2 (an c3a c3b))) ?_;intro K hK
       refine⟨by omega,?_⟩
       refine zk ?_;clear hK K
       refine zt ?_
       refine zs ?_
       refine zr ?_
       exact bad fun g=>by have:=g.2 c3a;omega
      .have key:(¬0<k∧True)∨(0<k∧¬xs[k].id≤xs[k-1].id):=by
        by_cases c4:0<k
        .exact .inr ⟨c4,fun h=>c3 ⟨c4,h⟩⟩
        .exact .inl ⟨c4,trivial⟩
       rcases key with⟨c4,c5⟩ | ⟨c4,c5⟩
       all_goals
        refine Br (an c1 (an c2 (an c4 c5))) ?_;intro K hK
        try refine⟨by omega,?_⟩
        try simp -implicitDefEqProofs (maxSteps:=999999) (disch:=omega) [c1,c2,c4,c5]
        refine Ah.eq hB (by simp) (by simp) ?_
        by_cases hb:C2 xs[k].data
        .rw[decide_eq_true hb]
         refine zx ?_
         refine zk ?_;clear hK K
         refine zn ?_
         refine W.skip ?_
         by_cases d1:xs[k].base=xs[k].id
         .refine Af d1 ?_;intro K hK
          refine zk ?_;clear hK K
          refine zt ?_
          refine zs ?_
          refine zr ?_
          exact bad fun g=>g.1.2.2.2.1 d1
         .by_cases d2:xs[k].base=0
          .refine Af (an d1 d2) ?_;intro K hK
           refine zk ?_;clear hK K
           refine zn ?_
           refine W.skip ?_
           refine zs ?_
           refine⟨k+1,by omega,⟨by omega,fun i hi hik=>?_⟩,Wk.cutM (k:=0) (by simp[Ad]) (by simp) (by simp) (by simp) (by simp) (by simp)⟩
           by_cases e:i=k
           .subst e;exact⟨⟨by omega,c2,hb,d1,.inl d2⟩,fun _=>by omega⟩
           .exact ht i hi (by omega)
          .refine Af (an d1 d2) ?_;intro K hK
           refine Ab.eq (L8 xs xs[k].base hx1) (by simp) (by simp) ?_
           by_cases d3:∃q∈xs,q.id=xs[k].base
           .have d4:0≤AI (fun o:Obj=>decide (o.id=xs[k].base)) xs:=Cw.2 (by simpa using d3)
            refine AO d4 ?_
            refine zk ?_;clear hK K
            refine zn ?_
            refine W.skip ?_
            refine zs ?_
            refine⟨k+1,by omega,⟨by omega,fun i hi hik=>?_⟩,Wk.cutM (k:=0) (by simp[Ad]) (by simp) (by simp) (by simp) (by simp) (by simp)⟩
            by_cases e:i=k
            .subst e;exact⟨⟨by omega,c2,hb,d1,.inr d3⟩,fun _=>by omega⟩
            .exact ht i hi (by omega)
           .have d4:AI (fun o:Obj=>decide (o.id=xs[k].base)) xs<0:=by
             apply Classical.byContradiction
             intro g
             exact d3 (by simpa using Cw.1 (by omega:0≤AI (fun o:Obj=>decide (o.id=xs[k].base)) xs))
            refine AO d4 ?_
            refine zk ?_;clear hK K
            refine zt ?_
            refine zs ?_
            refine zr ?_
            exact bad fun g=>by
             rcases g.1.2.2.2.2 with g|g
             .exact d2 g
             .exact d3 g
        .rw[decide_eq_false hb]
         refine zx ?_
         refine zk ?_;clear hK K
         refine zt ?_
         refine zs ?_
         refine zr ?_
         exact bad fun g=>hb g.1.2.2.1
     .refine Br (an c1 c2) ?_;intro K hK
      refine zk ?_;clear hK K
      refine zt ?_
      refine zs ?_
      refine zr ?_
      exact bad fun g=>by have:=g.1.2.1;omega
   .refine W.exit ?_
    refine zs ?_
    refine zr ?_
    rw[K7]
    exact⟨by omega,fun i hi=>ht i hi (by omega)⟩
end Go.Abs
set_option maxRecDepth 100000
namespace Go.Abs
open Go.Proofs
theorem El {l:List Obj} {id:Int} {o:Obj} (h:A7 l id=some o):∃k,∃hk:k<l.length,AI (fun o:Obj=>decide (o.id=id)) l=(k:Int)∧l[k]=o∧o.id=id:=by
 unfold A7 at h
 obtain⟨h1,k,hk,h2,h3⟩:=List.find?_eq_some_iff_getElem.1 h
 refine⟨k,hk,D4 hk (by rw[h2];exact h1) (fun i hi hik=>by simpa using h3 i hik),h2,by simpa using h1⟩
theorem Ma {l:List Obj} {id:Int} (h:A7 l id=none):AI (fun o:Obj=>decide (o.id=id)) l=-1:=
 Ek fun i hi=>by
  have:=List.find?_eq_none.1 h l[i] (List.getElem_mem hi)
  simpa using this
theorem I0 {l:List Obj} {id:Int} (h:∃q∈l,q.id=id):∃o,A7 l id=some o:=by
 cases h' :A7 l id with
 |some o=>exact⟨o,rfl⟩
 |none=>
  obtain⟨q,hq,he⟩:=h
  have:=List.find?_eq_none.1 h' q hq
  simp[he] at this
theorem DX {l:List Obj} {id:Int} {o:Obj} (h:A7 l id=some o):o∈l:=List.mem_of_find?_eq_some h
theorem Ik (l:List Obj):∀(k:Nat) (id:Int),(AL l k id).length≤k
 |0,id=>by simp[AL]
 |k+1,id=>by
  unfold AL
  split
  .simp
  .split
   .simp;exact Ik l k _
   .simp
theorem RF (xs:List Obj) (id:Int) (m:Nat) (hx:D9 xs) (hm:m≤1000) (hb:∀o∈xs,o.base=0∨∃q∈xs,q.id=o.base) (BK:id=0∨∃q∈xs,q.id=id):Aa pg 163 [.ro xs.length (Ac Aq xs),.int .i64 id,.int .i64 m] [] (fun r _=>r= .own 4 (AL xs m id).length (Ac Aq (AL xs m id))):=by
 have hx1:=hx.1
 refine Aa.start (fn:=Tryz.f163) [.tmp 6] tk rfl rfl rfl (by kernel_rfl) (Nat.le_of_ble_eq_true rfl) rfl (by kernel_rfl) ?_
 rw[Bi]
 refine zs ?_
 (repeat refine W.seq ?_);refine W.block (W.loopS (fun s:List Obj×Int=> [(0,.ro xs.length (Ac Aq xs)),(1,.int .i64 s.2),(2,.int .i64 m),(6,.tok 0 s.1.length 4 0 s.1.length)]) (fun s=> [.live s.1.length (Ac Aq s.1)]) (fun s=>m-s.1.length) (fun s=>s.1.length≤m∧(s.2=0∨∃q∈xs,q.id=s.2)∧AL xs m id=s.1++AL xs (m-s.1.length) s.2) ([],id) ((Wk.nil (t:=6) (s:=4) ?_).trans (Wk.fr ?_)) ⟨by simp,BK,by simp⟩ ?_)
 .simp
 .simp[Ad]
 .rintro⟨acc,q⟩ ⟨hk,hq,hw⟩
  simp only at hk hq hw
  by_cases h0:q=0
  .refine Af h0 ?_;intro K hK
   refine zk ?_;clear hK K
   refine zn ?_
   refine W.exit ?_
   refine zs ?_
   refine zr ?_
   have:AL xs m id=acc:=by
    rw[hw,h0]
    cases m-acc.length<;>simp[AL]
   rw[this]
   simp
  .by_cases h1:acc.length<m
   .obtain⟨o,ho⟩:=I0 (by rcases hq with h|h;exact absurd h h0;exact h)
    obtain⟨k,hlt,hi,hko,hoi⟩:=El ho
    refine Af (an h0 h1) ?_;intro K hK
    refine zk ?_;clear hK K
    refine zt ?_
    refine W.skip ?_
    refine zb ?_
    refine z1 ?_;intro K hK
    refine Ab.eq (L8 xs q hx1) (by simp) (by simp) ?_
    rw[hi]
    refine AO (an hlt hko) ?_
    refine zk ?_;clear hK K
    (repeat refine W.seq ?_);refine W.regd 1 rfl true Ck (by kernel_rfl) fun K hK=>?_;simp -implicitDefEqProofs (maxSteps:=999999) (disch:=omega)
    refine⟨by omega,by omega,?_⟩
    refine zk ?_;clear hK K
    refine⟨(acc++[o],o.base),by simp;omega,⟨by simp;omega,hb o (DX ho),?_⟩,Wk.cutM (k:=1) (by simp[Ad]) (by simp[Cr,Az]) (by simp) (by simp) (by simp) (by simp)⟩
    rw[hw]
    obtain⟨d,hd⟩:∃d,m-acc.length=d+1:=⟨m-acc.length-1,by omega⟩
    rw[hd]
    simp only[AL,if_neg h0,ho]
    simp
    congr 1
    omega
   .refine Af (an h0 h1) ?_;intro K hK
    refine zk ?_;clear hK K
    refine zn ?_
    refine W.exit ?_
    refine zs ?_
    refine zr ?_
    have:AL xs m id=acc:=by
     rw[hw,show m-acc.length=0 by omega]
     simp[AL]
    rw[this]
    simp
theorem Ty (xs:List Obj) (id:Int) (hx:D9 xs) (hb:∀o∈xs,o.base=0∨∃q∈xs,q.id=o.base):Aa pg 161 [.ro xs.length (Ac Aq xs),.int .i64 id] [] (fun r _=>r= .tup [.int .i64 (AT xs id).1,.int .i64 (AT xs id).2]):=by
 have hx1:=hx.1
 refine Aa.start (fn:=Tryz.f161) [.tmp 4,.tmp 5] tk rfl rfl rfl (by kernel_rfl) (Nat.le_of_ble_eq_true rfl) rfl (by kernel_rfl) ?_
 rw[Ar]
 refine zs ?_
 refine z0 ?_;intro K hK
 refine Ab.eq (L8 xs id hx1) (by simp) (by simp) ?_
 cases ho:A7 xs id with
 |none=>
  rw[Ma ho]
  refine zx ?_
  refine zk ?_;clear hK K
  refine zt ?_
  refine zs ?_
  refine zr ?_
  simp[AT,ho]
 |some o=>
  obtain⟨k,hlt,hi,hko,hoi⟩:=El ho
  rw[hi]
  refine zx ?_
  refine zk ?_;clear hK K
  refine zn ?_
  refine W.skip ?_
  have hw:=Ik xs 4 id
  refine z0 ?_;intro K hK
  refine Ab.eq (RF xs id 4 hx (by omega) hb (.inr ⟨o,DX ho,hoi⟩)) (by simp) (by simp) ?_
  refine zx ?_
  refine zk ?_;clear hK K
  by_cases h4:3<(AL xs 4 id).length
  .refine Af h4 ?_;intro K hK
   refine zk ?_;clear hK K
   refine zt ?_
   refine zs ?_
   refine zr ?_
   simp[AT,ho,h4]
  .refine Af h4 ?_;intro K hK
   refine zk ?_;clear hK K
   refine zn ?_
   refine W.skip ?_
   refine zs ?_
   refine zr ?_
   simp[AT,ho,h4]
end Go.Abs
set_option maxRecDepth 100000
namespace Go.Abs
open Go.Proofs
theorem RG (w:World) (x:Value):Calls pg 162 #[x] w fun e w' =>e= .returned (.func (.func 195) #[] #[.pointer (some ⟨w.heap.size,0,none⟩)])∧w' =w.alloc (.cells x.cells 65):=by
 refine(callsIn_wide (n:=0)).1 (callsIn_of_wp (n:=0) (fn:=Tryz.f162) rfl rfl trivial ?_)
 refine wpIn_seq (wpIn_region_lit ?_)
 simp[wpListIn,Region.wanted,Oper.wpIn,Oper.semAt,Fence.wide,execOp,Instr.box,newVar,newRow,Act.eval,Act.put,Oper.uponIn_value,Tryz.f162]
 show Code.wpIn _ _ _ _ _ _ _
 refine wpIn_seq (wpIn_region_lit ?_)
 simp[wpListIn,Region.wanted,Oper.wpIn,Oper.semAt,execOp,Act.eval,Act.put,Oper.uponIn_value]
 show Code.wpIn _ _ _ _ _ _ _
 refine wpIn_ret ?_
 simp[bodyPost,results]
 exact⟨rfl,rfl⟩
def MC (o:Obj):Value:= .agg #[.int .i64 o.id,.int .i64 o.base,.string o.data.data,.int .i64 o.data.n]
theorem XL (w:World) (sh:Nat→Prop) (σ:Nat→Nat→Option St) (o:Obj):VR w sh σ (.agg (Aq o)) (MC o) (fun _=>0):=by
 simp only[VR,Aq,MC]
 exact⟨_,rfl,_,_,_,_,rfl,⟨rfl,fun _=>rfl⟩,⟨_,_,_,_,rfl,⟨rfl,fun _=>rfl⟩,⟨_,_,_,_,rfl,⟨rfl,fun _=>rfl⟩,⟨_,_,_,_,rfl,⟨rfl,fun _=>rfl⟩,⟨rfl,fun _=>rfl⟩,fun _=>rfl⟩,fun _=>rfl⟩,fun _=>rfl⟩,fun _=>rfl⟩
theorem XM {w:World} {sh:Nat→Prop} {σ:Nat→Nat→Option St} {o:Obj} {x:Value} {fp:Nat→Nat} (h:VR w sh σ (.agg (Aq o)) x fp):x=MC o:=by
 simp only[VR,Aq,At] at h
 obtain⟨cs,rfl,_,_,_,_,h0,⟨rfl,_⟩,⟨_,_,_,_,rfl,⟨rfl,_⟩,⟨_,_,_,_,rfl,⟨rfl,_⟩,⟨_,_,_,_,rfl,⟨rfl,_⟩,⟨rfl,_⟩,_⟩,_⟩,_⟩,_⟩:=h
 unfold MC
 congr 1
 exact Array.ext' (by simpa using h0)
def Vx (h:Nat) (ws:List Obj) (W:World):Prop:=∃sh:Nat→Prop,(∀g,sh g→g<W.heap.size)∧VR W sh σ0 (.rptr [.ro ws.length (Ac Aq ws)]) (.pointer (some ⟨h,0,none⟩)) (fun _=>0)
def Pl (l h:Nat) (i:Int) (a:Act):Prop:=a.tmps.size=19∧a.defers=[]∧a.tmps.getD 0 undef= .func (.yield l) #[] #[]∧a.tmps.getD 1 undef= .pointer (some ⟨h,0,none⟩)∧a.tmps.getD 3 undef= .int .i64 i
theorem Bv {a:Act} {d t:Nat} {v:Value} (hd:t≠d):(a.put (some d) v).tmps.getD t undef=a.tmps.getD t undef:=by
 have:¬d=t:=fun e=>hd e.symm
 by_cases ht:t<a.tmps.size<;>simp[Act.put,Array.getD,ht,Array.getElem_setIfInBounds,this]
theorem Ev {a:Act} {d:Nat} {v:Value} (hd:d<a.tmps.size):(a.put (some d) v).tmps.getD d undef=v:=by
 simp[Act.put,Array.getD,hd]
theorem Pl.put {l h:Nat} {i:Int} {a:Act} (s:Pl l h i a) {d:Nat} (h0:d≠0) (h1:d≠1) (h3:d≠3) (v:Value):Pl l h i (a.put (some d) v):=
 ⟨by simp[Act.put,s.1],s.2.1,by rw[Bv (Ne.symm h0)];exact s.2.2.1,by rw[Bv (Ne.symm h1)];exact s.2.2.2.1,by rw[Bv (Ne.symm h3)];exact s.2.2.2.2⟩
def Fi (ws:List Obj) (i:Int):Fr:=fun t=>if t=1 then .rptr [.ro ws.length (Ac Aq ws)] else if t=3 then .int .i64 i else .any
theorem Pl.rel {l h:Nat} {i:Int} {a:Act} {ws:List Obj} {W:World} (s:Pl l h i a) (v:Vx h ws W):∃sh,AG ⟨pg,19,sh,W,fun _=>none,σ0,0,none,[]⟩ (Fi ws i) [] a W σ0 (fun _=>none):=by
 obtain⟨sh,h1,h2⟩:=v
 refine⟨sh,s.1,s.2.1,fun t ht=>?_,Gf _ _,fun g hg=>⟨rfl,h1 g hg⟩,Fd.refl _ _,fun _ _ _ h=>by simp at h⟩
 simp only[Fi]
 by_cases e1:t=1
 .subst e1;rw[if_pos rfl,s.2.2.2.1];exact h2
 .rw[if_neg e1]
  by_cases e3:t=3
  .subst e3;rw[if_pos rfl,s.2.2.2.2];exact⟨rfl,fun _=>rfl⟩
  .rw[if_neg e3];intro g;rfl
theorem Vb {ops:Array Oper} {Q:Exit→Act→World→Prop} {a:Act} {W:World} {d t ty:Nat} {pos:String} {af:Array Edge} {rest:List Oper} {x:Value} (hx:a.tmps.getD t undef=x) (h:wpListIn Fence.wide 0 pg ops Q rest (a.put (some d) x) W):
 wpListIn Fence.wide 0 pg ops Q ({dst:=some d,op:= .move (.tmp t),type:=ty,pos:=pos,after:=af,guard:=none}::rest) a W:=by
 simp only[wpListIn]
 rw[if_pos (by simp[Region.wanted])]
 refine⟨fun _ _=>trivial,?_⟩
 have e:Sem.run pg (execOp a.eval {dst:=some d,op:= .move (.tmp t),type:=ty,pos:=pos,after:=af,guard:=none}) W= .ok (.value x) W:=by
  have:a.eval (.tmp t)=x:=hx
  simp[execOp,this]
 rw[Oper.semAt_eq _ _ _ (by intro c h;cases h),e]
 exact h
theorem Tz {ops:Array Oper} {Q:Exit→Act→World→Prop} {a:Act} {W:World} {d t t1 t2 ty:Nat} {pos:String} {af:Array Edge} {ats:Array TypeId} {rest:List Oper} {l:Nat} {x y:Value} {f:FuncId} {tm:Array Value} {asg bd:Code} {RR:Ending→World→Prop} (h0:a.tmps.getD t undef= .func (.yield l) #[] #[]) (h1:a.tmps.getD t1 undef=x) (h2:a.tmps.getD t2 undef=y)
 (hy:(Instr.yield l #[x,y]).run pg W= .ok (.round l f tm asg bd) W) (hr:RoundIn Fence.wide 0 pg l f tm asg bd W RR) (h:∀e W',RR e W' →∃v,e= .returned v∧wpListIn Fence.wide 0 pg ops Q rest (a.put (some d) v) W'):
 wpListIn Fence.wide 0 pg ops Q ({dst:=some d,op:= .call {callee:= .value (.tmp t),args:= #[.tmp t1,.tmp t2],argTypes:=ats},type:=ty,pos:=pos,after:=af,guard:=none}::rest) a W:=by
 simp only[wpListIn]
 rw[if_pos (by simp[Region.wanted])]
 refine⟨fun _ _=>trivial,?_⟩
 have e0:a.eval (.tmp t)= .func (.yield l) #[] #[]:=h0
 have e1:a.eval (.tmp t1)=x:=h1
 have e2:a.eval (.tmp t2)=y:=h2
 have e:Sem.run pg (execOp a.eval {dst:=some d,op:= .call {callee:= .value (.tmp t),args:= #[.tmp t1,.tmp t2],argTypes:=ats},type:=ty,pos:=pos,after:=af,guard:=none}) W= .ok (.round l f tm asg bd) W:=by
  simp[execOp,resolve,e0,e1,e2,Deferred.ofValue,invoke,hy]
 rw[Oper.semAt_eq _ _ _ (by intro c h;cases h),e]
 refine⟨fun h=>absurd h (by simp[Fence.wide]),RoundIn.mono hr ?_⟩
 intro e W' hR
 obtain⟨v,rfl,hk⟩:=h e W' hR
 exact hk
theorem Y1 {a:Act} {W:World} {F:Fr} (hs:a.tmps.size=19) (hd:a.defers=[]) (hF:∀t,VR W (fun _=>False) σ0 (F t) (a.tmps.getD t undef) (fun _=>0)):AG ⟨pg,19,fun _=>False,W,fun _=>none,σ0,0,none,[]⟩ F [] a W σ0 (fun _=>none):=
 ⟨hs,hd,fun t _=>hF t,Gf _ _,fun g hg=>hg.elim,Fd.refl _ _,fun _ _ _ h=>by simp at h⟩
theorem NI {P:Program} {c:Code} {Q:Exit→Act→World→Prop} (n:Nat) (I:Nat→Act→World→Prop) (step:∀k a W,k≤n→I k a W→c.wpIn Fence.wide 0 P (Exit.then (fun a W=>k<n∧I (k+1) a W) Q) a W):
 ∀m k a W,k+m=n→I k a W→Code.roundsIn Fence.wide 0 P c Q (m+1) a W
 |0,k,a,W,hk,hI=>wpIn_mono (step k a W (by omega) hI) fun e a W h=>by
  cases e<;>first|exact h| (have:=h.1;omega)
 |m+1,k,a,W,hk,hI=>wpIn_mono (step k a W (by omega) hI) fun e a W h=>by
  cases e<;>first|exact h|exact NI n I step m (k+1) a W (by omega) h.2
noncomputable abbrev C5 (sh:Nat→Prop) (W:World):Bl:=⟨pg,19,sh,W,fun _=>none,σ0,0,none,[]⟩
theorem Vc (h:Nat) (ws:List Obj) (hn:ws.length<1000000000000):YR pg 195 #[.pointer (some ⟨h,0,none⟩)] ws.length (fun k=> #[.int .i64 ((ws.length:Int)-1-k),MC (ws.getD (ws.length-1-k) ⟨0,0,⟨⟨#[]⟩,0⟩⟩)]) (Vx h ws):=by
 intro l J Jx w hV hR h0
 have sz:ws.length≤9223372036854775807:=by omega
 generalize hRR:(fun e W' =>(∃v,e=Ending.returned v)∧(J ws.length W' ∨Jx W'))=RR
 have key:∀c,Tryz.f195.body=some c→∀a0:Act,a0.tmps.size=19→a0.defers=[]→a0.tmps.getD 0 undef= .func (.yield l) #[] #[]→a0.tmps.getD 1 undef= .pointer (some ⟨h,0,none⟩)→c.wpIn Fence.wide 0 pg (bodyPost pg Tryz.f195 RR) a0 w:=by
  intro c hc a0 h19 hd0 hy0 hp0
  have hc:=Option.some.inj hc
  subst hc
  refine wpIn_seq (wpIn_region_lit ?_)
  obtain⟨sh,hs1,hs2⟩:=hV 0 w h0
  have R:AG (C5 sh w) (fun t=>if t=1 then .rptr [.ro ws.length (Ac Aq ws)] else .any) [] a0 w σ0 (fun _=>none):=by
   refine⟨h19,hd0,fun t ht=>?_,Gf _ _,fun g hg=>⟨rfl,hs1 g hg⟩,Fd.refl _ _,fun _ _ _ h=>by simp at h⟩
   simp only
   by_cases e1:t=1
   .subst e1;rw[if_pos rfl,hp0];exact hs2
   .rw[if_neg e1];intro g;rfl
  refine DH (C:=C5 sh _) tk R (by kernel_rfl) rfl (by intro c h;cases h) (r:= .ro ws.length (Ac Aq ws)) (by simp -implicitDefEqProofs (disch:=omega) [pv]) fun u4 hu4 R4=>?_
  refine DH (C:=C5 sh _) tk R4 (by kernel_rfl) rfl (by intro c h;cases h) (r:= .int .i64 ws.length) (by simp -implicitDefEqProofs (disch:=omega) [pv]) fun u5 hu5 R5=>?_
  refine DH (C:=C5 sh _) tk R5 (by kernel_rfl) rfl (by intro c h;cases h) (r:= .int .i64 ((ws.length:Int)-1)) (by simp -implicitDefEqProofs (disch:=omega) [pv]) fun u6 hu6 R6=>?_
  refine DH (C:=C5 sh _) tk R6 (by kernel_rfl) rfl (by intro c h;cases h) (r:= .int .i64 ((ws.length:Int)-1)) (by simp -implicitDefEqProofs (disch:=omega) [pv]) fun u3 hu3 R3=>?_
  refine wpListIn_nil ?_
  have s0:Pl l h ((ws.length:Int)-1) ((((a0.put (some 4) u4).put (some 5) u5).put (some 6) u6).put (some 3) u3):=by
   refine⟨by simp[Act.put,h19],hd0,?_,?_,?_⟩
   .rw[Bv (by decide),Bv (by decide),Bv (by decide),Bv (by decide)];exact hy0
   .rw[Bv (by decide),Bv (by decide),Bv (by decide),Bv (by decide)];exact hp0
   .rw[Ev (by simp[Act.put,h19])];exact hu3.1
  generalize ((((a0.put (some 4) u4).put (some 5) u5).put (some 6) u6).put (some 3) u3)=a1 at s0
  clear R R4 R5 R6 R3 hu4 hu5 hu6 hu3 u4 u5 u6 u3 hs1 hs2 sh h19 hd0 hy0 hp0 a0
  show Code.wpIn _ _ _ _ _ _ _
  refine wpIn_block (wpIn_loop_rounds (ws.length+1) ?_)
  refine NI ws.length (fun k a W=>Pl l h ((ws.length:Int)-1-k) a∧J k W) (fun k a W hk hI=>?_) ws.length 0 a1 w (by omega) ⟨by simpa using s0,h0⟩
  obtain⟨s,hJ⟩:=hI
  obtain⟨sh,R⟩:=s.rel (hV k W hJ)
  refine wpIn_seq (wpIn_seq (wpIn_region_lit ?_))
  refine DH (C:=C5 sh _) tk R (by kernel_rfl) rfl (by intro c h;cases h) (r:= .int .i64 ((ws.length:Int)-1-k)) (by simp -implicitDefEqProofs (disch:=omega) [pv,Fi]) fun u7 hu7 R7=>?_
  refine DH (C:=C5 sh _) tk R7 (by kernel_rfl) rfl (by intro c h;cases h) (r:= .bool (decide ((0:Int)≤(ws.length:Int)-1-k))) (by simp -implicitDefEqProofs (disch:=omega) [pv,Fi]) fun u8 hu8 R8=>?_
  refine wpListIn_nil ?_
  have s8:=(s.put (d:=7) (by decide) (by decide) (by decide) u7).put (d:=8) (by decide) (by decide) (by decide) u8
  have hc8:((a.put (some 7) u7).put (some 8) u8).eval (.tmp 8)= .bool (decide ((0:Int)≤(ws.length:Int)-1-k)):=by
   show((a.put (some 7) u7).put (some 8) u8).tmps.getD 8 undef=_
   rw[Ev (by simp[Act.put,s.1])];exact hu8.1
  generalize ((a.put (some 7) u7).put (some 8) u8)=a2 at s8 hc8
  clear R R7 R8 hu7 hu8 u7 u8 s
  show Code.wpIn _ _ _ _ _ _ _
  refine wpIn_cond_split hc8 (fun hb=>wpIn_skip ?_) (fun hb=>wpIn_exit ?_)
  rotate_left
  .have hb:¬(0:Int)≤(ws.length:Int)-1-k:=of_decide_eq_false hb
   have:k=ws.length:=by omega
   subst this
   show bodyPost pg _ RR .normal a2 W
   refine⟨s8.2.1,.tuple #[],by simp[results,Tryz.f195],?_⟩
   rw[←hRR]
   exact⟨⟨_,rfl⟩,.inl hJ⟩
  have hb:(0:Int)≤(ws.length:Int)-1-k:=of_decide_eq_true hb
  show Code.wpIn _ _ _ _ _ _ _
  refine wpIn_seq (wpIn_block (wpIn_seq (wpIn_region_lit ?_)))
  obtain⟨sh,R⟩:=s8.rel (hV k W hJ)
  obtain⟨i,hi⟩:∃i:Nat,(ws.length:Int)-1-k=(i:Int):=⟨ws.length-1-k,by omega⟩
  rw[hi] at s8 R
  have hlt:i<ws.length:=by omega
  refine Vb s8.2.2.1 ?_
  have R11:AG (C5 sh W) (Al (Fi ws i) (some 11) .any) [] (a2.put (some 11) (.func (.yield l) #[] #[])) W σ0 (fun _=>none):=R.put (some 11) (fun _=>rfl)
  refine DH (C:=C5 sh _) tk R11 (by kernel_rfl) rfl (by intro c h;cases h) (r:= .int .i64 i) (by simp -implicitDefEqProofs (disch:=omega) [pv,Fi]) fun u12 hu12 R12=>?_
  refine DH (C:=C5 sh _) tk R12 (by kernel_rfl) rfl (by intro c h;cases h) (r:= .ro ws.length (Ac Aq ws)) (by simp -implicitDefEqProofs (disch:=omega) [pv,Fi]) fun u13 hu13 R13=>?_
  refine DH (C:=C5 sh _) tk R13 (by kernel_rfl) rfl (by intro c h;cases h) (r:= .int .i64 i) (by simp -implicitDefEqProofs (disch:=omega) [pv,Fi]) fun u14 hu14 R14=>?_
  refine DH (C:=C5 sh _) tk R14 (by kernel_rfl) rfl (by intro c h;cases h) (r:= .rptr (Aq ws[i]++Ac Aq (ws.drop (i+1)))) (by simp -implicitDefEqProofs (disch:=omega) [pv,Fi,hlt]) fun u15 hu15 R15=>?_
  refine DH (C:=C5 sh _) tk R15 (by kernel_rfl) rfl (by intro c h;cases h) (r:= .agg (Aq ws[i])) (by simp -implicitDefEqProofs (disch:=omega) [pv,Fi,hlt]) fun u16 hu16 R16=>?_
  have ek:ws.length-1-k=i:=by omega
  have eo:ws.getD (ws.length-1-k) ⟨0,0,⟨⟨#[]⟩,0⟩⟩=ws[i]:=by rw[ek];simp[List.getD,hlt]
  obtain⟨f,tm,asg,bd,hy,hr⟩:=hR k W (by omega) hJ
  simp only[hi,eo] at hy
  have s9:=((((((s8.put (d:=11) (by decide) (by decide) (by decide) (.func (.yield l) #[] #[])).put (d:=12) (by decide) (by decide) (by decide) u12).put (d:=13) (by decide) (by decide) (by decide) u13).put (d:=14) (by decide) (by decide) (by decide) u14).put (d:=15) (by decide) (by decide) (by decide) u15).put (d:=16) (by decide) (by decide) (by decide) u16)
  refine Tz (x:= .int .i64 i) (y:=MC ws[i]) ?_ ?_ ?_ hy hr ?_
  .rw[Bv (by decide),Bv (by decide),Bv (by decide),Bv (by decide),Bv (by decide),Ev (by rw[s8.1];decide)]
  .rw[Bv (by decide),Bv (by decide),Bv (by decide),Bv (by decide),Ev (by simp[Act.put,s8.1])];exact hu12.1
  .rw[Ev (by simp[Act.put,s8.1])];exact XM hu16
  generalize ((((((a2.put (some 11) (Value.func (.yield l) #[] #[])).put (some 12) u12).put (some 13) u13).put (some 14) u14).put (some 15) u15).put (some 16) u16)=a3 at s9
  clear R R11 R12 R13 R14 R15 R16 hu12 hu13 hu14 hu15 hu16 u12 u13 u14 u15 u16 hy hr s8 hc8
  rintro e W' hq
  obtain⟨b,rfl,hq⟩:∃b,e= .returned (.bool b)∧(if b=true then J (k+1) W' else Jx W'):=by
   rcases hq with⟨rfl,h⟩ | ⟨rfl,h⟩
   .exact⟨true,rfl,h⟩
   .exact⟨false,rfl,h⟩
  refine⟨_,rfl,?_⟩
  have s10:=s9.put (d:=17) (by decide) (by decide) (by decide) (.bool b)
  have R17:=Y1 (W:=W') (F:=fun t=>if t=17 then .bool b else .any) s10.1 s10.2.1 (fun t=>by
   by_cases e:t=17
   .subst e;simp only[if_true];rw[Ev (by rw[s9.1];decide)];exact⟨rfl,fun _=>rfl⟩
   .rw[if_neg e];intro g;rfl)
  refine DH (C:=C5 (fun _=>False) _) tk R17 (by kernel_rfl) rfl (by intro c h;cases h) (r:= .bool (!b)) (by simp -implicitDefEqProofs (disch:=omega) [pv,Fi]) fun u18 hu18 R18=>?_
  refine wpListIn_nil ?_
  have s11:=s10.put (d:=18) (by decide) (by decide) (by decide) u18
  have hc18:(((a3.put (some 17) (.bool b)).put (some 18) u18)).eval (.tmp 18)= .bool (!b):=by
   show((a3.put (some 17) (.bool b)).put (some 18) u18).tmps.getD 18 undef=_
   rw[Ev (by rw[s10.1];decide)];exact hu18.1
  generalize ((a3.put (some 17) (.bool b)).put (some 18) u18)=a4 at s11 hc18
  clear R17 R18 hu18 u18 s9 s10
  show Code.wpIn _ _ _ _ _ _ _
  refine wpIn_cond_split hc18 (fun hb=>wpIn_ret ?_) (fun hb=>wpIn_skip ?_)
  .have hb:b=false:=by simpa using hb
   subst hb
   show bodyPost pg _ RR .ret a4 W'
   refine⟨s11.2.1,.tuple #[],by simp[results,Tryz.f195],?_⟩
   rw[←hRR]
   exact⟨⟨_,rfl⟩,.inr (by simpa using hq)⟩
  .have hb:b=true:=by simpa using hb
   subst hb
   show Code.wpIn _ _ _ _ _ _ _
   refine wpIn_region_lit ?_
   have hq:J (k+1) W' :=by simpa using hq
   obtain⟨sh,R⟩:=s11.rel (hV (k+1) W' hq)
   refine DH (C:=C5 sh _) tk R (by kernel_rfl) rfl (by intro c h;cases h) (r:= .int .i64 i) (by simp -implicitDefEqProofs (disch:=omega) [pv,Fi]) fun u9 hu9 R9=>?_
   refine DH (C:=C5 sh _) tk R9 (by kernel_rfl) rfl (by intro c h;cases h) (r:= .int .i64 ((i:Int)-1)) (by simp -implicitDefEqProofs (disch:=omega) [pv,Fi]) fun u10 hu10 R10=>?_
   refine DH (C:=C5 sh _) tk R10 (by kernel_rfl) rfl (by intro c h;cases h) (r:= .int .i64 ((i:Int)-1)) (by simp -implicitDefEqProofs (disch:=omega) [pv,Fi]) fun u3 hu3 R3=>?_
   refine wpListIn_nil ?_
   show k<ws.length∧_
   refine⟨by omega,?_,hq⟩
   have s12:=(s11.put (d:=9) (by decide) (by decide) (by decide) u9).put (d:=10) (by decide) (by decide) (by decide) u10
   refine⟨by simp[Act.put,s11.1],s11.2.1,?_,?_,?_⟩
   .rw[Bv (by decide)];exact s12.2.2.1
   .rw[Bv (by decide)];exact s12.2.2.2.1
   .rw[Ev (by rw[s12.1];decide),hu3.1]
    congr 1
    omega
 have hf:pg.funcs[(195:Nat)]?=some Tryz.f195:=rfl
 have hn:Tryz.f195.ntmps=19:=rfl
 obtain⟨c,hc⟩:∃c,Tryz.f195.body=some c:=⟨_,rfl⟩
 refine callsIn_of_wp (n:=0) hf hc trivial ?_ rfl
 refine key c hc _ ?_ ?_ ?_ ?_
 .simp[hn]
 .simp only
 .simp
 .simp
end Go.Abs
set_option maxRecDepth 100000
namespace Go.Abs
open Go.Proofs
theorem AW.seqW {C:Bl} {P:Program} {T:Nat→Option TI} {p:Nat} {x y:Code} {F:Fr} {M:List Ag} {Q:Ca} (tk:BA P T) (hC:C.P=P) (hp:C.p≤p) (hb:CK C.n x=true) (h:W P T p x F M (Dz (fun F M=>AW C y F M Q) Q)):AW C (.seq x y) F M Q:=
 AW.seq (h tk C hC hp hb)
theorem HP:A1 AJ:=by
 simp[A1,AJ,CR]
theorem Pm (l:List Obj):∀(k:Nat) (id:Int) (i:Nat) (h:i+1<(AL l k id).length),((AL l k id)[i]'(by omega)).base≠0
 |0,id,i,h=>by simp[AL] at h
 |k+1,id,i,h=>by
  by_cases h0:id=0
  .simp[AL,h0] at h
  .cases hf:A7 l id with
   |none=>simp[AL,h0,hf] at h
   |some o=>
    simp only[AL,h0,hf,if_false] at h ⊢
    cases i with
    |zero=>
     simp only[List.getElem_cons_zero]
     intro e
     rw[e] at h
     have:(AL l k 0).length=0:=by cases k<;>simp[AL]
     simp[this] at h
    |succ i=>
     simp only[List.getElem_cons_succ]
     exact Pm l k o.base i (by simpa using h)
theorem QC (l:List Obj):∀(k:Nat) (id:Int),∀o∈AL l k id,o∈l
 |0,id,o,h=>by simp[AL] at h
 |k+1,id,o,h=>by
  by_cases h0:id=0
  .simp[AL,h0] at h
  .cases hf:A7 l id with
   |none=>simp[AL,h0,hf] at h
   |some q=>
    simp only[AL,h0,hf,if_false] at h
    rcases List.mem_cons.1 h with rfl|h
    .exact DX hf
    .exact QC l k q.base o h
theorem NJ {rf:List Bool→Option Gr} {rd:Gr→List Bool→Option Gr} {ws:List Obj} (hb:∀i (h:i+1<ws.length),(ws[i]'(by omega)).base≠0):∀i,i<ws.length→CU rf rd (ws.drop i)=none→CU rf rd ws=none
 |0,_,h=>by simpa using h
 |i+1,hi,h=>by
  refine NJ hb i (by omega) ?_
  rw[List.drop_eq_getElem_cons (by omega:i<ws.length)]
  simp only[CU,hb i hi,if_false,h]
theorem GX {bs:List Bool} {rd:Rd} {g:Gr} (h:CQ bs rd=some g):A1 g:=by
 unfold CQ at h
 split at h
 .simp at h
 .split at h
  .split at h
   .simp at h
   .split at h
    .rename_i hm
     simp at h;subst h;exact hm.2
    .simp at h
  .simp at h
theorem TA {b:Da} (h:C2 b) (hs:b.data.size<1000000000):Du b:=by
 have h1:=h.1;have h2:=h.2.1;have h3:=h.2.2.1
 refine⟨h1,?_,hs⟩
 omega
theorem Vd {C:Bl} (hC:C.P=pg) {ops:Array Oper} {Q:Exit→Act→World→Prop} {a:Act} {w:World} {d t ty:Nat} {pos:String} {af:Array Edge} {ats:Array TypeId} {rest:List Oper} {x:Value} (h0:a.tmps.getD t undef=x)
 (h:wpListIn (FX C) 0 C.P ops Q rest (a.put (some d) (.func (.func 195) #[] #[.pointer (some ⟨w.heap.size,0,none⟩)])) (w.alloc (.cells x.cells 65))):
 wpListIn (FX C) 0 C.P ops Q ({dst:=some d,op:= .call {callee:= .value (.func 162),args:= #[.tmp t],argTypes:=ats},type:=ty,pos:=pos,after:=af,guard:=none}::rest) a w:=by
 simp only[wpListIn]
 rw[if_pos (by simp[Region.wanted])]
 refine⟨fun _ _=>trivial,?_⟩
 have e0:a.eval (.tmp t)=x:=h0
 have ef:a.eval (.func 162)= .func (.func 162) #[] #[]:=rfl
 have hfn:C.P.funcs[(162:Nat)]?=some Tryz.f162:=by rw[hC];rfl
 have hb:¬(Tryz.f162.body=none):=by intro e;cases e
 have hnm:¬(Tryz.f162.name= "runtime.NumGoroutine"):=by simp[Tryz.f162]
 have e:Sem.run C.P (execOp a.eval {dst:=some d,op:= .call {callee:= .value (.func 162),args:= #[.tmp t],argTypes:=ats},type:=ty,pos:=pos,after:=af,guard:=none}) w= .ok (.enter 162 #[x]) w:=by
  simp[execOp,resolve,ef,e0,Deferred.ofValue,invoke,callFunc,hfn,hb,hnm]
 rw[Oper.semAt_eq _ _ _ (by intro c h;cases h),e]
 refine⟨fun h=>absurd h (by simp[FX,Fence.wide]),(callsIn_wide (n:=0-1)).2 ?_⟩
 rw[hC]
 refine(RG w x).mono ?_
 rintro e w' ⟨rfl,rfl⟩
 rw[hC] at h
 exact h
theorem RH (xs:List Obj) (id:Int) (hx:D9 xs) (hm:Cj xs):Aa pg 126 [.ro xs.length (Ac Aq xs),.int .i64 id] [] (fun r _=>r= .tup [.agg (A3 true (AR xs id).1),.int .i64 (AR xs id).2]):=by
 have hx1:=hx.1
 have hb:∀o∈xs,o.base=0∨∃q∈xs,q.id=o.base:=fun o ho=>(hm.2.1 o ho).2.2.2.2
 refine Aa.enterA (fn:=Tryz.f126) tk rfl rfl rfl (Nat.le_of_ble_eq_true rfl) (by kernel_rfl) ?_
 intro C hC hp hn hrd hdf
 have hp0:C.p≤0:=Nat.le_of_eq hp
 have hn48:C.n=48:=hn
 show AW C _ _ _ (GU tT [.cell 4 51,.cell 5 44] 0 _)
 rw[Ar]
 refine AW.seqW tk hC hp0 (by rw[hn48];kernel_rfl) ?_
 refine z2 ?_;intro K hK;refine zk ?_;clear hK K
 refine AW.seqW tk hC hp0 (by rw[hn48];kernel_rfl) ?_
 refine z0 ?_;intro K hK
 refine Ab.eq (Ty xs id hx hb) (by simp) (by simp) ?_
 refine zx ?_
 refine zk ?_;clear hK K
 by_cases hd:(AT xs id).2=0
 .refine Af hd ?_;intro K hK
  refine zk ?_;clear hK K
  refine zn ?_
  refine W.skip ?_
  refine AW.seqW tk hC hp0 (by rw[hn48];kernel_rfl) ?_
  refine z1 ?_;intro K hK
  refine zk ?_;clear hK K
  have BK:id=0∨∃q∈xs,q.id=id:=by
   right
   cases hf:A7 xs id with
   |none=>simp[AT,hf] at hd
   |some o=>obtain⟨k,hlt,_,hko,hoi⟩:=El hf;exact⟨o,DX hf,hoi⟩
  obtain⟨ws,hWay,hbase,hmem,hwl,hofO⟩:∃ws:List Obj,(Aa pg 163 [.ro xs.length (Ac Aq xs),.int .i64 id,.int .i64 3] [] (fun r _=>r= .own 4 ws.length (Ac Aq ws)))∧(∀i (h:i+1<ws.length),(ws[i]'(by omega)).base≠0)∧(∀o∈ws,o∈xs)∧ws.length≤3∧
   AR xs id=(match CU BF BO ws with|some g=>(g,0) |none=>(AJ,9)):=by
   refine⟨AL xs 3 id,RF xs id 3 hx (by omega) hb BK,Pm xs 3 id,QC xs 3 id,Ik xs 3 id,?_⟩
   unfold AR
   rw[if_neg (by simpa using hd)]
   cases CU BF BO (AL xs 3 id)<;>rfl
  generalize hQ:(fun(r:AV) (x:List Ag)=>r=AV.tup [AV.agg (A3 true (AR xs id).1),AV.int .i64 (AR xs id).2])=Q
  show AW C _ _ _ _
  intro a w hr
  refine wpIn_seq (wpIn_seq (wpIn_region_lit ?_))
  obtain⟨S,hS⟩:∃S:List (Nat×AV),S=[(4,.ptr 0 0 0),(5,.ptr 1 0 0),(8,.ptr 2 0 0),(24,.tok 3 0 4 0 ws.length)]:=⟨_,rfl⟩
  let MM:Gr→List Ag:=fun g=> [.live 0 [.int .i64 0,.own 1 0 []],.live 0 [.int .i64 0],.live 0 [.int .i64 g.n,.tok 4 0 1 0 g.out.length],.live 0 (Ac Aq ws),.live 0 (AE true g.out)]
  refine(Fp (hC ▸ tk) (K:=fun F' M' =>Wk 0 F' M' (fr S) (MM AJ)) ?_ [_,_,_] 3 _ _ a w ?_ ?_ ?_ hr:wpListIn _ _ _ _ _ ([_,_,_]++[_]) a w)
  rotate_left
  .rw[hn48];kernel_rfl
  .rw[hn48];kernel_rfl
  .refine DR (call:=Ab pg) (call' :=Ds C) (fun f args M K K' hk hc=>(hc C hC).mono hk) (fun _ _ h=>h) _ _ _ _ ?_
   simp -implicitDefEqProofs (maxSteps:=999999) (disch:=omega)
   refine Ab.eq hWay (by simp) (by simp) ?_
   refine zx ?_
   refine Wk.trans (Wk.fr (S:=S) (by rw[hS];simp[Ad])) ?_
   refine Wk.trans (Wk.thaw (B:=2) (v:=0) (j:=1) (s:=1) (n:=0) (cs:=[.int .i64 0,.own 1 0 []]) (xs:=[]) rfl rfl) ?_
   exact fun C _=>Cm.refl _ _ _
  clear hr a w
  intro F' M' a w hwk hr
  obtain⟨σ,own,R⟩:=hwk C hp0 a w hr
  clear hr hwk
  have e24:a.eval (.tmp 24)=a.tmps.getD 24 undef:=rfl
  generalize hx24:a.tmps.getD 24 undef=x at*
  have hvx:VR w C.sh σ (.tok 3 0 4 0 ws.length) x (fun _=>0):=by
   have:=R.tmp 24 (by omega)
   rw[hx24,hS] at this
   simpa using this
  have hxc:x.cells= #[x]:=by
   simp only[VR] at hvx
   obtain⟨_,⟨a,c,rfl⟩,_⟩:=hvx
   rfl
  refine Vd hC hx24 (wpListIn_nil ?_)
  have R2:=(R.allocO (.cells x.cells 65)).put (some 25) (av:= .any) (v:= .func (.func 195) #[] #[.pointer (some ⟨w.heap.size,0,none⟩)]) (fun _=>rfl)
  have e25:(a.put (some 25) (.func (.func 195) #[] #[.pointer (some ⟨w.heap.size,0,none⟩)])).eval (.tmp 25)= .func (.func 195) #[] #[.pointer (some ⟨w.heap.size,0,none⟩)]:=Ev (by rw[R.size,hn48];decide)
  have e24:(a.put (some 25) (.func (.func 195) #[] #[.pointer (some ⟨w.heap.size,0,none⟩)])).tmps.getD 24 undef=x:=by rw[Bv (by decide)];exact hx24
  have eF:Al (fr S) (some 25) .any=fr S:=by
   funext t
   simp only[UW]
   split
   .rename_i e;subst e;rw[hS];rfl
   .rfl
  rw[eF] at R2
  obtain⟨hh,hhe⟩:∃hh,hh=w.heap.size:=⟨_,rfl⟩
  rw[←hhe] at R2 e25 e24 ⊢
  have hcell:(w.alloc (.cells x.cells 65)).heap[hh]?=some (.cells x.cells 65):=by rw[hhe];exact World.alloc_heap_new w _
  generalize hw2:w.alloc (.cells x.cells 65)=w2 at*
  generalize ha2:a.put (some 25) (.func (.func 195) #[] #[.pointer (some ⟨hh,0,none⟩)])=a2 at*
  have hcf:∀args w,(callFunc 195 args).run C.P w= .ok (.enter 195 args) w:=by
   intro args w
   have hfn:C.P.funcs[(195:Nat)]?=some Tryz.f195:=by rw[hC];rfl
   have hb:¬(Tryz.f195.body=none):=by intro e;cases e
   have hnm:¬(Tryz.f195.name= "runtime.NumGoroutine"):=by simp[Tryz.f195]
   simp[callFunc,hfn,hb,hnm]
  have hsz2:hh<w2.heap.size:=(Array.getElem?_eq_some_iff.1 hcell).1
  have hseq:=Vc hh ws (by omega)
  rw[←hC] at hseq
  show Code.wpIn _ _ _ _ _ _ _
  refine UZ (T:=tT) (hC ▸ tk) hrd hdf R2 e25 hcf hseq (va:=fun k=> .int .i64 ((ws.length:Int)-1-k)) (vb:=fun k=> .agg (Aq (ws.getD (ws.length-1-k) ⟨0,0,⟨⟨#[]⟩,0⟩⟩))) (fun k=>⟨_,_,rfl,fun w σ=>⟨⟨rfl,fun _=>rfl⟩,XL w _ σ _⟩⟩) (h:=hh) ?_ hsz2 (by rw[hhe];exact R.ext.size)
   (fun k M' =>∃g,CU BF BO (ws.drop (ws.length-k))=some g∧A1 g∧M' =MM g) ⟨AJ,by simp[CU],HP,rfl⟩ ?_ ?_ ?_ ?_ ?_ ?_
  .rw[if_neg (by omega)]
  .
   rintro k W M' σ' own' R' hW ⟨g,_,_,rfl⟩
   rw[hcell,hxc] at hW
   have hltW:hh<W.heap.size:=(Array.getElem?_eq_some_iff.1 hW).1
   have hv:=R'.tmp 24 (by omega)
   rw[e24,hS] at hv
   have hv2:=Q1 (shB:=fun g=>C.sh g∨(own' g≠none∧g<W.heap.size)∨(g=hh∧g<W.heap.size)) R'.mem (fun g h=> .inl h) (fun g h1 h2=> .inr (.inl ⟨h1,h2⟩)) hv
   have ev:vw (MM g) ((fr [(4,AV.ptr 0 0 0),(5,AV.ptr 1 0 0),(8,AV.ptr 2 0 0),(24,AV.tok 3 0 4 0 ws.length)]) 24)= .ro ws.length (Ac Aq ws):=by simp[MM,vw]
   rw[ev] at hv2
   refine⟨_,fun g hg=>?_,fun _=>rfl,⟨hh,0,none⟩,[x],rfl,.inr ⟨.inr (.inr ⟨rfl,hltW⟩),?_,x,[],_,_,rfl,hv2,⟨rfl,fun _=>rfl⟩,fun _=>rfl⟩⟩
   .rcases hg with h|h|h
    .exact(R'.shr g h).2
    .exact h.2
    .exact h.2
   .intro i v hi
    rw[By,DO hW]
    cases i with
    |zero=>simpa using hi
    |succ i=>simp at hi
  .rw[hn48];kernel_rfl
  .rw[hn48];kernel_rfl
  .rw[hn48];kernel_rfl
  .
   rintro k M' hk ⟨g,hg,hmay,rfl⟩
   rw[hC]
   obtain⟨i,hi⟩:∃i,i=ws.length-1-k:=⟨_,rfl⟩
   have hlt:i<ws.length:=by omega
   have eo:ws.getD (ws.length-1-k) ⟨0,0,⟨⟨#[]⟩,0⟩⟩=ws[i]:=by rw[←hi];simp[List.getD,hlt]
   simp only[eo]
   have hdr:ws.drop (ws.length-(k+1))=ws[i]::ws.drop (ws.length-k):=by
    rw[show ws.length-(k+1)=i by omega,show ws.length-k=i+1 by omega]
    exact List.drop_eq_getElem_cons hlt
   have hbits:=TA (hm.2.1 _ (hmem _ (List.getElem_mem hlt))).2.2.1 (hx.2 _ (hmem _ (List.getElem_mem hlt)))
   have hwn:CU BF BO (ws.drop (ws.length-(k+1)))=none→CU BF BO ws=none:=NJ hbase _ (by omega)
   rw[hdr] at hwn ⊢
   generalize ws[i]=o at*
   subst hS
   show W pg tT 5 _ _ _ _
   simp only[MM]
   refine z1 ?_;intro K hK
   refine zk ?_;clear hK K
   refine⟨rfl,?_⟩
   show W pg tT 6 _ _ _ _
   refine zb ?_
   refine zs ?_
   by_cases hb0:o.base=0
   .refine Af hb0 ?_;intro K hK
    refine zk ?_;clear hK K
    refine zt ?_
    refine z0 ?_;intro K hK
    have sp:=XI o.data hbits
    cases hf:BF (As o.data) with
    |none=>
     simp only[hf,NG] at sp
     refine Ab.bor sp (by simp) ?_
     rintro _ ⟨g0,rfl⟩
     refine⟨by simp,?_⟩
     refine zx ?_
     refine zk ?_;clear hK K
     refine zs ?_
     refine zt ?_
     refine zs ?_
     refine W.ret (.inr ⟨rfl,fr [(4,.ptr 0 0 0),(5,.ptr 1 0 0)],[.live 0 [.int .i64 0,.tok 2 0 1 0 0],.live 0 [.int .i64 9],.live 0 []],?_,?_⟩)
     .refine Wk.trans (Wk.cutM (k:=2) (S:=[(4,.ptr 0 0 0),(5,.ptr 1 0 0)]) (M:=[.live 0 [.int .i64 0,.own 1 0 []],.live 0 [.int .i64 9]]) (by simp[Ad]) (by simp) (by simp) (by simp) (by simp) (by omega)) ?_
      refine Wk.trans (Wk.thaw (B:=0) (v:=0) (j:=1) (s:=1) (n:=0) (cs:=[.int .i64 0,.own 1 0 []]) (xs:=[]) rfl rfl) ?_
      exact fun C _=>Cm.refl _ _ _
     .simp only[CL]
      refine CD (d:=0) ?_
      rw[←hQ,hofO,hwn (by simp[CU,hb0,hf])]
      simp -implicitDefEqProofs (maxSteps:=999999) (disch:=omega)
      exact⟨rfl,rfl,rfl⟩
    |some g' =>
     simp only[hf,NG] at sp
     refine Ab.eq sp (by simp) (by simp) ?_
     refine zx ?_
     refine zk ?_;clear hK K
     refine zs ?_
     refine zn ?_
     refine W.skip ?_
     refine .inl ⟨rfl,MM g',?_,g',by simp[CU,hb0,hf],GX hf,rfl⟩
     refine Wk.trans (Wk.intern (B:=2) (v:=0) (j:=1) (T:=6) (u:=0) (s:=1) (off:=0) (n:=g'.out.length) (cs:=[.int .i64 g'.n,.tok 6 0 1 0 g'.out.length]) (xs:=AE true g'.out) rfl rfl rfl (by decide) (by simp) (by simp)) ?_
     refine Wk.trans (Wk.cutM (k:=4) (S:=[(4,.ptr 0 0 0),(5,.ptr 1 0 0),(8,.ptr 2 0 0),(24,.tok 3 0 4 0 ws.length)]) (M:=[.live 0 [.int .i64 0,.own 1 0 []],.live 0 [.int .i64 0],.live 0 [.int .i64 g'.n,.own 1 g'.out.length (AE true g'.out)],.live 0 (Ac Aq ws)]) (by simp[Ad]) (by simp) (by simp) (by simp) (by simp) (by omega)) ?_
     refine Wk.trans (Wk.thaw (B:=2) (v:=0) (j:=1) (s:=1) (n:=g'.out.length) (cs:=[.int .i64 g'.n,.own 1 g'.out.length (AE true g'.out)]) (xs:=AE true g'.out) rfl rfl) ?_
     exact fun C _=>Cm.refl _ _ _
   .refine Af hb0 ?_;intro K hK
    refine zk ?_;clear hK K
    refine zn ?_
    refine z0 ?_;intro K hK
    have sp:=XJ o.data g hbits hmay
    cases hf:BO g (As o.data) with
    |none=>
     simp only[hf,NG] at sp
     refine Ab.bor sp (by simp) ?_
     rintro _ ⟨g0,rfl⟩
     refine⟨by simp,?_⟩
     refine zx ?_
     refine zk ?_;clear hK K
     refine zs ?_
     refine zt ?_
     refine zs ?_
     refine W.ret (.inr ⟨rfl,fr [(4,.ptr 0 0 0),(5,.ptr 1 0 0)],[.live 0 [.int .i64 0,.tok 2 0 1 0 0],.live 0 [.int .i64 9],.live 0 []],?_,?_⟩)
     .refine Wk.trans (Wk.cutM (k:=2) (S:=[(4,.ptr 0 0 0),(5,.ptr 1 0 0)]) (M:=[.live 0 [.int .i64 0,.own 1 0 []],.live 0 [.int .i64 9]]) (by simp[Ad]) (by simp) (by simp) (by simp) (by simp) (by omega)) ?_
      refine Wk.trans (Wk.thaw (B:=0) (v:=0) (j:=1) (s:=1) (n:=0) (cs:=[.int .i64 0,.own 1 0 []]) (xs:=[]) rfl rfl) ?_
      exact fun C _=>Cm.refl _ _ _
     .simp only[CL]
      refine CD (d:=0) ?_
      rw[←hQ,hofO,hwn (by simp[CU,hb0,hg,hf])]
      simp -implicitDefEqProofs (maxSteps:=999999) (disch:=omega)
      exact⟨rfl,rfl,rfl⟩
    |some g' =>
     simp only[hf,NG] at sp
     refine Ab.eq sp (by simp) (by simp) ?_
     refine zx ?_
     refine zk ?_;clear hK K
     refine zs ?_
     refine zn ?_
     refine W.skip ?_
     refine .inl ⟨rfl,MM g',?_,g',by simp[CU,hb0,hg,hf],GX hf,rfl⟩
     refine Wk.trans (Wk.intern (B:=2) (v:=0) (j:=1) (T:=6) (u:=0) (s:=1) (off:=0) (n:=g'.out.length) (cs:=[.int .i64 g'.n,.tok 6 0 1 0 g'.out.length]) (xs:=AE true g'.out) rfl rfl rfl (by decide) (by simp) (by simp)) ?_
     refine Wk.trans (Wk.cutM (k:=4) (S:=[(4,.ptr 0 0 0),(5,.ptr 1 0 0),(8,.ptr 2 0 0),(24,.tok 3 0 4 0 ws.length)]) (M:=[.live 0 [.int .i64 0,.own 1 0 []],.live 0 [.int .i64 0],.live 0 [.int .i64 g'.n,.own 1 g'.out.length (AE true g'.out)],.live 0 (Ac Aq ws)]) (by simp[Ad]) (by simp) (by simp) (by simp) (by simp) (by omega)) ?_
     refine Wk.trans (Wk.thaw (B:=2) (v:=0) (j:=1) (s:=1) (n:=g'.out.length) (cs:=[.int .i64 g'.n,.own 1 g'.out.length (AE true g'.out)]) (xs:=AE true g'.out) rfl rfl) ?_
     exact fun C _=>Cm.refl _ _ _
  .
   rintro M' ⟨g,hg,hmay,rfl⟩
   rw[hC]
   subst hS
   show W pg tT 5 _ _ _ _
   simp only[MM]
   refine z0 ?_;intro K hK
   refine zk ?_;clear hK K
   refine W.ret ⟨rfl,?_⟩
   simp only[CL]
   refine CD (d:=0) ?_
   have hg' :CU BF BO ws=some g:=by simpa using hg
   rw[←hQ,hofO,hg']
   simp -implicitDefEqProofs (maxSteps:=999999) (disch:=omega)
 .refine Af hd ?_;intro K hK
  refine zk ?_;clear hK K
  refine zt ?_
  refine zs ?_
  refine W.weak (Wk.thaw (B:=0) (v:=0) (j:=1) (s:=1) (n:=0) (cs:=[.int .i64 0,.own 1 0 []]) (xs:=[]) rfl rfl) ?_
  refine zr ?_
  simp[AR,hd,AJ]
end Go.Abs
