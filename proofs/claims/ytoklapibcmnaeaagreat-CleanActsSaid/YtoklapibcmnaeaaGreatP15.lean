/- References: a state with an object laid. -/
import Derived.Test.YtoklapibcmnaeaaGreatP14
set_option linter.unusedVariables false
set_option linter.unusedSimpArgs false
set_option maxRecDepth 100000
namespace Go.Abs
open Go.Proofs
def FA (l:List (Int×Int)) (blocks m:Int):Int:=match (Bx (BI l blocks.toNat) 0 0).find? fun x=>decide (m≤x.2) with|some x=>x.1|none=>-1
def B8 (s:Ax) (o:Obj) (p:Int):List Bg×Nat:=if AG (fun v=>decide (v.id=o.id)) s.vers<0 then(s.vers++[EU o.id p],s.vers.length) else(s.vers,(AG (fun v=>decide (v.id=o.id)) s.vers).toNat)
def EM (s:Ax) (o:Obj) (p:Int):Ax×Int:=
 if FA (AB s) s.blocks (CO o.data)<0 then(AD,5)
 else({s with vers:=HV (Dg (B8 s o p).1 (B8 s o p).2 o) (B8 s o p).2 (FA (AB s) s.blocks (CO o.data))},0)
set_option maxHeartbeats 2000000 in
theorem Zj (s:Ax) (o:Obj) (p:Int) (hs:AS s) (hx:Bk s) (ho:o.data.data.size<1000000000) (hn:s.vers.length<999999999) (hp:Cl (AB s) s.blocks):Aa pg 48 [.agg (An false s),.agg (Am o),.int .i64 p] [] (fun r _=>r= .tup [.agg (An true (EM s o p).1),.int .i64 (EM s o p).2]):=by
 have h1:=hs.1
 have h2:=hs.2.1
 have spC:=Ir s hs hx
 have spR:=Q0 s hs
 have spN:=Rx o.data ho
 have spF:Aa pg 92 [.ro (AB s).length (Ac As (AB s)),.int .i64 s.blocks,.int .i64 (CO o.data)] [] (fun r _=>r= .int .i64 (FA (AB s) s.blocks (CO o.data))):=WX (AB s) s.blocks (CO o.data) (by simp[AB];omega) hp
 have spA:=No s o.id hs
 unfold EM
 obtain⟨f,hf⟩:∃f,f=FA (AB s) s.blocks (CO o.data):=⟨_,rfl⟩
 obtain⟨q,hq⟩:∃q,q=AG (fun v=>decide (v.id=o.id)) s.vers:=⟨_,rfl⟩
 rw[←hf] at spF ⊢
 rw[←hq] at spA
 refine Aa.start (fn:=Tryz.f48) [.cell 6 38,.tmp 7] tk rfl rfl rfl (by kernel_rfl) (Nat.le_of_ble_eq_true rfl) rfl (by kernel_rfl) ?_
 rw[Bd]
 refine z3 ?_;intro K hK;refine zk ?_;clear hK K
 refine z0 ?_;intro K hK
 refine Ab.eqr spC (by simp) ?_
 refine zx ?_
 refine zk ?_;clear hK K
 refine B9 ?_;intro K hK
 refine Ag.eq spR (by simp) (by simp) ?_
 refine zx ?_
 refine Ag.eq spN (by simp) (by simp) ?_
 refine zx ?_
 refine Ag.eq spF (by simp) (by simp) ?_
 refine zx ?_
 refine zk ?_;clear hK K
 by_cases c1:f<0
 .rw[if_pos c1]
  refine Af c1 ?_;intro K hK
  refine zk ?_;clear hK K
  refine zt ?_
  refine z0 ?_;intro K hK
  refine zk ?_;clear hK K
  refine W.weak ((Wk.thaw (B:=2) (v:=0) (j:=2) (s:=8) (n:=0) (xs:=[]) rfl rfl).trans (Wk.thaw (B:=2) (v:=0) (j:=3) (s:=12) (n:=0) (xs:=[]) rfl rfl)) ?_
  refine zr ?_
  simp[AD]
 rw[if_neg c1]
 refine Af c1 ?_;intro K hK
 refine zk ?_;clear hK K
 refine zn ?_
 refine W.skip ?_
 refine z0 ?_;intro K hK
 refine Ab.eq spA (by simp) (by simp) ?_
 refine zx ?_
 refine zk ?_;clear hK K
 refine zs ?_
 refine W.midS (fun x:Nat×List Bg×Nat=> [(2,.int .i64 p),(3,.ptr 0 0 0),(4,.ptr 1 0 0),(6,.ptr 2 0 0),(7,.int .i64 0),(8,.int .i64 f),(9,.int .i64 x.2.2)]) (fun x=> [.live 0 [.int .i64 s.keep,.int .i64 s.blocks,.tok 3 x.1 8 0 x.2.1.length,.tok 4 0 12 0 s.sess.length],.live 0 (Am o),.live 0 [.int .i64 0,.int .i64 0,.own 8 0 [],.own 12 0 []],.live x.1 (Ac Ar x.2.1),.live 0 (Ac (Aq true) s.sess)]) (fun x=>x.2=B8 s o p∧x.2.2<x.2.1.length∧x.2.1.length<1000000000) ?_ ?_
 .by_cases c2:q<0
  .have eV:B8 s o p=(s.vers++[EU o.id p],s.vers.length):=by unfold B8;rw[←hq,if_pos c2]
   rw[decide_eq_true c2]
   refine zt ?_
   refine z1 ?_;intro K hK
   refine⟨by omega,by omega,?_⟩
   refine zk ?_;clear hK K
   refine zs ?_
   exact⟨(1,s.vers++[EU o.id p],s.vers.length),⟨eV.symm,by simp,by simp;omega⟩,Wk.cutM (k:=5) (by simp[Ad]) (by simp[Bz,AA,Ar,EU]) (by simp) (by simp) (by simp) (by simp)⟩
  .have c2' :0≤q:=by omega
   obtain⟨k,hk,rfl⟩:∃k:Nat,k<s.vers.length∧q=(k:Int):=⟨q.toNat,by rw[hq] at c2' ⊢;exact Hd c2',by omega⟩
   have eV:B8 s o p=(s.vers,k):=by unfold B8;rw[←hq,if_neg c2];rfl
   rw[decide_eq_false c2]
   refine zn ?_
   refine W.skip ?_
   exact⟨(0,s.vers,k),⟨eV.symm,hk,h1⟩,Wk.cutM (k:=5) (by simp[Ad]) (by simp) (by simp) (by simp) (by simp) (by simp)⟩
 rintro⟨u,l,i⟩ ⟨eV,hil,hl⟩
 simp only at eV hil hl
 rw[←eV]
 (repeat refine W.seq ?_);refine W.regdX 0 [(45,57),(45,52),(48,57),(48,52),(53,57),(53,52),(48,59),(48,54)] rfl true Ce (by kernel_rfl) fun K hK=>?_;simp -implicitDefEqProofs (maxSteps:=999999) (disch:=omega) [hil]
 refine⟨by omega,by omega,by omega,?_⟩
 (repeat refine⟨by first|assumption|omega,?_⟩);refine hK _ _ (by simp(disch:=omega)) ?_;clear hK K
 rw[M7 o l i hil,←Iy hil]
 obtain⟨l1,hl1⟩:∃l1,l1=Dg l i o:=⟨_,rfl⟩
 have len1:l1.length=l.length:=by rw[hl1,Lw]
 rw[←hl1]
 have hil1:i<l1.length:=by omega
 rw[O9 f l1 i hil1,←Pa hil1]
 refine z0 ?_;intro K hK
 refine zk ?_;clear hK K
 refine zr ?_
 have tk2:List.take l.length (HV l1 i f)=HV l1 i f:=List.take_of_length_le (by rw[Iz];omega)
 simp[Iz,len1,tk2]
end Go.Abs
set_option maxRecDepth 100000
namespace Go.Abs
open Go.Proofs
theorem Zk (k a t:Int) (b:Bool) (xs ys:List Int) (u v:Nat) (hx:xs.length<1000000000) (hy:ys.length<1000000000):Aa pg 93 [.agg [.int .i64 k,.int .i64 a,.int .i64 t,.bool b,.tok 0 u 1 0 xs.length,.tok 1 v 1 0 ys.length]] [.live u (Ae xs),.live v (Ae ys)] (fun r M=>r= .tup []∧M=[.live u (Ae (List.replicate xs.length (-99))),.live v (Ae (List.replicate ys.length (-99)))]):=by
 refine Aa.start (fn:=Tryz.f93) [] tk rfl rfl rfl (by kernel_rfl) (Nat.le_of_ble_eq_true rfl) rfl (by kernel_rfl) ?_
 rw[Av]
 refine z1 ?_;intro K hK;refine zk ?_;clear hK K
 refine z0 ?_;intro K hK
 refine Ab.pass [0] (J1 xs u hx) (by simp) (by simp) (by simp) (by simp) ?_
 rintro r M ⟨rfl,rfl⟩ _
 refine zx ?_
 refine zk ?_;clear hK K
 refine z0 ?_;intro K hK
 refine Ab.pass [1] (J1 ys v hy) (by simp) (by simp) (by simp) (by simp) ?_
 rintro r M ⟨rfl,rfl⟩ _
 refine zx ?_
 refine zk ?_;clear hK K
 (try simp only[BJ,BK,Cx,Cy,if_true]);refine Eo (d:=0) ?_;simp -implicitDefEqProofs (maxSteps:=999999) (disch:=omega)
def RH:Bg:=⟨-9,0,0,⟨ByteArray.empty,0⟩,0,false,false⟩
def Pd:CG:=⟨false,-9,false,0,⟨0,[]⟩,⟨0,0,0,false,[],[]⟩⟩
def Lc (k:Nat) (l:List Bg):List Bg:=List.replicate k RH++l.drop k
def JD (k:Nat) (l:List CG):List CG:=List.replicate k Pd++l.drop k
theorem W7 {l:List Bg} {k:Nat} (h:k<l.length):(Lc k l).set k RH=Lc (k+1) l:=by
 unfold Lc
 rw[List.set_append_right _ _ (by simp),List.length_replicate,Nat.sub_self,List.drop_eq_getElem_cons h,List.set_cons_zero,List.replicate_succ']
 simp
theorem W8 {l:List CG} {k:Nat} (h:k<l.length):(JD k l).set k Pd=JD (k+1) l:=by
 unfold JD
 rw[List.set_append_right _ _ (by simp),List.length_replicate,Nat.sub_self,List.drop_eq_getElem_cons h,List.set_cons_zero,List.replicate_succ']
 simp
theorem Zl {l:List CG} {k:Nat} (h:k<l.length):(JD k l)[k]?=some l[k]:=by
 unfold JD
 rw[List.getElem?_append_right (by simp),List.length_replicate,Nat.sub_self,List.drop_eq_getElem_cons h];rfl
theorem Pe {α:Type} {f:α→List AV} {s:Nat} (h:∀x,(f x).length=s) (x:α) {l:List α} {k:Nat} (hk:k<l.length):Cn (Ac f l) (k*s) (f x)=Ac f (l.set k x):=by
 have hl:=DA (f:=f) h l
 have h1:(k+1)*s≤l.length*s:=Nat.mul_le_mul_right s hk
 rw[Nat.add_mul,Nat.one_mul] at h1
 rw[He _ _ _ (by rw[h,hl];exact h1),h,List.set_eq_take_append_cons_drop,if_pos hk,Bz,AA,←EG (f:=f) h,←Ha (f:=f) h,Nat.add_mul,Nat.one_mul,List.append_assoc]
theorem J4 {cs ys:List AV} {o i:Nat} (z:AV) (h:o+ys.length≤cs.length) (hi:i<ys.length):Cn (cs.set (o+i) z) o ys=Cn cs o ys:=by
 rw[He _ _ _ (by simpa using h),He _ _ _ h,List.take_set_of_le (by omega),List.drop_set_of_lt (by omega)]
theorem W9 {l:List Bg} {k:Nat} (h:k<l.length):((((((((Ac Ar l).set (k*8) (.int .i64 (-9))).set (k*8+1) (.int .i64 0)).set (k*8+1+1) (.int .i64 0)).set (k*8+1+1+1) (.str ByteArray.empty)).set (k*8+1+1+1+1) (.int .i64 0)).set (k*8+1+1+1+1+1) (.int .i64 0)).set (k*8+1+1+1+1+1+1) (.bool false)).set (k*8+1+1+1+1+1+1+1) (.bool false)=Ac Ar (l.set k RH):=
 Pe (f:=Ar) (s:=8) (fun _=>rfl) RH h
theorem UV (s:Ax) (u v:Nat) (hs:AS s) (hx:Bk s):Aa pg 49 [.agg [.int .i64 s.keep,.int .i64 s.blocks,.tok 0 u 8 0 s.vers.length,.tok 1 v 12 0 s.sess.length]] [.live u (Ac Ar s.vers),.live v (Ac (Aq true) s.sess)] (fun r M=>r= .tup []∧M=[.live u (Ac Ar (Lc s.vers.length s.vers)),.live v (Ac (Aq true) (JD s.sess.length s.sess))]):=by
 have h1:=hs.1
 have h2:=hs.2.1
 refine Aa.start (fn:=Tryz.f49) [] tk rfl rfl rfl (by kernel_rfl) (Nat.le_of_ble_eq_true rfl) rfl (by kernel_rfl) ?_
 rw[Av]
 refine z1 ?_;intro K hK;refine zk ?_;clear hK K
 refine zs ?_
 refine W.midS (fun _:Nat=> [(1,.ptr 2 0 0)]) (fun _=> [.live u (Ac Ar (Lc s.vers.length s.vers)),.live v (Ac (Aq true) s.sess),.live 0 [.int .i64 s.keep,.int .i64 s.blocks,.tok 0 u 8 0 s.vers.length,.tok 1 v 12 0 s.sess.length]]) (fun _=>True) ?_ ?_
 . (repeat refine W.seq ?_);refine W.block (W.loopS (fun k:Nat=> [(1,.ptr 2 0 0),(2,.int .i64 k)]) (fun k=> [.live u (Ac Ar (Lc k s.vers)),.live v (Ac (Aq true) s.sess),.live 0 [.int .i64 s.keep,.int .i64 s.blocks,.tok 0 u 8 0 s.vers.length,.tok 1 v 12 0 s.sess.length]]) (fun k=>s.vers.length-k) (fun k=>k≤s.vers.length) 0 (Wk.cutM (k:=3) (by simp[Ad]) (by simp[Lc]) (by simp) (by simp) (by simp) (by simp)) (by simp) ?_)
   intro k hk
   by_cases c1:k<s.vers.length
   .have hset:=W7 c1
    obtain⟨l,hl⟩:∃l,l=Lc k s.vers:=⟨_,rfl⟩
    have hll:l.length=s.vers.length:=by rw[hl,Lc];simp;omega
    rw[←hl] at hset ⊢
    refine Af c1 ?_;intro K hK
    refine zk ?_;clear hK K
    refine zt ?_
    refine W.skip ?_
    refine zb ?_
    have hput:=W9 (l:=l) (k:=k) (by omega)
    refine Af (an c1 hll) ?_;intro K hK
    refine⟨by omega,?_⟩
    refine zk ?_;clear hK K
    rw[hput,hset]
    refine zs ?_
    exact⟨k+1,by omega,by omega,Wk.fr (by simp[Ad])⟩
   .have:k=s.vers.length:=by omega
    subst this
    refine Af c1 ?_;intro K hK
    refine zk ?_;clear hK K
    refine zn ?_
    refine W.exit ?_
    exact⟨0,trivial,Wk.fr (by simp[Ad])⟩
 rintro _ _
 refine zs ?_
 (repeat refine W.seq ?_);refine W.block (W.loopS (fun k:Nat=> [(1,.ptr 2 0 0),(3,.int .i64 k)]) (fun k=> [.live u (Ac Ar (Lc s.vers.length s.vers)),.live v (Ac (Aq true) (JD k s.sess)),.live 0 [.int .i64 s.keep,.int .i64 s.blocks,.tok 0 u 8 0 s.vers.length,.tok 1 v 12 0 s.sess.length]]) (fun k=>s.sess.length-k) (fun k=>k≤s.sess.length) 0 (Wk.fr (by simp[Ad,JD])) (by simp) ?_)
 intro k hk
 by_cases c1:k<s.sess.length
 .have hset:=W8 c1
  have hat:=Zl c1
  obtain⟨l,hl⟩:∃l,l=JD k s.sess:=⟨_,rfl⟩
  have hll:l.length=s.sess.length:=by rw[hl,JD];simp;omega
  rw[←hl] at hset hat ⊢
  have hkl:k<l.length:=by omega
  rw[List.getElem?_eq_getElem hkl] at hat
  have hat:=Option.some.inj hat
  have hin:=hx _ (List.getElem_mem c1)
  obtain⟨x,hxx⟩:∃x,x=s.sess[k]:=⟨_,rfl⟩
  rw[←hxx] at hat hin
  refine Af c1 ?_;intro K hK
  refine zk ?_;clear hK K
  refine zt ?_
  refine W.skip ?_
  refine zb ?_
  have k5:(Ac (Aq true) l)[k*12+5]?=some (.own 1 x.stage.out.length (Ay true x.stage.out)):=by
   rw[AE (f:=Aq true) (s:=12) (fun _=>rfl) hkl (i:=5) (by omega),hat];rfl
  have k10:(Ac (Aq true) l)[k*12+10]?=some (.own 1 x.job.list.length (Ae x.job.list)):=by
   rw[AE (f:=Aq true) (s:=12) (fun _=>rfl) hkl (i:=10) (by omega),hat];rfl
  have k11:(Ac (Aq true) l)[k*12+11]?=some (.own 1 x.job.out.length (Ae x.job.out)):=by
   rw[AE (f:=Aq true) (s:=12) (fun _=>rfl) hkl (i:=11) (by omega),hat];rfl
  refine W.weak (Wk.thaw (B:=1) (v:=v) (j:=k*12+5) (s:=1) (n:=x.stage.out.length) (xs:=Ay true x.stage.out) (by simp[Ai]) k5) ?_
  have j5:((Ac (Aq true) l).set (k*12+5) (.tok 3 0 1 0 x.stage.out.length))[k*12+5]?=some (.tok 3 0 1 0 x.stage.out.length):=List.getElem?_set_self (by rw[DA (f:=Aq true) (s:=12) (fun _=>rfl)];omega)
  have j4:((Ac (Aq true) l).set (k*12+5) (.tok 3 0 1 0 x.stage.out.length))[k*12+4]?=some (.int .i64 x.stage.n):=by
   rw[List.getElem?_set_ne (by omega),AE (f:=Aq true) (s:=12) (fun _=>rfl) hkl (i:=4) (by omega),hat];rfl
  refine Af (an c1 (an hll (an j4 j5))) ?_;intro K hK
  refine Ab.pass [3] (UR x.stage.out 0 0 x.stage.n hin.1.1 hin.1.2) (by simp) (by simp) (by simp) (by simp) ?_
  rintro r M ⟨rfl,rfl⟩ _
  refine zx ?_
  refine zk ?_;clear hK K
  have hcl:(Ac (Aq true) l).length=l.length*12:=DA (f:=Aq true) (s:=12) (fun _=>rfl) l
  have cell:∀i,i<12→(Ac (Aq true) l)[k*12+i]?=(Aq true x)[i]?:=fun i hi=>by rw[AE (f:=Aq true) (s:=12) (fun _=>rfl) hkl (i:=i) hi,hat]
  obtain⟨c1',hc1⟩:∃c1',c1' =(Ac (Aq true) l).set (k*12+5) (.tok 3 0 1 0 x.stage.out.length):=⟨_,rfl⟩
  rw[←hc1]
  have m10:c1'[k*12+10]?=some (.own 1 x.job.list.length (Ae x.job.list)):=by rw[hc1,List.getElem?_set_ne (by omega)];exact k10
  refine W.weak (Wk.thaw (B:=1) (v:=v) (j:=k*12+10) (s:=1) (n:=x.job.list.length) (xs:=Ae x.job.list) (by simp[Ai]) m10) ?_
  have m11:(c1'.set (k*12+10) (.tok 4 0 1 0 x.job.list.length))[k*12+11]?=some (.own 1 x.job.out.length (Ae x.job.out)):=by rw[List.getElem?_set_ne (by omega),hc1,List.getElem?_set_ne (by omega)];exact k11
  refine W.weak (Wk.thaw (B:=1) (v:=v) (j:=k*12+11) (s:=1) (n:=x.job.out.length) (xs:=Ae x.job.out) (by simp[Ai]) m11) ?_
  obtain⟨c2',hc2⟩:∃c2',c2' =(c1'.set (k*12+10) (.tok 4 0 1 0 x.job.list.length)).set (k*12+11) (.tok 5 0 1 0 x.job.out.length):=⟨_,rfl⟩
  have hc1l:c1'.length=l.length*12:=by rw[hc1];simp
  have hc2l:c2'.length=l.length*12:=by rw[hc2];simpa using hc1l
  have n6:c2'[k*12+6]?=some (.int .i64 x.job.kind):=by rw[hc2,List.getElem?_set_ne (by omega),List.getElem?_set_ne (by omega),hc1,List.getElem?_set_ne (by omega),cell 6 (by omega)];rfl
  have n7:c2'[k*12+6+1]?=some (.int .i64 x.job.a):=by rw[show k*12+6+1=k*12+7 by omega,hc2,List.getElem?_set_ne (by omega),List.getElem?_set_ne (by omega),hc1,List.getElem?_set_ne (by omega),cell 7 (by omega)];rfl
  have n8:c2'[k*12+6+1+1]?=some (.int .i64 x.job.at_):=by rw[show k*12+6+1+1=k*12+8 by omega,hc2,List.getElem?_set_ne (by omega),List.getElem?_set_ne (by omega),hc1,List.getElem?_set_ne (by omega),cell 8 (by omega)];rfl
  have n9:c2'[k*12+6+1+1+1]?=some (.bool x.job.move):=by rw[show k*12+6+1+1+1=k*12+9 by omega,hc2,List.getElem?_set_ne (by omega),List.getElem?_set_ne (by omega),hc1,List.getElem?_set_ne (by omega),cell 9 (by omega)];rfl
  have n10:c2'[k*12+6+1+1+1+1]?=some (.tok 4 0 1 0 x.job.list.length):=by rw[show k*12+6+1+1+1+1=k*12+10 by omega,hc2,List.getElem?_set_ne (by omega),List.getElem?_set_self (by omega)]
  have n11:c2'[k*12+6+1+1+1+1+1]?=some (.tok 5 0 1 0 x.job.out.length):=by rw[show k*12+6+1+1+1+1+1=k*12+11 by omega,hc2,List.getElem?_set_self (by simp;omega)]
  have hput:Cn c2' (k*12) (Aq true Pd)=Ac (Aq true) (JD (k+1) s.sess):=by
   have hb:(Aq true Pd).length=12:=rfl
   rw[hc2,J4 _ (by simp;omega) (by omega),J4 _ (by omega) (by omega),hc1,J4 _ (by omega) (by omega),Pe (f:=Aq true) (s:=12) (fun _=>rfl) Pd hkl,hset]
  have hput:=(show((((((((((((c2'.set (k*12) (.bool false)).set (k*12+1) (.int .i64 (-9))).set (k*12+1+1) (.bool false)).set (k*12+1+1+1) (.int .i64 0)).set (k*12+1+1+1+1) (.int .i64 0)).set (k*12+1+1+1+1+1) (.own 1 0 [])).set (k*12+1+1+1+1+1+1) (.int .i64 0)).set (k*12+1+1+1+1+1+1+1) (.int .i64 0)).set (k*12+1+1+1+1+1+1+1+1) (.int .i64 0)).set (k*12+1+1+1+1+1+1+1+1+1) (.bool false)).set (k*12+1+1+1+1+1+1+1+1+1+1) (.own 1 0 [])).set (k*12+1+1+1+1+1+1+1+1+1+1+1) (.own 1 0 []))=Ac (Aq true) (JD (k+1) s.sess) from hput)
  clear hc2l hc1l hcl cell k5 k10 k11 j4 j5 m10 m11
  change W pg tT _ _ _ [_,.live v ((c1'.set (k*12+10) (.tok 4 0 1 0 x.job.list.length)).set (k*12+11) (.tok 5 0 1 0 x.job.out.length)),_,_,_,_] _
  rw[←hc2]
  refine Af (an c1 (an hll (an n6 (an n7 (an n8 (an n9 (an n10 n11))))))) ?_;intro K hK
  refine Ab.pass [4,5] (Zk x.job.kind x.job.a x.job.at_ x.job.move x.job.list x.job.out 0 0 hin.2.1 hin.2.2) (by simp) (by simp) (by simp) (by simp) ?_
  rintro r M ⟨rfl,rfl⟩ _
  refine zx ?_
  refine zk ?_;clear hK K
  have hc2l:c2'.length=l.length*12:=by rw[hc2,hc1];simp only[List.length_set];exact DA (f:=Aq true) (s:=12) (fun _=>rfl) l
  refine Af (an c1 (an hll hc2l)) ?_;intro K hK
  refine⟨by omega,?_⟩
  refine zk ?_;clear hK K
  rw[hput]
  refine zs ?_
  exact⟨k+1,by omega,by omega,Wk.cutM (k:=3) (by simp[Ad]) (by simp) (by simp) (by simp) (by simp) (by simp)⟩
 .have:k=s.sess.length:=by omega
  subst this
  refine Af c1 ?_;intro K hK
  refine zk ?_;clear hK K
  refine zn ?_
  refine W.exit ?_
  (try simp only[BJ,BK,Cx,Cy,if_true]);refine Eo (d:=0) ?_;simp -implicitDefEqProofs (maxSteps:=999999) (disch:=omega)
end Go.Abs
set_option maxRecDepth 100000
namespace Go.Abs
open Go.Proofs
def kq (b k:Int):Ax×Int:=if (1≤b∧b≤100)∧(1≤k∧k≤8) then(C9 b k,0) else(AD,1)
theorem Xa (b k:Int):AS (C9 b k)∧Bk (C9 b k):=by
 refine⟨⟨by simp[C9],by simp[C9],by simp[C9]⟩,?_⟩
 intro x hx
 have:x=E0:=by simpa[C9] using hx
 subst this
 simp[D8,FF,MT,E0,AO,C2]
theorem Pf {y:Ax} (h:AS y∧Bk y):y.vers.length<1000000000000∧y.sess.length<1000000000000∧∀r∈y.sess,D8 r:=⟨by have:=h.1.1;omega,by have:=h.1.2.1;omega,h.2⟩
end Go.Abs
namespace Go.Abs
def KP:List Bg→Int→List Bg
 | [],_=> []
 |v::t,a=>{v with at_:=a}::KP t (a+CO v.data)
def al:List Bg→Int
 | []=>0
 |v::t=>CO v.data+al t
@[simp] theorem Tg:∀(l:List Bg) (a:Int),(KP l a).length=l.length
  | [],a=>rfl
  |v::t,a=>by simp[KP,Tg t]
def kr (l:List Bg) (a:Int):List (Int×Int):=(KP l a).map fun v=>(v.at_,CO v.data)
end Go.Abs
namespace Go.Abs
theorem J5 {l m:List Obj} (P:Int→Prop) (h:∀id,P id→id≠0→AX l id=AX m id) (hb:∀id o,P id→id≠0→AX l id=some o→P o.base):∀(k:Nat) (id:Int),P id→AN l k id=AN m k id
 |0,_,_=>rfl
 |k+1,id,hp=>by
  simp only[AN]
  by_cases h0:id=0
  .simp[h0]
  .rw[if_neg h0,if_neg h0,←h id hp h0]
   cases e:AX l id with
   |none=>rfl
   |some o=>simp only;rw[J5 P h hb k o.base (hb id o hp h0 e)]
theorem Th {l m:List Obj} (P:Int→Prop) (h:∀id,P id→id≠0→AX l id=AX m id) (hb:∀id o,P id→id≠0→AX l id=some o→P o.base) {id:Int} (hp:P id) (h0:id≠0):AP l id=AP m id:=by
 unfold AP AQ
 rw[J5 P h hb 4 id hp,J5 P h hb 3 id hp,h id hp h0]
def Cz (l:List Obj) (id:Int):Prop:=∃q∈l,q.id=id
theorem Ex {l:List Obj} {id:Int} {o:Obj} (h:AX l id=some o):o∈l∧o.id=id:=⟨List.mem_of_find?_eq_some h,by simpa using List.find?_some h⟩
theorem CL {l:List Obj} {id:Int}:Cz l id↔∃o,AX l id=some o:=by
 constructor
 .rintro⟨q,hq,e⟩
  cases h:AX l id with
  |none=>have:=List.find?_eq_none.1 h q hq;simp[e] at this
  |some o=>exact⟨o,rfl⟩
 .rintro⟨o,h⟩
  exact⟨o,Ex h⟩
def Xb (l:List Obj):Prop:=∀o∈l,o.base=0∨Cz l o.base
theorem Cf.closed {l:List Obj} (h:Cf l):Xb l:=fun o ho=>(h.2.1 o ho).2.2.2.2
theorem UW {s y:Ax} {x:CG} (hi:∀id,id∈s.vers.map (fun v=>v.id)→id∈y.vers.map fun v=>v.id) (hl:A7 s.vers≤A7 y.vers)
 (hg:∀id,id≠0→id∈s.vers.map (fun v=>v.id)→AP (Aj y) id=AP (Aj s) id) (h:AI s (Aj s) x):AI y (Aj y) x:=by
 unfold AI at h ⊢
 split at h
 .rw[if_pos (by assumption)];exact h
 .rename_i ho
  rw[if_neg ho]
  obtain⟨h1,h2,h3⟩:=h
  rw[Ix] at h1
  rw[Ix]
  refine⟨h1.imp id (hi _),?_,?_⟩
  .split at h2
   .rw[if_pos (by assumption)];exact⟨h2.1,by omega,h2.2.2⟩
   .rw[if_neg (by assumption)];exact h2
  .rcases h3 with h3| ⟨h3,h4,h5⟩
   .exact .inl h3
   .rw[hg _ h3 (h1.resolve_left h3)];exact .inr ⟨h3,h4,h5⟩
theorem Hv (s:Ax):(Aj s).map (fun o=>o.id)=s.vers.map fun v=>v.id:=by simp[Aj,BQ]
theorem Gl (s:Ax) (id:Int):Cz (Aj s) id↔id∈s.vers.map fun v=>v.id:=by
 rw[←Hv];simp[Cz]
theorem RI (l:List Bg) (v:Bg):A7 (l++[v])=v.id:=by simp[A7]
theorem Ti {s y:Ax} (h:Et s) (hv:y.vers.map BQ=s.vers.map BQ) (hm:∀v∈y.vers,∃u∈s.vers,u.id=v.id∧u.parent=v.parent∧u.tag=v.tag∧u.gone=v.gone) (hl:Dm y.vers=false) (hs:y.sess=s.sess) (hk:y.keep=s.keep) (hb:1≤y.blocks∧y.blocks≤100):Et y:=by
 obtain⟨⟨a1,a2,a3,a4,a5,a6,a7⟩,b,c,d⟩:=h
 have ey:Aj y=Aj s:=hv
 have ei:y.vers.map (fun v=>v.id)=s.vers.map fun v=>v.id:=by rw[←Hv,ey,Hv]
 refine⟨⟨by omega,by omega,hb.1,hb.2,?_,hl,by rw[ey];exact a7⟩,by rw[hs];exact b,by rw[ey];exact c,?_⟩
 .intro v hv
  obtain⟨u,hu,e1,e2,e3,e4⟩:=hm v hv
  obtain⟨k1,k2,k3⟩:=a5 u hu
  exact⟨by omega,by omega,by rw[←e3,←e4];exact k3⟩
 .rw[hs]
  intro x hx
  exact UW (fun id h=>by rw[ei];exact h) (by rw[L3 _ _ ei];exact Int.le_refl _) (fun id _ _=>by rw[ey]) (d x hx)
def gY (s:Ax) (n:Int):Ax:={s with blocks:=n,vers:=KP s.vers 0}
def ks (s:Ax) (v:Bg):Obj:=⟨A7 s.vers+1,v.base,v.data⟩
def kt (l:List Bg) (k:Nat):List Bg:=KP (l.take k) 0++l.drop k
end Go.Abs
namespace Go.Abs
def EW (c:List Bool):Nat:=BG c*2^(8-c.length)
def Eg (m:Nat) (l:List Bool):List Nat:=(List.range m).map fun k=>EW ((l.drop (8*k)).take 8)
def pk (l:List Bool):List Nat:=Eg ((l.length+7)/8) l
def Fp (n:Nat):AV:= .int .u8 (n:Int)
def Bv (ns:List Nat):List AV:=ns.map Fp
def DI (l:List Bool):Db:=⟨DZ (Bv (pk l)),l.length⟩
@[simp] theorem Q3 (m:Nat) (l:List Bool):(Eg m l).length=m:=by simp[Eg]
@[simp] theorem eO (ns:List Nat):(Bv ns).length=ns.length:=by simp[Bv]
theorem KQ (ns:List Nat) (i n:Nat):(Bv ns).set i (.int .u8 (n:Int))=Bv (ns.set i n):=by simp[Bv,Fp]
theorem UX {c:List Bool} (h:c.length≤8):EW c<256:=by
 have h1:=Gx c
 have h2:2^c.length*2^(8-c.length)=256:=by rw[←Nat.pow_add,show c.length+(8-c.length)=8 by omega]
 unfold EW
 have h3:0<2^(8-c.length):=Nat.pow_pos (by omega)
 exact Nat.lt_of_lt_of_eq (Nat.mul_lt_mul_of_pos_right h1 h3) h2
theorem RJ (c:List Bool) (b:Bool) (h:c.length<8):EW (c++[b])=EW c+b.toNat*2^(7-c.length):=by
 have e:8-c.length=(7-c.length)+1:=by omega
 unfold EW
 rw[N7,List.length_append,List.length_singleton,e,show 8-(c.length+1)=7-c.length by omega,Nat.pow_succ,Nat.add_mul]
 congr 1
 rw[Nat.mul_comm 2,Nat.mul_assoc,Nat.mul_comm 2]
theorem am (m:Nat):Eg m []=List.replicate m 0:=by
 unfold Eg
 refine List.ext_getElem (by simp) fun j h1 h2=>?_
 simp[EW]
theorem Pg {m:Nat} {l:List Bool} {k:Nat} (h:k<m):(Eg m l)[k]'(by simpa using h)<256:=by
 simp only[Eg,List.getElem_map,List.getElem_range]
 exact UX (by simp;omega)
theorem RK (l:List Bool) (b:Bool) (k:Nat):((l++[b]).drop (8*k)).take 8=if l.length/8=k then(l.drop (8*k)).take 8++[b] else(l.drop (8*k)).take 8:=by
 split
 .rename_i e
  rw[List.drop_append_of_le_length (by omega),List.take_append,List.length_drop]
  have:(8-(l.length-8*k))=(7-(l.length-8*k))+1:=by omega
  rw[this];simp
 .rename_i e
  by_cases h:l.length<8*k
  .rw[List.drop_eq_nil_of_le (by simp;omega),List.drop_eq_nil_of_le (by omega)]
  .rw[List.drop_append_of_le_length (by omega),List.take_append_of_le_length (by simp;omega)]
theorem Ph (m:Nat) (l:List Bool) (b:Bool) (h:l.length/8<m):Eg m (l++[b])=(Eg m l).set (l.length/8) ((Eg m l)[l.length/8]'(by simpa using h)+b.toNat*2^(7-l.length%8)):=by
 refine List.ext_getElem (by simp) fun j h1 h2=>?_
 rw[List.getElem_set]
 simp only[Eg,List.getElem_map,List.getElem_range,RK]
 split
 .rename_i e
  subst e
  have hl:((l.drop (8*(l.length/8))).take 8).length=l.length%8:=by simp;omega
  rw[RJ _ _ (by omega),hl]
 .rfl
theorem Q4 (m:Nat) (l:List Bool) (k:Nat) (h:k<m) (hk:l.length/8=k):2^(8-l.length%8)∣(Eg m l)[k]'(by simpa using h):=by
 subst hk
 simp only[Eg,List.getElem_map,List.getElem_range]
 have hl:((l.drop (8*(l.length/8))).take 8).length=l.length%8:=by simp;omega
 unfold EW
 rw[hl]
 exact Nat.dvd_mul_left _ _
theorem UY {m:Nat} {l:List Bool} (h:l.length≤8*m):Eg (m+1) l=Eg m l++[0]:=by
 unfold Eg
 rw[List.range_succ,List.map_append]
 congr 1
 simp only[List.map_cons,List.map_nil,List.cons.injEq,and_true]
 rw[List.drop_eq_nil_of_le (by omega)]
 rfl
theorem M9:∀y:Fin 256,IntKind.wrap .u8 ((y.val:Nat):Int)=((y.val:Nat):Int):=by decide+kernel
theorem gZ {a x r:Nat} (h:2^r∣a) (hx:x<2^r) (ha:a+x<256):IntKind.wrap .u8 ((BitVec.ofInt 8 (a:Int) |||BitVec.ofInt 8 (x:Int)).toNat:Int)=((a+x:Nat):Int):=by
 obtain⟨q,rfl⟩:=h
 have e:2^r*q|||x=2^r*q+x:=(Nat.two_pow_add_eq_or_of_lt hx q).symm
 have e1:(BitVec.ofInt 8 ((2^r*q:Nat):Int)).toNat=2^r*q:=by
  rw[BitVec.ofInt_natCast,BitVec.toNat_ofNat];exact Nat.mod_eq_of_lt (by omega)
 have e2:(BitVec.ofInt 8 (x:Int)).toNat=x:=by
  rw[BitVec.ofInt_natCast,BitVec.toNat_ofNat];exact Nat.mod_eq_of_lt (by omega)
 rw[BitVec.toNat_or,e1,e2,e]
 exact M9 ⟨_,ha⟩
def DJ:List Int→Bool→List Bool
 | [],_=> []
 |n::l,f=>AC (if f=true then n+1 else n).toNat++DJ l false
def CD (v:Int) (ref l:List Int):List Bool:=AC ((blocks ref l).length+1)++DJ (blocks ref l) true++AT v (Bf ref l)
def Cc (f:Int→List Int→List Bool):Int→List (List Int)→List Bool
 |_,[]=> []
 |v,l::ls=>f v l++Cc f (v+1) ls
def BW (g:Gr):List Bool:=AC (g.n.toNat+1)++Cc AT 0 g.out
def B3 (a g:Gr):List Bool:=AC (g.n.toNat+1)++Cc (fun v l=>CD v (AF a v) l) 0 g.out
theorem L7 (f:Int→List Int→List Bool) (l:List Int):∀(ls:List (List Int)) (v:Int),Cc f v (ls++[l])=Cc f v ls++f (v+ls.length) l
 | [],v=>by simp[Cc]
 |x::ls,v=>by
  simp only[List.cons_append,Cc,L7 f l ls,List.append_assoc,List.length_cons]
  congr 3
  omega
theorem G4 (f:Int→List Int→List Bool) {ls:List (List Int)} {i:Nat} (h:i<ls.length):Cc f 0 (ls.take (i+1))=Cc f 0 (ls.take i)++f i ls[i]:=by
 rw[List.take_succ_eq_append_getElem h,L7]
 simp[Nat.min_eq_left (Nat.le_of_lt h)]
theorem I7:∀(l:List Int) (i:Nat) (f:Bool) (h:i<l.length),DJ (l.take (i+1)) f=DJ (l.take i) f++AC (if i=0∧f=true then l[i]+1 else l[i]).toNat
 | [],i,f,h=>by simp at h
 |x::t,0,f,h=>by simp[DJ]
 |x::t,i+1,f,h=>by
  have ih:=I7 t i false (by simpa using h)
  simp only[List.take_succ_cons,DJ,List.getElem_cons_succ] at ih ⊢
  rw[ih,List.append_assoc]
  simp
def Wg:Obj:=⟨0,0,⟨ByteArray.empty,0⟩⟩
def L8 (l:List Obj):Int:=match l.getLast? with|some o=>o.id+1|none=>1
def Fx (l:List Obj) (base:Int) (g:Gr):Db:=DI (if base=0 then BW g else B3 (AP l base).1 g)
def iS (l:List Obj) (parent:Int) (g:Gr):Obj×Int:=
 if 12≤l.length∨1048576<L8 l then(Wg,2) else
 if parent=0 then(⟨L8 l,0,Fx l 0 g⟩,0) else
 if (AP l parent).2≠0 then(Wg,(AP l parent).2) else
 if (AQ l parent).1<3∧(B3 (AP l parent).1 g).length<(BW g).length then(⟨L8 l,parent,Fx l parent g⟩,0) else(⟨L8 l,0,Fx l 0 g⟩,0)
end Go.Abs
namespace Go.Abs
theorem IA {n:Nat} (h:n<32):(AC n).length≤9:=by
 have:=D6 n
 by_cases h0:n=0
 .subst h0;simp[AC,A6]
 .have:=(Nat.log2_lt (n:=n) (k:=5) h0).2 (by omega)
  omega
theorem Zm {n:Nat} (h:n<64):(AC n).length≤11:=by
 have:=D6 n
 by_cases h0:n=0
 .subst h0;simp[AC,A6]
 .have:=(Nat.log2_lt (n:=n) (k:=6) h0).2 (by omega)
  omega
theorem NC {v:Int} (hv:0≤v∧v≤16):∀(l:List Int) (f:Bool) (e:Int),(∀x∈l,0≤x∧x<16)→(f=false→0≤e)→(Cu v l f e).length≤9*l.length+(if f=true then 2 else 0)
 | [],f,e,_,_=>by simp[Cu]
 |x::l,f,e,h,he=>by
  have hx:=h x (by simp)
  have ih:=NC hv l false x (fun y hy=>h y (by simp[hy])) (fun _=>hx.1)
  rw[Cu,List.length_append]
  cases f
  .have:=IA (n:=(x-e).toNat) (by have:=he rfl;omega)
   simp at ih ⊢;omega
  .have:=Zm (n:=(Ca (x-v)+1).toNat) (by unfold Ca;split<;>omega)
   simp at ih ⊢;omega
theorem ND {v:Int} (hv:0≤v∧v≤16):∀(l:List (Int×Int)) (f:Bool) (e:Int),(∀x∈l,0≤x.1∧x.1<16∧0≤x.2∧x.2≤16)→(f=false→0≤e)→(Ck v l f e).length≤18*l.length+(if f=true then 2 else 0)
 | [],f,e,_,_=>by simp[Ck]
 | (a,n)::l,f,e,h,he=>by
   have hx:=h (a,n) (by simp)
   simp only at hx
   have ih:=ND hv l false (a+n) (fun y hy=>h y (by simp[hy])) (fun _=>by omega)
   rw[Ck,List.length_append,List.length_append]
   have h2:=IA (n:=(n-3+1).toNat) (by omega)
   cases f
   .have:=IA (n:=(a-e).toNat) (by have:=he rfl;omega)
    simp at ih ⊢;omega
   .have:=Zm (n:=(Ca (a-v)+1).toNat) (by unfold Ca;split<;>omega)
    simp at ih ⊢;omega
theorem NE:∀(n:Nat) (l:List Int),l.length≤n→3*(Ao l).1.length+(Ao l).2.length≤l.length
 |_,[],_=>by simp[Ao]
 |0,x::l,h=>by simp at h
 |n+1,x::l,h=>by
  have h1:=EJ x l
  have h2:=Fb (x::l)
  have h3:((x::l).drop (AY (x::l))).length=(x::l).length-AY (x::l):=by simp
  have ih:=NE n ((x::l).drop (AY (x::l))) (by omega)
  rw[Ao]
  split
  .simp only[List.length_cons] at*;omega
  .simp only[List.length_append,List.length_take] at*;omega
theorem FV {v:Int} {l:List Int} (hv:0≤v∧v≤16) (hl:AL l):(AT v l).length≤166:=by
 have hll:=Br hl
 obtain⟨p1,p2,p3,p4⟩:=Ev l.length l true 0 (Nat.le_refl _) hl.2 (.inl rfl)
 have pin:=Ho l.length l (Nat.le_refl _)
 have ps:=NE l.length l (Nat.le_refl _)
 have hpos:=KM (Ao l).1 true 0 p1
 have a1:=IA (n:=(Ao l).1.length+1) (by omega)
 have a2:=ND hv (Ao l).1 true 0 (fun q hq=>by
  have h1:=pin q hq
  have h2:=hl.1 _ h1.1
  obtain⟨i,hi,rfl⟩:=List.mem_iff_getElem.1 hq
  have h3:=(hpos i hi).1
  omega) (by simp)
 have a3:=IA (n:=(Ao l).2.length+1) (by omega)
 have a4:=NC hv (Ao l).2 true 0 (fun x hx=>hl.1 x (p4 x hx)) (by simp)
 unfold AT CQ
 simp only[List.length_append]
 simp at a2 a4
 omega
theorem IB (l:List Int):∀(ref:List Int) (b:Bool) (n:Nat) (h:0<(A1 l ref b n).length),n≤(A1 l ref b n)[0]
 | [],b,n,h=>by simp[A1] at h
 |x::ref,b,n,h=>by
  simp only[A1] at h ⊢
  split at h
  .rename_i e
   simp only[if_pos e]
   have:=IB l ref b (n+1) h
   omega
  .rename_i e
   simp only[if_neg e,List.getElem_cons_zero]
   exact Nat.le_refl _
theorem Il (l:List Int):∀(ref:List Int) (b:Bool) (n j:Nat) (h:j<(A1 l ref b n).length),(A1 l ref b n)[j]≤n+ref.length∧(0<j→1≤(A1 l ref b n)[j])
 | [],b,n,j,h=>by simp[A1] at h
 |x::ref,b,n,j,h=>by
  simp only[A1] at h ⊢
  split at h
  .rename_i e
   have ih:=Il l ref b (n+1) j h
   simp only[if_pos e]
   refine⟨by have:=ih.1;simp only[List.length_cons];omega,ih.2⟩
  .rename_i e
   simp only[if_neg e]
   cases j with
   |zero=>exact⟨by simp only[List.getElem_cons_zero,List.length_cons];omega,fun h=>by omega⟩
   |succ j=>
    have ih:=Il l ref (!b) 1 j (by simpa using h)
    simp only[List.getElem_cons_succ,List.length_cons]
    refine⟨by have:=ih.1;omega,fun _=>?_⟩
    cases j with
    |zero=>exact IB l ref (!b) 1 (by simpa using h)
    |succ j=>exact ih.2 (by omega)
theorem G5 (ref l:List Int):(blocks ref l).length≤ref.length:=by
 simp only[blocks,List.length_map];exact GC l ref true 0
theorem HX (ref l:List Int) (j:Nat) (h:j<(blocks ref l).length):0≤(blocks ref l)[j]∧(blocks ref l)[j]≤ref.length∧(0<j→1≤(blocks ref l)[j]):=by
 have h' :j<(A1 l ref true 0).length:=by simpa[blocks] using h
 have:=Il l ref true 0 j h'
 simp only[blocks,List.getElem_map]
 refine⟨by omega,by omega,fun hj=>by have:=this.2 hj;omega⟩
theorem NF:∀(l:List Int) (f:Bool),(∀x∈l,x≤30)→(DJ l f).length≤9*l.length
 | [],f,_=>by simp[DJ]
 |n::l,f,h=>by
  have ih:=NF l false fun x hx=>h x (by simp[hx])
  have h1:=h n (by simp)
  have:=IA (n:=(if f=true then n+1 else n).toNat) (by split<;>omega)
  rw[DJ,List.length_append,List.length_cons];omega
theorem G6 {ref l:List Int} (h:AL l):AL (Bf ref l):=⟨fun x hx=>h.1 x (List.mem_filter.1 hx).1,h.2.filter _⟩
theorem I8 {v:Int} {ref l:List Int} (hv:0≤v∧v≤16) (hr:ref.length≤16) (hl:AL l):(CD v ref l).length≤330:=by
 have a1:=G5 ref l
 have a2:=IA (n:=(blocks ref l).length+1) (by omega)
 have a3:=NF (blocks ref l) true (fun x hx=>by
  obtain⟨i,hi,rfl⟩:=List.mem_iff_getElem.1 hx
  have:=HX ref l i hi
  omega)
 have a4:=FV hv (G6 (ref:=ref) hl)
 unfold CD
 simp only[List.length_append]
 omega
theorem J6 {f:Int→List Int→List Bool} {c:Nat}:∀(ls:List (List Int)) (v:Int),(∀(i:Nat) (h:i<ls.length),(f (v+i) ls[i]).length≤c)→(Cc f v ls).length≤c*ls.length
 | [],v,_=>by simp[Cc]
 |l::ls,v,h=>by
  have ih:=J6 (c:=c) ls (v+1) fun i hi=>by
   have:=h (i+1) (by simpa using hi)
   simp only[List.getElem_cons_succ] at this
   rw[show v+1+(i:Int)=v+((i+1:Nat):Int) by omega];exact this
  have h0:=h 0 (by simp)
  simp at h0
  rw[Cc,List.length_append,List.length_cons,Nat.mul_add];omega
theorem GY {g:Gr} (hg:A3 g):(BW g).length≤6000:=by
 have h1:=IA (n:=g.n.toNat+1) (by have:=hg.2.1;omega)
 have h2:=J6 (f:=AT) (c:=166) g.out 0 (fun i hi=>FV ⟨by omega,by have:=hg.2.1;have:=hg.2.2.1;omega⟩ (hg.2.2.2.1 _ (List.getElem_mem hi)).1)
 have h3:=hg.2.1
 have h4:=hg.2.2.1
 unfold BW
 rw[List.length_append]
 have:166*g.out.length≤166*16:=Nat.mul_le_mul_left _ (by omega)
 omega
theorem GZ {a g:Gr} (ha:A3 a) (hg:A3 g):(B3 a g).length≤6000:=by
 have h1:=IA (n:=g.n.toNat+1) (by have:=hg.2.1;omega)
 have h2:=J6 (f:=fun v l=>CD v (AF a v) l) (c:=330) g.out 0 (fun i hi=>I8 ⟨by omega,by have:=hg.2.1;have:=hg.2.2.1;omega⟩ (Co ha _) (hg.2.2.2.1 _ (List.getElem_mem hi)).1)
 have h3:=hg.2.1
 have h4:=hg.2.2.1
 unfold B3
 rw[List.length_append]
 have:330*g.out.length≤330*16:=Nat.mul_le_mul_left _ (by omega)
 omega
end Go.Abs
set_option maxRecDepth 100000
namespace Go.Abs
open Go.Proofs
theorem ar (xs:List Bool) (u:Nat) (v:Int) (ref l:List Int) (hx:xs.length<100000) (hv:0≤v∧v≤16) (hr:ref.length≤16) (hl:AL l):Aa pg 168 [.tok 0 u 1 0 xs.length,.int .i64 v,.ro ref.length (Ae ref),.ro l.length (Ae l)] [.live u (AU xs)] (fun r M=>r= .own 1 (xs++CD v ref l).length (AU (xs++CD v ref l))∧M=[.dead]):=by
 have hll:=Br hl
 have hbl:=G5 ref l
 have hbd:=HX ref l
 have hom:=G6 (ref:=ref) hl
 have hbits:CD v ref l=AC ((blocks ref l).length+1)++DJ (blocks ref l) true++AT v (Bf ref l):=rfl
 rw[hbits]
 clear hbits
 have spC:=OY ref l (by omega) (by omega)
 obtain⟨bl,hb⟩:∃bl,bl=blocks ref l:=⟨_,rfl⟩
 obtain⟨rest,hrest⟩:∃rest,rest=Bf ref l:=⟨_,rfl⟩
 rw[←hb,←hrest] at spC ⊢
 rw[←hb] at hbl
 rw[←hrest] at hom
 have hbd' :∀(j:Nat) (h:j<bl.length),0≤bl[j]∧bl[j]≤16∧(0<j→1≤bl[j]):=fun j h=>by
  subst hb
  have:=hbd j h
  omega
 have hg0:=Dk (bl.length+1) (by omega)
 refine Aa.start (fn:=Tryz.f168) [.tmp 8] tk rfl rfl rfl (by kernel_rfl) (Nat.le_of_ble_eq_true rfl) rfl (by kernel_rfl) ?_
 rw[Hz]
 refine zs ?_
 refine z0 ?_;intro K hK
 refine Ab.eq spC (by simp) (by simp) ?_
 refine zx ?_
 refine zk ?_;clear hK K
 refine z0 ?_;intro K hK
 refine Ab.pass [0] (DX xs u (bl.length+1) (by omega) (by omega) (by omega)) (by simp) (by simp) (by simp) (by simp) ?_
 rintro r M ⟨rfl,rfl⟩ _
 refine zx ?_
 refine zk ?_;clear hK K
 refine zs ?_
 (repeat refine W.seq ?_);refine W.block (W.loopS (fun z:Nat×List Bool=> [(0,.tok 3 0 1 0 z.2.length),(1,.int .i64 v),(9,.tok 1 0 1 0 bl.length),(10,.tok 2 0 1 0 rest.length),(11,.int .i64 (z.1:Nat))]) (fun z=> [.dead,.live 0 (Ae bl),.live 0 (Ae rest),.live 0 (AU z.2)]) (fun z=>bl.length-z.1) (fun z=>z.1≤bl.length∧z.2=xs++(AC (bl.length+1)++DJ (bl.take z.1) true)∧z.2.length≤xs.length+81*(z.1+1)) (0,xs++AC (bl.length+1)) (Wk.fr (by simp[Ad])) ⟨by simp,by simp[DJ],by simp;omega⟩ ?_)
 rintro⟨i,B⟩ ⟨hi,hB,hBl⟩
 simp only at hi hB hBl
 by_cases c1:i<bl.length
 rotate_left
 .have hi' :i=bl.length:=by omega
  subst hi'
  rw[List.take_length] at hB
  refine Af c1 ?_;intro K hK
  refine zk ?_;clear hK K
  refine zn ?_
  refine W.exit ?_
  refine z0 ?_;intro K hK
  refine Ab.pass [3] (OX B 0 v rest (by omega) hv hom) (by simp) (by simp) (by simp) (by simp) ?_
  rintro r M ⟨rfl,rfl⟩ _
  refine zx ?_
  refine zk ?_;clear hK K
  refine zr ?_
  rw[List.take_of_length_le (by simp),hB]
  simp
  omega
 have hto:=I7 bl i true c1
 have hb3:=hbd' i c1
 refine Af c1 ?_;intro K hK
 refine zk ?_;clear hK K
 refine zt ?_
 refine W.skip ?_
 refine zb ?_
 (repeat refine W.seq ?_);refine W.reg 0 rfl fun K hK=>?_;simp -implicitDefEqProofs (maxSteps:=999999) (disch:=omega) [c1]
 refine zk ?_;clear hK K
 by_cases h0:i=0
 .subst h0
  obtain⟨c,hc⟩:=Int.eq_ofNat_of_zero_le (show 0≤bl[0]+1 by omega)
  have hcl:=Dk c (by omega)
  refine zs ?_
  refine zt ?_
  refine Af hc ?_;intro K hK
  refine zk ?_;clear hK K
  refine z0 ?_;intro K hK
  refine Ab.pass [3] (DX B 0 c (by omega) (by omega) (by omega)) (by simp) (by simp) (by simp) (by simp) ?_
  rintro r M ⟨rfl,rfl⟩ _
  refine zx ?_
  refine zk ?_;clear hK K
  refine zs ?_
  refine⟨(0+1,B++AC c),by simp only;omega,⟨by simp only;omega,?_,by simp;omega⟩,?_⟩
  .simp only[hto,and_self,if_true,hc,Int.toNat_natCast]
   rw[hB];simp
  .simp only[List.length_append]
   exact Wk.sink (k:=3) (j:=4) (by rfl) (by simp) (by omega) (by simp) (by simp[Ad]) (by simp) (by simp) (by simp)
 .obtain⟨c,hc⟩:=Int.eq_ofNat_of_zero_le hb3.1
  have hcl:=Dk c (by omega)
  refine Af h0 ?_;intro K hK
  refine zk ?_;clear hK K
  refine zn ?_
  refine W.skip ?_
  refine Af hc ?_;intro K hK
  refine Ab.pass [3] (DX B 0 c (by omega) (by omega) (by omega)) (by simp) (by simp) (by simp) (by simp) ?_
  rintro r M ⟨rfl,rfl⟩ _
  refine zx ?_
  refine zk ?_;clear hK K
  refine zs ?_
  refine⟨(i+1,B++AC c),by simp only;omega,⟨by simp only;omega,?_,by simp;omega⟩,?_⟩
  .simp only[hto,h0,false_and,if_false,hc,Int.toNat_natCast]
   rw[hB];simp
  .simp only[List.length_append]
   exact Wk.sink (k:=3) (j:=4) (by rfl) (by simp) (by omega) (by simp) (by simp[Ad]) (by simp) (by simp) (by simp)
theorem Xc (g:Gr) (hg:A3 g):Aa pg 128 [.agg (A2 false g)] [] (fun r _=>∃ats:List Int,r= .tup [.own 1 (BW g).length (AU (BW g)),.own 1 ats.length (Ae ats)]):=by
 obtain⟨n,hn⟩:=Int.eq_ofNat_of_zero_le hg.1
 have hn16:n≤16:=by have:=hg.2.1;omega
 have hout:g.out.length=n:=by have:=hg.2.2.1;omega
 obtain⟨c,hc⟩:∃c:Nat,c=n+1:=⟨_,rfl⟩
 have hg0:=IA (n:=c) (by omega)
 have en:(n:Int)+1=(c:Int):=by omega
 have sp0:=Qk c (by omega) (by omega)
 have hfb:BW g=AC c++Cc AT 0 g.out:=by unfold BW;rw[hn,Int.toNat_natCast,hc]
 refine Aa.start (fn:=Tryz.f128) [.tmp 2,.tmp 3] tk rfl rfl rfl (by kernel_rfl) (Nat.le_of_ble_eq_true rfl) rfl (by kernel_rfl) ?_
 rw[Av]
 refine z1 ?_;intro K hK;refine zk ?_;clear hK K
 rw[hn]
 refine Af en ?_;intro K hK
 refine Ab.eqN sp0 (by simp[N4]) (by simp) ?_
 refine zx ?_
 refine zk ?_;clear hK K
 refine zs ?_
 refine zs ?_
 refine W.weak ((Wk.nil (t:=5) (s:=1) (by simp)).trans (Wk.move (j:=1) (t:=4) (u:=0) (s:=1) (off:=0) (n:=(AC c).length) (xs:=AU (AC c)) (S:=[(1,.ptr 0 0 0),(5,.tok 2 0 1 0 0),(6,.int .i64 0)]) rfl (by simp) (by simp) (by simp[Ad]))) ?_
 (repeat refine W.seq ?_);refine W.block (W.loopS (fun z:Nat×List Bool×List Int=> [(4,.tok 3 0 1 0 z.2.1.length),(1,.ptr 0 0 0),(5,.tok 2 z.1 1 0 z.1),(6,.int .i64 z.1)]) (fun z=> [.live 0 [.int .i64 n,.ro g.out.length (Ay false g.out)],.dead,.live z.1 (Ae z.2.2),.live 0 (AU z.2.1)]) (fun z=>n-z.1) (fun z=>z.1≤n∧z.2.1=AC c++Cc AT 0 (g.out.take z.1)∧z.2.1.length≤9+166*z.1∧z.2.2.length=z.1) (0,AC c,[]) (Wk.cutM (k:=4) (by simp[Ad]) (by simp) (by simp) (by simp) (by simp) (by simp)) ⟨by simp,by simp[Cc],by simp;omega,rfl⟩ ?_)
 rintro⟨i,B,ats⟩ ⟨hi,hB,hBl,hal⟩
 simp only at hi hB hBl hal
 by_cases c1:i<n
 rotate_left
 .have hi' :i=n:=by omega
  subst hi'
  rw[List.take_of_length_le (by omega)] at hB
  rw[←hfb] at hB
  subst hB
  refine Af c1 ?_;intro K hK
  refine zk ?_;clear hK K
  refine zn ?_
  refine W.exit ?_
  refine zs ?_
  refine zr ?_
  refine⟨ats,?_⟩
  rw[hal,List.take_of_length_le (by omega)]
  simp
 have hlt:i<g.out.length:=by omega
 have hml:=(hg.2.2.2.1 _ (List.getElem_mem hlt)).1
 have hto:=G4 AT hlt
 have hrl:=FV (v:=(i:Int)) ⟨by omega,by omega⟩ hml
 refine Af c1 ?_;intro K hK
 refine zk ?_;clear hK K
 refine zt ?_
 refine W.skip ?_
 refine zb ?_
 refine z1 ?_;intro K hK
 refine⟨hal,by omega,by omega,?_⟩
 refine zk ?_;clear hK K
 (repeat refine W.seq ?_);refine W.reg 0 rfl fun K hK=>?_;simp -implicitDefEqProofs (maxSteps:=999999) (disch:=omega) [hlt]
 refine Ab.pass [3] (OX B 0 i g.out[i] (by omega) ⟨by omega,by omega⟩ hml) (by simp) (by simp) (by simp) (by simp) ?_
 rintro r M ⟨rfl,rfl⟩ _
 refine zx ?_
 refine zk ?_;clear hK K
 refine zs ?_
 refine⟨(i+1,B++AT i g.out[i],ats++[(B.length:Int)]),by simp only;omega,⟨by simp only;omega,?_,by simp;omega,by simp;exact hal⟩,?_⟩
 .simp only[hto];rw[hB];simp
 .simp only[List.length_append]
  refine Wk.trans (Wk.sink (k:=3) (j:=5) (t:=4) (v:=0) (s:=1) (off:=0) (n:=B.length+(AT i g.out[i]).length) (S:=[(1,.ptr 0 0 0),(5,.tok 2 (i+1) 1 0 (i+1)),(6,.int .i64 ((i+1:Nat):Int))]) (by rfl) (by simp) (by omega) (by simp) (by simp[Ad]) (by simp) (by simp) (by simp)) ?_
  exact Wk.cutM (k:=4) (by simp[Ad]) (by simp[BT,Ae]) (by simp) (by simp) (by simp) (by simp)
theorem Xd (a g:Gr) (ha:A3 a) (hg:A3 g):Aa pg 129 [.agg (A2 false a),.agg (A2 false g)] [] (fun r _=>r= .own 1 (B3 a g).length (AU (B3 a g))):=by
 obtain⟨n,hn⟩:=Int.eq_ofNat_of_zero_le hg.1
 have hn16:n≤16:=by have:=hg.2.1;omega
 have hout:g.out.length=n:=by have:=hg.2.2.1;omega
 obtain⟨c,hc⟩:∃c:Nat,c=n+1:=⟨_,rfl⟩
 have hg0:=IA (n:=c) (by omega)
 have en:(n:Int)+1=(c:Int):=by omega
 have sp0:=Qk c (by omega) (by omega)
 have hfb:B3 a g=AC c++Cc (fun v l=>CD v (AF a v) l) 0 g.out:=by unfold B3;rw[hn,Int.toNat_natCast,hc]
 obtain⟨an,han⟩:=Int.eq_ofNat_of_zero_le ha.1
 have haout:a.out.length=an:=by have:=ha.2.2.1;omega
 refine Aa.start (fn:=Tryz.f129) [.tmp 4] tk rfl rfl rfl (by kernel_rfl) (Nat.le_of_ble_eq_true rfl) rfl (by kernel_rfl) ?_
 rw[At]
 refine z2 ?_;intro K hK;refine zk ?_;clear hK K
 rw[hn]
 refine Af en ?_;intro K hK
 refine Ab.eqN sp0 (by simp[N4]) (by simp) ?_
 refine zx ?_
 refine zk ?_;clear hK K
 refine zs ?_
 (repeat refine W.seq ?_);refine W.block (W.loopS (fun z:Nat×List Bool=> [(5,.tok 2 0 1 0 z.2.length),(2,.ptr 0 0 0),(3,.ptr 1 0 0),(6,.int .i64 z.1)]) (fun z=> [.live 0 [.int .i64 a.n,.ro a.out.length (Ay false a.out)],.live 0 [.int .i64 n,.ro g.out.length (Ay false g.out)],.live 0 (AU z.2)]) (fun z=>n-z.1) (fun z=>z.1≤n∧z.2=AC c++Cc (fun v l=>CD v (AF a v) l) 0 (g.out.take z.1)∧z.2.length≤9+330*z.1) (0,AC c) (Wk.cutM (k:=3) (by simp[Ad]) (by simp) (by simp) (by simp) (by simp) (by simp)) ⟨by simp,by simp[Cc],by simp;omega⟩ ?_)
 rintro⟨i,B⟩ ⟨hi,hB,hBl⟩
 simp only at hi hB hBl
 by_cases c1:i<n
 rotate_left
 .have hi' :i=n:=by omega
  subst hi'
  rw[List.take_of_length_le (by omega)] at hB
  rw[←hfb] at hB
  subst hB
  refine Af c1 ?_;intro K hK
  refine zk ?_;clear hK K
  refine zn ?_
  refine W.exit ?_
  refine zs ?_
  exact zR
 have hlt:i<g.out.length:=by omega
 have hml:=(hg.2.2.2.1 _ (List.getElem_mem hlt)).1
 have hto:=G4 (fun v l=>CD v (AF a v) l) hlt
 have hbl:=Co ha (i:Int)
 have hrl:=I8 (v:=(i:Int)) (ref:=AF a i) ⟨by omega,by omega⟩ hbl hml
 have spW:=ar B 0 i (AF a i) g.out[i] (by omega) ⟨by omega,by omega⟩ hbl hml
 refine Af c1 ?_;intro K hK
 refine zk ?_;clear hK K
 refine zt ?_
 refine W.skip ?_
 refine zb ?_
 by_cases c2:i<an
 .have hlt2:i<a.out.length:=by omega
  have hba:AF a i=a.out[i]:=by simp[AF,List.getD_eq_getElem?_getD,List.getElem?_eq_getElem hlt2]
  have spB:=O1 a i hlt2 (by omega)
  rw[hba] at spW hrl hto
  (repeat refine W.seq ?_);refine W.regdS 0 10 rfl true Ce (by kernel_rfl) fun K hK=>?_;simp -implicitDefEqProofs (maxSteps:=999999) (disch:=omega) [hlt]
  refine Ag.eqr spB (by simp) ?_
  simp only[Ee];simp -implicitDefEqProofs (maxSteps:=999999) (disch:=omega) [hlt]
  refine Ab.pass [2] spW (by simp) (by simp) (by simp) (by simp) ?_
  rintro r M ⟨rfl,rfl⟩ _
  simp -implicitDefEqProofs (maxSteps:=999999) (disch:=omega)
  refine zk ?_;clear hK K
  refine zs ?_
  refine⟨(i+1,B++CD i a.out[i] g.out[i]),by simp only;omega,⟨by simp only;omega,?_,by simp;omega⟩,?_⟩
  .simp only[hto];rw[hB];simp
  .simp only[List.length_append]
   exact Wk.sink (k:=2) (j:=3) (by rfl) (by simp) (by omega) (by simp) (by simp[Ad]) (by simp) (by simp) (by simp)
 .have hba:AF a i=[]:=by simp[AF,List.getD_eq_getElem?_getD,List.getElem?_eq_none (show a.out.length≤i by omega)]
  have spB:=O2 a i (by omega)
  rw[hba] at spW hrl hto
  (repeat refine W.seq ?_);refine W.regdS 0 10 rfl true Ce (by kernel_rfl) fun K hK=>?_;simp -implicitDefEqProofs (maxSteps:=999999) (disch:=omega) [hlt]
  refine Ag.eqr spB (by simp) ?_
  simp only[Ee];simp -implicitDefEqProofs (maxSteps:=999999) (disch:=omega) [hlt]
  refine Ab.pass [2] spW (by simp) (by simp) (by simp) (by simp) ?_
  rintro r M ⟨rfl,rfl⟩ _
  simp -implicitDefEqProofs (maxSteps:=999999) (disch:=omega)
  refine zk ?_;clear hK K
  refine zs ?_
  refine⟨(i+1,B++CD i [] g.out[i]),by simp only;omega,⟨by simp only;omega,?_,by simp;omega⟩,?_⟩
  .simp only[hto];rw[hB];simp
  .simp only[List.length_append]
   exact Wk.sink (k:=2) (j:=4) (by rfl) (by simp) (by omega) (by simp) (by simp[Ad]) (by simp) (by simp) (by simp)
end Go.Abs
set_option maxRecDepth 100000
namespace Go.Abs
open Go.Proofs
section
variable (xs ys:List Nat) (M:List Ah) (k:Nat)
@[simp] theorem eP (i:Nat):(Bv xs)[i]?=(xs[i]?).map Fp:=by simp[Bv,Fp]
@[simp] theorem eQ:Bv []=[]:=rfl
@[simp] theorem cN:(Bv xs).take k=Bv (xs.take k):=by simp[Bv,Fp,List.map_take]
@[simp] theorem cO:(Bv xs).drop k=Bv (xs.drop k):=by simp[Bv,Fp,List.map_drop]
@[simp] theorem g9:EY (Bv xs)=true:=by simp[Bv,Fp,EY,-II]
@[simp] theorem hG:EZ (Bv xs)=true:=by simp[Bv,Fp,EZ,-Kp]
@[simp] theorem hO:DT (Bv xs)=true:=by simp[Bv,Fp,DT,-HC]
@[simp] theorem hZ:Da k (Bv xs)=true:=by induction xs<;>simp_all[Bv,Fp]
@[simp] theorem eR:CY (Bv xs)=true:=by induction xs<;>simp_all[Bv,Fp]
@[simp] theorem eS:EX (Bv xs)=Bv xs:=by induction xs<;>simp_all[Bv,Fp]
@[simp] theorem eU:(Bv xs).map Em=Bv xs:=by simp[Bv,Fp]
@[simp] theorem eW:(Bv xs).map (CE M k)=Bv xs:=by cases k<;>simp[Bv,Fp]
@[simp] theorem ia:(Bv xs).all QM=true:=by simp[Bv,Fp,QM]
theorem UZ (n:Nat):Cs n [.int .u8 0]=Bv (List.replicate n 0):=by
 unfold Cs Bv
 induction n with
 |zero=>rfl
 |succ n ih=>simp[List.replicate_succ,Fp]
end
theorem KR {a x r:Nat} (h:2^r∣a) (hx:x<2^r) (ha:a+x<256):Cw .or (.int .u8 (a:Int)) (.int .u8 (x:Int))=some (.int .u8 ((a+x:Nat):Int)):=
 (TS _ _ _).trans (congrArg (fun z:Int=>some (AV.int .u8 z)) (gZ h hx ha))
theorem Zn (l:List Bool) (hl:l.length<100000):Aa pg 130 [.ro l.length (AU l)] [] (fun r _=>r= .agg (Ct (DI l))):=by
 obtain⟨m,hm⟩:∃m,m=(l.length+7)/8:=⟨_,rfl⟩
 have hq:((l.length:Int)+7)/8=(m:Int):=by omega
 refine Aa.start (fn:=Tryz.f130) [.cell 2 40] tk rfl rfl rfl (by kernel_rfl) (Nat.le_of_ble_eq_true rfl) rfl (by kernel_rfl) ?_
 rw[Av]
 refine z1 ?_;intro K hK;refine zk ?_;clear hK K
 refine JH hq ?_;intro K hK
 refine⟨by omega,by omega,?_⟩
 rw[UZ]
 refine zk ?_;clear hK K
 refine zs ?_
 (repeat refine W.seq ?_);refine W.block (W.loopS (fun i:Nat=> [(0,.ro l.length (AU l)),(2,.ptr 0 0 0),(3,.tok 1 0 1 0 m),(4,.int .i64 i)]) (fun i=> [.live 0 [.str ByteArray.empty,.int .i64 0],.live 0 (Bv (Eg m (l.take i)))]) (fun i=>l.length-i) (fun i=>i≤l.length) 0 (Wk.cutM (k:=2) (by simp[Ad]) (by simp[am]) (by simp) (by simp) (by simp) (by simp)) (by simp) ?_)
 intro i hi
 by_cases c1:i<l.length
 rotate_left
 .have:i=l.length:=by omega
  subst this
  rw[List.take_length]
  refine Af c1 ?_;intro K hK
  refine zk ?_;clear hK K
  refine zn ?_
  refine W.exit ?_
  have tkm:List.take m (Eg m l)=Eg m l:=List.take_of_length_le (by simp)
  refine Af tkm ?_;intro K hK
  refine zk ?_;clear hK K
  refine zr ?_
  simp[DI,pk,←hm]
 obtain⟨q,hq'⟩:∃q,q=i/8:=⟨_,rfl⟩
 obtain⟨r,hr⟩:∃r,r=i%8:=⟨_,rfl⟩
 obtain⟨s,hs⟩:∃s,s=7-r:=⟨_,rfl⟩
 have e1:(i:Int)/8=(q:Int):=by omega
 have e2:(i:Int)%8=(r:Int):=by omega
 have e3:(7:Int)-(r:Int)=(s:Int):=by omega
 have hqm:q<m:=by omega
 have hlt:(l.take i).length=i:=by simp;omega
 have hsn:=Ph m (l.take i) l[i] (by rw[hlt];omega)
 have hdv:=Q4 m (l.take i) q hqm (by rw[hlt,hq'])
 have hto:l.take (i+1)=l.take i++[l[i]]:=by rw[List.take_add_one];simp[c1]
 rw[←hto] at hsn
 obtain⟨P,hP⟩:∃P,P=Eg m (l.take i):=⟨_,rfl⟩
 have hPl:P.length=m:=by rw[hP,Q3]
 have hqP:q<P.length:=by omega
 simp only[hlt,←hP,←hq',←hr] at hsn hdv
 rw[←hP]
 have hPlt:P[q]<256:=by subst hP;exact Pg hqm
 have hu:P[q]?=some P[q]:=List.getElem?_eq_getElem hqP
 refine Af c1 ?_;intro K hK
 refine zk ?_;clear hK K
 refine zt ?_
 refine W.skip ?_
 refine zb ?_
 cases hb:l[i]
 .have ew:IntKind.wrap .u8 0=0:=by decide
  have eo:Cw .or (.int .u8 (P[q]:Int)) (.int .u8 0)=some (.int .u8 (P[q]:Int)):=KR (x:=0) hdv (Nat.pow_pos (by omega)) (by omega)
  rw[hb] at hsn
  (repeat refine W.seq ?_);refine W.regd 0 rfl true Ce (by kernel_rfl) fun K hK=>?_;simp -implicitDefEqProofs (maxSteps:=999999) (disch:=omega) [c1,e1,e2,e3,hqm,hu,hb,Fp,b8,ew,eo]
  refine⟨by omega,?_⟩
  refine zk ?_;clear hK K
  have hs2:P.set q P[q]=Eg m (l.take (i+1)):=by rw[hsn];simp
  rw[KQ,hs2]
  refine zs ?_
  exact⟨i+1,by omega,by omega,Wk.fr (by simp[Ad])⟩
 .obtain⟨z,hz⟩:∃z:Nat,z=2^s:=⟨_,rfl⟩
  have hz1:(2:Int)^s=(z:Int):=by rw[hz];simp
  have hzl:z<2^(8-r):=by rw[hz];exact Nat.pow_lt_pow_right (by omega) (by omega)
  have hz8:z≤128:=by rw[hz];exact Nat.pow_le_pow_right (by omega) (show s≤7 by omega)
  have hsum:P[q]+z<256:=by
   have h1:P[q]≤256-2^(8-r):=by
    obtain⟨c,hc⟩:=hdv
    have hb2:2^(8-r)*2^r=256:=by rw[←Nat.pow_add,show 8-r+r=8 by omega]
    have hlt2:2^(8-r)*c<2^(8-r)*2^r:=by rw[←hc,hb2];exact hPlt
    have:=Nat.lt_of_mul_lt_mul_left hlt2
    have h3:2^(8-r)*(c+1)≤2^(8-r)*2^r:=Nat.mul_le_mul_left _ this
    rw[Nat.mul_add] at h3
    omega
   have:2^(8-r)≤256:=Nat.pow_le_pow_right (by omega) (show 8-r≤8 by omega)
   omega
  obtain⟨y,hy⟩:∃y,y=P[q]+z:=⟨_,rfl⟩
  have ew:IntKind.wrap .u8 (z:Int)=(z:Int):=M9 ⟨z,by omega⟩
  have eo:Cw .or (.int .u8 (P[q]:Int)) (.int .u8 (z:Int))=some (.int .u8 (y:Int)):=by rw[hy];exact KR hdv hzl hsum
  have hyn:P[q]+l[i].toNat*2^(7-r)=y:=by rw[hb,hy,hz,hs];simp
  rw[hyn] at hsn
  (repeat refine W.seq ?_);refine W.regd 0 rfl true Ce (by kernel_rfl) fun K hK=>?_;simp -implicitDefEqProofs (maxSteps:=999999) (disch:=omega) [c1,e1,e2,e3,hqm,hu,hb,Fp,b8,hz1,ew,eo]
  refine⟨by omega,?_⟩
  refine zk ?_;clear hK K
  rw[KQ,←hsn]
  refine zs ?_
  exact⟨i+1,by omega,by omega,Wk.fr (by simp[Ad])⟩
theorem au (l:List Obj) (base:Int) (g:Gr) (hl:DO l) (hm:Cf l) (hg:A3 g):Aa pg 91 [.ro l.length (Ac Am l),.int .i64 base,.agg (A2 false g)] [] (fun r _=>r= .agg (Ct (Fx l base g))):=by
 have spF:=Xc g hg
 have spR:=FM l base hl hm
 have spD:=Xd (AP l base).1 g (Dd l base) hg
 have spP:=Zn (if base=0 then BW g else B3 (AP l base).1 g) (by
  split
  .have:=GY hg;omega
  .have:=GZ (Dd l base) hg;omega)
 obtain⟨p,hp⟩:∃p,p=Fx l base g:=⟨_,rfl⟩
 have hpe:DI (if base=0 then BW g else B3 (AP l base).1 g)=p:=by rw[hp,Fx]
 rw[hpe] at spP
 rw[←hp]
 refine Aa.start (fn:=Tryz.f91) [.cell 6 40] tk rfl rfl rfl (by kernel_rfl) (Nat.le_of_ble_eq_true rfl) rfl (by kernel_rfl) ?_
 rw[Bd]
 refine z2 ?_;intro K hK;refine zk ?_;clear hK K
 by_cases c:base=0
 .rw[if_pos c] at spP
  refine Af c ?_;intro K hK
  refine zk ?_;clear hK K
  refine zt ?_
  refine z0 ?_;intro K hK
  refine Ab.bor spF (by simp) ?_
  rintro r ⟨ats,rfl⟩
  refine⟨by simp,?_⟩
  refine zx ?_
  refine zk ?_;clear hK K
  refine z0 ?_;intro K hK
  refine Ab.eq spP (by simp) (by simp) ?_
  refine zx ?_
  refine zk ?_;clear hK K
  exact zR
 .rw[if_neg c] at spP
  refine Af c ?_;intro K hK
  refine zk ?_;clear hK K
  refine zn ?_
  refine W.skip ?_
  refine z1 ?_;intro K hK
  refine Ab.eq spR (by simp) (by simp) ?_
  refine zx ?_
  refine zk ?_;clear hK K
  refine z0 ?_;intro K hK
  refine Ab.eq spD (by simp) (by simp) ?_
  refine zx ?_
  refine Ab.eq spP (by simp) (by simp) ?_
  refine zx ?_
  refine zk ?_;clear hK K
  exact zR
end Go.Abs
