/- References: a state with an object laid. -/
import Derived.Test.YtoklapibcmnaeaaGreatP14
set_option linter.unusedVariables false
set_option linter.unusedSimpArgs false
set_option maxRecDepth 100000
namespace Go.Abs
open Go.Proofs
def Gu (l:List (Int×Int)) (blocks m:Int):Int:=match (Bx (Bw l blocks.toNat) 0 0).find? fun x=>decide (m≤x.2) with|some x=>x.1|none=>-1
def B1 (s:AM) (o:Obj) (p:Int):List A8×Nat:=if Bf (fun v=>decide (v.id=o.id)) s.vers<0 then(s.vers++[Eo o.id p],s.vers.length) else(s.vers,(Bf (fun v=>decide (v.id=o.id)) s.vers).toNat)
def I5 (s:AM) (o:Obj) (p:Int):AM×Int:=
 if Gu (AA s) s.blocks (C3 o.data)<0 then(AP,5)
 else({s with vers:=HC (Dg (B1 s o p).1 (B1 s o p).2 o) (B1 s o p).2 (Gu (AA s) s.blocks (C3 o.data))},0)
set_option maxHeartbeats 2000000 in
theorem WX (s:AM) (o:Obj) (p:Int) (hs:A2 s) (hx:BN s) (ho:o.data.data.size<1000000000) (hn:s.vers.length<999999999) (hp:Cl (AA s) s.blocks):Aa pg 48 [.agg (Az false s),.agg (Al o),.int .i64 p] [] (fun r _=>r= .tup [.agg (Az true (I5 s o p).1),.int .i64 (I5 s o p).2]):=by
 have h1:=hs.1
 have h2:=hs.2.1
 have spC:=Hv s hs hx
 have spR:=Pd s hs
 have spN:=PG o.data ho
 have spF:Aa pg 92 [.ro (AA s).length (Ac Am (AA s)),.int .i64 s.blocks,.int .i64 (C3 o.data)] [] (fun r _=>r= .int .i64 (Gu (AA s) s.blocks (C3 o.data))):=UL (AA s) s.blocks (C3 o.data) (by simp[AA];omega) hp
 have spA:=OE s o.id hs
 unfold I5
 obtain⟨f,hf⟩:∃f,f=Gu (AA s) s.blocks (C3 o.data):=⟨_,rfl⟩
 obtain⟨q,hq⟩:∃q,q=Bf (fun v=>decide (v.id=o.id)) s.vers:=⟨_,rfl⟩
 rw[←hf] at spF ⊢
 rw[←hq] at spA
 refine Aa.start (fn:=Tryz.f48) [.cell 6 38,.tmp 7] tk rfl rfl rfl (by kernel_rfl) (Nat.le_of_ble_eq_true rfl) rfl (by kernel_rfl) ?_
 rw[A7]
 refine z3 ?_;intro K hK;refine zk ?_;clear hK K
 refine z0 ?_;intro K hK
 refine Ab.eqr spC (by simp) ?_
 refine zx ?_
 refine zk ?_;clear hK K
 refine BH ?_;intro K hK
 refine Ag.eq spR (by simp) (by simp) ?_
 refine zx ?_
 refine Ag.eq spN (by simp) (by simp) ?_
 refine zx ?_
 refine Ag.eq spF (by simp) (by simp) ?_
 refine zx ?_
 refine zk ?_;clear hK K
 by_cases c1:f<0
 .rw[if_pos c1]
  refine Af c1 ?_;intro K hK
  refine zk ?_;clear hK K
  refine zt ?_
  refine z0 ?_;intro K hK
  refine zk ?_;clear hK K
  refine W.weak ((Wk.thaw (B:=2) (v:=0) (j:=2) (s:=8) (n:=0) (xs:=[]) rfl rfl).trans (Wk.thaw (B:=2) (v:=0) (j:=3) (s:=12) (n:=0) (xs:=[]) rfl rfl)) ?_
  refine zr ?_
  simp[AP]
 rw[if_neg c1]
 refine Af c1 ?_;intro K hK
 refine zk ?_;clear hK K
 refine zn ?_
 refine W.skip ?_
 refine z0 ?_;intro K hK
 refine Ab.eq spA (by simp) (by simp) ?_
 refine zx ?_
 refine zk ?_;clear hK K
 refine zs ?_
 refine W.midS (fun x:Nat×List A8×Nat=> [(2,.int .i64 p),(3,.ptr 0 0 0),(4,.ptr 1 0 0),(6,.ptr 2 0 0),(7,.int .i64 0),(8,.int .i64 f),(9,.int .i64 x.2.2)]) (fun x=> [.live 0 [.int .i64 s.keep,.int .i64 s.blocks,.tok 3 x.1 8 0 x.2.1.length,.tok 4 0 12 0 s.sess.length],.live 0 (Al o),.live 0 [.int .i64 0,.int .i64 0,.own 8 0 [],.own 12 0 []],.live x.1 (Ac Av x.2.1),.live 0 (Ac (An true) s.sess)]) (fun x=>x.2=B1 s o p∧x.2.2<x.2.1.length∧x.2.1.length<1000000000) ?_ ?_
 .by_cases c2:q<0
  .have eV:B1 s o p=(s.vers++[Eo o.id p],s.vers.length):=by unfold B1;rw[←hq,if_pos c2]
   rw[decide_eq_true c2]
   refine zt ?_
   refine z1 ?_;intro K hK
   refine⟨by omega,by omega,?_⟩
   refine zk ?_;clear hK K
   refine zs ?_
   exact⟨(1,s.vers++[Eo o.id p],s.vers.length),⟨eV.symm,by simp,by simp;omega⟩,Wk.cutM (k:=5) (by simp[Ad]) (by simp[Bt,Ay,Av,Eo]) (by simp) (by simp) (by simp) (by simp)⟩
  .have c2' :0≤q:=by omega
   obtain⟨k,hk,rfl⟩:∃k:Nat,k<s.vers.length∧q=(k:Int):=⟨q.toNat,by rw[hq] at c2' ⊢;exact FK c2',by omega⟩
   have eV:B1 s o p=(s.vers,k):=by unfold B1;rw[←hq,if_neg c2];rfl
   rw[decide_eq_false c2]
   refine zn ?_
   refine W.skip ?_
   exact⟨(0,s.vers,k),⟨eV.symm,hk,h1⟩,Wk.cutM (k:=5) (by simp[Ad]) (by simp) (by simp) (by simp) (by simp) (by simp)⟩
 rintro⟨u,l,i⟩ ⟨eV,hil,hl⟩
 simp only at eV hil hl
 rw[←eV]
 (repeat refine W.seq ?_);refine W.regdX 0 [(45,57),(45,52),(48,57),(48,52),(53,57),(53,52),(48,59),(48,54)] rfl true BZ (by kernel_rfl) fun K hK=>?_;simp -implicitDefEqProofs (maxSteps:=999999) (disch:=omega) [hil]
 refine⟨by omega,by omega,by omega,?_⟩
 (repeat refine⟨by first|assumption|omega,?_⟩);refine hK _ _ (by simp(disch:=omega)) ?_;clear hK K
 rw[LG o l i hil,←JI hil]
 obtain⟨l1,hl1⟩:∃l1,l1=Dg l i o:=⟨_,rfl⟩
 have len1:l1.length=l.length:=by rw[hl1,Kk]
 rw[←hl1]
 have hil1:i<l1.length:=by omega
 rw[Ny f l1 i hil1,←Q0 hil1]
 refine z0 ?_;intro K hK
 refine zk ?_;clear hK K
 refine zr ?_
 have tk2:List.take l.length (HC l1 i f)=HC l1 i f:=List.take_of_length_le (by rw[HD];omega)
 simp[HD,len1,tk2]
end Go.Abs
set_option maxRecDepth 100000
namespace Go.Abs
open Go.Proofs
theorem SP (n m:Nat) (hn:n<4611686018427387904) (hm:0<m∧m<4611686018427387904):Aa pg 46 [.int .i64 n,.int .i64 m] [] (fun r _=>r= .int .i64 ((n%m:Nat):Int)):=by
 refine Aa.start (fn:=Tryz.f46) [.tmp 4] tk rfl rfl rfl (by kernel_rfl) (Nat.le_of_ble_eq_true rfl) rfl (by kernel_rfl) ?_
 rw[Ar]
 refine zs ?_
 have w1:IntKind.u64.wrap (n:Int)=(n:Int):=by unfold IntKind.wrap;simp;omega
 have w2:IntKind.u64.wrap (m:Int)=(m:Int):=by unfold IntKind.wrap;simp;omega
 have hlt:=Nat.mod_lt n hm.1
 have hm0:¬(m:Int)=0:=by omega
 have w3:IntKind.u64.wrap ((n:Int)%(m:Int))=((n%m:Nat):Int):=by rw[←Int.natCast_emod];unfold IntKind.wrap;simp;omega
 have w4:IntKind.i64.wrap ((n%m:Nat):Int)=((n%m:Nat):Int):=by unfold IntKind.wrap;simp;omega
 refine Af (an w1 (an w2 (an w3 (an w4 hm0)))) ?_;intro K hK
 refine zk ?_;clear hK K
 exact zR
theorem WY (k a t:Int) (b:Bool) (xs ys:List Int) (u v:Nat) (hx:xs.length<1000000000) (hy:ys.length<1000000000):Aa pg 93 [.agg [.int .i64 k,.int .i64 a,.int .i64 t,.bool b,.tok 0 u 1 0 xs.length,.tok 1 v 1 0 ys.length]] [.live u (Ae xs),.live v (Ae ys)] (fun r M=>r= .tup []∧M=[.live u (Ae (List.replicate xs.length (-99))),.live v (Ae (List.replicate ys.length (-99)))]):=by
 refine Aa.start (fn:=Tryz.f93) [] tk rfl rfl rfl (by kernel_rfl) (Nat.le_of_ble_eq_true rfl) rfl (by kernel_rfl) ?_
 rw[Ax]
 refine z1 ?_;intro K hK;refine zk ?_;clear hK K
 refine z0 ?_;intro K hK
 refine Ab.pass [0] (I3 xs u hx) (by simp) (by simp) (by simp) (by simp) ?_
 rintro r M ⟨rfl,rfl⟩ _
 refine zx ?_
 refine zk ?_;clear hK K
 refine z0 ?_;intro K hK
 refine Ab.pass [1] (I3 ys v hy) (by simp) (by simp) (by simp) (by simp) ?_
 rintro r M ⟨rfl,rfl⟩ _
 refine zx ?_
 refine zk ?_;clear hK K
 (try simp only[Ca,Cc,CV,CX,if_true]);refine E7 (d:=0) ?_;simp -implicitDefEqProofs (maxSteps:=999999) (disch:=omega)
def PS:A8:=⟨-9,0,0,⟨ByteArray.empty,0⟩,0,false,false⟩
def NA:Cj:=⟨false,-9,false,0,⟨0,[]⟩,⟨0,0,0,false,[],[]⟩⟩
def J1 (k:Nat) (l:List A8):List A8:=List.replicate k PS++l.drop k
def Iz (k:Nat) (l:List Cj):List Cj:=List.replicate k NA++l.drop k
theorem UQ {l:List A8} {k:Nat} (h:k<l.length):(J1 k l).set k PS=J1 (k+1) l:=by
 unfold J1
 rw[List.set_append_right _ _ (by simp),List.length_replicate,Nat.sub_self,List.drop_eq_getElem_cons h,List.set_cons_zero,List.replicate_succ']
 simp
theorem UR {l:List Cj} {k:Nat} (h:k<l.length):(Iz k l).set k NA=Iz (k+1) l:=by
 unfold Iz
 rw[List.set_append_right _ _ (by simp),List.length_replicate,Nat.sub_self,List.drop_eq_getElem_cons h,List.set_cons_zero,List.replicate_succ']
 simp
theorem WZ {l:List Cj} {k:Nat} (h:k<l.length):(Iz k l)[k]?=some l[k]:=by
 unfold Iz
 rw[List.getElem?_append_right (by simp),List.length_replicate,Nat.sub_self,List.drop_eq_getElem_cons h];rfl
theorem NB {α:Type} {f:α→List AV} {s:Nat} (h:∀x,(f x).length=s) (x:α) {l:List α} {k:Nat} (hk:k<l.length):B0 (Ac f l) (k*s) (f x)=Ac f (l.set k x):=by
 have hl:=DO (f:=f) h l
 have h1:(k+1)*s≤l.length*s:=Nat.mul_le_mul_right s hk
 rw[Nat.add_mul,Nat.one_mul] at h1
 rw[GC _ _ _ (by rw[h,hl];exact h1),h,List.set_eq_take_append_cons_drop,if_pos hk,Bt,Ay,←EP (f:=f) h,←Gy (f:=f) h,Nat.add_mul,Nat.one_mul,List.append_assoc]
theorem I6 {cs ys:List AV} {o i:Nat} (z:AV) (h:o+ys.length≤cs.length) (hi:i<ys.length):B0 (cs.set (o+i) z) o ys=B0 cs o ys:=by
 rw[GC _ _ _ (by simpa using h),GC _ _ _ h,List.take_set_of_le (by omega),List.drop_set_of_lt (by omega)]
theorem US {l:List A8} {k:Nat} (h:k<l.length):((((((((Ac Av l).set (k*8) (.int .i64 (-9))).set (k*8+1) (.int .i64 0)).set (k*8+1+1) (.int .i64 0)).set (k*8+1+1+1) (.str ByteArray.empty)).set (k*8+1+1+1+1) (.int .i64 0)).set (k*8+1+1+1+1+1) (.int .i64 0)).set (k*8+1+1+1+1+1+1) (.bool false)).set (k*8+1+1+1+1+1+1+1) (.bool false)=Ac Av (l.set k PS):=
 NB (f:=Av) (s:=8) (fun _=>rfl) PS h
theorem SQ (s:AM) (u v:Nat) (hs:A2 s) (hx:BN s):Aa pg 49 [.agg [.int .i64 s.keep,.int .i64 s.blocks,.tok 0 u 8 0 s.vers.length,.tok 1 v 12 0 s.sess.length]] [.live u (Ac Av s.vers),.live v (Ac (An true) s.sess)] (fun r M=>r= .tup []∧M=[.live u (Ac Av (J1 s.vers.length s.vers)),.live v (Ac (An true) (Iz s.sess.length s.sess))]):=by
 have h1:=hs.1
 have h2:=hs.2.1
 refine Aa.start (fn:=Tryz.f49) [] tk rfl rfl rfl (by kernel_rfl) (Nat.le_of_ble_eq_true rfl) rfl (by kernel_rfl) ?_
 rw[Ax]
 refine z1 ?_;intro K hK;refine zk ?_;clear hK K
 refine zs ?_
 refine W.midS (fun _:Nat=> [(1,.ptr 2 0 0)]) (fun _=> [.live u (Ac Av (J1 s.vers.length s.vers)),.live v (Ac (An true) s.sess),.live 0 [.int .i64 s.keep,.int .i64 s.blocks,.tok 0 u 8 0 s.vers.length,.tok 1 v 12 0 s.sess.length]]) (fun _=>True) ?_ ?_
 . (repeat refine W.seq ?_);refine W.block (W.loopS (fun k:Nat=> [(1,.ptr 2 0 0),(2,.int .i64 k)]) (fun k=> [.live u (Ac Av (J1 k s.vers)),.live v (Ac (An true) s.sess),.live 0 [.int .i64 s.keep,.int .i64 s.blocks,.tok 0 u 8 0 s.vers.length,.tok 1 v 12 0 s.sess.length]]) (fun k=>s.vers.length-k) (fun k=>k≤s.vers.length) 0 (Wk.cutM (k:=3) (by simp[Ad]) (by simp[J1]) (by simp) (by simp) (by simp) (by simp)) (by simp) ?_)
   intro k hk
   by_cases c1:k<s.vers.length
   .have hset:=UQ c1
    obtain⟨l,hl⟩:∃l,l=J1 k s.vers:=⟨_,rfl⟩
    have hll:l.length=s.vers.length:=by rw[hl,J1];simp;omega
    rw[←hl] at hset ⊢
    refine Af c1 ?_;intro K hK
    refine zk ?_;clear hK K
    refine zt ?_
    refine W.skip ?_
    refine zb ?_
    have hput:=US (l:=l) (k:=k) (by omega)
    refine Af (an c1 hll) ?_;intro K hK
    refine⟨by omega,?_⟩
    refine zk ?_;clear hK K
    rw[hput,hset]
    refine zs ?_
    exact⟨k+1,by omega,by omega,Wk.fr (by simp[Ad])⟩
   .have:k=s.vers.length:=by omega
    subst this
    refine Af c1 ?_;intro K hK
    refine zk ?_;clear hK K
    refine zn ?_
    refine W.exit ?_
    exact⟨0,trivial,Wk.fr (by simp[Ad])⟩
 rintro _ _
 refine zs ?_
 (repeat refine W.seq ?_);refine W.block (W.loopS (fun k:Nat=> [(1,.ptr 2 0 0),(3,.int .i64 k)]) (fun k=> [.live u (Ac Av (J1 s.vers.length s.vers)),.live v (Ac (An true) (Iz k s.sess)),.live 0 [.int .i64 s.keep,.int .i64 s.blocks,.tok 0 u 8 0 s.vers.length,.tok 1 v 12 0 s.sess.length]]) (fun k=>s.sess.length-k) (fun k=>k≤s.sess.length) 0 (Wk.fr (by simp[Ad,Iz])) (by simp) ?_)
 intro k hk
 by_cases c1:k<s.sess.length
 .have hset:=UR c1
  have hat:=WZ c1
  obtain⟨l,hl⟩:∃l,l=Iz k s.sess:=⟨_,rfl⟩
  have hll:l.length=s.sess.length:=by rw[hl,Iz];simp;omega
  rw[←hl] at hset hat ⊢
  have hkl:k<l.length:=by omega
  rw[List.getElem?_eq_getElem hkl] at hat
  have hat:=Option.some.inj hat
  have hin:=hx _ (List.getElem_mem c1)
  obtain⟨x,hxx⟩:∃x,x=s.sess[k]:=⟨_,rfl⟩
  rw[←hxx] at hat hin
  refine Af c1 ?_;intro K hK
  refine zk ?_;clear hK K
  refine zt ?_
  refine W.skip ?_
  refine zb ?_
  have k5:(Ac (An true) l)[k*12+5]?=some (.own 1 x.stage.out.length (Aw true x.stage.out)):=by
   rw[AT (f:=An true) (s:=12) (fun _=>rfl) hkl (i:=5) (by omega),hat];rfl
  have k10:(Ac (An true) l)[k*12+10]?=some (.own 1 x.job.list.length (Ae x.job.list)):=by
   rw[AT (f:=An true) (s:=12) (fun _=>rfl) hkl (i:=10) (by omega),hat];rfl
  have k11:(Ac (An true) l)[k*12+11]?=some (.own 1 x.job.out.length (Ae x.job.out)):=by
   rw[AT (f:=An true) (s:=12) (fun _=>rfl) hkl (i:=11) (by omega),hat];rfl
  refine W.weak (Wk.thaw (B:=1) (v:=v) (j:=k*12+5) (s:=1) (n:=x.stage.out.length) (xs:=Aw true x.stage.out) (by simp[Ai]) k5) ?_
  have j5:((Ac (An true) l).set (k*12+5) (.tok 3 0 1 0 x.stage.out.length))[k*12+5]?=some (.tok 3 0 1 0 x.stage.out.length):=List.getElem?_set_self (by rw[DO (f:=An true) (s:=12) (fun _=>rfl)];omega)
  have j4:((Ac (An true) l).set (k*12+5) (.tok 3 0 1 0 x.stage.out.length))[k*12+4]?=some (.int .i64 x.stage.n):=by
   rw[List.getElem?_set_ne (by omega),AT (f:=An true) (s:=12) (fun _=>rfl) hkl (i:=4) (by omega),hat];rfl
  refine Af (an c1 (an hll (an j4 j5))) ?_;intro K hK
  refine Ab.pass [3] (SK x.stage.out 0 0 x.stage.n hin.1.1 hin.1.2) (by simp) (by simp) (by simp) (by simp) ?_
  rintro r M ⟨rfl,rfl⟩ _
  refine zx ?_
  refine zk ?_;clear hK K
  have hcl:(Ac (An true) l).length=l.length*12:=DO (f:=An true) (s:=12) (fun _=>rfl) l
  have cell:∀i,i<12→(Ac (An true) l)[k*12+i]?=(An true x)[i]?:=fun i hi=>by rw[AT (f:=An true) (s:=12) (fun _=>rfl) hkl (i:=i) hi,hat]
  obtain⟨c1',hc1⟩:∃c1',c1' =(Ac (An true) l).set (k*12+5) (.tok 3 0 1 0 x.stage.out.length):=⟨_,rfl⟩
  rw[←hc1]
  have m10:c1'[k*12+10]?=some (.own 1 x.job.list.length (Ae x.job.list)):=by rw[hc1,List.getElem?_set_ne (by omega)];exact k10
  refine W.weak (Wk.thaw (B:=1) (v:=v) (j:=k*12+10) (s:=1) (n:=x.job.list.length) (xs:=Ae x.job.list) (by simp[Ai]) m10) ?_
  have m11:(c1'.set (k*12+10) (.tok 4 0 1 0 x.job.list.length))[k*12+11]?=some (.own 1 x.job.out.length (Ae x.job.out)):=by rw[List.getElem?_set_ne (by omega),hc1,List.getElem?_set_ne (by omega)];exact k11
  refine W.weak (Wk.thaw (B:=1) (v:=v) (j:=k*12+11) (s:=1) (n:=x.job.out.length) (xs:=Ae x.job.out) (by simp[Ai]) m11) ?_
  obtain⟨c2',hc2⟩:∃c2',c2' =(c1'.set (k*12+10) (.tok 4 0 1 0 x.job.list.length)).set (k*12+11) (.tok 5 0 1 0 x.job.out.length):=⟨_,rfl⟩
  have hc1l:c1'.length=l.length*12:=by rw[hc1];simp
  have hc2l:c2'.length=l.length*12:=by rw[hc2];simpa using hc1l
  have n6:c2'[k*12+6]?=some (.int .i64 x.job.kind):=by rw[hc2,List.getElem?_set_ne (by omega),List.getElem?_set_ne (by omega),hc1,List.getElem?_set_ne (by omega),cell 6 (by omega)];rfl
  have n7:c2'[k*12+6+1]?=some (.int .i64 x.job.a):=by rw[show k*12+6+1=k*12+7 by omega,hc2,List.getElem?_set_ne (by omega),List.getElem?_set_ne (by omega),hc1,List.getElem?_set_ne (by omega),cell 7 (by omega)];rfl
  have n8:c2'[k*12+6+1+1]?=some (.int .i64 x.job.at_):=by rw[show k*12+6+1+1=k*12+8 by omega,hc2,List.getElem?_set_ne (by omega),List.getElem?_set_ne (by omega),hc1,List.getElem?_set_ne (by omega),cell 8 (by omega)];rfl
  have n9:c2'[k*12+6+1+1+1]?=some (.bool x.job.move):=by rw[show k*12+6+1+1+1=k*12+9 by omega,hc2,List.getElem?_set_ne (by omega),List.getElem?_set_ne (by omega),hc1,List.getElem?_set_ne (by omega),cell 9 (by omega)];rfl
  have n10:c2'[k*12+6+1+1+1+1]?=some (.tok 4 0 1 0 x.job.list.length):=by rw[show k*12+6+1+1+1+1=k*12+10 by omega,hc2,List.getElem?_set_ne (by omega),List.getElem?_set_self (by omega)]
  have n11:c2'[k*12+6+1+1+1+1+1]?=some (.tok 5 0 1 0 x.job.out.length):=by rw[show k*12+6+1+1+1+1+1=k*12+11 by omega,hc2,List.getElem?_set_self (by simp;omega)]
  have hput:B0 c2' (k*12) (An true NA)=Ac (An true) (Iz (k+1) s.sess):=by
   have hb:(An true NA).length=12:=rfl
   rw[hc2,I6 _ (by simp;omega) (by omega),I6 _ (by omega) (by omega),hc1,I6 _ (by omega) (by omega),NB (f:=An true) (s:=12) (fun _=>rfl) NA hkl,hset]
  have hput:=(show((((((((((((c2'.set (k*12) (.bool false)).set (k*12+1) (.int .i64 (-9))).set (k*12+1+1) (.bool false)).set (k*12+1+1+1) (.int .i64 0)).set (k*12+1+1+1+1) (.int .i64 0)).set (k*12+1+1+1+1+1) (.own 1 0 [])).set (k*12+1+1+1+1+1+1) (.int .i64 0)).set (k*12+1+1+1+1+1+1+1) (.int .i64 0)).set (k*12+1+1+1+1+1+1+1+1) (.int .i64 0)).set (k*12+1+1+1+1+1+1+1+1+1) (.bool false)).set (k*12+1+1+1+1+1+1+1+1+1+1) (.own 1 0 [])).set (k*12+1+1+1+1+1+1+1+1+1+1+1) (.own 1 0 []))=Ac (An true) (Iz (k+1) s.sess) from hput)
  clear hc2l hc1l hcl cell k5 k10 k11 j4 j5 m10 m11
  change W pg tT _ _ _ [_,.live v ((c1'.set (k*12+10) (.tok 4 0 1 0 x.job.list.length)).set (k*12+11) (.tok 5 0 1 0 x.job.out.length)),_,_,_,_] _
  rw[←hc2]
  refine Af (an c1 (an hll (an n6 (an n7 (an n8 (an n9 (an n10 n11))))))) ?_;intro K hK
  refine Ab.pass [4,5] (WY x.job.kind x.job.a x.job.at_ x.job.move x.job.list x.job.out 0 0 hin.2.1 hin.2.2) (by simp) (by simp) (by simp) (by simp) ?_
  rintro r M ⟨rfl,rfl⟩ _
  refine zx ?_
  refine zk ?_;clear hK K
  have hc2l:c2'.length=l.length*12:=by rw[hc2,hc1];simp only[List.length_set];exact DO (f:=An true) (s:=12) (fun _=>rfl) l
  refine Af (an c1 (an hll hc2l)) ?_;intro K hK
  refine⟨by omega,?_⟩
  refine zk ?_;clear hK K
  rw[hput]
  refine zs ?_
  exact⟨k+1,by omega,by omega,Wk.cutM (k:=3) (by simp[Ad]) (by simp) (by simp) (by simp) (by simp) (by simp)⟩
 .have:k=s.sess.length:=by omega
  subst this
  refine Af c1 ?_;intro K hK
  refine zk ?_;clear hK K
  refine zn ?_
  refine W.exit ?_
  (try simp only[Ca,Cc,CV,CX,if_true]);refine E7 (d:=0) ?_;simp -implicitDefEqProofs (maxSteps:=999999) (disch:=omega)
end Go.Abs
set_option maxRecDepth 100000
namespace Go.Abs
open Go.Proofs
def gr (b k:Int):AM×Int:=if (1≤b∧b≤100)∧(1≤k∧k≤8) then(BX b k,0) else(AP,1)
theorem NC {y:AM} (h:A2 y∧BN y):y.vers.length<1000000000000∧y.sess.length<1000000000000∧∀r∈y.sess,Dr r:=⟨by have:=h.1.1;omega,by have:=h.1.2.1;omega,h.2⟩
end Go.Abs
namespace Go.Abs
def JJ:List A8→Int→List A8
 | [],_=> []
 |v::t,a=>{v with at_:=a}::JJ t (a+C3 v.data)
def X3:List A8→Int
 | []=>0
 |v::t=>C3 v.data+X3 t
@[simp] theorem Q7:∀(l:List A8) (a:Int),(JJ l a).length=l.length
  | [],a=>rfl
  |v::t,a=>by simp[JJ,Q7 t]
def gu (l:List A8) (a:Int):List (Int×Int):=(JJ l a).map fun v=>(v.at_,C3 v.data)
end Go.Abs
namespace Go.Abs
def X4 (l:List Obj) (id:Int):Prop:=∃q∈l,q.id=id
def bh (l:List Obj):Prop:=∀o∈l,o.base=0∨X4 l o.base
theorem PT (l:List A8) (v:A8):AN (l++[v])=v.id:=by simp[AN]
def dk (s:AM) (n:Int):AM:={s with blocks:=n,vers:=JJ s.vers 0}
def gv (s:AM) (v:A8):Obj:=⟨AN s.vers+1,v.base,v.data⟩
theorem Q8 {s:AM} (h:ED s):0≤AN s.vers:=by
 unfold AN
 cases e:s.vers.getLast? with
 |none=>simp
 |some v=>
  have:=(h.1.2.2.2.2.2.2.2.1 (DF v) (List.mem_map.2 ⟨v,List.mem_of_getLast? e,rfl⟩)).1
  simp only[DF] at this ⊢;omega
def gw (l:List A8) (k:Nat):List A8:=JJ (l.take k) 0++l.drop k
end Go.Abs
namespace Go.Abs
def Er (c:List Bool):Nat:=Bq c*2^(8-c.length)
def Ft (m:Nat) (l:List Bool):List Nat:=(List.range m).map fun k=>Er ((l.drop (8*k)).take 8)
def pk (l:List Bool):List Nat:=Ft ((l.length+7)/8) l
def Fk (n:Nat):AV:= .int .u8 (n:Int)
def BS (ns:List Nat):List AV:=ns.map Fk
def FY (l:List Bool):CQ:=⟨DT (BS (pk l)),l.length⟩
@[simp] theorem UT (m:Nat) (l:List Bool):(Ft m l).length=m:=by simp[Ft]
@[simp] theorem bj (ns:List Nat):(BS ns).length=ns.length:=by simp[BS]
theorem Ph (ns:List Nat) (i n:Nat):(BS ns).set i (.int .u8 (n:Int))=BS (ns.set i n):=by simp[BS,Fk]
theorem SR {c:List Bool} (h:c.length≤8):Er c<256:=by
 have h1:=FT c
 have h2:2^c.length*2^(8-c.length)=256:=by rw[←Nat.pow_add,show c.length+(8-c.length)=8 by omega]
 unfold Er
 have h3:0<2^(8-c.length):=Nat.pow_pos (by omega)
 exact Nat.lt_of_lt_of_eq (Nat.mul_lt_mul_of_pos_right h1 h3) h2
theorem PU (c:List Bool) (b:Bool) (h:c.length<8):Er (c++[b])=Er c+b.toNat*2^(7-c.length):=by
 have e:8-c.length=(7-c.length)+1:=by omega
 unfold Er
 rw[Mt,List.length_append,List.length_singleton,e,show 8-(c.length+1)=7-c.length by omega,Nat.pow_succ,Nat.add_mul]
 congr 1
 rw[Nat.mul_comm 2,Nat.mul_assoc,Nat.mul_comm 2]
theorem X5 (m:Nat):Ft m []=List.replicate m 0:=by
 unfold Ft
 refine List.ext_getElem (by simp) fun j h1 h2=>?_
 simp[Er]
theorem Q9 {m:Nat} {l:List Bool} {k:Nat} (h:k<m):(Ft m l)[k]'(by simpa using h)<256:=by
 simp only[Ft,List.getElem_map,List.getElem_range]
 exact SR (by simp;omega)
theorem PV (l:List Bool) (b:Bool) (k:Nat):((l++[b]).drop (8*k)).take 8=if l.length/8=k then(l.drop (8*k)).take 8++[b] else(l.drop (8*k)).take 8:=by
 split
 .rename_i e
  rw[List.drop_append_of_le_length (by omega),List.take_append,List.length_drop]
  have:(8-(l.length-8*k))=(7-(l.length-8*k))+1:=by omega
  rw[this];simp
 .rename_i e
  by_cases h:l.length<8*k
  .rw[List.drop_eq_nil_of_le (by simp;omega),List.drop_eq_nil_of_le (by omega)]
  .rw[List.drop_append_of_le_length (by omega),List.take_append_of_le_length (by simp;omega)]
theorem SS (m:Nat) (l:List Bool) (b:Bool) (h:l.length/8<m):Ft m (l++[b])=(Ft m l).set (l.length/8) ((Ft m l)[l.length/8]'(by simpa using h)+b.toNat*2^(7-l.length%8)):=by
 refine List.ext_getElem (by simp) fun j h1 h2=>?_
 rw[List.getElem_set]
 simp only[Ft,List.getElem_map,List.getElem_range,PV]
 split
 .rename_i e
  subst e
  have hl:((l.drop (8*(l.length/8))).take 8).length=l.length%8:=by simp;omega
  rw[PU _ _ (by omega),hl]
 .rfl
theorem UU (m:Nat) (l:List Bool) (k:Nat) (h:k<m) (hk:l.length/8=k):2^(8-l.length%8)∣(Ft m l)[k]'(by simpa using h):=by
 subst hk
 simp only[Ft,List.getElem_map,List.getElem_range]
 have hl:((l.drop (8*(l.length/8))).take 8).length=l.length%8:=by simp;omega
 unfold Er
 rw[hl]
 exact Nat.dvd_mul_left _ _
theorem Pi:∀y:Fin 256,IntKind.wrap .u8 ((y.val:Nat):Int)=((y.val:Nat):Int):=by decide+kernel
theorem dl {a x r:Nat} (h:2^r∣a) (hx:x<2^r) (ha:a+x<256):IntKind.wrap .u8 ((BitVec.ofInt 8 (a:Int) |||BitVec.ofInt 8 (x:Int)).toNat:Int)=((a+x:Nat):Int):=by
 obtain⟨q,rfl⟩:=h
 have e:2^r*q|||x=2^r*q+x:=(Nat.two_pow_add_eq_or_of_lt hx q).symm
 have e1:(BitVec.ofInt 8 ((2^r*q:Nat):Int)).toNat=2^r*q:=by
  rw[BitVec.ofInt_natCast,BitVec.toNat_ofNat];exact Nat.mod_eq_of_lt (by omega)
 have e2:(BitVec.ofInt 8 (x:Int)).toNat=x:=by
  rw[BitVec.ofInt_natCast,BitVec.toNat_ofNat];exact Nat.mod_eq_of_lt (by omega)
 rw[BitVec.toNat_or,e1,e2,e]
 exact Pi ⟨_,ha⟩
def E4:List Int→Bool→List Bool
 | [],_=> []
 |n::l,f=>AG (if f=true then n+1 else n).toNat++E4 l false
def Eh (v:Int) (ref l:List Int):List Bool:=AG ((blocks ref l).length+1)++E4 (blocks ref l) true++A4 v (Bg ref l)
def Dq (f:Int→List Int→List Bool):Int→List (List Int)→List Bool
 |_,[]=> []
 |v,l::ls=>f v l++Dq f (v+1) ls
def CF (g:Gr):List Bool:=AG (g.n.toNat+1)++Dq A4 0 g.out
def CG (a g:Gr):List Bool:=AG (g.n.toNat+1)++Dq (fun v l=>Eh v (AC a v) l) 0 g.out
theorem KT (f:Int→List Int→List Bool) (l:List Int):∀(ls:List (List Int)) (v:Int),Dq f v (ls++[l])=Dq f v ls++f (v+ls.length) l
 | [],v=>by simp[Dq]
 |x::ls,v=>by
  simp only[List.cons_append,Dq,KT f l ls,List.append_assoc,List.length_cons]
  congr 3
  omega
theorem KU (f:Int→List Int→List Bool) {ls:List (List Int)} {i:Nat} (h:i<ls.length):Dq f 0 (ls.take (i+1))=Dq f 0 (ls.take i)++f i ls[i]:=by
 rw[List.take_succ_eq_append_getElem h,KT]
 simp[Nat.min_eq_left (Nat.le_of_lt h)]
theorem KV:∀(l:List Int) (i:Nat) (f:Bool) (h:i<l.length),E4 (l.take (i+1)) f=E4 (l.take i) f++AG (if i=0∧f=true then l[i]+1 else l[i]).toNat
 | [],i,f,h=>by simp at h
 |x::t,0,f,h=>by simp[E4]
 |x::t,i+1,f,h=>by
  have ih:=KV t i false (by simpa using h)
  simp only[List.take_succ_cons,E4,List.getElem_cons_succ] at ih ⊢
  rw[ih,List.append_assoc]
  simp
def JK:Obj:=⟨0,0,⟨ByteArray.empty,0⟩⟩
def DX (l:List Obj):Int:=match l.getLast? with|some o=>o.id+1|none=>1
def GL (l:List Obj) (base:Int) (g:Gr):CQ:=FY (if base=0 then CF g else CG (Bi l base).1 g)
def Dv (l:List Obj) (parent:Int) (g:Gr):Obj×Int:=
 if 12≤l.length∨1048576<DX l then(JK,2) else
 if parent=0 then(⟨DX l,0,GL l 0 g⟩,0) else
 if (Bi l parent).2≠0 then(JK,(Bi l parent).2) else
 if (CB l parent).1<3∧(CG (Bi l parent).1 g).length<(CF g).length then(⟨DX l,parent,GL l parent g⟩,0) else(⟨DX l,0,GL l 0 g⟩,0)
end Go.Abs
namespace Go.Abs
theorem I7 {n:Nat} (h:n<32):(AG n).length≤9:=by
 have:=DG n
 by_cases h0:n=0
 .subst h0;simp[AG,Bk]
 .have:=(Nat.log2_lt (n:=n) (k:=5) h0).2 (by omega)
  omega
theorem W0 {n:Nat} (h:n<64):(AG n).length≤11:=by
 have:=DG n
 by_cases h0:n=0
 .subst h0;simp[AG,Bk]
 .have:=(Nat.log2_lt (n:=n) (k:=6) h0).2 (by omega)
  omega
theorem Ma {v:Int} (hv:0≤v∧v≤16):∀(l:List Int) (f:Bool) (e:Int),(∀x∈l,0≤x∧x<16)→(f=false→0≤e)→(CT v l f e).length≤9*l.length+(if f=true then 2 else 0)
 | [],f,e,_,_=>by simp[CT]
 |x::l,f,e,h,he=>by
  have hx:=h x (by simp)
  have ih:=Ma hv l false x (fun y hy=>h y (by simp[hy])) (fun _=>hx.1)
  rw[CT,List.length_append]
  cases f
  .have:=I7 (n:=(x-e).toNat) (by have:=he rfl;omega)
   simp at ih ⊢;omega
  .have:=W0 (n:=(DS (x-v)+1).toNat) (by unfold DS;split<;>omega)
   simp at ih ⊢;omega
theorem Mb {v:Int} (hv:0≤v∧v≤16):∀(l:List (Int×Int)) (f:Bool) (e:Int),(∀x∈l,0≤x.1∧x.1<16∧0≤x.2∧x.2≤16)→(f=false→0≤e)→(CK v l f e).length≤18*l.length+(if f=true then 2 else 0)
 | [],f,e,_,_=>by simp[CK]
 | (a,n)::l,f,e,h,he=>by
   have hx:=h (a,n) (by simp)
   simp only at hx
   have ih:=Mb hv l false (a+n) (fun y hy=>h y (by simp[hy])) (fun _=>by omega)
   rw[CK,List.length_append,List.length_append]
   have h2:=I7 (n:=(n-3+1).toNat) (by omega)
   cases f
   .have:=I7 (n:=(a-e).toNat) (by have:=he rfl;omega)
    simp at ih ⊢;omega
   .have:=W0 (n:=(DS (a-v)+1).toNat) (by unfold DS;split<;>omega)
    simp at ih ⊢;omega
theorem Mc:∀(n:Nat) (l:List Int),l.length≤n→3*(At l).1.length+(At l).2.length≤l.length
 |_,[],_=>by simp[At]
 |0,x::l,h=>by simp at h
 |n+1,x::l,h=>by
  have h1:=Fz x l
  have h2:=Gh (x::l)
  have h3:((x::l).drop (A9 (x::l))).length=(x::l).length-A9 (x::l):=by simp
  have ih:=Mc n ((x::l).drop (A9 (x::l))) (by omega)
  rw[At]
  split
  .simp only[List.length_cons] at*;omega
  .simp only[List.length_append,List.length_take] at*;omega
theorem GM {v:Int} {l:List Int} (hv:0≤v∧v≤16) (hl:AQ l):(A4 v l).length≤166:=by
 have hll:=BP hl
 obtain⟨p1,p2,p3,p4⟩:=Gc l.length l true 0 (Nat.le_refl _) hl.2 (.inl rfl)
 have pin:=Kg l.length l (Nat.le_refl _)
 have ps:=Mc l.length l (Nat.le_refl _)
 have hpos:=LB (At l).1 true 0 p1
 have a1:=I7 (n:=(At l).1.length+1) (by omega)
 have a2:=Mb hv (At l).1 true 0 (fun q hq=>by
  have h1:=pin q hq
  have h2:=hl.1 _ h1.1
  obtain⟨i,hi,rfl⟩:=List.mem_iff_getElem.1 hq
  have h3:=(hpos i hi).1
  omega) (by simp)
 have a3:=I7 (n:=(At l).2.length+1) (by omega)
 have a4:=Ma hv (At l).2 true 0 (fun x hx=>hl.1 x (p4 x hx)) (by simp)
 unfold A4 DQ
 simp only[List.length_append]
 simp at a2 a4
 omega
theorem HG (l:List Int):∀(ref:List Int) (b:Bool) (n:Nat) (h:0<(AU l ref b n).length),n≤(AU l ref b n)[0]
 | [],b,n,h=>by simp[AU] at h
 |x::ref,b,n,h=>by
  simp only[AU] at h ⊢
  split at h
  .rename_i e
   simp only[if_pos e]
   have:=HG l ref b (n+1) h
   omega
  .rename_i e
   simp only[if_neg e,List.getElem_cons_zero]
   exact Nat.le_refl _
theorem Hp (l:List Int):∀(ref:List Int) (b:Bool) (n j:Nat) (h:j<(AU l ref b n).length),(AU l ref b n)[j]≤n+ref.length∧(0<j→1≤(AU l ref b n)[j])
 | [],b,n,j,h=>by simp[AU] at h
 |x::ref,b,n,j,h=>by
  simp only[AU] at h ⊢
  split at h
  .rename_i e
   have ih:=Hp l ref b (n+1) j h
   simp only[if_pos e]
   refine⟨by have:=ih.1;simp only[List.length_cons];omega,ih.2⟩
  .rename_i e
   simp only[if_neg e]
   cases j with
   |zero=>exact⟨by simp only[List.getElem_cons_zero,List.length_cons];omega,fun h=>by omega⟩
   |succ j=>
    have ih:=Hp l ref (!b) 1 j (by simpa using h)
    simp only[List.getElem_cons_succ,List.length_cons]
    refine⟨by have:=ih.1;omega,fun _=>?_⟩
    cases j with
    |zero=>exact HG l ref (!b) 1 (by simpa using h)
    |succ j=>exact ih.2 (by omega)
theorem KW (ref l:List Int):(blocks ref l).length≤ref.length:=by
 simp only[blocks,List.length_map];exact FW l ref true 0
theorem Md (ref l:List Int) (j:Nat) (h:j<(blocks ref l).length):0≤(blocks ref l)[j]∧(blocks ref l)[j]≤ref.length∧(0<j→1≤(blocks ref l)[j]):=by
 have h' :j<(AU l ref true 0).length:=by simpa[blocks] using h
 have:=Hp l ref true 0 j h'
 simp only[blocks,List.getElem_map]
 refine⟨by omega,by omega,fun hj=>by have:=this.2 hj;omega⟩
theorem Mf:∀(l:List Int) (f:Bool),(∀x∈l,x≤30)→(E4 l f).length≤9*l.length
 | [],f,_=>by simp[E4]
 |n::l,f,h=>by
  have ih:=Mf l false fun x hx=>h x (by simp[hx])
  have h1:=h n (by simp)
  have:=I7 (n:=(if f=true then n+1 else n).toNat) (by split<;>omega)
  rw[E4,List.length_append,List.length_cons];omega
theorem KX {ref l:List Int} (h:AQ l):AQ (Bg ref l):=⟨fun x hx=>h.1 x (List.mem_filter.1 hx).1,h.2.filter _⟩
theorem KY {v:Int} {ref l:List Int} (hv:0≤v∧v≤16) (hr:ref.length≤16) (hl:AQ l):(Eh v ref l).length≤330:=by
 have a1:=KW ref l
 have a2:=I7 (n:=(blocks ref l).length+1) (by omega)
 have a3:=Mf (blocks ref l) true (fun x hx=>by
  obtain⟨i,hi,rfl⟩:=List.mem_iff_getElem.1 hx
  have:=Md ref l i hi
  omega)
 have a4:=GM hv (KX (ref:=ref) hl)
 unfold Eh
 simp only[List.length_append]
 omega
theorem I8 {f:Int→List Int→List Bool} {c:Nat}:∀(ls:List (List Int)) (v:Int),(∀(i:Nat) (h:i<ls.length),(f (v+i) ls[i]).length≤c)→(Dq f v ls).length≤c*ls.length
 | [],v,_=>by simp[Dq]
 |l::ls,v,h=>by
  have ih:=I8 (c:=c) ls (v+1) fun i hi=>by
   have:=h (i+1) (by simpa using hi)
   simp only[List.getElem_cons_succ] at this
   rw[show v+1+(i:Int)=v+((i+1:Nat):Int) by omega];exact this
  have h0:=h 0 (by simp)
  simp at h0
  rw[Dq,List.length_append,List.length_cons,Nat.mul_add];omega
theorem IA {g:Gr} (hg:AX g):(CF g).length≤6000:=by
 have h1:=I7 (n:=g.n.toNat+1) (by have:=hg.2.1;omega)
 have h2:=I8 (f:=A4) (c:=166) g.out 0 (fun i hi=>GM ⟨by omega,by have:=hg.2.1;have:=hg.2.2.1;omega⟩ (hg.2.2.2.1 _ (List.getElem_mem hi)).1)
 have h3:=hg.2.1
 have h4:=hg.2.2.1
 unfold CF
 rw[List.length_append]
 have:166*g.out.length≤166*16:=Nat.mul_le_mul_left _ (by omega)
 omega
theorem IB {a g:Gr} (ha:AX a) (hg:AX g):(CG a g).length≤6000:=by
 have h1:=I7 (n:=g.n.toNat+1) (by have:=hg.2.1;omega)
 have h2:=I8 (f:=fun v l=>Eh v (AC a v) l) (c:=330) g.out 0 (fun i hi=>KY ⟨by omega,by have:=hg.2.1;have:=hg.2.2.1;omega⟩ (Cm ha _) (hg.2.2.2.1 _ (List.getElem_mem hi)).1)
 have h3:=hg.2.1
 have h4:=hg.2.2.1
 unfold CG
 rw[List.length_append]
 have:330*g.out.length≤330*16:=Nat.mul_le_mul_left _ (by omega)
 omega
end Go.Abs
set_option maxRecDepth 100000
namespace Go.Abs
open Go.Proofs
theorem X6 (xs:List Bool) (u:Nat) (v:Int) (ref l:List Int) (hx:xs.length<100000) (hv:0≤v∧v≤16) (hr:ref.length≤16) (hl:AQ l):Aa pg 168 [.tok 0 u 1 0 xs.length,.int .i64 v,.ro ref.length (Ae ref),.ro l.length (Ae l)] [.live u (AK xs)] (fun r M=>r= .own 1 (xs++Eh v ref l).length (AK (xs++Eh v ref l))∧M=[.dead]):=by
 have hll:=BP hl
 have hbl:=KW ref l
 have hbd:=Md ref l
 have hom:=KX (ref:=ref) hl
 have hbits:Eh v ref l=AG ((blocks ref l).length+1)++E4 (blocks ref l) true++A4 v (Bg ref l):=rfl
 rw[hbits]
 clear hbits
 have spC:=Nn ref l (by omega) (by omega)
 obtain⟨bl,hb⟩:∃bl,bl=blocks ref l:=⟨_,rfl⟩
 obtain⟨rest,hrest⟩:∃rest,rest=Bg ref l:=⟨_,rfl⟩
 rw[←hb,←hrest] at spC ⊢
 rw[←hb] at hbl
 rw[←hrest] at hom
 have hbd' :∀(j:Nat) (h:j<bl.length),0≤bl[j]∧bl[j]≤16∧(0<j→1≤bl[j]):=fun j h=>by
  subst hb
  have:=hbd j h
  omega
 have hg0:=EY (bl.length+1) (by omega)
 refine Aa.start (fn:=Tryz.f168) [.tmp 8] tk rfl rfl rfl (by kernel_rfl) (Nat.le_of_ble_eq_true rfl) rfl (by kernel_rfl) ?_
 rw[HN]
 refine zs ?_
 refine z0 ?_;intro K hK
 refine Ab.eq spC (by simp) (by simp) ?_
 refine zx ?_
 refine zk ?_;clear hK K
 refine z0 ?_;intro K hK
 refine Ab.pass [0] (Dt xs u (bl.length+1) (by omega) (by omega) (by omega)) (by simp) (by simp) (by simp) (by simp) ?_
 rintro r M ⟨rfl,rfl⟩ _
 refine zx ?_
 refine zk ?_;clear hK K
 refine zs ?_
 (repeat refine W.seq ?_);refine W.block (W.loopS (fun z:Nat×List Bool=> [(0,.tok 3 0 1 0 z.2.length),(1,.int .i64 v),(9,.tok 1 0 1 0 bl.length),(10,.tok 2 0 1 0 rest.length),(11,.int .i64 (z.1:Nat))]) (fun z=> [.dead,.live 0 (Ae bl),.live 0 (Ae rest),.live 0 (AK z.2)]) (fun z=>bl.length-z.1) (fun z=>z.1≤bl.length∧z.2=xs++(AG (bl.length+1)++E4 (bl.take z.1) true)∧z.2.length≤xs.length+81*(z.1+1)) (0,xs++AG (bl.length+1)) (Wk.fr (by simp[Ad])) ⟨by simp,by simp[E4],by simp;omega⟩ ?_)
 rintro⟨i,B⟩ ⟨hi,hB,hBl⟩
 simp only at hi hB hBl
 by_cases c1:i<bl.length
 rotate_left
 .have hi' :i=bl.length:=by omega
  subst hi'
  rw[List.take_length] at hB
  refine Af c1 ?_;intro K hK
  refine zk ?_;clear hK K
  refine zn ?_
  refine W.exit ?_
  refine z0 ?_;intro K hK
  refine Ab.pass [3] (Nm B 0 v rest (by omega) hv hom) (by simp) (by simp) (by simp) (by simp) ?_
  rintro r M ⟨rfl,rfl⟩ _
  refine zx ?_
  refine zk ?_;clear hK K
  refine zr ?_
  rw[List.take_of_length_le (by simp),hB]
  simp
  omega
 have hto:=KV bl i true c1
 have hb3:=hbd' i c1
 refine Af c1 ?_;intro K hK
 refine zk ?_;clear hK K
 refine zt ?_
 refine W.skip ?_
 refine zb ?_
 (repeat refine W.seq ?_);refine W.reg 0 rfl fun K hK=>?_;simp -implicitDefEqProofs (maxSteps:=999999) (disch:=omega) [c1]
 refine zk ?_;clear hK K
 by_cases h0:i=0
 .subst h0
  obtain⟨c,hc⟩:=Int.eq_ofNat_of_zero_le (show 0≤bl[0]+1 by omega)
  have hcl:=EY c (by omega)
  refine zs ?_
  refine zt ?_
  refine Af hc ?_;intro K hK
  refine zk ?_;clear hK K
  refine z0 ?_;intro K hK
  refine Ab.pass [3] (Dt B 0 c (by omega) (by omega) (by omega)) (by simp) (by simp) (by simp) (by simp) ?_
  rintro r M ⟨rfl,rfl⟩ _
  refine zx ?_
  refine zk ?_;clear hK K
  refine zs ?_
  refine⟨(0+1,B++AG c),by simp only;omega,⟨by simp only;omega,?_,by simp;omega⟩,?_⟩
  .simp only[hto,and_self,if_true,hc,Int.toNat_natCast]
   rw[hB];simp
  .simp only[List.length_append]
   exact Wk.sink (k:=3) (j:=4) (by rfl) (by simp) (by omega) (by simp) (by simp[Ad]) (by simp) (by simp) (by simp)
 .obtain⟨c,hc⟩:=Int.eq_ofNat_of_zero_le hb3.1
  have hcl:=EY c (by omega)
  refine Af h0 ?_;intro K hK
  refine zk ?_;clear hK K
  refine zn ?_
  refine W.skip ?_
  refine Af hc ?_;intro K hK
  refine Ab.pass [3] (Dt B 0 c (by omega) (by omega) (by omega)) (by simp) (by simp) (by simp) (by simp) ?_
  rintro r M ⟨rfl,rfl⟩ _
  refine zx ?_
  refine zk ?_;clear hK K
  refine zs ?_
  refine⟨(i+1,B++AG c),by simp only;omega,⟨by simp only;omega,?_,by simp;omega⟩,?_⟩
  .simp only[hto,h0,false_and,if_false,hc,Int.toNat_natCast]
   rw[hB];simp
  .simp only[List.length_append]
   exact Wk.sink (k:=3) (j:=4) (by rfl) (by simp) (by omega) (by simp) (by simp[Ad]) (by simp) (by simp) (by simp)
theorem Pj (g:Gr) (hg:AX g):Aa pg 128 [.agg (AI false g)] [] (fun r _=>∃ats:List Int,r= .tup [.own 1 (CF g).length (AK (CF g)),.own 1 ats.length (Ae ats)]):=by
 obtain⟨n,hn⟩:=Int.eq_ofNat_of_zero_le hg.1
 have hn16:n≤16:=by have:=hg.2.1;omega
 have hout:g.out.length=n:=by have:=hg.2.2.1;omega
 obtain⟨c,hc⟩:∃c:Nat,c=n+1:=⟨_,rfl⟩
 have hg0:=I7 (n:=c) (by omega)
 have en:(n:Int)+1=(c:Int):=by omega
 have sp0:=OF c (by omega) (by omega)
 have hfb:CF g=AG c++Dq A4 0 g.out:=by unfold CF;rw[hn,Int.toNat_natCast,hc]
 refine Aa.start (fn:=Tryz.f128) [.tmp 2,.tmp 3] tk rfl rfl rfl (by kernel_rfl) (Nat.le_of_ble_eq_true rfl) rfl (by kernel_rfl) ?_
 rw[Ax]
 refine z1 ?_;intro K hK;refine zk ?_;clear hK K
 rw[hn]
 refine Af en ?_;intro K hK
 refine Ab.eqN sp0 (by simp[Ms]) (by simp) ?_
 refine zx ?_
 refine zk ?_;clear hK K
 refine zs ?_
 refine zs ?_
 refine W.weak ((Wk.nil (t:=5) (s:=1) (by simp)).trans (Wk.move (j:=1) (t:=4) (u:=0) (s:=1) (off:=0) (n:=(AG c).length) (xs:=AK (AG c)) (S:=[(1,.ptr 0 0 0),(5,.tok 2 0 1 0 0),(6,.int .i64 0)]) rfl (by simp) (by simp) (by simp[Ad]))) ?_
 (repeat refine W.seq ?_);refine W.block (W.loopS (fun z:Nat×List Bool×List Int=> [(4,.tok 3 0 1 0 z.2.1.length),(1,.ptr 0 0 0),(5,.tok 2 z.1 1 0 z.1),(6,.int .i64 z.1)]) (fun z=> [.live 0 [.int .i64 n,.ro g.out.length (Aw false g.out)],.dead,.live z.1 (Ae z.2.2),.live 0 (AK z.2.1)]) (fun z=>n-z.1) (fun z=>z.1≤n∧z.2.1=AG c++Dq A4 0 (g.out.take z.1)∧z.2.1.length≤9+166*z.1∧z.2.2.length=z.1) (0,AG c,[]) (Wk.cutM (k:=4) (by simp[Ad]) (by simp) (by simp) (by simp) (by simp) (by simp)) ⟨by simp,by simp[Dq],by simp;omega,rfl⟩ ?_)
 rintro⟨i,B,ats⟩ ⟨hi,hB,hBl,hal⟩
 simp only at hi hB hBl hal
 by_cases c1:i<n
 rotate_left
 .have hi' :i=n:=by omega
  subst hi'
  rw[List.take_of_length_le (by omega)] at hB
  rw[←hfb] at hB
  subst hB
  refine Af c1 ?_;intro K hK
  refine zk ?_;clear hK K
  refine zn ?_
  refine W.exit ?_
  refine zs ?_
  refine zr ?_
  refine⟨ats,?_⟩
  rw[hal,List.take_of_length_le (by omega)]
  simp
 have hlt:i<g.out.length:=by omega
 have hml:=(hg.2.2.2.1 _ (List.getElem_mem hlt)).1
 have hto:=KU A4 hlt
 have hrl:=GM (v:=(i:Int)) ⟨by omega,by omega⟩ hml
 refine Af c1 ?_;intro K hK
 refine zk ?_;clear hK K
 refine zt ?_
 refine W.skip ?_
 refine zb ?_
 refine z1 ?_;intro K hK
 refine⟨hal,by omega,by omega,?_⟩
 refine zk ?_;clear hK K
 (repeat refine W.seq ?_);refine W.reg 0 rfl fun K hK=>?_;simp -implicitDefEqProofs (maxSteps:=999999) (disch:=omega) [hlt]
 refine Ab.pass [3] (Nm B 0 i g.out[i] (by omega) ⟨by omega,by omega⟩ hml) (by simp) (by simp) (by simp) (by simp) ?_
 rintro r M ⟨rfl,rfl⟩ _
 refine zx ?_
 refine zk ?_;clear hK K
 refine zs ?_
 refine⟨(i+1,B++A4 i g.out[i],ats++[(B.length:Int)]),by simp only;omega,⟨by simp only;omega,?_,by simp;omega,by simp;exact hal⟩,?_⟩
 .simp only[hto];rw[hB];simp
 .simp only[List.length_append]
  refine Wk.trans (Wk.sink (k:=3) (j:=5) (t:=4) (v:=0) (s:=1) (off:=0) (n:=B.length+(A4 i g.out[i]).length) (S:=[(1,.ptr 0 0 0),(5,.tok 2 (i+1) 1 0 (i+1)),(6,.int .i64 ((i+1:Nat):Int))]) (by rfl) (by simp) (by omega) (by simp) (by simp[Ad]) (by simp) (by simp) (by simp)) ?_
  exact Wk.cutM (k:=4) (by simp[Ad]) (by simp[Db,Ae]) (by simp) (by simp) (by simp) (by simp)
theorem Pk (a g:Gr) (ha:AX a) (hg:AX g):Aa pg 129 [.agg (AI false a),.agg (AI false g)] [] (fun r _=>r= .own 1 (CG a g).length (AK (CG a g))):=by
 obtain⟨n,hn⟩:=Int.eq_ofNat_of_zero_le hg.1
 have hn16:n≤16:=by have:=hg.2.1;omega
 have hout:g.out.length=n:=by have:=hg.2.2.1;omega
 obtain⟨c,hc⟩:∃c:Nat,c=n+1:=⟨_,rfl⟩
 have hg0:=I7 (n:=c) (by omega)
 have en:(n:Int)+1=(c:Int):=by omega
 have sp0:=OF c (by omega) (by omega)
 have hfb:CG a g=AG c++Dq (fun v l=>Eh v (AC a v) l) 0 g.out:=by unfold CG;rw[hn,Int.toNat_natCast,hc]
 obtain⟨an,han⟩:=Int.eq_ofNat_of_zero_le ha.1
 have haout:a.out.length=an:=by have:=ha.2.2.1;omega
 refine Aa.start (fn:=Tryz.f129) [.tmp 4] tk rfl rfl rfl (by kernel_rfl) (Nat.le_of_ble_eq_true rfl) rfl (by kernel_rfl) ?_
 rw[Ar]
 refine z2 ?_;intro K hK;refine zk ?_;clear hK K
 rw[hn]
 refine Af en ?_;intro K hK
 refine Ab.eqN sp0 (by simp[Ms]) (by simp) ?_
 refine zx ?_
 refine zk ?_;clear hK K
 refine zs ?_
 (repeat refine W.seq ?_);refine W.block (W.loopS (fun z:Nat×List Bool=> [(5,.tok 2 0 1 0 z.2.length),(2,.ptr 0 0 0),(3,.ptr 1 0 0),(6,.int .i64 z.1)]) (fun z=> [.live 0 [.int .i64 a.n,.ro a.out.length (Aw false a.out)],.live 0 [.int .i64 n,.ro g.out.length (Aw false g.out)],.live 0 (AK z.2)]) (fun z=>n-z.1) (fun z=>z.1≤n∧z.2=AG c++Dq (fun v l=>Eh v (AC a v) l) 0 (g.out.take z.1)∧z.2.length≤9+330*z.1) (0,AG c) (Wk.cutM (k:=3) (by simp[Ad]) (by simp) (by simp) (by simp) (by simp) (by simp)) ⟨by simp,by simp[Dq],by simp;omega⟩ ?_)
 rintro⟨i,B⟩ ⟨hi,hB,hBl⟩
 simp only at hi hB hBl
 by_cases c1:i<n
 rotate_left
 .have hi' :i=n:=by omega
  subst hi'
  rw[List.take_of_length_le (by omega)] at hB
  rw[←hfb] at hB
  subst hB
  refine Af c1 ?_;intro K hK
  refine zk ?_;clear hK K
  refine zn ?_
  refine W.exit ?_
  refine zs ?_
  exact zR
 have hlt:i<g.out.length:=by omega
 have hml:=(hg.2.2.2.1 _ (List.getElem_mem hlt)).1
 have hto:=KU (fun v l=>Eh v (AC a v) l) hlt
 have hbl:=Cm ha (i:Int)
 have hrl:=KY (v:=(i:Int)) (ref:=AC a i) ⟨by omega,by omega⟩ hbl hml
 have spW:=X6 B 0 i (AC a i) g.out[i] (by omega) ⟨by omega,by omega⟩ hbl hml
 refine Af c1 ?_;intro K hK
 refine zk ?_;clear hK K
 refine zt ?_
 refine W.skip ?_
 refine zb ?_
 by_cases c2:i<an
 .have hlt2:i<a.out.length:=by omega
  have hba:AC a i=a.out[i]:=by simp[AC,List.getD_eq_getElem?_getD,List.getElem?_eq_getElem hlt2]
  have spB:=Nq a i hlt2 (by omega)
  rw[hba] at spW hrl hto
  (repeat refine W.seq ?_);refine W.regdS 0 10 rfl true BZ (by kernel_rfl) fun K hK=>?_;simp -implicitDefEqProofs (maxSteps:=999999) (disch:=omega) [hlt]
  refine Ag.eqr spB (by simp) ?_
  simp only[DN];simp -implicitDefEqProofs (maxSteps:=999999) (disch:=omega) [hlt]
  refine Ab.pass [2] spW (by simp) (by simp) (by simp) (by simp) ?_
  rintro r M ⟨rfl,rfl⟩ _
  simp -implicitDefEqProofs (maxSteps:=999999) (disch:=omega)
  refine zk ?_;clear hK K
  refine zs ?_
  refine⟨(i+1,B++Eh i a.out[i] g.out[i]),by simp only;omega,⟨by simp only;omega,?_,by simp;omega⟩,?_⟩
  .simp only[hto];rw[hB];simp
  .simp only[List.length_append]
   exact Wk.sink (k:=2) (j:=3) (by rfl) (by simp) (by omega) (by simp) (by simp[Ad]) (by simp) (by simp) (by simp)
 .have hba:AC a i=[]:=by simp[AC,List.getD_eq_getElem?_getD,List.getElem?_eq_none (show a.out.length≤i by omega)]
  have spB:=Nr a i (by omega)
  rw[hba] at spW hrl hto
  (repeat refine W.seq ?_);refine W.regdS 0 10 rfl true BZ (by kernel_rfl) fun K hK=>?_;simp -implicitDefEqProofs (maxSteps:=999999) (disch:=omega) [hlt]
  refine Ag.eqr spB (by simp) ?_
  simp only[DN];simp -implicitDefEqProofs (maxSteps:=999999) (disch:=omega) [hlt]
  refine Ab.pass [2] spW (by simp) (by simp) (by simp) (by simp) ?_
  rintro r M ⟨rfl,rfl⟩ _
  simp -implicitDefEqProofs (maxSteps:=999999) (disch:=omega)
  refine zk ?_;clear hK K
  refine zs ?_
  refine⟨(i+1,B++Eh i [] g.out[i]),by simp only;omega,⟨by simp only;omega,?_,by simp;omega⟩,?_⟩
  .simp only[hto];rw[hB];simp
  .simp only[List.length_append]
   exact Wk.sink (k:=2) (j:=4) (by rfl) (by simp) (by omega) (by simp) (by simp[Ad]) (by simp) (by simp) (by simp)
end Go.Abs
set_option maxRecDepth 100000
namespace Go.Abs
open Go.Proofs
section
variable (xs ys:List Nat) (M:List Ah) (k:Nat)
@[simp] theorem bk (i:Nat):(BS xs)[i]?=(xs[i]?).map Fk:=by simp[BS,Fk]
@[simp] theorem bm:BS []=[]:=rfl
@[simp] theorem ZN:(BS xs).take k=BS (xs.take k):=by simp[BS,Fk,List.map_take]
@[simp] theorem ZO:(BS xs).drop k=BS (xs.drop k):=by simp[BS,Fk,List.map_drop]
@[simp] theorem dm:Ez (BS xs)=true:=by simp[BS,Fk,Ez,-Jn]
@[simp] theorem dq:EA (BS xs)=true:=by simp[BS,Fk,EA,-Jo]
@[simp] theorem dr:DA (BS xs)=true:=by simp[BS,Fk,DA,-GQ]
@[simp] theorem dt:CY k (BS xs)=true:=by induction xs<;>simp_all[BS,Fk]
@[simp] theorem bn:CJ (BS xs)=true:=by induction xs<;>simp_all[BS,Fk]
@[simp] theorem bo:Ex (BS xs)=BS xs:=by induction xs<;>simp_all[BS,Fk]
@[simp] theorem bq:(BS xs).map D5=BS xs:=by simp[BS,Fk]
@[simp] theorem br:(BS xs).map (B9 M k)=BS xs:=by cases k<;>simp[BS,Fk]
@[simp] theorem du:(BS xs).all O2=true:=by simp[BS,Fk,O2]
theorem ST (n:Nat):B7 n [.int .u8 0]=BS (List.replicate n 0):=by
 unfold B7 BS
 induction n with
 |zero=>rfl
 |succ n ih=>simp[List.replicate_succ,Fk]
end
theorem Pl {a x r:Nat} (h:2^r∣a) (hx:x<2^r) (ha:a+x<256):Ce .or (.int .u8 (a:Int)) (.int .u8 (x:Int))=some (.int .u8 ((a+x:Nat):Int)):=
 (RB _ _ _).trans (congrArg (fun z:Int=>some (AV.int .u8 z)) (dl h hx ha))
theorem W6 (l:List Bool) (hl:l.length<100000):Aa pg 130 [.ro l.length (AK l)] [] (fun r _=>r= .agg (Ch (FY l))):=by
 obtain⟨m,hm⟩:∃m,m=(l.length+7)/8:=⟨_,rfl⟩
 have hq:((l.length:Int)+7)/8=(m:Int):=by omega
 refine Aa.start (fn:=Tryz.f130) [.cell 2 40] tk rfl rfl rfl (by kernel_rfl) (Nat.le_of_ble_eq_true rfl) rfl (by kernel_rfl) ?_
 rw[Ax]
 refine z1 ?_;intro K hK;refine zk ?_;clear hK K
 refine IF hq ?_;intro K hK
 refine⟨by omega,by omega,?_⟩
 rw[ST]
 refine zk ?_;clear hK K
 refine zs ?_
 (repeat refine W.seq ?_);refine W.block (W.loopS (fun i:Nat=> [(0,.ro l.length (AK l)),(2,.ptr 0 0 0),(3,.tok 1 0 1 0 m),(4,.int .i64 i)]) (fun i=> [.live 0 [.str ByteArray.empty,.int .i64 0],.live 0 (BS (Ft m (l.take i)))]) (fun i=>l.length-i) (fun i=>i≤l.length) 0 (Wk.cutM (k:=2) (by simp[Ad]) (by simp[X5]) (by simp) (by simp) (by simp) (by simp)) (by simp) ?_)
 intro i hi
 by_cases c1:i<l.length
 rotate_left
 .have:i=l.length:=by omega
  subst this
  rw[List.take_length]
  refine Af c1 ?_;intro K hK
  refine zk ?_;clear hK K
  refine zn ?_
  refine W.exit ?_
  have tkm:List.take m (Ft m l)=Ft m l:=List.take_of_length_le (by simp)
  refine Af tkm ?_;intro K hK
  refine zk ?_;clear hK K
  refine zr ?_
  simp[FY,pk,←hm]
 obtain⟨q,hq'⟩:∃q,q=i/8:=⟨_,rfl⟩
 obtain⟨r,hr⟩:∃r,r=i%8:=⟨_,rfl⟩
 obtain⟨s,hs⟩:∃s,s=7-r:=⟨_,rfl⟩
 have e1:(i:Int)/8=(q:Int):=by omega
 have e2:(i:Int)%8=(r:Int):=by omega
 have e3:(7:Int)-(r:Int)=(s:Int):=by omega
 have hqm:q<m:=by omega
 have hlt:(l.take i).length=i:=by simp;omega
 have hsn:=SS m (l.take i) l[i] (by rw[hlt];omega)
 have hdv:=UU m (l.take i) q hqm (by rw[hlt,hq'])
 have hto:l.take (i+1)=l.take i++[l[i]]:=by rw[List.take_add_one];simp[c1]
 rw[←hto] at hsn
 obtain⟨P,hP⟩:∃P,P=Ft m (l.take i):=⟨_,rfl⟩
 have hPl:P.length=m:=by rw[hP,UT]
 have hqP:q<P.length:=by omega
 simp only[hlt,←hP,←hq',←hr] at hsn hdv
 rw[←hP]
 have hPlt:P[q]<256:=by subst hP;exact Q9 hqm
 have hu:P[q]?=some P[q]:=List.getElem?_eq_getElem hqP
 refine Af c1 ?_;intro K hK
 refine zk ?_;clear hK K
 refine zt ?_
 refine W.skip ?_
 refine zb ?_
 cases hb:l[i]
 .have ew:IntKind.wrap .u8 0=0:=by decide
  have eo:Ce .or (.int .u8 (P[q]:Int)) (.int .u8 0)=some (.int .u8 (P[q]:Int)):=Pl (x:=0) hdv (Nat.pow_pos (by omega)) (by omega)
  rw[hb] at hsn
  (repeat refine W.seq ?_);refine W.regd 0 rfl true BZ (by kernel_rfl) fun K hK=>?_;simp -implicitDefEqProofs (maxSteps:=999999) (disch:=omega) [c1,e1,e2,e3,hqm,hu,hb,Fk,b8,ew,eo]
  refine⟨by omega,?_⟩
  refine zk ?_;clear hK K
  have hs2:P.set q P[q]=Ft m (l.take (i+1)):=by rw[hsn];simp
  rw[Ph,hs2]
  refine zs ?_
  exact⟨i+1,by omega,by omega,Wk.fr (by simp[Ad])⟩
 .obtain⟨z,hz⟩:∃z:Nat,z=2^s:=⟨_,rfl⟩
  have hz1:(2:Int)^s=(z:Int):=by rw[hz];simp
  have hzl:z<2^(8-r):=by rw[hz];exact Nat.pow_lt_pow_right (by omega) (by omega)
  have hz8:z≤128:=by rw[hz];exact Nat.pow_le_pow_right (by omega) (show s≤7 by omega)
  have hsum:P[q]+z<256:=by
   have h1:P[q]≤256-2^(8-r):=by
    obtain⟨c,hc⟩:=hdv
    have hb2:2^(8-r)*2^r=256:=by rw[←Nat.pow_add,show 8-r+r=8 by omega]
    have hlt2:2^(8-r)*c<2^(8-r)*2^r:=by rw[←hc,hb2];exact hPlt
    have:=Nat.lt_of_mul_lt_mul_left hlt2
    have h3:2^(8-r)*(c+1)≤2^(8-r)*2^r:=Nat.mul_le_mul_left _ this
    rw[Nat.mul_add] at h3
    omega
   have:2^(8-r)≤256:=Nat.pow_le_pow_right (by omega) (show 8-r≤8 by omega)
   omega
  obtain⟨y,hy⟩:∃y,y=P[q]+z:=⟨_,rfl⟩
  have ew:IntKind.wrap .u8 (z:Int)=(z:Int):=Pi ⟨z,by omega⟩
  have eo:Ce .or (.int .u8 (P[q]:Int)) (.int .u8 (z:Int))=some (.int .u8 (y:Int)):=by rw[hy];exact Pl hdv hzl hsum
  have hyn:P[q]+l[i].toNat*2^(7-r)=y:=by rw[hb,hy,hz,hs];simp
  rw[hyn] at hsn
  (repeat refine W.seq ?_);refine W.regd 0 rfl true BZ (by kernel_rfl) fun K hK=>?_;simp -implicitDefEqProofs (maxSteps:=999999) (disch:=omega) [c1,e1,e2,e3,hqm,hu,hb,Fk,b8,hz1,ew,eo]
  refine⟨by omega,?_⟩
  refine zk ?_;clear hK K
  rw[Ph,←hsn]
  refine zs ?_
  exact⟨i+1,by omega,by omega,Wk.fr (by simp[Ad])⟩
theorem Ra (a g:Gr) (ha:AX a) (hg:AX g):Aa pg 90 [.agg (AI false a),.agg (AI false g)] [] (fun r _=>r= .bool (decide ((CG a g).length<(CF g).length))):=by
 have spF:=Pj g hg
 have spD:=Pk a g ha hg
 refine Aa.start (fn:=Tryz.f90) [.tmp 4] tk rfl rfl rfl (by kernel_rfl) (Nat.le_of_ble_eq_true rfl) rfl (by kernel_rfl) ?_
 rw[Ar]
 refine z2 ?_;intro K hK;refine zk ?_;clear hK K
 refine z0 ?_;intro K hK
 refine Ab.bor spF (by simp) ?_
 rintro r ⟨ats,rfl⟩
 refine⟨by simp,?_⟩
 refine zx ?_
 refine zk ?_;clear hK K
 refine z0 ?_;intro K hK
 refine Ab.eq spD (by simp) (by simp) ?_
 refine zx ?_
 refine zk ?_;clear hK K
 exact zR
theorem T3 (l:List Obj) (base:Int) (g:Gr) (hl:DH l) (hm:Cy l) (hg:AX g):Aa pg 91 [.ro l.length (Ac Al l),.int .i64 base,.agg (AI false g)] [] (fun r _=>r= .agg (Ch (GL l base g))):=by
 have spF:=Pj g hg
 have spR:=Fg l base hl hm
 have spD:=Pk (Bi l base).1 g (EL l base) hg
 have spP:=W6 (if base=0 then CF g else CG (Bi l base).1 g) (by
  split
  .have:=IA hg;omega
  .have:=IB (EL l base) hg;omega)
 obtain⟨p,hp⟩:∃p,p=GL l base g:=⟨_,rfl⟩
 have hpe:FY (if base=0 then CF g else CG (Bi l base).1 g)=p:=by rw[hp,GL]
 rw[hpe] at spP
 rw[←hp]
 refine Aa.start (fn:=Tryz.f91) [.cell 6 40] tk rfl rfl rfl (by kernel_rfl) (Nat.le_of_ble_eq_true rfl) rfl (by kernel_rfl) ?_
 rw[A7]
 refine z2 ?_;intro K hK;refine zk ?_;clear hK K
 by_cases c:base=0
 .rw[if_pos c] at spP
  refine Af c ?_;intro K hK
  refine zk ?_;clear hK K
  refine zt ?_
  refine z0 ?_;intro K hK
  refine Ab.bor spF (by simp) ?_
  rintro r ⟨ats,rfl⟩
  refine⟨by simp,?_⟩
  refine zx ?_
  refine zk ?_;clear hK K
  refine z0 ?_;intro K hK
  refine Ab.eq spP (by simp) (by simp) ?_
  refine zx ?_
  refine zk ?_;clear hK K
  exact zR
 .rw[if_neg c] at spP
  refine Af c ?_;intro K hK
  refine zk ?_;clear hK K
  refine zn ?_
  refine W.skip ?_
  refine z1 ?_;intro K hK
  refine Ab.eq spR (by simp) (by simp) ?_
  refine zx ?_
  refine zk ?_;clear hK K
  refine z0 ?_;intro K hK
  refine Ab.eq spD (by simp) (by simp) ?_
  refine zx ?_
  refine Ab.eq spP (by simp) (by simp) ?_
  refine zx ?_
  refine zk ?_;clear hK K
  exact zR
set_option maxHeartbeats 2000000 in
theorem W7 (l:List Obj) (parent:Int) (g:Gr) (hl:DH l) (hl2:l.length<1000000000) (hm:Cy l) (hg:AX g):Aa pg 45 [.ro l.length (Ac Al l),.int .i64 parent,.agg (AI false g)] [] (fun r _=>r= .tup [.agg (Al (Dv l parent g).1),.int .i64 (Dv l parent g).2]):=by
 have spR:=Fg l parent hl hm
 have spD:=Pb l parent hl hm
 have spS:=Ra (Bi l parent).1 g (EL l parent) hg
 have spB0:=T3 l 0 g hl hm hg
 have spB1:=T3 l parent g hl hm hg
 obtain⟨id,BG⟩:∃id,id=DX l:=⟨_,rfl⟩
 have hid0:-1000000000000<id∧id<1000000000000:=by
  rw[BG,DX]
  cases e:l.getLast? with
  |none=>simp
  |some o=>
   have:=hm.2.1 o (List.mem_of_getLast? e)
   simp only;omega
 refine Aa.start (fn:=Tryz.f45) [.cell 6 60,.tmp 7] tk rfl rfl rfl (by kernel_rfl) (Nat.le_of_ble_eq_true rfl) rfl (by kernel_rfl) ?_
 rw[A7]
 refine z2 ?_;intro K hK;refine zk ?_;clear hK K
 refine zs ?_
 refine zs ?_
 (repeat refine W.seq ?_);refine W.midS (fun _:Unit=> [(0,.ro l.length (Ac Al l)),(1,.int .i64 parent),(5,.ptr 0 0 0),(6,.ptr 1 0 0),(8,.int .i64 id)]) (fun _=> [.live 0 (AI false g),.live 0 [.int .i64 0,.int .i64 0,.str ByteArray.empty,.int .i64 0]]) (fun _=>True) ?_ ?_
 .by_cases c:0<l.length
  .obtain⟨k,hk⟩:∃k,l.length=k+1:=⟨l.length-1,by omega⟩
   have hkl:k<l.length:=by omega
   have em:(l.length:Int)-1=(k:Int):=by omega
   have hlast:id=l[k].id+1:=by
    rw[BG,DX,List.getLast?_eq_getElem?,show l.length-1=k by omega,List.getElem?_eq_getElem hkl]
   have hidk:=hm.2.1 _ (List.getElem_mem hkl)
   rw[decide_eq_true c]
   refine zt ?_
   refine Af (an em hkl) ?_;intro K hK
   refine zk ?_;clear hK K
   exact⟨(),trivial,Wk.fr (by simp[Ad,hlast])⟩
  .have hnil:l=[]:=List.eq_nil_of_length_eq_zero (by omega)
   have hlast:id=1:=by rw[BG,DX,hnil];rfl
   rw[decide_eq_false c]
   refine zn ?_
   refine W.skip ?_
   exact⟨(),trivial,Wk.fr (by simp[Ad,hlast])⟩
 rintro _ _
 by_cases c1:12≤l.length
 .refine Af c1 ?_;intro K hK
  refine zk ?_;clear hK K
  refine zt ?_
  refine zs ?_
  refine zr ?_
  simp[Dv,c1,JK]
 by_cases c2:1048576<id
 .refine Af (an c1 c2) ?_;intro K hK
  refine zk ?_;clear hK K
  refine zt ?_
  refine zs ?_
  refine zr ?_
  simp[Dv,←BG,c2,JK]
 have c12:¬(12≤l.length∨1048576<DX l):=by rw[←BG];omega
 refine Af (an c1 c2) ?_;intro K hK
 refine zk ?_;clear hK K
 refine zn ?_
 refine W.skip ?_
 refine z1 ?_;intro K hK
 refine zk ?_;clear hK K
 by_cases c3:parent=0
 .have eM:Dv l parent g=(⟨id,0,GL l 0 g⟩,0):=by rw[Dv,if_neg c12,if_pos c3,BG]
  rw[eM]
  obtain⟨bp,hbp⟩:∃bp,bp=GL l 0 g:=⟨_,rfl⟩
  rw[←hbp] at spB0 ⊢
  refine Af c3 ?_;intro K hK
  refine zk ?_;clear hK K
  refine zn ?_
  refine W.skip ?_
  refine z0 ?_;intro K hK
  refine Ab.eq spB0 (by simp) (by simp) ?_
  refine zx ?_
  refine zk ?_;clear hK K
  refine zs ?_
  exact zR
 obtain⟨a,ha⟩:∃a,a=(Bi l parent).1:=⟨_,rfl⟩
 obtain⟨e,he⟩:∃e,e=(Bi l parent).2:=⟨_,rfl⟩
 rw[←ha] at spS
 rw[←ha,←he] at spR
 by_cases c4:e=0
 rotate_left
 .have eM:Dv l parent g=(JK,e):=by rw[Dv,if_neg c12,if_neg c3,←he,if_pos c4]
  rw[eM]
  refine Af c3 ?_;intro K hK
  refine zk ?_;clear hK K
  refine zt ?_
  refine z1 ?_;intro K hK
  refine Ab.eq spR (by simp) (by simp) ?_
  refine zx ?_
  refine zk ?_;clear hK K
  refine Af c4 ?_;intro K hK
  refine zk ?_;clear hK K
  refine zt ?_
  refine zs ?_
  refine zr ?_
  simp[JK]
 obtain⟨dp,hdp⟩:∃dp,dp=(CB l parent).1:=⟨_,rfl⟩
 obtain⟨de,hde⟩:∃de,de=(CB l parent).2:=⟨_,rfl⟩
 rw[←hdp,←hde] at spD
 have eM:Dv l parent g=if dp<3∧(CG a g).length<(CF g).length then(⟨id,parent,GL l parent g⟩,0) else(⟨id,0,GL l 0 g⟩,0):=by
  rw[Dv,if_neg c12,if_neg c3,←he,if_neg (fun h=>h c4),←hdp,←ha,←BG]
 rw[eM]
 obtain⟨b0,hb0⟩:∃b,b=GL l 0 g:=⟨_,rfl⟩
 obtain⟨b1,hb1⟩:∃b,b=GL l parent g:=⟨_,rfl⟩
 rw[←hb0] at spB0 ⊢
 rw[←hb1] at spB1 ⊢
 refine Af c3 ?_;intro K hK
 refine zk ?_;clear hK K
 refine zt ?_
 refine z1 ?_;intro K hK
 refine Ab.eq spR (by simp) (by simp) ?_
 refine zx ?_
 refine zk ?_;clear hK K
 refine Af c4 ?_;intro K hK
 refine zk ?_;clear hK K
 refine zn ?_
 refine W.skip ?_
 refine z0 ?_;intro K hK
 refine Ab.eq spD (by simp) (by simp) ?_
 refine zx ?_
 refine zk ?_;clear hK K
 by_cases c5:dp<3
 rotate_left
 .rw[if_neg (fun h=>c5 h.1)]
  refine Af c5 ?_;intro K hK
  refine zk ?_;clear hK K
  refine zn ?_
  refine W.skip ?_
  refine z0 ?_;intro K hK
  refine Ab.eq spB0 (by simp) (by simp) ?_
  refine zx ?_
  refine zk ?_;clear hK K
  refine zs ?_
  exact zR
 by_cases c6:(CG a g).length<(CF g).length
 .rw[if_pos ⟨c5,c6⟩]
  rw[decide_eq_true c6] at spS
  refine Af c5 ?_;intro K hK
  refine Ab.eq spS (by simp) (by simp) ?_
  refine zx ?_
  refine zk ?_;clear hK K
  refine zt ?_
  refine zs ?_
  refine z0 ?_;intro K hK
  refine Ab.eq spB1 (by simp) (by simp) ?_
  refine zx ?_
  refine zk ?_;clear hK K
  refine zs ?_
  exact zR
 .rw[if_neg (fun h=>c6 h.2)]
  rw[decide_eq_false c6] at spS
  refine Af c5 ?_;intro K hK
  refine Ab.eq spS (by simp) (by simp) ?_
  refine zx ?_
  refine zk ?_;clear hK K
  refine zn ?_
  refine W.skip ?_
  refine z0 ?_;intro K hK
  refine Ab.eq spB0 (by simp) (by simp) ?_
  refine zx ?_
  refine zk ?_;clear hK K
  refine zs ?_
  exact zR
end Go.Abs
