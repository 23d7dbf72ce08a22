/- A job, and a state, of one's own. -/
import Derived.Test.YtoklapibcmnaeaaGreatP13
set_option linter.unusedVariables false
set_option linter.unusedSimpArgs false
set_option maxRecDepth 100000
namespace Go.Abs
open Go.Proofs
theorem Xp (j:Cb) (h:j.list.length<1000000000∧j.out.length<1000000000):Aa pg 137 [.agg (BN false j)] [] (fun r _=>r= .agg (BN true j)):=by
 obtain⟨h1,h2⟩:=h
 refine Aa.start (fn:=Tryz.f137) [.cell 2 53] tk rfl rfl rfl (by kernel_rfl) (Nat.le_of_ble_eq_true rfl) rfl (by kernel_rfl) ?_
 rw[Au]
 refine z2 ?_;intro K hK;refine zk ?_;clear hK K
 refine B8 ?_;intro K hK
 refine Ah.eqr (GJ j.list (by omega)) (by simp) ?_
 refine zx ?_
 refine Ah.eqr (GJ j.out (by omega)) (by simp) ?_
 refine zx ?_
 refine zk ?_;clear hK K
 refine z0 ?_;intro K hK
 refine zk ?_;clear hK K
 exact zR
def FL (k:Nat) (xs:List CR):List AV:=Af (AI true) (xs.take k)++Af (AI false) (xs.drop k)
theorem NQ (k:Nat) (xs:List CR):(FL k xs).length=xs.length*12:=by
 unfold FL;rw[List.length_append,Oo,Oo,←Nat.add_mul,List.length_take,List.length_drop];congr 1;omega
theorem Fh {k i:Nat} {xs:List CR} (h:k<xs.length) (hi:i<12):(FL k xs)[k*12+i]?=(AI false xs[k])[i]?:=by
 have hl:(Af (AI true) (xs.take k)).length=k*12:=by simp;omega
 unfold FL
 rw[List.getElem?_append_right (by omega),hl,Nat.add_sub_cancel_left,List.drop_eq_getElem_cons h,AK,List.getElem?_append_left (by simpa[AI] using hi)]
theorem DX {A X B:List AV} {a j:Nat} {v:AV} (hA:A.length=a) (hj:j<X.length):(A++(X++B)).set (a+j) v=A++(X.set j v++B):=by
 rw[List.set_append_right _ _ (by omega),hA,Nat.add_sub_cancel_left,List.set_append_left _ _ hj]
theorem LT {A X B:List AV} {a j:Nat} (hA:A.length=a) (hj:j<X.length):(A++(X++B))[a+j]?=X[j]?:=by
 rw[List.getElem?_append_right (by omega),hA,Nat.add_sub_cancel_left,List.getElem?_append_left hj]
theorem Vd {k:Nat} {xs:List CR} (h:k<xs.length):FL k xs=Af (AI true) (xs.take k)++(AI false xs[k]++Af (AI false) (xs.drop (k+1))):=by
 unfold FL;rw[List.drop_eq_getElem_cons h,AK]
theorem Rx {k:Nat} {xs:List CR} (h:k<xs.length):FL (k+1) xs=Af (AI true) (xs.take k)++(AI true xs[k]++Af (AI false) (xs.drop (k+1))):=by
 unfold FL;rw[List.take_succ_eq_append_getElem h,C2,AK];simp[Af]
theorem Xq (xs:List CR):Af (AI false) xs=FL 0 xs:=by simp[FL,Af]
theorem Tb {k:Nat} {xs:List CR} (h:xs.length≤k):FL k xs=Af (AI true) xs:=by
 unfold FL
 rw[List.take_of_length_le h,List.drop_eq_nil_of_le h];simp[Af]
theorem Ry (s:AB) (hs:A4 s) (hx:B7 s):Aa pg 95 [.agg (AA false s)] [] (fun r _=>r= .agg (AA true s)):=by
 have h1:=hs.1
 have h2:=hs.2.1
 refine Aa.start (fn:=Tryz.f95) [.cell 2 38] tk rfl rfl rfl (by kernel_rfl) (Nat.le_of_ble_eq_true rfl) rfl (by kernel_rfl) ?_
 rw[Au]
 refine z2 ?_;intro K hK;refine zk ?_;clear hK K
 refine B8 ?_;intro K hK
 refine Ah.eqr (S8 s.vers (by omega)) (by simp) ?_
 refine zx ?_
 refine Ah.eqr (S9 s.sess (by omega)) (by simp) ?_
 refine zx ?_
 refine zk ?_;clear hK K
 refine z0 ?_;intro K hK
 refine zk ?_;clear hK K
 rw[Xq s.sess]
 (repeat refine W.seq ?_);refine W.block (W.loopS (fun k:Nat=> [(1,.ptr 0 0 0),(2,.ptr 1 0 0),(15,.int .i64 s.sess.length),(16,.int .i64 k)]) (fun k=> [.live 0 [.int .i64 s.keep,.int .i64 s.blocks,.tok 2 0 8 0 s.vers.length,.tok 3 0 12 0 s.sess.length],.live 0 [.int .i64 0,.int .i64 0,.own 8 0 [],.own 12 0 []],.live 0 (Af AN s.vers),.live 0 (FL k s.sess)]) (fun k=>s.sess.length-k) (fun k=>k≤s.sess.length) 0 (Wk.fr (by simp[Ad])) (by simp) ?_)
 intro k hk
 by_cases c1:k<s.sess.length
 rotate_left
 .have c1' :¬(k:Int)<(s.sess.length:Int):=by omega
  refine Ae c1' ?_;intro K hK
  refine zk ?_;clear hK K
  refine zn ?_
  refine W.exit ?_
  rw[Tb (by omega)]
  refine z0 ?_;intro K hK
  refine zk ?_;clear hK K
  exact zR
 have c1' :(k:Int)<(s.sess.length:Int):=by omega
 refine Ae c1' ?_;intro K hK
 refine zk ?_;clear hK K
 refine zt ?_
 refine W.skip ?_
 refine zb ?_
 refine zs ?_
 refine Ae c1 ?_;intro K hK
 refine zk ?_;clear hK K
 obtain⟨hsg,hsj⟩:=hx _ (List.getElem_mem c1)
 have m4:=Fh c1 (i:=4) (by omega)
 have m5:=Fh c1 (i:=5) (by omega)
 have m6:=Fh c1 (i:=6) (by omega)
 have m7:=Fh c1 (i:=7) (by omega)
 have m8:=Fh c1 (i:=8) (by omega)
 have m9:=Fh c1 (i:=9) (by omega)
 have m10:=Fh c1 (i:=10) (by omega)
 have m11:=Fh c1 (i:=11) (by omega)
 simp only[AI,List.getElem?_cons_succ,List.getElem?_cons_zero] at m4 m5 m6 m7 m8 m9 m10 m11
 refine Bw (an c1 (an m4 (an m5 (an m6 (an m7 (an m8 (an m9 (an m10 m11)))))))) ?_;intro K hK
 refine Ah.eqr (Xo s.sess[k].stage hsg) (by simp) ?_
 refine AR (an m6 (an m7 (an m8 (an m9 (an m10 m11))))) ?_
 refine Ah.eqr (Xp s.sess[k].job hsj) (by simp) ?_
 refine zx ?_
 refine⟨by rw[NQ];omega,by rw[NQ];omega,?_⟩
 refine zk ?_;clear hK K
 refine zs ?_
 refine⟨k+1,by omega,by omega,?_⟩
 have hA:(Af (AI true) (s.sess.take k)).length=k*12:=by simp;omega
 have hAn:∀n,C4 n (Af (AI true) (s.sess.take k))=true:=fun n=>by simp
 have hBn:∀n,C4 n (Af (AI false) (s.sess.drop (k+1)))=true:=fun n=>by simp
 rw[Vd c1,Rx c1]
 generalize Af (AI true) (s.sess.take k)=A at*
 generalize Af (AI false) (s.sess.drop (k+1))=B at*
 generalize s.sess[k]=x at*
 simp only[Nat.add_assoc,Nat.reduceAdd]
 rw[DX hA (by simp[AI]),DX hA (by simp[AI]),DX hA (by simp[AI]),DX hA (by simp[AI]),DX hA (by simp[AI]),DX hA (by simp[AI]),DX hA (by simp[AI]),DX hA (by simp[AI])]
 simp only[AI,List.set_cons_succ,List.set_cons_zero]
 refine Wk.trans (Wk.fr (S:=[(1,.ptr 0 0 0),(2,.ptr 1 0 0),(15,.int .i64 s.sess.length),(16,.int .i64 ((k+1:Nat):Int))]) (by simp[Ad])) ?_
 refine Wk.trans (Wk.intern (B:=3) (v:=0) (j:=k*12+5) (T:=4) (u:=0) (s:=1) (off:=0) (n:=x.stage.out.length) (xs:=AC true x.stage.out) rfl (by rw[LT hA (by simp)];rfl) rfl (by decide) (by simp) (by simp)) ?_
 rw[DX hA (by simp)]
 simp only[List.set_cons_succ,List.set_cons_zero]
 refine Wk.trans (Wk.intern (B:=3) (v:=0) (j:=k*12+10) (T:=5) (u:=0) (s:=1) (off:=0) (n:=x.job.list.length) (xs:=Ac x.job.list) rfl (by rw[LT hA (by simp)];rfl) rfl (by decide) (by simp) (by simp)) ?_
 rw[DX hA (by simp)]
 simp only[List.set_cons_succ,List.set_cons_zero]
 refine Wk.trans (Wk.intern (B:=3) (v:=0) (j:=k*12+11) (T:=6) (u:=0) (s:=1) (off:=0) (n:=x.job.out.length) (xs:=Ac x.job.out) rfl (by rw[LT hA (by simp)];rfl) rfl (by decide) (by simp) (by simp)) ?_
 rw[DX hA (by simp)]
 simp only[List.set_cons_succ,List.set_cons_zero]
 exact Wk.cutM (k:=4) (by simp[Ad]) (by simp[D2,FB]) (by simp[hAn,hBn]) (by simp[hAn,hBn]) (by simp[hAn,hBn]) (by simp[hAn,hBn])
end Go.Abs
set_option maxRecDepth 100000
namespace Go.Abs
open Go.Proofs
def Bg:AB:=⟨0,0,[],[]⟩
def Id (id parent:Int):Bi:=⟨id,parent,0,⟨ByteArray.empty,0⟩,0,false,false⟩
def GP (l:List Bi) (i:Nat) (o:Obj):List Bi:=match l[i]? with|some v=>l.set i {v with base:=o.base,data:=o.data} |none=>l
def IK (l:List Bi) (i:Nat) (a:Int):List Bi:=match l[i]? with|some v=>l.set i {v with at_:=a} |none=>l
def GB (s:AB) (o:Obj) (parent:Int):Option (List Bi×Nat):=
 if Ba (fun v=>decide (v.id=o.id)) s.vers<0 then(if o.id≤As s.vers∨parent<0∨o.id≤parent then none else some (s.vers++[Id o.id parent],s.vers.length))
 else some (s.vers,(Ba (fun v=>decide (v.id=o.id)) s.vers).toNat)
def Ec (s:AB) (o:Obj) (parent:Int):AB×Int:=match GB s o parent with
 |none=>(Bg,1)
 |some (l,i)=>
  if CT o.data∧En {s with vers:=GP l i o} then
   (if (DS (Av s) s.blocks (Di o.data)).2=0 then({s with vers:=IK (GP l i o) i (DS (Av s) s.blocks (Di o.data)).1},0) else(Bg,5))
  else(Bg,1)
theorem Pu {α:Type} {f:α→Bool} {l:List α} (h:0≤Ba f l):(Ba f l).toNat<l.length:=by
 unfold Ba at h ⊢
 cases e:l.findIdx? f with
 |none=>rw[e] at h;simp at h
 |some i=>simpa using (List.findIdx?_eq_some_iff_getElem.1 e).1
theorem Pv (o:Obj):∀(l:List Bi) (k:Nat) (h:k<l.length),(((Af AN l).set (k*8+2) (.int .i64 o.base)).set (k*8+3) (.str o.data.data)).set (k*8+3+1) (.int .i64 o.data.n)=Af AN (l.set k {l[k] with base:=o.base,data:=o.data})
 | [],k,h=>by simp at h
 |v::t,0,h=>by simp[AK,AN]
 |v::t,k+1,h=>by
  have ih:=Pv o t k (by simpa using h)
  have hl:(AN v).length=8:=rfl
  rw[AK,List.set_append_right _ _ (by omega),List.set_append_right _ _ (by omega),List.set_append_right _ _ (by omega)]
  rw[show(k+1)*8+2-(AN v).length=k*8+2 by omega,show(k+1)*8+3-(AN v).length=k*8+3 by omega,show(k+1)*8+3+1-(AN v).length=k*8+3+1 by omega,ih]
  simp[AK]
theorem Rz (a:Int):∀(l:List Bi) (k:Nat) (h:k<l.length),(Af AN l).set (k*8+5) (.int .i64 a)=Af AN (l.set k {l[k] with at_:=a})
 | [],k,h=>by simp at h
 |v::t,0,h=>by simp[AK,AN]
 |v::t,k+1,h=>by
  have ih:=Rz a t k (by simpa using h)
  have hl:(AN v).length=8:=rfl
  rw[AK,List.set_append_right _ _ (by omega),show(k+1)*8+5-(AN v).length=k*8+5 by omega,ih]
  simp[AK]
theorem Pw {l:List Bi} {i:Nat} {o:Obj} (h:i<l.length):GP l i o=l.set i {l[i] with base:=o.base,data:=o.data}:=by
 simp[GP,List.getElem?_eq_getElem h]
theorem NR (l:List Bi) (i:Nat) (o:Obj):(GP l i o).length=l.length:=by
 unfold GP;split<;>simp
theorem RA {l:List Bi} {i:Nat} {a:Int} (h:i<l.length):IK l i a=l.set i {l[i] with at_:=a}:=by
 simp[IK,List.getElem?_eq_getElem h]
theorem LU (l:List Bi) (i:Nat) (a:Int):(IK l i a).length=l.length:=by
 unfold IK;split<;>simp
theorem NS {l:List Bi} {i:Nat} {o:Obj} {n:Nat} (h:∀v∈l,v.data.data.size<n) (ho:o.data.data.size<n):∀v∈GP l i o,v.data.data.size<n:=by
 intro v hv
 unfold GP at hv
 split at hv
 .rcases List.mem_or_eq_of_mem_set hv with hv|hv
  .exact h v hv
  .subst hv;exact ho
 .exact h v hv
theorem Xr (hR:Bv) (s:AB) (o:Obj) (parent:Int) (hs:A4 s) (hx:B7 s) (ho:o.data.data.size<1000000000) (hn:s.vers.length<999999999):Aa pg 75 [.agg (AA false s),.agg (Aw o),.int .i64 parent] [] (fun r _=>r= .tup [.agg (AA true (Ec s o parent).1),.int .i64 (Ec s o parent).2]):=by
 have h1:=hs.1
 have h2:=hs.2.1
 refine Aa.start (fn:=Tryz.f75) [.cell 6 38,.tmp 7] tk rfl rfl rfl (by kernel_rfl) (Nat.le_of_ble_eq_true rfl) rfl (by kernel_rfl) ?_
 rw[Bh]
 refine z3 ?_;intro K hK;refine zk ?_;clear hK K
 refine z1 ?_;intro K hK
 refine Ab.eqr (Ry s hs hx) (by simp) ?_
 refine zx ?_
 refine zk ?_;clear hK K
 refine z0 ?_;intro K hK
 refine Ab.eq (J2 s o.id hs) (by simp) (by simp) ?_
 refine zx ?_
 refine zk ?_;clear hK K
 obtain⟨q,hq⟩:∃q,q=Ba (fun v=>decide (v.id=o.id)) s.vers:=⟨_,rfl⟩
 rw[←hq]
 have hqi:q<0∨∃h:q.toNat<s.vers.length,q=(q.toNat:Int):=by
  rcases(show q<0∨0≤q by omega) with h|h
  .exact .inl h
  .exact .inr ⟨by rw[hq] at h ⊢;exact Pu h,by omega⟩
 refine zs ?_
 refine W.midS (fun x:Nat×List Bi×Nat=> [(2,.int .i64 parent),(3,.ptr 0 0 0),(4,.ptr 1 0 0),(6,.ptr 2 0 0),(7,.int .i64 0),(8,.ptr 3 0 0),(9,.int .i64 x.2.2)]) (fun x=> [.live 0 (AA false s),.live 0 (Aw o),.live 0 [.int .i64 0,.int .i64 0,.own 8 0 [],.own 12 0 []],.live 0 [.int .i64 s.keep,.int .i64 s.blocks,.tok 4 x.1 8 0 x.2.1.length,.tok 5 0 12 0 s.sess.length],.live x.1 (Af AN x.2.1),.live 0 (Af (AI true) s.sess)]) (fun x=>GB s o parent=some (x.2.1,x.2.2)∧x.2.2<x.2.1.length∧x.2.1.length<1000000000∧∀v∈x.2.1,v.data.data.size<1000000000) ?_ ?_
 .by_cases c1:q<0
  .have eV:GB s o parent=if o.id≤As s.vers∨parent<0∨o.id≤parent then none else some (s.vers++[Id o.id parent],s.vers.length):=by unfold GB;rw[←hq,if_pos c1]
   rw[decide_eq_true c1]
   refine zt ?_
   by_cases d1:o.id≤As s.vers
   .rw[if_pos (.inl d1)] at eV
    refine B8 ?_;intro K hK
    refine Ah.eq (D5 s hs) (by simp) (by simp) ?_
    refine AR d1 ?_
    refine zk ?_;clear hK K
    refine zt ?_
    refine z0 ?_;intro K hK
    refine zk ?_;clear hK K
    refine W.weak ((Wk.thaw (B:=2) (v:=0) (j:=2) (s:=8) (n:=0) (xs:=[]) rfl rfl).trans (Wk.thaw (B:=2) (v:=0) (j:=3) (s:=12) (n:=0) (xs:=[]) rfl rfl)) ?_
    refine zr ?_
    simp[Ec,eV,Bg]
   by_cases d2:parent<0
   .rw[if_pos (.inr (.inl d2))] at eV
    refine B8 ?_;intro K hK
    refine Ah.eq (D5 s hs) (by simp) (by simp) ?_
    refine AR (an d1 d2) ?_
    refine zk ?_;clear hK K
    refine zt ?_
    refine z0 ?_;intro K hK
    refine zk ?_;clear hK K
    refine W.weak ((Wk.thaw (B:=2) (v:=0) (j:=2) (s:=8) (n:=0) (xs:=[]) rfl rfl).trans (Wk.thaw (B:=2) (v:=0) (j:=3) (s:=12) (n:=0) (xs:=[]) rfl rfl)) ?_
    refine zr ?_
    simp[Ec,eV,Bg]
   by_cases d3:o.id≤parent
   .rw[if_pos (.inr (.inr d3))] at eV
    refine B8 ?_;intro K hK
    refine Ah.eq (D5 s hs) (by simp) (by simp) ?_
    refine AR (an d1 (an d2 d3)) ?_
    refine zk ?_;clear hK K
    refine zt ?_
    refine z0 ?_;intro K hK
    refine zk ?_;clear hK K
    refine W.weak ((Wk.thaw (B:=2) (v:=0) (j:=2) (s:=8) (n:=0) (xs:=[]) rfl rfl).trans (Wk.thaw (B:=2) (v:=0) (j:=3) (s:=12) (n:=0) (xs:=[]) rfl rfl)) ?_
    refine zr ?_
    simp[Ec,eV,Bg]
   rw[if_neg (by omega)] at eV
   refine B8 ?_;intro K hK
   refine Ah.eq (D5 s hs) (by simp) (by simp) ?_
   refine AR (an d1 (an d2 d3)) ?_
   refine zk ?_;clear hK K
   refine zn ?_
   refine W.skip ?_
   refine zs ?_
   refine z1 ?_;intro K hK
   refine⟨by omega,by omega,?_⟩
   refine zk ?_;clear hK K
   exact⟨(1,s.vers++[Id o.id parent],s.vers.length),⟨eV,by simp,by simp;omega,fun v hv=>by
    rcases List.mem_append.1 hv with h|h
    .exact hs.2.2 v h
    .simp at h;subst h;exact Nat.zero_lt_succ _⟩,Wk.cutM (k:=6) (by simp[Ad]) (by simp[C2,AK,AN,Id]) (by simp) (by simp) (by simp) (by simp)⟩
  .obtain⟨h,hqn⟩:=hqi.resolve_left c1
   have eV:GB s o parent=some (s.vers,q.toNat):=by unfold GB;rw[←hq,if_neg c1]
   rw[decide_eq_false c1]
   refine zn ?_
   refine W.skip ?_
   exact⟨(0,s.vers,q.toNat),⟨eV,h,h1,hs.2.2⟩,Wk.fr (by simp[Ad];omega)⟩
 rintro⟨u,l,i⟩ ⟨eV,hil,hl,hld⟩
 simp only at eV hil hl hld ⊢
 refine Ae hil ?_;intro K hK
 refine zk ?_;clear hK K
 have b1:i*8+2<(Af AN l).length:=by simp;omega
 have b2:i*8+3<(Af AN l).length:=by simp;omega
 (repeat refine W.seq ?_);refine W.regdX 0 [(57,60),(57,56)] rfl true Ce (by kernel_rfl) fun K hK=>?_;simp -implicitDefEqProofs (maxSteps:=999999) (disch:=omega) [hil]
 refine⟨by omega,by omega,?_⟩
 (repeat refine⟨by first|assumption|omega,?_⟩);refine hK _ _ (by simp(disch:=omega)) ?_;clear hK K
 rw[Pv o l i hil,←Pw hil]
 obtain⟨l1,hl1⟩:∃l1,l1=GP l i o:=⟨_,rfl⟩
 have len1:l1.length=l.length:=by rw[hl1,NR]
 have hl1d:∀v∈l1,v.data.data.size<1000000000:=by rw[hl1];exact NS hld ho
 obtain⟨y,hy⟩:∃y:AB,y={s with vers:=l1}:=⟨_,rfl⟩
 have eL:Ec s o parent=if CT o.data∧En y then(if (DS (Av s) s.blocks (Di o.data)).2=0 then({s with vers:=IK l1 i (DS (Av s) s.blocks (Di o.data)).1},0) else(Bg,5)) else(Bg,1):=by
  unfold Ec;rw[eV,hy,hl1]
 rw[←hl1]
 have spB:=SJ o.data ho
 by_cases d4:CT o.data
 rotate_left
 .rw[if_neg (fun h=>d4 h.1)] at eL
  rw[decide_eq_false d4] at spB
  refine z0 ?_;intro K hK
  refine Ab.eq spB (by simp) (by simp) ?_
  refine zx ?_
  refine zk ?_;clear hK K
  refine zt ?_
  refine z0 ?_;intro K hK
  refine zk ?_;clear hK K
  refine W.weak ((Wk.thaw (B:=2) (v:=0) (j:=2) (s:=8) (n:=0) (xs:=[]) rfl rfl).trans (Wk.thaw (B:=2) (v:=0) (j:=3) (s:=12) (n:=0) (xs:=[]) rfl rfl)) ?_
  refine zr ?_
  simp[eL,Bg]
 rw[decide_eq_true d4] at spB
 have yv:y.vers=l1:=by rw[hy]
 have ys:y.sess=s.sess:=by rw[hy]
 have yk:y.keep=s.keep:=by rw[hy]
 have yb:y.blocks=s.blocks:=by rw[hy]
 have spM:=NF hR y ⟨by rw[yv,len1];exact hl,by rw[ys];exact h2,by rw[yv];exact hl1d⟩ (by intro x hx';rw[ys] at hx';exact hx x hx')
 have tk1:List.take l.length l1=l1:=List.take_of_length_le (by omega)
 by_cases d5:En y
 rotate_left
 .rw[if_neg (fun h=>d5 h.2)] at eL
  rw[decide_eq_false d5] at spM
  refine z0 ?_;intro K hK
  refine Ab.eq spB (by simp) (by simp) ?_
  refine zx ?_
  refine Ab.eq spM (by simp[yv,ys,yk,yb,len1,tk1]) (by simp) ?_
  refine zx ?_
  refine zk ?_;clear hK K
  refine zt ?_
  refine z0 ?_;intro K hK
  refine zk ?_;clear hK K
  refine W.weak ((Wk.thaw (B:=2) (v:=0) (j:=2) (s:=8) (n:=0) (xs:=[]) rfl rfl).trans (Wk.thaw (B:=2) (v:=0) (j:=3) (s:=12) (n:=0) (xs:=[]) rfl rfl)) ?_
  refine zr ?_
  simp[eL,Bg]
 rw[if_pos ⟨d4,d5⟩] at eL
 rw[decide_eq_true d5] at spM
 refine z0 ?_;intro K hK
 refine Ab.eq spB (by simp) (by simp) ?_
 refine zx ?_
 refine Ab.eq spM (by simp[yv,ys,yk,yb,len1,tk1]) (by simp) ?_
 refine zx ?_
 refine zk ?_;clear hK K
 refine zn ?_
 refine W.skip ?_
 have hpl:(Av s).length<1000000000:=by simp[Av];omega
 obtain⟨f,hf⟩:∃f,f=DS (Av s) s.blocks (Di o.data):=⟨_,rfl⟩
 have spF:=Xn (Av s) s.blocks (Di o.data) hpl
 rw[←hf] at spF eL
 refine B8 ?_;intro K hK
 refine Ah.eq (KH s hs) (by simp) (by simp) ?_
 refine zx ?_
 refine Ah.eq (OL o.data ho) (by simp) (by simp) ?_
 refine zx ?_
 refine Ah.eq spF (by simp) (by simp) ?_
 refine zx ?_
 refine zk ?_;clear hK K
 by_cases d6:f.2=0
 rotate_left
 .rw[if_neg d6] at eL
  refine Ae d6 ?_;intro K hK
  refine zk ?_;clear hK K
  refine zt ?_
  refine z0 ?_;intro K hK
  refine zk ?_;clear hK K
  refine W.weak ((Wk.thaw (B:=2) (v:=0) (j:=2) (s:=8) (n:=0) (xs:=[]) rfl rfl).trans (Wk.thaw (B:=2) (v:=0) (j:=3) (s:=12) (n:=0) (xs:=[]) rfl rfl)) ?_
  refine zr ?_
  simp[eL,Bg]
 rw[if_pos d6] at eL
 have hil1:i<l1.length:=by omega
 refine Ae d6 ?_;intro K hK
 refine zk ?_;clear hK K
 refine zn ?_
 refine W.skip ?_
 refine Ae hil1 ?_;intro K hK
 refine⟨by omega,?_⟩
 refine zk ?_;clear hK K
 rw[Rz f.1 l1 i hil1,←RA hil1]
 refine z0 ?_;intro K hK
 refine zk ?_;clear hK K
 refine zr ?_
 have tk2:List.take l.length (IK l1 i f.1)=IK l1 i f.1:=List.take_of_length_le (by rw[LU];omega)
 simp[eL,LU,len1,tk2]
def Ie (s:AB) (o:Obj) (parent:Int):AB×Int:=if Bl s then Ec s o parent else(Bg,1)
theorem Yu (hR:Bv) (s:AB) (o:Obj) (parent:Int) (hs:A4 s) (hx:B7 s) (ho:o.data.data.size<1000000000) (hn:s.vers.length<999999999):Aa pg 22 [.agg (AA false s),.agg (Aw o),.int .i64 parent] [] (fun r _=>r= .tup [.agg (AA true (Ie s o parent).1),.int .i64 (Ie s o parent).2]):=by
 have spM:=CS hR s hs hx
 refine Aa.start (fn:=Tryz.f22) [.cell 6 38,.tmp 7] tk rfl rfl rfl (by kernel_rfl) (Nat.le_of_ble_eq_true rfl) rfl (by kernel_rfl) ?_
 rw[Bh]
 refine z3 ?_;intro K hK;refine zk ?_;clear hK K
 by_cases h:Bl s
 .rw[decide_eq_true h] at spM
  refine z0 ?_;intro K hK
  refine Ab.eq spM (by simp) (by simp) ?_
  refine zx ?_
  refine zk ?_;clear hK K
  refine zn ?_
  refine W.skip ?_
  refine z0 ?_;intro K hK
  refine Ab.eq (Xr hR s o parent hs hx ho hn) (by simp) (by simp) ?_
  refine zx ?_
  refine zk ?_;clear hK K
  refine zr ?_
  simp[Ie,h]
 .rw[decide_eq_false h] at spM
  refine z0 ?_;intro K hK
  refine Ab.eq spM (by simp) (by simp) ?_
  refine zx ?_
  refine zk ?_;clear hK K
  refine zt ?_
  refine z0 ?_;intro K hK
  refine zk ?_;clear hK K
  refine W.weak ((Wk.thaw (B:=2) (v:=0) (j:=2) (s:=8) (n:=0) (xs:=[]) rfl rfl).trans (Wk.thaw (B:=2) (v:=0) (j:=3) (s:=12) (n:=0) (xs:=[]) rfl rfl)) ?_
  refine zr ?_
  simp[Ie,h,Bg]
end Go.Abs
set_option maxRecDepth 100000
namespace Go.Abs
open Go.Proofs
theorem Ve (s:AB) (hs:A4 s) (hk0:0≤s.keep∧s.keep≤1000000):Aa pg 77 [.agg (AA false s)] [] (fun r _=>r= .own 1 (BW s false).length (Ac (BW s false))):=by
 refine Aa.start (fn:=Tryz.f77) [.tmp 2] tk rfl rfl rfl (by kernel_rfl) (Nat.le_of_ble_eq_true rfl) rfl (by kernel_rfl) ?_
 rw[Au]
 refine z1 ?_;intro K hK;refine zk ?_;clear hK K
 refine z0 ?_;intro K hK
 refine Ab.eq (ON s false hs hk0) (by simp) (by simp) ?_
 refine zx ?_
 refine zk ?_;clear hK K
 exact zR
theorem Yv (hR:Bv) (s:AB) (hs:A4 s) (hx:B7 s):Aa pg 24 [.agg (AA false s)] [] (fun r _=>r= .tup [if Bl s then .own 1 (BW s false).length (Ac (BW s false)) else .own 1 0 [],.int .i64 (if Bl s then 0 else 1)]):=by
 refine Aa.start (fn:=Tryz.f24) [.tmp 2,.tmp 3] tk rfl rfl rfl (by kernel_rfl) (Nat.le_of_ble_eq_true rfl) rfl (by kernel_rfl) ?_
 rw[Au]
 refine z1 ?_;intro K hK;refine zk ?_;clear hK K
 by_cases h:Bl s
 .have hk:=h.1.1
  refine z0 ?_;intro K hK
  refine Ab.eq (CS hR s hs hx) (by simp) (by simp) ?_
  rw[decide_eq_true h]
  refine zx ?_
  refine zk ?_;clear hK K
  refine zn ?_
  refine W.skip ?_
  refine z0 ?_;intro K hK
  refine Ab.eq (Ve s hs ⟨by have:=hk.1;omega,by have:=hk.2.1;omega⟩) (by simp) (by simp) ?_
  refine zx ?_
  refine zk ?_;clear hK K
  refine zr ?_
  simp[h]
 .refine z0 ?_;intro K hK
  refine Ab.eq (CS hR s hs hx) (by simp) (by simp) ?_
  rw[decide_eq_false h]
  refine zx ?_
  refine zk ?_;clear hK K
  refine zt ?_
  refine zs ?_
  refine zr ?_
  simp[h]
theorem Tc {l:List (Int×Int)} {k:Nat} (h:k<l.length):((l.take (k+1)).map fun x=>x.2).sum=((l.take k).map fun x=>x.2).sum+l[k].2:=by
 rw[List.take_succ_eq_append_getElem h,List.map_append,List.sum_append];simp
theorem Gk:∀(t:List Bool) (i a:Int),a≤i→∀x∈By t i a,1≤x.2∧a≤x.1∧x.1+x.2≤i+t.length
 | [],i,a,h,x,hx=>by
   simp only[By] at hx
   split at hx
   .simp at hx;subst hx;simp;omega
   .simp at hx
 |true::t,i,a,h,x,hx=>by
  simp only[By,List.mem_append] at hx
  rcases hx with hx|hx
  .split at hx
   .simp at hx;subst hx;simp;omega
   .simp at hx
  .have:=Gk t (i+1) (i+1) (Int.le_refl _) x hx
   simp;omega
 |false::t,i,a,h,x,hx=>by
  simp only[By] at hx
  have:=Gk t (i+1) a (by omega) x hx
  simp;omega
theorem Vf (l:List (Int×Int)) (blocks:Int) (hl:l.length<1000000000):Aa pg 78 [.ro l.length (Af At l),.int .i64 blocks] [] (fun r _=>r= .tup [.int .i64 (Dz l blocks).1,.int .i64 (Dz l blocks).2]):=by
 have sp:=L9 l blocks hl
 refine Aa.start (fn:=Tryz.f78) [.tmp 4,.tmp 5] tk rfl rfl rfl (by kernel_rfl) (Nat.le_of_ble_eq_true rfl) rfl (by kernel_rfl) ?_
 rw[Aq]
 refine zs ?_
 by_cases c1:B6 l blocks
 rotate_left
 .rw[FW,if_neg c1] at sp
  refine z0 ?_;intro K hK
  refine Ab.eq sp (by simp) (by simp) ?_
  refine zx ?_
  refine zk ?_;clear hK K
  refine zs ?_
  refine zt ?_
  refine zs ?_
  refine zr ?_
  simp[Dz,c1]
 rw[FW,if_pos c1] at sp
 have hn:blocks.toNat≤100:=by have:=c1.2.1;omega
 refine z0 ?_;intro K hK
 refine Ab.eq sp (by simp) (by simp) ?_
 refine zx ?_
 refine zk ?_;clear hK K
 refine zs ?_
 refine zn ?_
 refine W.skip ?_
 refine zs ?_
 have spg:=Rv (Bx l blocks.toNat) (by simp;omega)
 rw[LK] at spg
 obtain⟨g,hg⟩:∃g,g=By (Bx l blocks.toNat) 0 0:=⟨_,rfl⟩
 have hgl:g.length≤blocks.toNat+1:=by have:=Gj (Bx l blocks.toNat) 0 0;rw[hg];simpa using this
 have hfs:Dz l blocks=((g.map fun x=>x.2).sum,0):=by
  unfold Dz;rw[if_pos c1,hg]
 have hgp:∀x∈g,1≤x.2∧x.2≤100:=fun x hx=>by
  rw[hg] at hx
  have:=Gk _ 0 0 (Int.le_refl _) x hx
  simp at this;omega
 rw[hfs]
 rw[←hg] at spg
 refine z0 ?_;intro K hK
 refine Ab.eq spg (by simp) (by simp) ?_
 refine zx ?_
 refine zk ?_;clear hK K
 (repeat refine W.seq ?_);refine W.block (W.loopS (fun k:Nat=> [(8,.int .i64 ((g.take k).map fun x=>x.2).sum),(20,.tok 1 0 2 0 g.length),(21,.int .i64 g.length),(22,.int .i64 k)]) (fun _=> [.live 0 (AG (Bx l blocks.toNat)),.live 0 (Af At g)]) (fun k=>g.length-k) (fun k=>k≤g.length∧0≤((g.take k).map fun x=>x.2).sum∧((g.take k).map fun x=>x.2).sum≤100*k) 0 (Wk.fr (by simp[Ad])) (by simp) ?_)
 rintro k ⟨hk,hs0,hs1⟩
 by_cases c3:k<g.length
 .have hst:=Tc c3
  have hb:=hgp _ (List.getElem_mem c3)
  obtain⟨z,hz⟩:∃z,z=((g.take k).map fun x=>x.2).sum:=⟨_,rfl⟩
  rw[←hz] at hst hs0 hs1 ⊢
  refine Ae c3 ?_;intro K hK
  refine zk ?_;clear hK K
  refine zt ?_
  refine W.skip ?_
  refine zb ?_
  have g0:(Af At g)[k*2]?=some (.int .i64 g[k].1):=BU (f:=At) (s:=2) (fun _=>rfl) c3 (i:=0) (by omega)
  have g1:(Af At g)[k*2+1]?=some (.int .i64 g[k].2):=BU (f:=At) (s:=2) (fun _=>rfl) c3 (i:=1) (by omega)
  refine Lz (an c3 (an g0 g1)) ?_;intro K hK
  refine zk ?_;clear hK K
  refine zs ?_
  refine zs ?_
  rw[List.map_take] at hst
  exact⟨k+1,by omega,⟨by omega,by rw[List.map_take];omega,by rw[List.map_take];omega⟩,Wk.cutM (k:=2) (by simp[Ad,hst]) (by simp) (by simp) (by simp) (by simp) (by simp)⟩
 .have:k=g.length:=by omega
  subst this
  refine Ae c3 ?_;intro K hK
  refine zk ?_;clear hK K
  refine zn ?_
  refine W.exit ?_
  refine zs ?_
  exact zR
theorem Px (hR:Bv) (s:AB) (hs:A4 s) (hx:B7 s):Aa pg 25 [.agg (AA false s)] [] (fun r _=>r= .tup [.int .i64 (if Bl s then(Dz (Av s) s.blocks).1 else 0),.int .i64 (if Bl s then 0 else 1)]):=by
 have spF:=Vf (Av s) s.blocks (by simp[Av];exact hs.1)
 refine Aa.start (fn:=Tryz.f25) [.tmp 2,.tmp 3] tk rfl rfl rfl (by kernel_rfl) (Nat.le_of_ble_eq_true rfl) rfl (by kernel_rfl) ?_
 rw[Au]
 refine z1 ?_;intro K hK;refine zk ?_;clear hK K
 by_cases h:Bl s
 .have he:(Dz (Av s) s.blocks).2=0:=by unfold Dz;rw[if_pos h.2]
  refine z0 ?_;intro K hK
  refine Ab.eq (CS hR s hs hx) (by simp) (by simp) ?_
  rw[decide_eq_true h]
  refine zx ?_
  refine zk ?_;clear hK K
  refine zn ?_
  refine W.skip ?_
  refine B8 ?_;intro K hK
  refine Ah.eq (KH s hs) (by simp) (by simp) ?_
  refine zx ?_
  refine Ah.eq spF (by simp) (by simp) ?_
  refine zx ?_
  refine zk ?_;clear hK K
  refine zr ?_
  simp[h,he]
 .refine z0 ?_;intro K hK
  refine Ab.eq (CS hR s hs hx) (by simp) (by simp) ?_
  rw[decide_eq_false h]
  refine zx ?_
  refine zk ?_;clear hK K
  refine zt ?_
  refine zs ?_
  refine zr ?_
  simp[h]
def dO (s:AB) (id:Int):Gr×Int:=
 if Bl s then(if id=0 then(AF,0) else if Ba (fun v=>decide (v.id=id)) s.vers<0 then(AF,3) else((AX (Al s) id).1,0)) else(AF,1)
end Go.Abs
set_option maxRecDepth 100000
namespace Go.Abs
open Go.Proofs
def gY (y:List (Int×Int)) (a:Nat) (k:Nat):List (Int×Int):=y++if a<k then [((a:Int),(k:Int)-a)] else []
end Go.Abs
set_option maxRecDepth 100000
namespace Go.Abs
open Go.Proofs
@[simp] theorem bS (n:Nat):CQ (List.replicate n (AV.own 1 0 []))=true:=by
  induction n with
  |zero=>rfl
  |succ n ih=>rw[List.replicate_succ,CQ,ih];rfl
@[simp] theorem dP (k n:Nat):C4 k (List.replicate n (AV.own 1 0 []))=true:=by rw[HW];simp[Gx]
@[simp] theorem dQ (n:Nat):DQ (List.replicate n (AV.own 1 0 []))=true:=by simp[DQ,-HU]
def Ux (i:Nat) (xs:List (List Int)):List AV:=List.replicate i (.own 1 0 [])++AC true (xs.drop i)
@[simp] theorem ah (i n:Nat) (xs:List (List Int)):C4 n (Ux i xs)=true:=by
  rw[Ux,PM]
  have:C4 n (List.replicate i (AV.own 1 0 []))=true:=by rw[HW];simp[Gx]
  simp[this]
end Go.Abs
set_option maxRecDepth 100000
namespace Go.Abs
open Go.Proofs
theorem Vg {C:Bc} {T:Nat→Option TI} (tk:Bu C.P T) {t e es eb:Nat} {ez:List AV} (htd:An T t= .slice e es eb ez) {a:Option Addr} {n c l h:Nat} {lo hi:Option (IntKind×Int)} (hnc:n≤c) (h1:Fc (hi.map fun x=> .int x.1 x.2) n n=some h) (h2:Fc (lo.map fun x=> .int x.1 x.2) 0 h=some l) (w:World):
 (Instr.sliceAt t (.slice a n c) (lo.map fun x=> .int x.1 x.2) (hi.map fun x=> .int x.1 x.2) none).run C.P w= .ok (.slice (if c=l then a else a.map (·.add (l*es))) (h-l) (c-l)) w:=by
 obtain⟨hD,E,z,hE,hs,_⟩:=B3 tk htd
 have hh:∀(x:Option (IntKind×Int)) (y:AV),(x.map fun x=>AV.int x.1 x.2)=some y→∃u,(x.map fun x=>Value.int x.1 x.2)=some u∧VR w C.sh (fun _ _=>none) y u (fun _=>0):=by
  intro x y hy
  cases x with
  |none=>simp at hy
  |some x=>simp at hy;subst hy;exact⟨_,rfl,rfl,fun _=>rfl⟩
 have hb:=(Fd (P:=C.P) (w:=w) (σ:=fun _ _=>none) (C:=C) true (hh lo) (by cases lo<;>simp) (hh hi) (by cases hi<;>simp) hnc h1 h2).1
 simp only[Instr.sliceAt,Sem.run_bind,run_underlying hD,Result.andThen_ok,Instr.slice,hb,BJ hE,hs,Sem.run_pure]
theorem RB {C:Bc} {T:Nat→Option TI} (tk:Bu C.P T) {F:Fr} {M:List Ag} {a:Act} {w:World} {σ:Nat→Nat→Option St} {own:Nat→Option Nat} (R:Az C F M a w σ own) {t e eb:Nat} {ez:List AV} (htd:An T t= .slice e 1 eb ez) {B v off n tx ty d ty' :Nat} {pos:String} {af:Array Edge} {cs ys:List AV} (hb:Ai M B v=some cs) (hx:F tx= .tok B v 1 off n) (hxn:tx<C.n) (hyn:ty<C.n)
 {m:Nat} (hyc:CK M (F ty)=some (m,ys)) (hyl:ys.length=m*1) (hyo:ys.all CV=true) (hle:off+n≤cs.length) (hn:0<n) (hm:0<m) {next:Act→World→Prop} {Q:Exit→Act→World→Prop}
 (hK:∀a' w',Az C (A5 F d (.int .i64 (min m n:Nat))) (M.set B (.live v (Cu cs off (ys.take (min m n))))) a' w' σ own→(∀t,t≠d→a'.tmps.getD t undef=a.tmps.getD t undef)→next a' w'):
 Oper.wpIn (FX C) 0 C.P {dst:=some d,op:= .call {callee:= .builtin .copy,args:= #[.tmp tx,.tmp ty],argTypes:= #[t,t]},type:=ty',pos:=pos,after:=af,guard:=none} a w next Q:=by
 have e1:=R.tmp tx hxn;rw[hx] at e1
 obtain⟨w',hrun,R'⟩:=R.copy (ty:=ty') tk htd hb e1 (R.tmp ty hyn) hyc hyl hyo hle hn hm
 refine Oper.wp_value (fun _ h=>by cases h) (v:= .int .i64 (min m n:Nat)) (w' :=w') ?_ (hK _ _ (R'.put (some d) (av:= .int .i64 (min m n:Nat)) ⟨rfl,fun _=>rfl⟩) fun t ht=>Bo ht)
 have e2:∀t,a.eval (.tmp t)=a.tmps.getD t undef:=fun _=>rfl
 simp only[execOp,resolve,invoke,builtin,e2,List.map_toArray,List.map_cons,List.map_nil,Sem.run_bind,hrun,Result.andThen_ok,Sem.run_pure]
theorem RC {C:Bc} (hrd:C.rd=none) {K:Act→World→Prop} {ops:Array Oper} {i d fuel:Nat} {listed:Array Bool} {F:Fr} {M:List Ag} {a:Act} {w:World} {σ:Nat→Nat→Option St} {own:Nat→Option Nat} {o:Oper} {v:Value} {av:AV} (R:Az C F M a w σ own) (ho:ops[i]?=some o) (hd:o.dst=some d) (hg:o.guard=none) (hs:Region.noSelect ops=true) (hf:Region.free .any ops listed i=true) (hr:(Region.ready .any ops listed).contains i=true)
 (hv:VR w C.sh σ av v (fun _=>0)) (hrun:∀w,(execOp a.eval o).run C.P w= .ok (.value v) w) (hab:∀w,o.about C.P w a.eval=none) (next:∀a',Az C (A5 F d av) M a' w σ own→wpAnyIn (FX C) 0 C.P .any ops (fun e a w=>e= .normal∧K a w) fuel (listed.setIfInBounds i true) a' w):wpAnyIn (FX C) 0 C.P .any ops (fun e a w=>e= .normal∧K a w) (fuel+1) listed a w:=by
 refine wpAnyIn_take (i:=i) (v:=v) (by simp[FX,hrd]) ho hs hf hr (fun _ _ _ h=>by cases h.1) ⟨.inl ⟨by simp[Region.wanted,hg],hrun⟩,hab⟩ ?_
 rw[hd]
 exact next _ (R.put (some d) hv)
theorem GQ {C:Bc} (hrd:C.rd=none) {K:Act→World→Prop} {ops:Array Oper} {i d s ty fuel:Nat} {pos:String} {af:Array Edge} {listed:Array Bool} {F:Fr} {M:List Ag} {a:Act} {w:World} {σ:Nat→Nat→Option St} {own:Nat→Option Nat} (R:Az C F M a w σ own) (ho:ops[i]?=some {dst:=some d,op:= .move (.tmp s),type:=ty,pos:=pos,after:=af,guard:=none}) (hs:Region.noSelect ops=true) (hf:Region.free .any ops listed i=true) (hr:(Region.ready .any ops listed).contains i=true) (hn:s<C.n)
 (next:∀a',Az C (A5 F d (F s)) M a' w σ own→wpAnyIn (FX C) 0 C.P .any ops (fun e a w=>e= .normal∧K a w) fuel (listed.setIfInBounds i true) a' w):wpAnyIn (FX C) 0 C.P .any ops (fun e a w=>e= .normal∧K a w) (fuel+1) listed a w:=
 RC hrd R ho rfl rfl hs hf hr (R.tmp s hn) (fun w=>by simp only[execOp];rfl) (fun _=>rfl) next
theorem Mm {C:Bc} {T:Nat→Option TI} (tk:Bu C.P T) (hrd:C.rd=none) {K:Act→World→Prop} {ops:Array Oper} {i d s ty t e es eb fuel B v n l h:Nat} {ez:List AV} {lo hi:Option (Nat×IntKind×Int)} {pos:String} {af:Array Edge} {listed:Array Bool} {F:Fr} {M:List Ag} {a:Act} {w:World} {σ:Nat→Nat→Option St} {own:Nat→Option Nat} (R:Az C F M a w σ own) (ho:ops[i]?=some {dst:=some d,op:= .slice t (.tmp s) (lo.map fun x=> .tmp x.1) (hi.map fun x=> .tmp x.1) none,type:=ty,pos:=pos,after:=af,guard:=none}) (hs:Region.noSelect ops=true) (hf:Region.free .any ops listed i=true) (hr:(Region.ready .any ops listed).contains i=true) (hn:s<C.n) (htd:An T t= .slice e es eb ez) (hF:F s= .tok B v es 0 n) (hb:(Ai M B v).isSome) (hlo:∀x,lo=some x→x.1<C.n∧F x.1= .int x.2.1 x.2.2) (hhi:∀x,hi=some x→x.1<C.n∧F x.1= .int x.2.1 x.2.2)
 (h1:Fc (hi.map fun x=> .int x.2.1 x.2.2) n n=some h) (h2:Fc (lo.map fun x=> .int x.2.1 x.2.2) 0 h=some l)
 (next:∀a',Az C (A5 F d (.tok B v es (l*es) (h-l))) M a' w σ own→wpAnyIn (FX C) 0 C.P .any ops (fun e a w=>e= .normal∧K a w) fuel (listed.setIfInBounds i true) a' w):wpAnyIn (FX C) 0 C.P .any ops (fun e a w=>e= .normal∧K a w) (fuel+1) listed a w:=by
 have hx:=R.tmp s hn
 rw[hF] at hx
 obtain⟨cs,hcs⟩:=Option.isSome_iff_exists.1 hb
 obtain⟨_,fp,hB,_⟩:=BT R.mem hcs
 have hx2:=hx
 simp only[VR] at hx2
 obtain⟨_,⟨ad,c,hval⟩,st,hst,hnil,hloc⟩:=hx2
 have hnc:n≤c:=by
  simp only[BR] at hB
  rcases hB.2 with⟨h1,_,_⟩ | ⟨g,b,cur,e',fp',h1,_⟩
  .rw[h1] at hst;simp at hst;subst hst
   have:=(hnil rfl).2.2;omega
  .rw[h1] at hst;simp at hst;subst hst
   obtain⟨a2,c2,e2,_,e3,_⟩:=hloc _ _ _ rfl
   rw[hval] at e2;cases e2;exact e3
 have el:(lo.map fun x=>Operand.tmp x.1).map a.eval=(lo.map fun x=>x.2).map fun x=>Value.int x.1 x.2:=by
  cases lo with
  |none=>rfl
  |some x=>
   obtain⟨h3,h4⟩:=hlo x rfl
   have:=R.tmp x.1 h3;rw[h4] at this
   simp only[Option.map_some];exact congrArg some this.1
 have eh:(hi.map fun x=>Operand.tmp x.1).map a.eval=(hi.map fun x=>x.2).map fun x=>Value.int x.1 x.2:=by
  cases hi with
  |none=>rfl
  |some x=>
   obtain⟨h3,h4⟩:=hhi x rfl
   have:=R.tmp x.1 h3;rw[h4] at this
   simp only[Option.map_some];exact congrArg some this.1
 have e1:a.eval (.tmp s)= .slice ad n c:=hval
 have hall:=Vg tk htd (a:=ad) (lo:=lo.map fun x=>x.2) (hi:=hi.map fun x=>x.2) hnc (by rw[Option.map_map];exact h1) (by rw[Option.map_map];exact h2)
 obtain⟨u,hu,hv⟩:=Q4 R.mem tk (t:=t) (lo:=lo.map fun x=>AV.int x.2.1 x.2.2) (hi:=hi.map fun x=>AV.int x.2.1 x.2.2) (mx:=none) (vl:=(lo.map fun x=>x.2).map fun x=>Value.int x.1 x.2) (vh:=(hi.map fun x=>x.2).map fun x=>Value.int x.1 x.2) (vm:=none) hx (by
  intro y hy;cases lo with
  |none=>simp at hy
  |some x=>simp at hy;subst hy;exact⟨_,rfl,rfl,fun _=>rfl⟩) (by cases lo<;>simp) (by
  intro y hy;cases hi with
  |none=>simp at hy
  |some x=>simp at hy;subst hy;exact⟨_,rfl,rfl,fun _=>rfl⟩) (by cases hi<;>simp) (by simp) (by simp) (r:= .tok B v es (0+l*es) (h-l)) (by
  unfold II
  simp only[htd]
  rw[if_pos ⟨trivial,hb⟩]
  simp only[h1,h2])
 rw[hval] at hu
 have h5:=hall w
 rw[h5] at hu
 cases hu
 refine RC hrd R ho rfl rfl hs hf hr (by simpa using hv) (fun w=>?_) (fun _=>rfl) next
 simp only[execOp,e1,el,eh,Option.map_none,Sem.run_bind,hall,Result.andThen_ok,Sem.run_pure]
theorem Xs {C:Bc} {T:Nat→Option TI} (tk:Bu C.P T) {F:Fr} {M:List Ag} {a:Act} {w:World} {σ:Nat→Nat→Option St} {own:Nat→Option Nat} {o:Oper} {next:Act→World→Prop} {Q:Exit→Act→World→Prop} (R:Az C F M a w σ own) (hb:Bm C.n o=true) (hnd:∀c,o.op≠ .defer c) {r:AV} (hv:pv T M F o=some r)
 (h:∀a',Az C (Aj F o.dst r) M a' w σ own→next a' w):o.wpIn (FX C) 0 C.P a w next Q:=by
 obtain⟨u,hu,hr⟩:=Qn tk R hb hv
 exact Oper.wp_value hnd hu (h _ (R.put _ hr))
theorem Py (a b:Int):∀(j k m:Nat),j≤m→Cu (Ac (List.replicate k a++List.replicate m b)) k (Ac (List.replicate j a))=Ac (List.replicate (k+j) a++List.replicate (m-j) b)
 |0,k,m,_=>by simp[Cu,Ac]
 |j+1,k,m,h=>by
  obtain⟨m,rfl⟩:∃m',m=m' +1:=⟨m-1,by omega⟩
  have ih:=Py a b j (k+1) m (by omega)
  have e:(Ac (List.replicate k a++List.replicate (m+1) b)).set k (.int .i64 a)=Ac (List.replicate (k+1) a++List.replicate m b):=by
   rw[List.replicate_succ,List.replicate_succ',List.append_assoc]
   simp only[Ac,List.map_append,List.map_cons]
   rw[List.set_append_right _ _ (by simp)]
   simp
  have e2:Ac (List.replicate (j+1) a)= .int .i64 a::Ac (List.replicate j a):=by simp[Ac,List.replicate_succ]
  rw[e2,Cu,e,ih,show k+1+j=k+(j+1) by omega,show m+1-(j+1)=m-j by omega]
theorem Td (n:Nat) (hn1:1≤n) (hn:n<1000):Aa pg 250 [.ro 1 [.int .i64 (-1)],.int .i64 n] [] (fun r _=>r= .own 1 n (Ac (List.replicate n (-1)))):=by
 refine Aa.enterA (fn:=Tryz.f250) tk rfl rfl rfl (Nat.le_of_ble_eq_true rfl) (by kernel_rfl) ?_
 intro C hC hp hnC hrd hdf
 have hp0:C.p≤0:=Nat.le_of_eq hp
 have hn48:C.n=48:=hnC
 show AW C _ _ _ (GD tT [.tmp 4] 0 _)
 rw[Aq]
 refine AW.seqW tk hC hp0 (by rw[hn48];kernel_rfl) ?_
 refine zs ?_
 refine AW.seqW tk hC hp0 (by rw[hn48];kernel_rfl) ?_
 refine zs ?_
 refine zn ?_
 refine W.skip ?_
 refine AW.seqW tk hC hp0 (by rw[hn48];kernel_rfl) ?_
 refine z0 ?_;intro K hK
 refine Ab.eq (Yk n hn) (by simp) (by simp) ?_
 refine zx ?_
 refine zk ?_;clear hK K
 refine AW.seqW tk hC hp0 (by rw[hn48];kernel_rfl) ?_
 have z1:¬(9223372036854775807<(n:Int)):=by omega
 refine Ae z1 ?_;intro K hK
 refine zk ?_;clear hK K
 refine zn ?_
 refine W.skip ?_
 refine AW.seqW tk hC hp0 (by rw[hn48];kernel_rfl) ?_
 (repeat refine W.seq ?_);refine W.reg 1 rfl fun K hK=>?_;simp -implicitDefEqProofs (maxSteps:=999999) (disch:=omega)
 refine zk ?_;clear hK K
 have hz:Ch n [AV.int .i64 0]=Ac (List.replicate n 0):=by
  simp only[Ch,Ac]
  clear z1 hn1 hn
  induction n with
  |zero=>rfl
  |succ n ih=>simp[List.replicate_succ,ih]
 rw[hz]
 refine AW.seq ?_
 intro a w hr
 refine wpIn_region_lit ?_
 refine(E7 (hC ▸ tk) (K:=fun F' M' =>Wk 0 F' M' (fr [(7,.tok 0 0 1 0 n),(31,.tok 0 0 1 0 n),(32,.ro 1 [.int .i64 (-1)])]) [.live 0 (Ac (List.replicate n 0))]) ?_ [_,_] 1 _ _ a w ?_ ?_ ?_ hr:wpListIn _ _ _ _ _ ([_,_]++[_,_]) a w)
 rotate_left
 .rw[hn48];kernel_rfl
 .rw[hn48];kernel_rfl
 .refine D7 (call:=Ab pg) (call' :=Dl C) (fun f args M K K' hk hc=>(hc C hC).mono hk) (fun _ _ h=>h) _ _ _ _ ?_
  simp -implicitDefEqProofs (maxSteps:=999999) (disch:=omega)
  exact Wk.fr (by simp[Ad])
 clear hr a w
 intro F' M' a w hwk hr
 obtain⟨σ,own,R⟩:=hwk C hp0 a w hr
 clear hr hwk
 simp only[wpListIn]
 rw[if_pos (by simp[Region.wanted])]
 refine RB (hC ▸ tk) R (t:=28) (e:=3) (eb:=8) (ez:=[.int .i64 0]) rfl (cs:=Ac (List.replicate n 0)) (B:=0) (v:=0) (off:=0) (n:=n) (m:=1) (ys:=[.int .i64 (-1)]) rfl rfl (by omega) (by omega) rfl rfl rfl (by simp) (by omega) (by omega) ?_
 intro a' w' R' _
 rw[if_pos (by simp[Region.wanted])]
 have e33:a'.eval (.tmp 33)= .int .i64 (min 1 n:Nat):=by
  have:=R'.tmp 33 (by omega)
  have h2:a'.tmps.getD 33 undef= .int .i64 (min 1 n:Nat):=by simpa[A5,VR,fr] using this.1
  exact h2
 have hmin:min 1 n=1:=by omega
 rw[hmin] at R' e33
 refine Oper.wp_value (fun _ h=>by cases h) (v:= .int .i64 (1:Nat)) (w' :=w') (by simp only[execOp,e33];rfl) (.inl ⟨_,_,?_,σ,own,R'.put (some 8) (av:= .int .i64 (1:Nat)) ⟨rfl,fun _=>rfl⟩⟩)
 have hset:[Ag.live 0 (Ac (List.replicate n 0))].set 0 (.live 0 (Cu (Ac (List.replicate n 0)) 0 (List.take 1 [AV.int .i64 (-1)])))=[.live 0 (Ac (List.replicate 1 (-1)++List.replicate (n-1) 0))]:=by
  obtain⟨j,rfl⟩:∃j,n=j+1:=⟨n-1,by omega⟩
  simp[Ac,Cu,List.replicate_succ]
 rw[hset]
 clear R' e33 hset R
 refine AW.weak (Wk.fr (S:=[(7,.tok 0 0 1 0 n),(8,.int .i64 (1:Nat))]) (by simp[Ad,A5]) C hp0) ?_
 refine AW.seq ?_
 refine AW.block ?_
 refine AW.loop (fun m F M=>∃k,m=n-k∧1≤k∧k≤n∧F=fr [(7,.tok 0 0 1 0 n),(8,.int .i64 k)]∧M=[.live 0 (Ac (List.replicate k (-1)++List.replicate (n-k) 0))]) (n-1) _ _ (Cz.refl _ _ _) ⟨1,rfl,by omega,by omega,rfl,rfl⟩ ?_
 rintro m F M ⟨k,rfl,hk1,hkn,rfl,rfl⟩
 refine AW.seqW tk hC hp0 (by rw[hn48];kernel_rfl) ?_
 by_cases hlt:k<n
 rotate_left
 .refine Ae hlt ?_;intro K hK
  refine zk ?_;clear hK K
  refine zn ?_
  refine W.exit ?_
  have ek:k=n:=by omega
  subst ek
  refine AW.seqW tk hC hp0 (by rw[hn48];kernel_rfl) ?_
  refine zs ?_
  refine AW.ret ?_
  simp only[Cp,C1,CH]
  refine Cw (d:=0) ?_
  simp -implicitDefEqProofs (maxSteps:=999999) (disch:=omega)
 refine Ae hlt ?_;intro K hK
 refine zk ?_;clear hK K
 refine zt ?_
 refine W.skip ?_
 refine AW.block ?_
 generalize hF:A5 (A5 _ _ _) _ _=F1
 have f7:F1 7= .tok 0 0 1 0 n:=by rw[←hF];simp[A5,fr]
 have f8:F1 8= .int .i64 k:=by rw[←hF];simp[A5,fr]
 clear hF
 intro a w hr
 refine wpIn_mono (Q:=fun e a w=>e= .normal∧CJ C (fr [(7,.tok 0 0 1 0 n),(8,.int .i64 ((k+min k (n-k):Nat):Int))]) [.live 0 (Ac (List.replicate (k+min k (n-k)) (-1)++List.replicate (n-(k+min k (n-k))) 0))] a w) ?_ ?_
 rotate_left
 .rintro e a w ⟨rfl,hr⟩
  refine .inl ⟨_,_,?_,hr⟩
  exact⟨n-(k+min k (n-k)),_,_,by omega,Cz.refl _ _ _,k+min k (n-k),rfl,by omega,by omega,rfl,rfl⟩
 refine wpIn_region_any (hC ▸ Ce) ?_
 obtain⟨σ,own,R⟩:=hr
 have R:=R.drew
 show wpAnyIn _ _ _ _ _ _ 10 _ a w.drew
 generalize w.drew=w at*
 refine GQ hrd R (i:=0) rfl (by kernel_rfl) (by kernel_rfl) (by kernel_rfl) (by omega) fun a R=>?_
 refine GQ hrd R (i:=1) rfl (by kernel_rfl) (by kernel_rfl) (by kernel_rfl) (by omega) fun a R=>?_
 refine GQ hrd R (i:=2) rfl (by kernel_rfl) (by kernel_rfl) (by kernel_rfl) (by omega) fun a R=>?_
 refine Mm (hC ▸ tk) hrd R (i:=3) (lo:=some (40,.i64,k)) (hi:=none) rfl (by kernel_rfl) (by kernel_rfl) (by kernel_rfl) (by omega) (t:=28) (e:=3) (es:=1) (eb:=8) (ez:=[.int .i64 0]) (n:=n) (h:=n) (l:=k) rfl (by simp[A5,f7];exact⟨rfl,rfl⟩) rfl (by simp[A5,f8];omega) (by simp) rfl (by simp[Fc];omega) fun a R=>?_
 refine GQ hrd R (i:=4) rfl (by kernel_rfl) (by kernel_rfl) (by kernel_rfl) (by omega) fun a R=>?_
 refine GQ hrd R (i:=5) rfl (by kernel_rfl) (by kernel_rfl) (by kernel_rfl) (by omega) fun a R=>?_
 refine Mm (hC ▸ tk) hrd R (i:=6) (lo:=none) (hi:=some (43,.i64,k)) rfl (by kernel_rfl) (by kernel_rfl) (by kernel_rfl) (by omega) (t:=28) (e:=3) (es:=1) (eb:=8) (ez:=[.int .i64 0]) (n:=n) (h:=k) (l:=0) rfl (by simp[A5,f7];exact⟨rfl,rfl⟩) rfl (by simp) (by simp[A5,f8];omega) (by simp[Fc];omega) rfl fun a R=>?_
 refine wpAnyIn_ready (rs:=[7]) (by kernel_rfl) (by simp) (AllReadyIn.cons rfl (fun K' hK=>?_) AllReadyIn.nil)
 rw[if_pos (by simp[Region.wanted])]
 refine RB (hC ▸ tk) R (t:=28) (e:=3) (eb:=8) (ez:=[.int .i64 0]) rfl (cs:=Ac (List.replicate k (-1)++List.replicate (n-k) 0)) (B:=0) (v:=0) (off:=k) (n:=n-k) (m:=k) (ys:=Ac (List.replicate k (-1))) rfl (by simp[A5]) (by omega) (by omega) ?_ (by simp) (by simp) (by simp) (by omega) (by omega) ?_
 .simp[A5,CK,Ai]
 intro a' w' R' _
 refine hK _ _ ?_
 refine wpAnyIn_ready (rs:=[8]) (by kernel_rfl) (by simp) (AllReadyIn.cons rfl (fun K' hK=>?_) AllReadyIn.nil)
 rw[if_pos (by simp[Region.wanted])]
 refine Xs (hC ▸ tk) R' (by rw[hn48];kernel_rfl) (fun _ h=>by cases h) (r:= .int .i64 ((k+min k (n-k):Nat):Int)) (by simp(disch:=omega) [pv,A5,f8]) fun a R=>hK _ _ ?_
 refine wpAnyIn_ready (rs:=[9]) (by kernel_rfl) (by simp) (AllReadyIn.cons rfl (fun K' hK=>?_) AllReadyIn.nil)
 rw[if_pos (by simp[Region.wanted])]
 refine Xs (hC ▸ tk) R (by rw[hn48];kernel_rfl) (fun _ h=>by cases h) (r:= .int .i64 ((k+min k (n-k):Nat):Int)) (by simp(disch:=omega) [pv,A5,f8,Aj]) fun a R=>hK _ _ ?_
 refine wpAnyIn_done (by kernel_rfl) ⟨rfl,?_⟩ _
 have hm:Cu (Ac (List.replicate k (-1)++List.replicate (n-k) 0)) k ((Ac (List.replicate k (-1))).take (min k (n-k)))=Ac (List.replicate (k+min k (n-k)) (-1)++List.replicate (n-(k+min k (n-k))) 0):=by
  have e:(Ac (List.replicate k (-1))).take (min k (n-k))=Ac (List.replicate (min k (n-k)) (-1)):=by
   simp only[Ac,←List.map_take,List.take_replicate]
   rw[Nat.min_eq_left (by omega)]
  rw[e,Py _ _ _ _ _ (by omega),show n-k-min k (n-k)=n-(k+min k (n-k)) by omega]
 have hr:=Wk.fr (p:=0) (S:=[(7,.tok 0 0 1 0 n),(8,.int .i64 ((k+min k (n-k):Nat):Int))]) (by simp[Ad,A5,Aj,f7]) C hp0 a _ ⟨σ,own,R⟩
 simp only[List.set_cons_zero,hm] at hr
 exact hr
theorem RD:Bv:=fun n h1 h2=>Td n h1 h2
end Go.Abs
set_option maxRecDepth 100000
namespace Go.Abs
open Go.Proofs
abbrev G9:List AV:=[.int .i64 0,.int .i64 0,.int .i64 0,.str ByteArray.empty,.int .i64 0,.int .i64 0,.bool false,.bool false]
theorem Vh {cs:List AV} (h:cs.all CV=true) (i j:Nat):((cs.drop i).take j).all CV=true:=by
 rw[List.all_eq_true] at h ⊢
 exact fun x hx=>h x (List.mem_of_mem_drop (List.mem_of_mem_take hx))
theorem LV:∀(ys cs:List AV) (o:Nat),o+ys.length≤cs.length→Cu cs o ys=cs.take o++ys++cs.drop (o+ys.length)
 | [],cs,o,_=>by simp[Cu]
 |y::ys,cs,o,h=>by
  simp only[List.length_cons] at h
  rw[Cu,LV ys _ _ (by simp;omega),List.length_cons]
  have e:(cs.set o y).take (o+1)=cs.take o++[y]:=by
   rw[List.take_add_one,List.take_set_of_le (Nat.le_refl _),List.getElem?_set_self (by omega)];rfl
  rw[e,List.drop_set_of_lt (by omega)]
  simp[Nat.add_assoc,Nat.add_comm 1]
theorem Te (cs:List AV) (u n i:Nat) (hi:i<n) (hn:n<1000000000000) (hl:cs.length=n*8) (hpl:cs.all CV=true) (htf:DQ cs=true):Aa pg 133 [.tok 0 u 8 0 n,.int .i64 i,.int .i64 ((i+1:Nat):Int)] [.live u cs] (fun r M=>r= .own 8 (n-1) (cs.take (i*8)++cs.drop ((i+1)*8))∧M=[.dead]):=by
 refine Aa.enterA (fn:=Tryz.f133) tk rfl rfl rfl (Nat.le_of_ble_eq_true rfl) (by kernel_rfl) ?_
 intro C hC hp hnC hrd hdf
 have hp0:C.p≤1:=Nat.le_of_eq hp
 have hn33:C.n=33:=hnC
 show AW C _ _ _ (GD tT [.tmp 6] 1 _)
 rw[Bh]
 refine AW.seqW tk hC hp0 (by rw[hn33];kernel_rfl) ?_
 refine zs ?_
 refine AW.seq ?_
 intro a w hr
 refine wpIn_region_lit ?_
 refine(E7 (hC ▸ tk) (K:=fun F' M' =>Wk 1 F' M' (fr [(0,.tok 0 u 8 0 n),(1,.int .i64 i),(2,.int .i64 ((i+1:Nat):Int)),(8,.tok 0 u 8 0 n),(9,.int .i64 i),(10,.int .i64 ((i+1:Nat):Int)),(12,.int .i64 n)]) [.live u cs]) ?_ [_,_,_,_,_] 1 _ _ a w ?_ ?_ ?_ hr:wpListIn _ _ _ _ _ ([_,_,_,_,_]++[_]) a w)
 rotate_left
 .rw[hn33];kernel_rfl
 .rw[hn33];kernel_rfl
 .refine D7 (call:=Ab pg) (call' :=Dl C) (fun f args M K K' hk hc=>(hc C hC).mono hk) (fun _ _ h=>h) _ _ _ _ ?_
  simp -implicitDefEqProofs (maxSteps:=999999) (disch:=omega)
  exact Wk.fr (by simp[Ad])
 clear hr a w
 intro F' M' a w hwk hr
 obtain⟨σ,own,R⟩:=hwk C hp0 a w hr
 clear hr hwk
 simp only[wpListIn]
 rw[if_pos (by simp[Region.wanted])]
 obtain⟨h8,b8',sz,c,hst,hv8,hnc,hcm,hsz⟩:=Sz R (t:=8) (B:=0) (u:=u) (s:=8) (off:=0) (n:=n) (cs:=cs) (by omega) rfl (by simp[Ai]) (by omega)
 have e9:a.eval (.tmp 9)= .int .i64 i:=(R.tmp 9 (by omega)).1
 have e10:a.eval (.tmp 10)= .int .i64 ((i+1:Nat):Int):=(R.tmp 10 (by omega)).1
 have e12:a.eval (.tmp 12)= .int .i64 n:=(R.tmp 12 (by omega)).1
 have e8:a.eval (.tmp 8)=_:=hv8
 obtain⟨v,hv⟩:=XX (hC ▸ tk) (t:=35) (e:=42) (es:=8) (eb:=64) (ez:=G9) rfl (ad:=some ⟨h8,b8' +0,none⟩) (n:=n) (c:=c) (l:=i) (h:=i+1) (m:=n) (by omega) (by omega) hnc w
 refine Oper.wp_value (fun _ h=>by cases h) (v:=v) (w' :=w) ?_ (.inl ⟨_,_,?_,σ,own,R.put (some 13) (av:= .any) (fun _=>rfl)⟩)
 .simp only[execOp,e8,e9,e10,e12,Option.map_some,Sem.run_bind]
  rw[hv]
  simp only[Result.andThen_ok,Sem.run_pure]
 refine AW.weak (Wk.fr (S:=[(0,.tok 0 u 8 0 n),(1,.int .i64 i),(2,.int .i64 ((i+1:Nat):Int))]) (by simp[Ad,A5]) C hp0) ?_
 clear hv e8 e9 e10 e12 v hv8 hst R
 refine AW.seqW tk hC hp0 (by rw[hn33];kernel_rfl) ?_
 have z1:¬(i:Int)=((i+1:Nat):Int):=by omega
 refine Ae z1 ?_;intro K hK
 refine zk ?_;clear hK K
 refine zn ?_
 refine W.skip ?_
 refine AW.seqW tk hC hp0 (by rw[hn33];kernel_rfl) ?_
 refine zs ?_
 refine AW.weak (Wk.fr (S:=[(0,.tok 0 u 8 0 n),(1,.int .i64 i),(2,.int .i64 ((i+1:Nat):Int)),(7,.int .i64 n)]) (by simp[Ad,A5]) C hp0) ?_
 clear hnc hcm hsz h8 b8' sz c own σ a w M' F'
 obtain⟨m,hm⟩:∃m,m=n-(i+1):=⟨_,rfl⟩
 have hys:((cs.drop ((i+1)*8)).take (m*8)).length=m*8:=by simp;omega
 have hcs:Cu cs (i*8) ((cs.drop ((i+1)*8)).take (m*8))=cs.take (i*8)++cs.drop ((i+1)*8)++cs.drop ((n-1)*8):=by
  rw[LV _ _ _ (by rw[hys];omega),hys,show i*8+m*8=(n-1)*8 by omega,List.take_of_length_le (l:=cs.drop ((i+1)*8)) (by simp;omega)]
 intro a w hr
 refine wpIn_seq (wpIn_mono (Q:=fun e a w=>e= .normal∧∃F σ own h b sz c,F 0= .tok 0 u 8 0 (n-1)∧F 7= .int .i64 n∧Az C F [.live u (cs.take (i*8)++cs.drop ((i+1)*8)++cs.drop ((n-1)*8))] a w σ own∧σ 0 u=some (.loc h b sz)∧a.tmps.getD 0 undef= .slice (some ⟨h,b,none⟩) (n-1) c∧n≤c∧c≤maxLen∧b+c*8≤sz) ?_ ?_)
 rotate_left
 .rintro e a w ⟨rfl,F,σ,own,h0,b0,sz,c,f0,f7,R,hst,hv0,hnc,hcm,hsz⟩
  obtain⟨cs2,hc2⟩:∃cs2,cs2=cs.take (i*8)++cs.drop ((i+1)*8)++cs.drop ((n-1)*8):=⟨_,rfl⟩
  have hl2:cs2.length=n*8:=by rw[hc2];simp;omega
  have ht2:cs2.take ((n-1)*8)=cs.take (i*8)++cs.drop ((i+1)*8):=by
   rw[hc2,List.take_left' (by simp;omega)]
  have hq:DQ (cs2.take ((n-1)*8))=true:=by
   rw[ht2]
   unfold DQ at htf ⊢
   rw[List.all_eq_true] at htf ⊢
   intro x hx
   rcases List.mem_append.1 hx with h|h
   .exact htf x (List.mem_of_mem_take h)
   .exact htf x (List.mem_of_mem_drop h)
  rw[←ht2]
  rw[←hc2] at R
  clear hc2 ht2 hcs hys hr
  refine wpIn_seq (wpIn_region_lit ?_)
  simp only[wpListIn]
  have e7:a.tmps.getD 7 undef= .int .i64 n:=by have:=R.tmp 7 (by omega);rw[f7] at this;exact this.1
  have r0:=R.tmp 0 (by omega)
  rw[f0,hv0] at r0
  rw[if_pos (by simp[Region.wanted])]
  refine JZ R (fun _ h=>by cases h) rfl (by omega) (v:= .slice (some ⟨h0,b0,none⟩) (n-1) c) (av:= .tok 0 u 8 0 (n-1)) r0 (by rw[←hv0];rfl) fun a1 R v1 k1=>?_
  rw[if_pos (by simp[Region.wanted])]
  refine JZ R (fun _ h=>by cases h) rfl (by omega) (v:= .slice (some ⟨h0,b0,none⟩) (n-1) c) (av:= .tok 0 u 8 0 (n-1)) r0 (by rw[←hv0,←k1 0 (by decide)];rfl) fun a2 R v2 k2=>?_
  rw[if_pos (by simp[Region.wanted])]
  have e28:a2.eval (.tmp 28)= .slice (some ⟨h0,b0,none⟩) (n-1) c:=v2
  refine JZ R (fun _ h=>by cases h) rfl (by omega) (v:= .int .i64 ((n-1:Nat):Int)) (av:= .int .i64 ((n-1:Nat):Int)) ⟨rfl,fun _=>rfl⟩ ?_ fun a3 R v3 k3=>?_
  .have hD:=(B3 (P:=C.P) (hC ▸ tk:Bu C.P tT) (t:=35) (e:=42) (es:=8) (eb:=64) (ez:=G9) rfl).1
   simp[execOp,resolve,invoke,builtin,e28,Builtin.len_,run_underlying hD,goInt]
  rw[if_pos (by simp[Region.wanted])]
  refine JZ R (fun _ h=>by cases h) rfl (by omega) (v:= .int .i64 n) (av:= .int .i64 n) ⟨rfl,fun _=>rfl⟩ (by rw[←e7,←k1 7 (by decide),←k2 7 (by decide),←k3 7 (by decide)];rfl) fun a4 R v4 k4=>?_
  rw[if_pos (by simp[Region.wanted])]
  have e27:a4.eval (.tmp 27)= .slice (some ⟨h0,b0,none⟩) (n-1) c:=by
   show a4.tmps.getD 27 undef=_
   rw[k4 _ (by decide),k3 _ (by decide),k2 _ (by decide),v1]
  have e29:a4.eval (.tmp 29)= .int .i64 ((n-1:Nat):Int):=by
   show a4.tmps.getD 29 undef=_
   rw[k4 _ (by decide),v3]
  have e30:a4.eval (.tmp 30)= .int .i64 n:=v4
  have hs31:=UE (hC ▸ tk) (t:=35) (e:=42) (es:=8) (eb:=64) (ez:=G9) rfl (ad:=some ⟨h0,b0,none⟩) (n:=n-1) (c:=c) (lo:=some (n-1)) (hi:=some n) (l:=n-1) (h:=n) rfl rfl (by omega) hnc w
  have hne:¬c=n-1:=by omega
  simp only[Option.map_some,hne,if_false,show n-(n-1)=1 by omega] at hs31
  refine JZ R (fun _ h=>by cases h) rfl (by omega) (v:= .slice (some (Addr.add ⟨h0,b0,none⟩ ((n-1)*8))) 1 (c-(n-1))) (av:= .any) (fun _=>rfl) ?_ fun a5 R v5 k5=>?_
  .simp only[execOp,e27,e29,e30,Option.map_some,Option.map_none,Sem.run_bind]
   rw[hs31]
   simp only[Result.andThen_ok,Sem.run_pure]
  rw[show(some (Addr.add ⟨h0,b0,none⟩ ((n-1)*8)))=some ⟨h0,b0+(n-1)*8,none⟩ by simp[Addr.add]] at v5
  rw[if_pos (by simp[Region.wanted])]
  refine Y3 (hC ▸ tk) R (t:=35) (e:=42) (s:=8) (eb:=64) (ez:=G9) rfl (B:=0) (u:=u) (h:=h0) (b:=b0) (sz:=sz) (cs:=cs2) (off:=(n-1)*8) (n:=1) (by simp[Ai]) hst v5 (by rfl) (by omega) (by omega) fun a w R=>?_
  clear hs31 e27 e29 e30 e28 v1 v2 v3 v4 v5 k1 k2 k3 k4 k5 r0 e7 hv0 hst
  have hl1:(Ch 1 G9).length=8:=rfl
  rw[show([Ag.live u cs2].set 0 (.live u (Cu cs2 ((n-1)*8) (Ch 1 G9))))=[Ag.live u (Cu cs2 ((n-1)*8) (Ch 1 G9))] from rfl,LV _ _ _ (by rw[hl1];omega)] at R
  have ht3:cs2.take ((n-1)*8)=(cs2.take ((n-1)*8)++Ch 1 G9++cs2.drop ((n-1)*8+(Ch 1 G9).length)).take ((n-1)*8):=by
   rw[List.append_assoc,List.take_left' (by simp;omega)]
  have hl3:(n-1)*8≤(cs2.take ((n-1)*8)++Ch 1 G9++cs2.drop ((n-1)*8+(Ch 1 G9).length)).length:=by
   simp only[List.length_append,List.length_take];omega
  generalize cs2.take ((n-1)*8)++Ch 1 G9++cs2.drop ((n-1)*8+(Ch 1 G9).length)=cs3 at ht3 hl3 R
  rw[ht3] at hq ⊢
  have hw:=Wk.fr (p:=1) (S:=[(0,.tok 0 u 8 0 (n-1))]) (by simp[Ad,A5,f0]) C hp0 a _ ⟨σ,own,R⟩
  refine AW.seqW (Q:=GD tT [.tmp 6] 1 _) tk hC hp0 (by rw[hn33];kernel_rfl) ?_ a w hw
  refine zs ?_
  refine AW.ret ?_
  simp only[Cp,C1,CH]
  refine Cw (d:=0) ?_
  simp -implicitDefEqProofs (maxSteps:=999999) (disch:=omega) [hq]
 refine wpIn_region_any (hC ▸ Ce) ?_
 obtain⟨σ,own,R⟩:=hr
 have R:=R.drew
 show wpAnyIn _ _ _ _ _ _ 8 _ a w.drew
 generalize w.drew=w at*
 obtain⟨h0,b0,sz,c,hst,hv0,hnc,hcm,hsz⟩:=Sz R (t:=0) (B:=0) (u:=u) (s:=8) (off:=0) (n:=n) (cs:=cs) (by omega) rfl (by simp[Ai]) (by omega)
 have e1:a.tmps.getD 1 undef= .int .i64 i:=(R.tmp 1 (by omega)).1
 have e2:a.tmps.getD 2 undef= .int .i64 ((i+1:Nat):Int):=(R.tmp 2 (by omega)).1
 simp only[Nat.add_zero] at hv0 hsz
 refine Hh hrd R (i:=0) rfl (by kernel_rfl) (by kernel_rfl) (by kernel_rfl) (by omega) (by omega) fun a1 R v1 k1=>?_
 rw[hv0] at v1
 refine Hh hrd R (i:=1) rfl (by kernel_rfl) (by kernel_rfl) (by kernel_rfl) (by omega) (by omega) fun a2 R v2 k2=>?_
 rw[k1 _ (by decide),e1] at v2
 refine Lw (hC ▸ tk) hrd R (i:=2) (lo:=none) (hi:=some (21,i)) (u:=u) (B:=0) (n:=n) (c:=c) (hp:=h0) (b:=b0) (sz:=sz) (h:=i) (l:=0) (es:=8) rfl (by kernel_rfl) (by kernel_rfl) (by kernel_rfl) (by omega) (t:=35) rfl hst (by rw[k2 _ (by decide),v1]) hcm hsz (by simp) (by rintro x ⟨⟩;exact v2) rfl rfl (by omega) (by omega) fun a3 R v3 k3=>?_
 refine Hh hrd R (i:=3) rfl (by kernel_rfl) (by kernel_rfl) (by kernel_rfl) (by omega) (by omega) fun a4 R v4 k4=>?_
 rw[k3 _ (by decide),k2 _ (by decide),k1 _ (by decide),hv0] at v4
 refine Hh hrd R (i:=4) rfl (by kernel_rfl) (by kernel_rfl) (by kernel_rfl) (by omega) (by omega) fun a5 R v5 k5=>?_
 rw[k4 _ (by decide),k3 _ (by decide),k2 _ (by decide),k1 _ (by decide),e2] at v5
 refine Lw (hC ▸ tk) hrd R (i:=5) (lo:=some (24,i+1)) (hi:=none) (u:=u) (B:=0) (n:=n) (c:=c) (hp:=h0) (b:=b0) (sz:=sz) (h:=n) (l:=i+1) (es:=8) rfl (by kernel_rfl) (by kernel_rfl) (by kernel_rfl) (by omega) (t:=35) rfl hst (by rw[k5 _ (by decide),v4]) hcm hsz (by rintro x ⟨⟩;exact v5) (by simp) rfl rfl (by omega) (by omega) fun a6 R v6 k6=>?_
 rw[show(if c=0 then(some ⟨h0,b0,none⟩:Option Addr) else some ⟨h0,b0+0*8,none⟩)=some ⟨h0,b0,none⟩ by split<;>simp] at v3
 have e22:a6.tmps.getD 22 undef= .slice (some ⟨h0,b0,none⟩) i c:=by
  have:a6.tmps.getD 22 undef= .slice (some ⟨h0,b0,none⟩) (i-0) (c-0):=by rw[k6 _ (by decide),k5 _ (by decide),k4 _ (by decide)];exact v3
  exact this
 refine wpAnyIn_ready (rs:=[6]) (by kernel_rfl) (by simp) (AllReadyIn.cons rfl (fun K' hK=>?_) AllReadyIn.nil)
 rw[if_pos (by simp[Region.wanted])]
 refine Y2 (hC ▸ tk) R (t:=35) (e:=42) (s:=8) (eb:=64) (ez:=G9) rfl (B:=0) (u:=u) (h:=h0) (b:=b0) (sz:=sz) (cs:=cs) (by simp[Ai]) hst e22 (by omega) (m:=m) (ys:=(cs.drop ((i+1)*8)).take (m*8)) (n:=i) (c:=c) (by simp[A5,CK,Ai,hm]) hys (Vh hpl _ _) (by omega) (by omega) hcm hsz (by omega) fun a7 w' R' v7=>hK _ _ ?_
 rw[hcs,show i+m=n-1 by omega] at R'
 rw[show i+m=n-1 by omega] at v7
 refine wpAnyIn_ready (rs:=[7]) (by kernel_rfl) (by simp) (AllReadyIn.cons rfl (fun K' hK=>?_) AllReadyIn.nil)
 rw[if_pos (by simp[Region.wanted])]
 refine JZ R' (fun _ h=>by cases h) rfl (by omega) (v:= .slice (some ⟨h0,b0,none⟩) (n-1) c) (av:= .tok 0 u 8 0 (n-1)) (Lv hst (by omega) hcm (by omega) (fun _=>rfl)) (by rw[←v7];rfl) fun a R v8 k8=>hK _ _ ?_
 refine wpAnyIn_done (by kernel_rfl) ⟨rfl,?_⟩ _
 exact⟨_,σ,own,h0,b0,sz,c,by simp[A5],by simp[A5,fr],R,hst,v8,hnc,hcm,hsz⟩
end Go.Abs
set_option maxRecDepth 100000
namespace Go.Abs
open Go.Proofs
def K6 (s:AB) (id:Int):Bool:=s.vers.any fun v=>decide (v.base=id)
def DY (s:AB) (id:Int):AB×Int:=
 if Ba (fun v=>decide (v.id=id)) s.vers<0 then(Bg,3)
 else if id=As s.vers∨pinned s id=true∨K6 s id=true then(Bg,6)
 else({s with vers:=s.vers.eraseIdx (Ba (fun v=>decide (v.id=id)) s.vers).toNat},0)
def F9 (s:AB) (id:Int):AB×Int:=if Bl s then DY s id else(Bg,1)
theorem Tf (v:Bi) (id:Int):Aa pg 132 ([.agg (AN v)]++[.rptr [.int .i64 id]]) [] (fun r _=>r= .bool (decide (v.base=id))):=by
 refine Aa.start (fn:=Tryz.f132) [.tmp 3] tk rfl rfl rfl (by kernel_rfl) (Nat.le_of_ble_eq_true rfl) rfl (by kernel_rfl) ?_
 simp only[List.cons_append,List.nil_append]
 rw[Aq]
 refine z1 ?_;intro K hK;refine zk ?_;clear hK K
 refine zs ?_
 exact zR
theorem K7:∀(l:List Bi) (k:Nat),k<l.length→(Af AN l).take (k*8)++(Af AN l).drop ((k+1)*8)=Af AN (l.eraseIdx k)
 | [],k,h=>by simp at h
 |v::l,0,_=>by simp[AK,AN]
 |v::l,k+1,h=>by
  have ih:=K7 l k (by simpa using h)
  have hv:(AN v).length=8:=rfl
  have a1:(AN v++Af AN l).take ((k+1)*8)=AN v++(Af AN l).take (k*8):=by rw[show(k+1)*8=(AN v).length+k*8 by omega,List.take_length_add_append]
  have a2:(AN v++Af AN l).drop ((k+1+1)*8)=(Af AN l).drop ((k+1)*8):=by rw[show(k+1+1)*8=(AN v).length+(k+1)*8 by omega,List.drop_length_add_append]
  rw[AK,List.eraseIdx_cons_succ,AK,←ih,a1,a2,List.append_assoc]
set_option maxHeartbeats 2000000 in
theorem Vi (hR:Bv) (s:AB) (id:Int) (hs:A4 s) (hx:B7 s):Aa pg 94 [.agg (AA false s),.int .i64 id] [] (fun r _=>r= .tup [.agg (AA true (DY s id).1),.int .i64 (DY s id).2]):=by
 have h1:=hs.1
 have h2:=hs.2.1
 refine Aa.start (fn:=Tryz.f94) [.cell 4 38,.tmp 5] tk rfl rfl rfl (by kernel_rfl) (Nat.le_of_ble_eq_true rfl) rfl (by kernel_rfl) ?_
 rw[Aq]
 refine z3 ?_;intro K hK;refine zk ?_;clear hK K
 refine z0 ?_;intro K hK
 refine Ab.eq (J2 s id hs) (by simp) (by simp) ?_
 refine zx ?_
 refine zk ?_;clear hK K
 obtain⟨q,hq⟩:∃q,q=Ba (fun v=>decide (v.id=id)) s.vers:=⟨_,rfl⟩
 rw[←hq]
 unfold DY
 rw[←hq]
 refine zb ?_
 by_cases c1:q<0
 .rw[if_pos c1]
  refine Ae c1 ?_;intro K hK
  refine zk ?_;clear hK K
  refine zt ?_
  refine z0 ?_;intro K hK
  refine zk ?_;clear hK K
  refine W.weak ((Wk.thaw (B:=2) (v:=0) (j:=2) (s:=8) (n:=0) (xs:=[]) rfl rfl).trans (Wk.thaw (B:=2) (v:=0) (j:=3) (s:=12) (n:=0) (xs:=[]) rfl rfl)) ?_
  refine zr ?_
  simp[Bg]
 rw[if_neg c1]
 obtain⟨k,hk,rfl⟩:∃k:Nat,k<s.vers.length∧q=(k:Int):=⟨q.toNat,by rw[hq] at c1 ⊢;exact Pu (by omega),by omega⟩
 have c1' :¬(k:Int)<0:=c1
 refine Ae c1' ?_;intro K hK
 refine zk ?_;clear hK K
 refine zn ?_
 have spB:=Nh s.vers 132 [.rptr [.int .i64 id]] (fun v=>decide (v.base=id)) (by omega) (fun v _=>Tf v id) (by simp) (by simp)
 have hbd:(s.vers.any fun v=>decide (v.base=id))=K6 s id:=rfl
 rw[hbd] at spB
 have spP:=KI s id hs
 by_cases c2:id=As s.vers
 .rw[if_pos (.inl c2)]
  refine B8 ?_;intro K hK
  refine Ah.eq (D5 s hs) (by simp) (by simp) ?_
  refine AR c2 ?_
  refine zk ?_;clear hK K
  refine zt ?_
  refine z0 ?_;intro K hK
  refine zk ?_;clear hK K
  refine W.weak ((Wk.thaw (B:=2) (v:=0) (j:=2) (s:=8) (n:=0) (xs:=[]) rfl rfl).trans (Wk.thaw (B:=2) (v:=0) (j:=3) (s:=12) (n:=0) (xs:=[]) rfl rfl)) ?_
  refine zr ?_
  simp[Bg]
 by_cases c3:pinned s id=true
 .rw[if_pos (.inr (.inl c3))]
  rw[c3] at spP
  refine B8 ?_;intro K hK
  refine Ah.eq (D5 s hs) (by simp) (by simp) ?_
  refine AR c2 ?_
  refine Ah.eq spP (by simp) (by simp) ?_
  refine zx ?_
  refine zk ?_;clear hK K
  refine zt ?_
  refine z0 ?_;intro K hK
  refine zk ?_;clear hK K
  refine W.weak ((Wk.thaw (B:=2) (v:=0) (j:=2) (s:=8) (n:=0) (xs:=[]) rfl rfl).trans (Wk.thaw (B:=2) (v:=0) (j:=3) (s:=12) (n:=0) (xs:=[]) rfl rfl)) ?_
  refine zr ?_
  simp[Bg]
 by_cases c4:K6 s id=true
 .rw[if_pos (.inr (.inr c4))]
  rw[Bool.eq_false_iff.2 c3] at spP
  rw[c4] at spB
  refine B8 ?_;intro K hK
  refine Ah.eq (D5 s hs) (by simp) (by simp) ?_
  refine AR c2 ?_
  refine Ah.eq spP (by simp) (by simp) ?_
  refine zx ?_
  refine Ah.eq spB (by simp) (by simp) ?_
  refine zx ?_
  refine zk ?_;clear hK K
  refine zt ?_
  refine z0 ?_;intro K hK
  refine zk ?_;clear hK K
  refine W.weak ((Wk.thaw (B:=2) (v:=0) (j:=2) (s:=8) (n:=0) (xs:=[]) rfl rfl).trans (Wk.thaw (B:=2) (v:=0) (j:=3) (s:=12) (n:=0) (xs:=[]) rfl rfl)) ?_
  refine zr ?_
  simp[Bg]
 rw[if_neg (by simp[c2,c3,c4])]
 rw[Bool.eq_false_iff.2 c3] at spP
 rw[Bool.eq_false_iff.2 c4] at spB
 refine B8 ?_;intro K hK
 refine Ah.eq (D5 s hs) (by simp) (by simp) ?_
 refine AR c2 ?_
 refine Ah.eq spP (by simp) (by simp) ?_
 refine zx ?_
 refine Ah.eq spB (by simp) (by simp) ?_
 refine zx ?_
 refine zk ?_;clear hK K
 refine zn ?_
 refine W.skip ?_
 refine z0 ?_;intro K hK
 refine Ab.eqr (Ry s hs hx) (by simp) ?_
 refine zx ?_
 refine zk ?_;clear hK K
 obtain⟨c,hc⟩:∃c:Nat,c=k+1:=⟨_,rfl⟩
 have e1:(k:Int)+1=(c:Int):=by omega
 refine Ae e1 ?_;intro K hK
 have spD:=Te (Af AN s.vers) 0 s.vers.length k hk (by omega) (GY (f:=AN) (fun _=>rfl) _) (Wt _) (by simp)
 have hle:(s.vers.eraseIdx k).length=s.vers.length-1:=List.length_eraseIdx_of_lt hk
 rw[K7 _ _ hk,←hc,←hle] at spD
 clear hle
 generalize hl' :s.vers.eraseIdx k=l' at spD
 refine Ab.pass [3] spD (by simp) (by simp) (by simp) (by simp) ?_
 rintro r M ⟨rfl,rfl⟩ _
 refine zx ?_
 refine zk ?_;clear hK K
 refine z0 ?_;intro K hK
 refine zk ?_;clear hK K
 refine zr ?_
 simp[hl']
theorem Xt (hR:Bv) (s:AB) (id:Int) (hs:A4 s) (hx:B7 s):Aa pg 50 [.agg (AA false s),.int .i64 id] [] (fun r _=>r= .tup [.agg (AA true (F9 s id).1),.int .i64 (F9 s id).2]):=by
 refine Aa.start (fn:=Tryz.f50) [.cell 4 38,.tmp 5] tk rfl rfl rfl (by kernel_rfl) (Nat.le_of_ble_eq_true rfl) rfl (by kernel_rfl) ?_
 rw[Aq]
 refine z2 ?_;intro K hK;refine zk ?_;clear hK K
 unfold F9
 by_cases h:Bl s
 .rw[if_pos h]
  refine z0 ?_;intro K hK
  refine Ab.eq (CS hR s hs hx) (by simp) (by simp) ?_
  rw[decide_eq_true h]
  refine zx ?_
  refine zk ?_;clear hK K
  refine zn ?_
  refine W.skip ?_
  refine z0 ?_;intro K hK
  refine Ab.eqr (Vi hR s id hs hx) (by simp) ?_
  refine zx ?_
  refine zk ?_;clear hK K
  exact zR
 .rw[if_neg h]
  refine z0 ?_;intro K hK
  refine Ab.eq (CS hR s hs hx) (by simp) (by simp) ?_
  rw[decide_eq_false h]
  refine zx ?_
  refine zk ?_;clear hK K
  refine zt ?_
  refine z0 ?_;intro K hK
  refine zk ?_;clear hK K
  refine W.weak ((Wk.thaw (B:=1) (v:=0) (j:=2) (s:=8) (n:=0) (xs:=[]) rfl rfl).trans (Wk.thaw (B:=1) (v:=0) (j:=3) (s:=12) (n:=0) (xs:=[]) rfl rfl)) ?_
  refine zr ?_
  simp[Bg]
end Go.Abs
set_option maxRecDepth 100000
namespace Go.Abs
open Go.Proofs
end Go.Abs
set_option maxRecDepth 100000
namespace Go.Abs
open Go.Proofs
def Tg (s:AB) (o:Obj) (p:Int):Option (List Obj):=
 if Ba (fun v=>decide (v.id=o.id)) s.vers<0 then(if¬(0≤p∧p≤o.id-1)∨o.id≤As s.vers then none else some (Al s++[o]))
 else some ((Al s).set (Ba (fun v=>decide (v.id=o.id)) s.vers).toNat o)
def dR (s:AB) (o:Obj) (p:Int):Prop:=∃l,Tg s o p=some l∧Ci l∧(∀i (h:i<l.length),(AX l l[i].id).2=0)∧∀x∈s.sess,AE s l x
end Go.Abs
