/- A job, and a state, of one's own. -/
import Derived.Test.YtoklapibcmnaeaaGreatP13
set_option linter.unusedVariables false
set_option linter.unusedSimpArgs false
set_option maxRecDepth 100000
namespace Go.Abs
open Go.Proofs
theorem Zg (j:Cs) (h:j.list.length<1000000000/\j.out.length<1000000000):Aa pg 137 [.agg (B4 false j)] [] (fun r _=>r= .agg (B4 true j)):=by
 obtain⟨h1,h2⟩:=h
 refine Aa.start (fn:=Tryz.f137) [.cell 2 53] tk rfl rfl rfl (by kernel_rfl) (Nat.le_of_ble_eq_true rfl) rfl (by kernel_rfl) ?_
 rw[Ay]
 refine z2 ?_;intro K hK;refine zk ?_;clear hK K
 refine Cf ?_;intro K hK
 refine Ah.eqr (Hh j.list (by omega)) (by simp) ?_
 refine zx ?_
 refine Ah.eqr (Hh j.out (by omega)) (by simp) ?_
 refine zx ?_
 refine zk ?_;clear hK K
 refine z0 ?_;intro K hK
 refine zk ?_;clear hK K
 exact zR
def Gq (k:Nat) (xs:List C2):List AV:=Ac (AA true) (xs.take k)++Ac (AA false) (xs.drop k)
theorem O8 (k:Nat) (xs:List C2):(Gq k xs).length=xs.length*12:=by
 unfold Gq;rw[List.length_append,PN,PN,<-Nat.add_mul,List.length_take,List.length_drop];congr 1;omega
theorem FR {k i:Nat} {xs:List C2} (h:k<xs.length) (hi:i<12):(Gq k xs)[k*12+i]?=(AA false xs[k])[i]?:=by
 have hl:(Ac (AA true) (xs.take k)).length=k*12:=by simp;omega
 unfold Gq
 rw[List.getElem?_append_right (by omega),hl,Nat.add_sub_cancel_left,List.drop_eq_getElem_cons h,AC,List.getElem?_append_left (by simpa[AA] using hi)]
theorem Ek {A X B:List AV} {a j:Nat} {v:AV} (hA:A.length=a) (hj:j<X.length):(A++(X++B)).set (a+j) v=A++(X.set j v++B):=by
 rw[List.set_append_right _ _ (by omega),hA,Nat.add_sub_cancel_left,List.set_append_left _ _ hj]
theorem Na {A X B:List AV} {a j:Nat} (hA:A.length=a) (hj:j<X.length):(A++(X++B))[a+j]?=X[j]?:=by
 rw[List.getElem?_append_right (by omega),hA,Nat.add_sub_cancel_left,List.getElem?_append_left hj]
theorem W6 {k:Nat} {xs:List C2} (h:k<xs.length):Gq k xs=Ac (AA true) (xs.take k)++(AA false xs[k]++Ac (AA false) (xs.drop (k+1))):=by
 unfold Gq;rw[List.drop_eq_getElem_cons h,AC]
theorem S6 {k:Nat} {xs:List C2} (h:k<xs.length):Gq (k+1) xs=Ac (AA true) (xs.take k)++(AA true xs[k]++Ac (AA false) (xs.drop (k+1))):=by
 unfold Gq;rw[List.take_succ_eq_append_getElem h,CG,AC];simp[Ac]
theorem Zh (xs:List C2):Ac (AA false) xs=Gq 0 xs:=by simp[Gq,Ac]
theorem UU {k:Nat} {xs:List C2} (h:xs.length<=k):Gq k xs=Ac (AA true) xs:=by
 unfold Gq
 rw[List.take_of_length_le h,List.drop_eq_nil_of_le h];simp[Ac]
theorem O9 (s:Ao) (hs:A4 s) (hx:BD s):Aa pg 95 [.agg (Am false s)] [] (fun r _=>r= .agg (Am true s)):=by
 have h1:=hs.1
 have h2:=hs.2.1
 refine Aa.start (fn:=Tryz.f95) [.cell 2 38] tk rfl rfl rfl (by kernel_rfl) (Nat.le_of_ble_eq_true rfl) rfl (by kernel_rfl) ?_
 rw[Ay]
 refine z2 ?_;intro K hK;refine zk ?_;clear hK K
 refine Cf ?_;intro K hK
 refine Ah.eqr (UR s.vers (by omega)) (by simp) ?_
 refine zx ?_
 refine Ah.eqr (US s.sess (by omega)) (by simp) ?_
 refine zx ?_
 refine zk ?_;clear hK K
 refine z0 ?_;intro K hK
 refine zk ?_;clear hK K
 rw[Zh s.sess]
 (repeat refine W.seq ?_);refine W.block (W.loopS (fun k:Nat=> [(1,.ptr 0 0 0),(2,.ptr 1 0 0),(15,.int .i64 s.sess.length),(16,.int .i64 k)]) (fun k=> [.live 0 [.int .i64 s.keep,.int .i64 s.blocks,.tok 2 0 8 0 s.vers.length,.tok 3 0 12 0 s.sess.length],.live 0 [.int .i64 0,.int .i64 0,.own 8 0 [],.own 12 0 []],.live 0 (Ac Ax s.vers),.live 0 (Gq k s.sess)]) (fun k=>s.sess.length-k) (fun k=>k<=s.sess.length) 0 (Wk.fr (by simp[Ad])) (by simp) ?_)
 intro k hk
 by_cases c1:k<s.sess.length
 rotate_left
 .have c1' :¬(k:Int)<(s.sess.length:Int):=by omega
  refine Af c1' ?_;intro K hK
  refine zk ?_;clear hK K
  refine zn ?_
  refine W.exit ?_
  rw[UU (by omega)]
  refine z0 ?_;intro K hK
  refine zk ?_;clear hK K
  exact zR
 have c1' :(k:Int)<(s.sess.length:Int):=by omega
 refine Af c1' ?_;intro K hK
 refine zk ?_;clear hK K
 refine zt ?_
 refine W.skip ?_
 refine zb ?_
 refine zs ?_
 refine Af c1 ?_;intro K hK
 refine zk ?_;clear hK K
 obtain⟨hsg,hsj⟩:=hx _ (List.getElem_mem c1)
 have m4:=FR c1 (i:=4) (by omega)
 have m5:=FR c1 (i:=5) (by omega)
 have m6:=FR c1 (i:=6) (by omega)
 have m7:=FR c1 (i:=7) (by omega)
 have m8:=FR c1 (i:=8) (by omega)
 have m9:=FR c1 (i:=9) (by omega)
 have m10:=FR c1 (i:=10) (by omega)
 have m11:=FR c1 (i:=11) (by omega)
 simp only[AA,List.getElem?_cons_succ,List.getElem?_cons_zero] at m4 m5 m6 m7 m8 m9 m10 m11
 refine Bu (an c1 (an m4 (an m5 (an m6 (an m7 (an m8 (an m9 (an m10 m11)))))))) ?_;intro K hK
 refine Ah.eqr (Zf s.sess[k].stage hsg) (by simp) ?_
 refine AL (an m6 (an m7 (an m8 (an m9 (an m10 m11))))) ?_
 refine Ah.eqr (Zg s.sess[k].job hsj) (by simp) ?_
 refine zx ?_
 refine⟨by rw[O8];omega,by rw[O8];omega,?_⟩
 refine zk ?_;clear hK K
 refine zs ?_
 refine⟨k+1,by omega,by omega,?_⟩
 have hA:(Ac (AA true) (s.sess.take k)).length=k*12:=by simp;omega
 have hAn:∀n,Df n (Ac (AA true) (s.sess.take k))=true:=fun n=>by simp
 have hBn:∀n,Df n (Ac (AA false) (s.sess.drop (k+1)))=true:=fun n=>by simp
 rw[W6 c1,S6 c1]
 generalize Ac (AA true) (s.sess.take k)=A at*
 generalize Ac (AA false) (s.sess.drop (k+1))=B at*
 generalize s.sess[k]=x at*
 simp only[Nat.add_assoc,Nat.reduceAdd]
 rw[Ek hA (by simp[AA]),Ek hA (by simp[AA]),Ek hA (by simp[AA]),Ek hA (by simp[AA]),Ek hA (by simp[AA]),Ek hA (by simp[AA]),Ek hA (by simp[AA]),Ek hA (by simp[AA])]
 simp only[AA,List.set_cons_succ,List.set_cons_zero]
 refine Wk.trans (Wk.fr (S:=[(1,.ptr 0 0 0),(2,.ptr 1 0 0),(15,.int .i64 s.sess.length),(16,.int .i64 ((k+1:Nat):Int))]) (by simp[Ad])) ?_
 refine Wk.trans (Wk.intern (B:=3) (v:=0) (j:=k*12+5) (T:=4) (u:=0) (s:=1) (off:=0) (n:=x.stage.out.length) (xs:=AH true x.stage.out) rfl (by rw[Na hA (by simp)];rfl) rfl (by decide) (by simp) (by simp)) ?_
 rw[Ek hA (by simp)]
 simp only[List.set_cons_succ,List.set_cons_zero]
 refine Wk.trans (Wk.intern (B:=3) (v:=0) (j:=k*12+10) (T:=5) (u:=0) (s:=1) (off:=0) (n:=x.job.list.length) (xs:=Ae x.job.list) rfl (by rw[Na hA (by simp)];rfl) rfl (by decide) (by simp) (by simp)) ?_
 rw[Ek hA (by simp)]
 simp only[List.set_cons_succ,List.set_cons_zero]
 refine Wk.trans (Wk.intern (B:=3) (v:=0) (j:=k*12+11) (T:=6) (u:=0) (s:=1) (off:=0) (n:=x.job.out.length) (xs:=Ae x.job.out) rfl (by rw[Na hA (by simp)];rfl) rfl (by decide) (by simp) (by simp)) ?_
 rw[Ek hA (by simp)]
 simp only[List.set_cons_succ,List.set_cons_zero]
 exact Wk.cutM (k:=4) (by simp[Ad]) (by simp[Ep,Gd]) (by simp[hAn,hBn]) (by simp[hAn,hBn]) (by simp[hAn,hBn]) (by simp[hAn,hBn])
def A1:Ao:=⟨0,0,[],[]⟩
def FE (id parent:Int):Bh:=⟨id,parent,0,⟨ByteArray.empty,0⟩,0,false,false⟩
def Dq (l:List Bh) (i:Nat) (o:Obj):List Bh:=match l[i]? with|some v=>l.set i {v with base:=o.base,data:=o.data} |none=>l
def JA (l:List Bh) (i:Nat) (a:Int):List Bh:=match l[i]? with|some v=>l.set i {v with at_:=a} |none=>l
def EQ (s:Ao) (o:Obj) (parent:Int):Option (List Bh×Nat):=
 if AJ (fun v=>decide (v.id=o.id)) s.vers<0 then(if o.id<=A3 s.vers\/parent<0\/o.id<=parent then none else some (s.vers++[FE o.id parent],s.vers.length))
 else some (s.vers,(AJ (fun v=>decide (v.id=o.id)) s.vers).toNat)
def Eg (s:Ao) (o:Obj) (parent:Int):Ao×Int:=match EQ s o parent with
 |none=>(A1,1)
 |some (l,i)=>
  if Dg o.data/\Et {s with vers:=Dq l i o} then
   (if (DV (Aw s) s.blocks (Ce o.data)).2=0 then({s with vers:=JA (Dq l i o) i (DV (Aw s) s.blocks (Ce o.data)).1},0) else(A1,5))
  else(A1,1)
theorem KN {α:Type} {f:α->Bool} {l:List α} (h:0<=AJ f l):(AJ f l).toNat<l.length:=by
 unfold AJ at h |-
 cases e:l.findIdx? f with
 |none=>rw[e] at h;simp at h
 |some i=>simpa using (List.findIdx?_eq_some_iff_getElem.1 e).1
theorem QM (o:Obj):∀(l:List Bh) (k:Nat) (h:k<l.length),(((Ac Ax l).set (k*8+2) (.int .i64 o.base)).set (k*8+3) (.str o.data.data)).set (k*8+3+1) (.int .i64 o.data.n)=Ac Ax (l.set k {l[k] with base:=o.base,data:=o.data})
 | [],k,h=>by simp at h
 |v::t,0,h=>by simp[AC,Ax]
 |v::t,k+1,h=>by
  have ih:=QM o t k (by simpa using h)
  have hl:(Ax v).length=8:=rfl
  rw[AC,List.set_append_right _ _ (by omega),List.set_append_right _ _ (by omega),List.set_append_right _ _ (by omega)]
  rw[show(k+1)*8+2-(Ax v).length=k*8+2 by omega,show(k+1)*8+3-(Ax v).length=k*8+3 by omega,show(k+1)*8+3+1-(Ax v).length=k*8+3+1 by omega,ih]
  simp[AC]
theorem S7 (a:Int):∀(l:List Bh) (k:Nat) (h:k<l.length),(Ac Ax l).set (k*8+5) (.int .i64 a)=Ac Ax (l.set k {l[k] with at_:=a})
 | [],k,h=>by simp at h
 |v::t,0,h=>by simp[AC,Ax]
 |v::t,k+1,h=>by
  have ih:=S7 a t k (by simpa using h)
  have hl:(Ax v).length=8:=rfl
  rw[AC,List.set_append_right _ _ (by omega),show(k+1)*8+5-(Ax v).length=k*8+5 by omega,ih]
  simp[AC]
theorem KO {l:List Bh} {i:Nat} {o:Obj} (h:i<l.length):Dq l i o=l.set i {l[i] with base:=o.base,data:=o.data}:=by
 simp[Dq,List.getElem?_eq_getElem h]
theorem Pa (l:List Bh) (i:Nat) (o:Obj):(Dq l i o).length=l.length:=by
 unfold Dq;split<;>simp
theorem S8 {l:List Bh} {i:Nat} {a:Int} (h:i<l.length):JA l i a=l.set i {l[i] with at_:=a}:=by
 simp[JA,List.getElem?_eq_getElem h]
theorem Nb (l:List Bh) (i:Nat) (a:Int):(JA l i a).length=l.length:=by
 unfold JA;split<;>simp
theorem Pb {l:List Bh} {i:Nat} {o:Obj} {n:Nat} (h:∀v∈l,v.data.data.size<n) (ho:o.data.data.size<n):∀v∈Dq l i o,v.data.data.size<n:=by
 intro v hv
 unfold Dq at hv
 split at hv
 .rcases List.mem_or_eq_of_mem_set hv with hv|hv
  .exact h v hv
  .subst hv;exact ho
 .exact h v hv
theorem Zi (hR:BK) (s:Ao) (o:Obj) (parent:Int) (hs:A4 s) (hx:BD s) (ho:o.data.data.size<1000000000) (hn:s.vers.length<999999999):Aa pg 75 [.agg (Am false s),.agg (As o),.int .i64 parent] [] (fun r _=>r= .tup [.agg (Am true (Eg s o parent).1),.int .i64 (Eg s o parent).2]):=by
 have h1:=hs.1
 have h2:=hs.2.1
 refine Aa.start (fn:=Tryz.f75) [.cell 6 38,.tmp 7] tk rfl rfl rfl (by kernel_rfl) (Nat.le_of_ble_eq_true rfl) rfl (by kernel_rfl) ?_
 rw[Bl]
 refine z3 ?_;intro K hK;refine zk ?_;clear hK K
 refine z1 ?_;intro K hK
 refine Ab.eqr (O9 s hs hx) (by simp) ?_
 refine zx ?_
 refine zk ?_;clear hK K
 refine z0 ?_;intro K hK
 refine Ab.eq (Hi s o.id hs) (by simp) (by simp) ?_
 refine zx ?_
 refine zk ?_;clear hK K
 obtain⟨q,hq⟩:∃q,q=AJ (fun v=>decide (v.id=o.id)) s.vers:=⟨_,rfl⟩
 rw[<-hq]
 have hqi:q<0\/∃h:q.toNat<s.vers.length,q=(q.toNat:Int):=by
  rcases(show q<0\/0<=q by omega) with h|h
  .exact .inl h
  .exact .inr ⟨by rw[hq] at h |-;exact KN h,by omega⟩
 refine zs ?_
 refine W.midS (fun x:Nat×List Bh×Nat=> [(2,.int .i64 parent),(3,.ptr 0 0 0),(4,.ptr 1 0 0),(6,.ptr 2 0 0),(7,.int .i64 0),(8,.ptr 3 0 0),(9,.int .i64 x.2.2)]) (fun x=> [.live 0 (Am false s),.live 0 (As o),.live 0 [.int .i64 0,.int .i64 0,.own 8 0 [],.own 12 0 []],.live 0 [.int .i64 s.keep,.int .i64 s.blocks,.tok 4 x.1 8 0 x.2.1.length,.tok 5 0 12 0 s.sess.length],.live x.1 (Ac Ax x.2.1),.live 0 (Ac (AA true) s.sess)]) (fun x=>EQ s o parent=some (x.2.1,x.2.2)/\x.2.2<x.2.1.length/\x.2.1.length<1000000000/\∀v∈x.2.1,v.data.data.size<1000000000) ?_ ?_
 .by_cases c1:q<0
  .have eV:EQ s o parent=if o.id<=A3 s.vers\/parent<0\/o.id<=parent then none else some (s.vers++[FE o.id parent],s.vers.length):=by unfold EQ;rw[<-hq,if_pos c1]
   rw[decide_eq_true c1]
   refine zt ?_
   by_cases d1:o.id<=A3 s.vers
   .rw[if_pos (.inl d1)] at eV
    refine Cf ?_;intro K hK
    refine Ah.eq (EL s hs) (by simp) (by simp) ?_
    refine AL d1 ?_
    refine zk ?_;clear hK K
    refine zt ?_
    refine z0 ?_;intro K hK
    refine zk ?_;clear hK K
    refine W.weak ((Wk.thaw (B:=2) (v:=0) (j:=2) (s:=8) (n:=0) (xs:=[]) rfl rfl).trans (Wk.thaw (B:=2) (v:=0) (j:=3) (s:=12) (n:=0) (xs:=[]) rfl rfl)) ?_
    refine zr ?_
    simp[Eg,eV,A1]
   by_cases d2:parent<0
   .rw[if_pos (.inr (.inl d2))] at eV
    refine Cf ?_;intro K hK
    refine Ah.eq (EL s hs) (by simp) (by simp) ?_
    refine AL (an d1 d2) ?_
    refine zk ?_;clear hK K
    refine zt ?_
    refine z0 ?_;intro K hK
    refine zk ?_;clear hK K
    refine W.weak ((Wk.thaw (B:=2) (v:=0) (j:=2) (s:=8) (n:=0) (xs:=[]) rfl rfl).trans (Wk.thaw (B:=2) (v:=0) (j:=3) (s:=12) (n:=0) (xs:=[]) rfl rfl)) ?_
    refine zr ?_
    simp[Eg,eV,A1]
   by_cases d3:o.id<=parent
   .rw[if_pos (.inr (.inr d3))] at eV
    refine Cf ?_;intro K hK
    refine Ah.eq (EL s hs) (by simp) (by simp) ?_
    refine AL (an d1 (an d2 d3)) ?_
    refine zk ?_;clear hK K
    refine zt ?_
    refine z0 ?_;intro K hK
    refine zk ?_;clear hK K
    refine W.weak ((Wk.thaw (B:=2) (v:=0) (j:=2) (s:=8) (n:=0) (xs:=[]) rfl rfl).trans (Wk.thaw (B:=2) (v:=0) (j:=3) (s:=12) (n:=0) (xs:=[]) rfl rfl)) ?_
    refine zr ?_
    simp[Eg,eV,A1]
   rw[if_neg (by omega)] at eV
   refine Cf ?_;intro K hK
   refine Ah.eq (EL s hs) (by simp) (by simp) ?_
   refine AL (an d1 (an d2 d3)) ?_
   refine zk ?_;clear hK K
   refine zn ?_
   refine W.skip ?_
   refine zs ?_
   refine z1 ?_;intro K hK
   refine⟨by omega,by omega,?_⟩
   refine zk ?_;clear hK K
   exact⟨(1,s.vers++[FE o.id parent],s.vers.length),⟨eV,by simp,by simp;omega,fun v hv=>by
    rcases List.mem_append.1 hv with h|h
    .exact hs.2.2 v h
    .simp at h;subst h;exact Nat.zero_lt_succ _⟩,Wk.cutM (k:=6) (by simp[Ad]) (by simp[CG,AC,Ax,FE]) (by simp) (by simp) (by simp) (by simp)⟩
  .obtain⟨h,hqn⟩:=hqi.resolve_left c1
   have eV:EQ s o parent=some (s.vers,q.toNat):=by unfold EQ;rw[<-hq,if_neg c1]
   rw[decide_eq_false c1]
   refine zn ?_
   refine W.skip ?_
   exact⟨(0,s.vers,q.toNat),⟨eV,h,h1,hs.2.2⟩,Wk.fr (by simp[Ad];omega)⟩
 rintro⟨u,l,i⟩ ⟨eV,hil,hl,hld⟩
 simp only at eV hil hl hld |-
 refine Af hil ?_;intro K hK
 refine zk ?_;clear hK K
 have b1:i*8+2<(Ac Ax l).length:=by simp;omega
 have b2:i*8+3<(Ac Ax l).length:=by simp;omega
 (repeat refine W.seq ?_);refine W.regdX 0 [(57,60),(57,56)] rfl true Ct (by kernel_rfl) fun K hK=>?_;simp -implicitDefEqProofs (maxSteps:=999999) (disch:=omega) [hil]
 refine⟨by omega,by omega,?_⟩
 (repeat refine⟨by first|assumption|omega,?_⟩);refine hK _ _ (by simp(disch:=omega)) ?_;clear hK K
 rw[QM o l i hil,<-KO hil]
 obtain⟨l1,hl1⟩:∃l1,l1=Dq l i o:=⟨_,rfl⟩
 have len1:l1.length=l.length:=by rw[hl1,Pa]
 have hl1d:∀v∈l1,v.data.data.size<1000000000:=by rw[hl1];exact Pb hld ho
 obtain⟨y,hy⟩:∃y:Ao,y={s with vers:=l1}:=⟨_,rfl⟩
 have eL:Eg s o parent=if Dg o.data/\Et y then(if (DV (Aw s) s.blocks (Ce o.data)).2=0 then({s with vers:=JA l1 i (DV (Aw s) s.blocks (Ce o.data)).1},0) else(A1,5)) else(A1,1):=by
  unfold Eg;rw[eV,hy,hl1]
 rw[<-hl1]
 have spB:=Uq o.data ho
 by_cases d4:Dg o.data
 rotate_left
 .rw[if_neg (fun h=>d4 h.1)] at eL
  rw[decide_eq_false d4] at spB
  refine z0 ?_;intro K hK
  refine Ab.eq spB (by simp) (by simp) ?_
  refine zx ?_
  refine zk ?_;clear hK K
  refine zt ?_
  refine z0 ?_;intro K hK
  refine zk ?_;clear hK K
  refine W.weak ((Wk.thaw (B:=2) (v:=0) (j:=2) (s:=8) (n:=0) (xs:=[]) rfl rfl).trans (Wk.thaw (B:=2) (v:=0) (j:=3) (s:=12) (n:=0) (xs:=[]) rfl rfl)) ?_
  refine zr ?_
  simp[eL,A1]
 rw[decide_eq_true d4] at spB
 have yv:y.vers=l1:=by rw[hy]
 have ys:y.sess=s.sess:=by rw[hy]
 have yk:y.keep=s.keep:=by rw[hy]
 have yb:y.blocks=s.blocks:=by rw[hy]
 have spM:=O1 hR y ⟨by rw[yv,len1];exact hl,by rw[ys];exact h2,by rw[yv];exact hl1d⟩ (by intro x hx';rw[ys] at hx';exact hx x hx')
 have tk1:List.take l.length l1=l1:=List.take_of_length_le (by omega)
 by_cases d5:Et y
 rotate_left
 .rw[if_neg (fun h=>d5 h.2)] at eL
  rw[decide_eq_false d5] at spM
  refine z0 ?_;intro K hK
  refine Ab.eq spB (by simp) (by simp) ?_
  refine zx ?_
  refine Ab.eq spM (by simp[yv,ys,yk,yb,len1,tk1]) (by simp) ?_
  refine zx ?_
  refine zk ?_;clear hK K
  refine zt ?_
  refine z0 ?_;intro K hK
  refine zk ?_;clear hK K
  refine W.weak ((Wk.thaw (B:=2) (v:=0) (j:=2) (s:=8) (n:=0) (xs:=[]) rfl rfl).trans (Wk.thaw (B:=2) (v:=0) (j:=3) (s:=12) (n:=0) (xs:=[]) rfl rfl)) ?_
  refine zr ?_
  simp[eL,A1]
 rw[if_pos ⟨d4,d5⟩] at eL
 rw[decide_eq_true d5] at spM
 refine z0 ?_;intro K hK
 refine Ab.eq spB (by simp) (by simp) ?_
 refine zx ?_
 refine Ab.eq spM (by simp[yv,ys,yk,yb,len1,tk1]) (by simp) ?_
 refine zx ?_
 refine zk ?_;clear hK K
 refine zn ?_
 refine W.skip ?_
 have hpl:(Aw s).length<1000000000:=by simp[Aw];omega
 obtain⟨f,hf⟩:∃f,f=DV (Aw s) s.blocks (Ce o.data):=⟨_,rfl⟩
 have spF:=Ze (Aw s) s.blocks (Ce o.data) hpl
 rw[<-hf] at spF eL
 refine Cf ?_;intro K hK
 refine Ah.eq (P7 s hs) (by simp) (by simp) ?_
 refine zx ?_
 refine Ah.eq (P5 o.data ho) (by simp) (by simp) ?_
 refine zx ?_
 refine Ah.eq spF (by simp) (by simp) ?_
 refine zx ?_
 refine zk ?_;clear hK K
 by_cases d6:f.2=0
 rotate_left
 .rw[if_neg d6] at eL
  refine Af d6 ?_;intro K hK
  refine zk ?_;clear hK K
  refine zt ?_
  refine z0 ?_;intro K hK
  refine zk ?_;clear hK K
  refine W.weak ((Wk.thaw (B:=2) (v:=0) (j:=2) (s:=8) (n:=0) (xs:=[]) rfl rfl).trans (Wk.thaw (B:=2) (v:=0) (j:=3) (s:=12) (n:=0) (xs:=[]) rfl rfl)) ?_
  refine zr ?_
  simp[eL,A1]
 rw[if_pos d6] at eL
 have hil1:i<l1.length:=by omega
 refine Af d6 ?_;intro K hK
 refine zk ?_;clear hK K
 refine zn ?_
 refine W.skip ?_
 refine Af hil1 ?_;intro K hK
 refine⟨by omega,?_⟩
 refine zk ?_;clear hK K
 rw[S7 f.1 l1 i hil1,<-S8 hil1]
 refine z0 ?_;intro K hK
 refine zk ?_;clear hK K
 refine zr ?_
 have tk2:List.take l.length (JA l1 i f.1)=JA l1 i f.1:=List.take_of_length_le (by rw[Nb];omega)
 simp[eL,Nb,len1,tk2]
def Pc (s:Ao) (o:Obj) (parent:Int):Ao×Int:=if Ba s then Eg s o parent else(A1,1)
def KP:List Bh->Int->List Bh
 | [],_=> []
 |v::t,a=>{v with at_:=a}::KP t (a+Ce v.data)
def Dp:List Bh->Int
 | []=>0
 |v::t=>Ce v.data+Dp t
theorem LA (b:Dm):1<=Ce b:=by unfold Ce;omega
@[simp] theorem S9:∀(l:List Bh) (a:Int),(KP l a).length=l.length
  | [],a=>rfl
  |v::t,a=>by simp[KP,S9 t]
def kt (l:List Bh) (a:Int):List (Int×Int):=(KP l a).map fun v=>(v.at_,Ce v.data)
theorem HW {l m:List Obj} (P:Int->Prop) (h:∀id,P id->id≠0->A6 l id=A6 m id) (hb:∀id o,P id->id≠0->A6 l id=some o->P o.base):∀(k:Nat) (id:Int),P id->AO l k id=AO m k id
 |0,_,_=>rfl
 |k+1,id,hp=>by
  simp only[AO]
  by_cases h0:id=0
  .simp[h0]
  .rw[if_neg h0,if_neg h0,<-h id hp h0]
   cases e:A6 l id with
   |none=>rfl
   |some o=>simp only;rw[HW P h hb k o.base (hb id o hp h0 e)]
theorem Ta {l m:List Obj} (P:Int->Prop) (h:∀id,P id->id≠0->A6 l id=A6 m id) (hb:∀id o,P id->id≠0->A6 l id=some o->P o.base) {id:Int} (hp:P id) (h0:id≠0):AP l id=AP m id:=by
 unfold AP AD
 rw[HW P h hb 4 id hp,HW P h hb 3 id hp,h id hp h0]
def Cj (l:List Obj) (id:Int):Prop:=∃q∈l,q.id=id
theorem DM {l:List Obj} {id:Int} {o:Obj} (h:A6 l id=some o):o∈l/\o.id=id:=⟨List.mem_of_find?_eq_some h,by simpa using List.find?_some h⟩
theorem BW {l:List Obj} {id:Int}:Cj l id↔∃o,A6 l id=some o:=by
 constructor
 .rintro⟨q,hq,e⟩
  cases h:A6 l id with
  |none=>have:=List.find?_eq_none.1 h q hq;simp[e] at this
  |some o=>exact⟨o,rfl⟩
 .rintro⟨o,h⟩
  exact⟨o,DM h⟩
def W7 (l:List Obj):Prop:=∀o∈l,o.base=0\/Cj l o.base
theorem Cb.closed {l:List Obj} (h:Cb l):W7 l:=fun o ho=>(h.2.1 o ho).2.2.2.2
theorem UV {s y:Ao} {x:C2} (hi:∀id,id∈s.vers.map (fun v=>v.id)->id∈y.vers.map fun v=>v.id) (hl:A3 s.vers<=A3 y.vers)
 (hg:∀id,id≠0->id∈s.vers.map (fun v=>v.id)->AP (Ai y) id=AP (Ai s) id) (h:AG s (Ai s) x):AG y (Ai y) x:=by
 unfold AG at h |-
 split at h
 .rw[if_pos (by assumption)];exact h
 .rename_i ho
  rw[if_neg ho]
  obtain⟨h1,h2,h3⟩:=h
  rw[It] at h1
  rw[It]
  refine⟨h1.imp id (hi _),?_,?_⟩
  .split at h2
   .rw[if_pos (by assumption)];exact⟨h2.1,by omega,h2.2.2⟩
   .rw[if_neg (by assumption)];exact h2
  .rcases h3 with h3| ⟨h3,h4,h5⟩
   .exact .inl h3
   .rw[hg _ h3 (h1.resolve_left h3)];exact .inr ⟨h3,h4,h5⟩
theorem Hq (s:Ao):(Ai s).map (fun o=>o.id)=s.vers.map fun v=>v.id:=by simp[Ai,Bt]
theorem Gs (s:Ao) (id:Int):Cj (Ai s) id↔id∈s.vers.map fun v=>v.id:=by
 rw[<-Hq];simp[Cj]
theorem RB (l:List Bh) (v:Bh):A3 (l++[v])=v.id:=by simp[A3]
theorem Tb {s y:Ao} (h:Et s) (hv:y.vers.map Bt=s.vers.map Bt) (hm:∀v∈y.vers,∃u∈s.vers,u.id=v.id/\u.parent=v.parent/\u.tag=v.tag/\u.gone=v.gone) (hl:Dh y.vers=false) (hs:y.sess=s.sess) (hk:y.keep=s.keep) (hb:1<=y.blocks/\y.blocks<=100):Et y:=by
 obtain⟨⟨a1,a2,a3,a4,a5,a6,a7⟩,b,c,d⟩:=h
 have ey:Ai y=Ai s:=hv
 have ei:y.vers.map (fun v=>v.id)=s.vers.map fun v=>v.id:=by rw[<-Hq,ey,Hq]
 refine⟨⟨by omega,by omega,hb.1,hb.2,?_,hl,by rw[ey];exact a7⟩,by rw[hs];exact b,by rw[ey];exact c,?_⟩
 .intro v hv
  obtain⟨u,hu,e1,e2,e3,e4⟩:=hm v hv
  obtain⟨k1,k2,k3⟩:=a5 u hu
  exact⟨by omega,by omega,by rw[<-e3,<-e4];exact k3⟩
 .rw[hs]
  intro x hx
  exact UV (fun id h=>by rw[ei];exact h) (by rw[L3 _ _ ei];exact Int.le_refl _) (fun id _ _=>by rw[ey]) (d x hx)
def gW (s:Ao) (n:Int):Ao:={s with blocks:=n,vers:=KP s.vers 0}
def ku (s:Ao) (v:Bh):Obj:=⟨A3 s.vers+1,v.base,v.data⟩
theorem NE:∀l m:List Bh,Dp (l++m)=Dp l+Dp m
 | [],m=>by simp[Dp]
 |v::t,m=>by simp[Dp,NE t m,Int.add_assoc]
def kv (l:List Bh) (k:Nat):List Bh:=KP (l.take k) 0++l.drop k
theorem L4 {l:List Bh} {k:Nat} (h:k<l.length):Dp (l.take (k+1))=Dp (l.take k)+Ce l[k].data:=by
 rw[List.take_succ_eq_append_getElem h,NE];simp[Dp]
def Fd (c:List Bool):Nat:=BI c*2^(8-c.length)
def Fx (m:Nat) (l:List Bool):List Nat:=(List.range m).map fun k=>Fd ((l.drop (8*k)).take 8)
def pk (l:List Bool):List Nat:=Fx ((l.length+7)/8) l
def F6 (n:Nat):AV:= .int .u8 (n:Int)
def Bz (ns:List Nat):List AV:=ns.map F6
def Eh (l:List Bool):Dm:=⟨DZ (Bz (pk l)),l.length⟩
@[simp] theorem W8 (m:Nat) (l:List Bool):(Fx m l).length=m:=by simp[Fx]
@[simp] theorem eM (ns:List Nat):(Bz ns).length=ns.length:=by simp[Bz]
theorem QN (ns:List Nat) (i n:Nat):(Bz ns).set i (.int .u8 (n:Int))=Bz (ns.set i n):=by simp[Bz,F6]
theorem UW {c:List Bool} (h:c.length<=8):Fd c<256:=by
 have h1:=GC c
 have h2:2^c.length*2^(8-c.length)=256:=by rw[<-Nat.pow_add,show c.length+(8-c.length)=8 by omega]
 unfold Fd
 have h3:0<2^(8-c.length):=Nat.pow_pos (by omega)
 exact Nat.lt_of_lt_of_eq (Nat.mul_lt_mul_of_pos_right h1 h3) h2
theorem RC (c:List Bool) (b:Bool) (h:c.length<8):Fd (c++[b])=Fd c+b.toNat*2^(7-c.length):=by
 have e:8-c.length=(7-c.length)+1:=by omega
 unfold Fd
 rw[Od,List.length_append,List.length_singleton,e,show 8-(c.length+1)=7-c.length by omega,Nat.pow_succ,Nat.add_mul]
 congr 1
 rw[Nat.mul_comm 2,Nat.mul_assoc,Nat.mul_comm 2]
theorem Tc {m:Nat} {l:List Bool} {k:Nat} (h:k<m):(Fx m l)[k]'(by simpa using h)<256:=by
 simp only[Fx,List.getElem_map,List.getElem_range]
 exact UW (by simp;omega)
theorem RD (l:List Bool) (b:Bool) (k:Nat):((l++[b]).drop (8*k)).take 8=if l.length/8=k then(l.drop (8*k)).take 8++[b] else(l.drop (8*k)).take 8:=by
 split
 .rename_i e
  rw[List.drop_append_of_le_length (by omega),List.take_append,List.length_drop]
  have:(8-(l.length-8*k))=(7-(l.length-8*k))+1:=by omega
  rw[this];simp
 .rename_i e
  by_cases h:l.length<8*k
  .rw[List.drop_eq_nil_of_le (by simp;omega),List.drop_eq_nil_of_le (by omega)]
  .rw[List.drop_append_of_le_length (by omega),List.take_append_of_le_length (by simp;omega)]
theorem UX (m:Nat) (l:List Bool) (b:Bool) (h:l.length/8<m):Fx m (l++[b])=(Fx m l).set (l.length/8) ((Fx m l)[l.length/8]'(by simpa using h)+b.toNat*2^(7-l.length%8)):=by
 refine List.ext_getElem (by simp) fun j h1 h2=>?_
 rw[List.getElem_set]
 simp only[Fx,List.getElem_map,List.getElem_range,RD]
 split
 .rename_i e
  subst e
  have hl:((l.drop (8*(l.length/8))).take 8).length=l.length%8:=by simp;omega
  rw[RC _ _ (by omega),hl]
 .rfl
theorem W9 (m:Nat) (l:List Bool) (k:Nat) (h:k<m) (hk:l.length/8=k):2^(8-l.length%8)∣(Fx m l)[k]'(by simpa using h):=by
 subst hk
 simp only[Fx,List.getElem_map,List.getElem_range]
 have hl:((l.drop (8*(l.length/8))).take 8).length=l.length%8:=by simp;omega
 unfold Fd
 rw[hl]
 exact Nat.dvd_mul_left _ _
theorem UY {m:Nat} {l:List Bool} (h:l.length<=8*m):Fx (m+1) l=Fx m l++[0]:=by
 unfold Fx
 rw[List.range_succ,List.map_append]
 congr 1
 simp only[List.map_cons,List.map_nil,List.cons.injEq,and_true]
 rw[List.drop_eq_nil_of_le (by omega)]
 rfl
theorem QO:∀y:Fin 256,IntKind.wrap .u8 ((y.val:Nat):Int)=((y.val:Nat):Int):=by decide+kernel
theorem gX {a x r:Nat} (h:2^r∣a) (hx:x<2^r) (ha:a+x<256):IntKind.wrap .u8 ((BitVec.ofInt 8 (a:Int) |||BitVec.ofInt 8 (x:Int)).toNat:Int)=((a+x:Nat):Int):=by
 obtain⟨q,rfl⟩:=h
 have e:2^r*q|||x=2^r*q+x:=(Nat.two_pow_add_eq_or_of_lt hx q).symm
 have e1:(BitVec.ofInt 8 ((2^r*q:Nat):Int)).toNat=2^r*q:=by
  rw[BitVec.ofInt_natCast,BitVec.toNat_ofNat];exact Nat.mod_eq_of_lt (by omega)
 have e2:(BitVec.ofInt 8 (x:Int)).toNat=x:=by
  rw[BitVec.ofInt_natCast,BitVec.toNat_ofNat];exact Nat.mod_eq_of_lt (by omega)
 rw[BitVec.toNat_or,e1,e2,e]
 exact QO ⟨_,ha⟩
def C4:List Int->Bool->List Bool
 | [],_=> []
 |n::l,f=>AB (if f=true then n+1 else n).toNat++C4 l false
def C0 (v:Int) (ref l:List Int):List Bool:=AB ((blocks ref l).length+1)++C4 (blocks ref l) true++AT v (Bi ref l)
def Cm (f:Int->List Int->List Bool):Int->List (List Int)->List Bool
 |_,[]=> []
 |v,l::ls=>f v l++Cm f (v+1) ls
def Cp (g:Gr):List Bool:=AB (g.n.toNat+1)++Cm AT 0 g.out
def CD (a g:Gr):List Bool:=AB (g.n.toNat+1)++Cm (fun v l=>C0 v (AF a v) l) 0 g.out
theorem L5 (f:Int->List Int->List Bool) (l:List Int):∀(ls:List (List Int)) (v:Int),Cm f v (ls++[l])=Cm f v ls++f (v+ls.length) l
 | [],v=>by simp[Cm]
 |x::ls,v=>by
  simp only[List.cons_append,Cm,L5 f l ls,List.append_assoc,List.length_cons]
  congr 3
  omega
theorem L6 (f:Int->List Int->List Bool) {ls:List (List Int)} {i:Nat} (h:i<ls.length):Cm f 0 (ls.take (i+1))=Cm f 0 (ls.take i)++f i ls[i]:=by
 rw[List.take_succ_eq_append_getElem h,L5]
 simp[Nat.min_eq_left (Nat.le_of_lt h)]
theorem L7:∀(l:List Int) (i:Nat) (f:Bool) (h:i<l.length),C4 (l.take (i+1)) f=C4 (l.take i) f++AB (if i=0/\f=true then l[i]+1 else l[i]).toNat
 | [],i,f,h=>by simp at h
 |x::t,0,f,h=>by simp[C4]
 |x::t,i+1,f,h=>by
  have ih:=L7 t i false (by simpa using h)
  simp only[List.take_succ_cons,C4,List.getElem_cons_succ] at ih |-
  rw[ih,List.append_assoc]
  simp
def Wm:Obj:=⟨0,0,⟨ByteArray.empty,0⟩⟩
def L8 (l:List Obj):Int:=match l.getLast? with|some o=>o.id+1|none=>1
def GS (l:List Obj) (base:Int) (g:Gr):Dm:=Eh (if base=0 then Cp g else CD (AP l base).1 g)
def iT (l:List Obj) (parent:Int) (g:Gr):Obj×Int:=
 if 12<=l.length\/1048576<L8 l then(Wm,2) else
 if parent=0 then(⟨L8 l,0,GS l 0 g⟩,0) else
 if (AP l parent).2≠0 then(Wm,(AP l parent).2) else
 if (AD l parent).1<3/\(CD (AP l parent).1 g).length<(Cp g).length then(⟨L8 l,parent,GS l parent g⟩,0) else(⟨L8 l,0,GS l 0 g⟩,0)
theorem GT {n:Nat} (h:n<32):(AB n).length<=9:=by
 have:=Dz n
 by_cases h0:n=0
 .subst h0;simp[AB,A9]
 .have:=(Nat.log2_lt (n:=n) (k:=5) h0).2 (by omega)
  omega
theorem Zj {n:Nat} (h:n<64):(AB n).length<=11:=by
 have:=Dz n
 by_cases h0:n=0
 .subst h0;simp[AB,A9]
 .have:=(Nat.log2_lt (n:=n) (k:=6) h0).2 (by omega)
  omega
theorem NF {v:Int} (hv:0<=v/\v<=16):∀(l:List Int) (f:Bool) (e:Int),(∀x∈l,0<=x/\x<16)->(f=false->0<=e)->(B3 v l f e).length<=9*l.length+(if f=true then 2 else 0)
 | [],f,e,_,_=>by simp[B3]
 |x::l,f,e,h,he=>by
  have hx:=h x (by simp)
  have ih:=NF hv l false x (fun y hy=>h y (by simp[hy])) (fun _=>hx.1)
  rw[B3,List.length_append]
  cases f
  .have:=GT (n:=(x-e).toNat) (by have:=he rfl;omega)
   simp at ih |-;omega
  .have:=Zj (n:=(BX (x-v)+1).toNat) (by unfold BX;split<;>omega)
   simp at ih |-;omega
theorem NG {v:Int} (hv:0<=v/\v<=16):∀(l:List (Int×Int)) (f:Bool) (e:Int),(∀x∈l,0<=x.1/\x.1<16/\0<=x.2/\x.2<=16)->(f=false->0<=e)->(BM v l f e).length<=18*l.length+(if f=true then 2 else 0)
 | [],f,e,_,_=>by simp[BM]
 | (a,n)::l,f,e,h,he=>by
   have hx:=h (a,n) (by simp)
   simp only at hx
   have ih:=NG hv l false (a+n) (fun y hy=>h y (by simp[hy])) (fun _=>by omega)
   rw[BM,List.length_append,List.length_append]
   have h2:=GT (n:=(n-3+1).toNat) (by omega)
   cases f
   .have:=GT (n:=(a-e).toNat) (by have:=he rfl;omega)
    simp at ih |-;omega
   .have:=Zj (n:=(BX (a-v)+1).toNat) (by unfold BX;split<;>omega)
    simp at ih |-;omega
theorem NH:∀(n:Nat) (l:List Int),l.length<=n->3*(An l).1.length+(An l).2.length<=l.length
 |_,[],_=>by simp[An]
 |0,x::l,h=>by simp at h
 |n+1,x::l,h=>by
  have h1:=EF x l
  have h2:=E5 (x::l)
  have h3:((x::l).drop (AU (x::l))).length=(x::l).length-AU (x::l):=by simp
  have ih:=NH n ((x::l).drop (AU (x::l))) (by omega)
  rw[An]
  split
  .simp only[List.length_cons] at*;omega
  .simp only[List.length_append,List.length_take] at*;omega
theorem Hr {v:Int} {l:List Int} (hv:0<=v/\v<=16) (hl:AI l):(AT v l).length<=166:=by
 have hll:=Bq hl
 obtain⟨p1,p2,p3,p4⟩:=D0 l.length l true 0 (Nat.le_refl _) hl.2 (.inl rfl)
 have pin:=Ho l.length l (Nat.le_refl _)
 have ps:=NH l.length l (Nat.le_refl _)
 have hpos:=KL (An l).1 true 0 p1
 have a1:=GT (n:=(An l).1.length+1) (by omega)
 have a2:=NG hv (An l).1 true 0 (fun q hq=>by
  have h1:=pin q hq
  have h2:=hl.1 _ h1.1
  obtain⟨i,hi,rfl⟩:=List.mem_iff_getElem.1 hq
  have h3:=(hpos i hi).1
  omega) (by simp)
 have a3:=GT (n:=(An l).2.length+1) (by omega)
 have a4:=NF hv (An l).2 true 0 (fun x hx=>hl.1 x (p4 x hx)) (by simp)
 unfold AT Cw
 simp only[List.length_append]
 simp at a2 a4
 omega
theorem Iu (l:List Int):∀(ref:List Int) (b:Bool) (n:Nat) (h:0<(AR l ref b n).length),n<=(AR l ref b n)[0]
 | [],b,n,h=>by simp[AR] at h
 |x::ref,b,n,h=>by
  simp only[AR] at h |-
  split at h
  .rename_i e
   simp only[if_pos e]
   have:=Iu l ref b (n+1) h
   omega
  .rename_i e
   simp only[if_neg e,List.getElem_cons_zero]
   exact Nat.le_refl _
theorem GI (l:List Int):∀(ref:List Int) (b:Bool) (n j:Nat) (h:j<(AR l ref b n).length),(AR l ref b n)[j]<=n+ref.length/\(0<j->1<=(AR l ref b n)[j])
 | [],b,n,j,h=>by simp[AR] at h
 |x::ref,b,n,j,h=>by
  simp only[AR] at h |-
  split at h
  .rename_i e
   have ih:=GI l ref b (n+1) j h
   simp only[if_pos e]
   refine⟨by have:=ih.1;simp only[List.length_cons];omega,ih.2⟩
  .rename_i e
   simp only[if_neg e]
   cases j with
   |zero=>exact⟨by simp only[List.getElem_cons_zero,List.length_cons];omega,fun h=>by omega⟩
   |succ j=>
    have ih:=GI l ref (!b) 1 j (by simpa using h)
    simp only[List.getElem_cons_succ,List.length_cons]
    refine⟨by have:=ih.1;omega,fun _=>?_⟩
    cases j with
    |zero=>exact Iu l ref (!b) 1 (by simpa using h)
    |succ j=>exact ih.2 (by omega)
theorem G9 (ref l:List Int):(blocks ref l).length<=ref.length:=by
 simp only[blocks,List.length_map];exact GH l ref true 0
theorem J2 (ref l:List Int) (j:Nat) (h:j<(blocks ref l).length):0<=(blocks ref l)[j]/\(blocks ref l)[j]<=ref.length/\(0<j->1<=(blocks ref l)[j]):=by
 have h' :j<(AR l ref true 0).length:=by simpa[blocks] using h
 have:=GI l ref true 0 j h'
 simp only[blocks,List.getElem_map]
 refine⟨by omega,by omega,fun hj=>by have:=this.2 hj;omega⟩
theorem NI:∀(l:List Int) (f:Bool),(∀x∈l,x<=30)->(C4 l f).length<=9*l.length
 | [],f,_=>by simp[C4]
 |n::l,f,h=>by
  have ih:=NI l false fun x hx=>h x (by simp[hx])
  have h1:=h n (by simp)
  have:=GT (n:=(if f=true then n+1 else n).toNat) (by split<;>omega)
  rw[C4,List.length_append,List.length_cons];omega
theorem Ha {ref l:List Int} (h:AI l):AI (Bi ref l):=⟨fun x hx=>h.1 x (List.mem_filter.1 hx).1,h.2.filter _⟩
theorem L9 {v:Int} {ref l:List Int} (hv:0<=v/\v<=16) (hr:ref.length<=16) (hl:AI l):(C0 v ref l).length<=330:=by
 have a1:=G9 ref l
 have a2:=GT (n:=(blocks ref l).length+1) (by omega)
 have a3:=NI (blocks ref l) true (fun x hx=>by
  obtain⟨i,hi,rfl⟩:=List.mem_iff_getElem.1 hx
  have:=J2 ref l i hi
  omega)
 have a4:=Hr hv (Ha (ref:=ref) hl)
 unfold C0
 simp only[List.length_append]
 omega
theorem GU {f:Int->List Int->List Bool} {c:Nat}:∀(ls:List (List Int)) (v:Int),(∀(i:Nat) (h:i<ls.length),(f (v+i) ls[i]).length<=c)->(Cm f v ls).length<=c*ls.length
 | [],v,_=>by simp[Cm]
 |l::ls,v,h=>by
  have ih:=GU (c:=c) ls (v+1) fun i hi=>by
   have:=h (i+1) (by simpa using hi)
   simp only[List.getElem_cons_succ] at this
   rw[show v+1+(i:Int)=v+((i+1:Nat):Int) by omega];exact this
  have h0:=h 0 (by simp)
  simp at h0
  rw[Cm,List.length_append,List.length_cons,Nat.mul_add];omega
theorem JB {g:Gr} (hg:A2 g):(Cp g).length<=6000:=by
 have h1:=GT (n:=g.n.toNat+1) (by have:=hg.2.1;omega)
 have h2:=GU (f:=AT) (c:=166) g.out 0 (fun i hi=>Hr ⟨by omega,by have:=hg.2.1;have:=hg.2.2.1;omega⟩ (hg.2.2.2.1 _ (List.getElem_mem hi)).1)
 have h3:=hg.2.1
 have h4:=hg.2.2.1
 unfold Cp
 rw[List.length_append]
 have:166*g.out.length<=166*16:=Nat.mul_le_mul_left _ (by omega)
 omega
theorem JC {a g:Gr} (ha:A2 a) (hg:A2 g):(CD a g).length<=6000:=by
 have h1:=GT (n:=g.n.toNat+1) (by have:=hg.2.1;omega)
 have h2:=GU (f:=fun v l=>C0 v (AF a v) l) (c:=330) g.out 0 (fun i hi=>L9 ⟨by omega,by have:=hg.2.1;have:=hg.2.2.1;omega⟩ (Cn ha _) (hg.2.2.2.1 _ (List.getElem_mem hi)).1)
 have h3:=hg.2.1
 have h4:=hg.2.2.1
 unfold CD
 rw[List.length_append]
 have:330*g.out.length<=330*16:=Nat.mul_le_mul_left _ (by omega)
 omega
theorem Zk (s:Ao) (hs:A4 s):Aa pg 27 [.agg (Am false s)] [] (fun r _=>r= .own 1 (B7 s.vers).length (Ae (B7 s.vers))):=by
 have h1:=hs.1
 refine Aa.start (fn:=Tryz.f27) [.tmp 2] tk rfl rfl rfl (by kernel_rfl) (Nat.le_of_ble_eq_true rfl) rfl (by kernel_rfl) ?_
 rw[Ay]
 refine z1 ?_;intro K hK;refine zk ?_;clear hK K
 refine zs ?_
 refine zs ?_
 (repeat refine W.seq ?_);refine W.block (W.loopS (fun x:Nat×List Int=> [(1,.ptr 0 0 0),(3,.tok 1 x.2.length 1 0 x.2.length),(4,.int .i64 x.1)]) (fun x=> [.live 0 (Am false s),.live x.2.length (Ae x.2)]) (fun x=>s.vers.length-x.1) (fun x=>x.1<=s.vers.length/\x.2=B7 (s.vers.take x.1)) (0,[]) ((Wk.nil (t:=3) (s:=1) (by simp)).trans (Wk.fr (by simp[Ad]))) (by simp[B7]) ?_)
 rintro⟨k,acc⟩ ⟨hk,hacc⟩
 simp only at hk hacc
 have hal:acc.length<=k:=by rw[hacc];exact Nat.le_trans (Id _) (by simp;omega)
 by_cases c1:k<s.vers.length
 .have hst:=MX c1
  refine Af c1 ?_;intro K hK
  refine zk ?_;clear hK K
  refine zt ?_
  refine W.skip ?_
  refine zb ?_
  cases hg:s.vers[k].gone
  .refine Af (an c1 hg) ?_;intro K hK
   refine zk ?_;clear hK K
   refine zt ?_
   (repeat refine W.seq ?_);refine W.reg 1 rfl fun K hK=>?_;simp -implicitDefEqProofs (maxSteps:=999999) (disch:=omega) [c1]
   refine⟨by omega,by omega,?_⟩
   refine zk ?_;clear hK K
   refine zs ?_
   refine⟨(k+1,acc++[s.vers[k].id]),by simp;omega,⟨by simp;omega,?_⟩,Wk.cutM (k:=2) (by simp[Ad]) ?_ (by simp) (by simp) (by simp) (by simp)⟩
   .simp only;rw[hst,hacc,hg];simp
   .simp[B1,Ae]
  .refine Af (an c1 hg) ?_;intro K hK
   refine zk ?_;clear hK K
   refine zn ?_
   refine W.skip ?_
   refine zs ?_
   refine⟨(k+1,acc),by simp;omega,⟨by simp;omega,?_⟩,Wk.cutM (k:=2) (by simp[Ad]) (by simp) (by simp) (by simp) (by simp) (by simp)⟩
   simp only;rw[hst,hacc,hg];simp
 .have:k=s.vers.length:=by omega
  subst this
  rw[List.take_length] at hacc
  subst hacc
  refine Af c1 ?_;intro K hK
  refine zk ?_;clear hK K
  refine zn ?_
  refine W.exit ?_
  refine zs ?_
  exact zR
theorem I3 (s:Ao) (id:Int) (hs:A4 s) (hm:Cb (Ai s)):Aa pg 37 [.agg (Am false s),.int .i64 id] [] (fun r _=>r= .agg (A5 true (if id=0 then AM else(AP (Ai s) id).1))):=by
 have spO:=QJ s hs
 have spR:=HU (Ai s) id hs.objs hm
 refine Aa.start (fn:=Tryz.f37) [.cell 4 51] tk rfl rfl rfl (by kernel_rfl) (Nat.le_of_ble_eq_true rfl) rfl (by kernel_rfl) ?_
 rw[At]
 refine z2 ?_;intro K hK;refine zk ?_;clear hK K
 by_cases h:id=0
 .refine Af h ?_;intro K hK
  refine zk ?_;clear hK K
  refine zt ?_
  refine zs ?_
  refine W.weak (Wk.thaw (B:=1) (v:=0) (j:=1) (s:=1) (n:=0) (xs:=[]) rfl rfl) ?_
  refine zr ?_
  simp[h,AM]
 .refine Af h ?_;intro K hK
  refine zk ?_;clear hK K
  refine zn ?_
  refine W.skip ?_
  refine z1 ?_;intro K hK
  refine Ab.eq spO (by simp) (by simp) ?_
  refine zx ?_
  refine Ab.eq spR (by simp) (by simp) ?_
  refine zx ?_
  refine zk ?_;clear hK K
  refine zs ?_
  refine zr ?_
  simp[h]
theorem Zl (b k:Int):Aa pg 43 [.int .i64 b,.int .i64 k] [] (fun r _=>r= .agg (Am true (De b k))):=by
 refine Aa.start (fn:=Tryz.f43) [.cell 4 38] tk rfl rfl rfl (by kernel_rfl) (Nat.le_of_ble_eq_true rfl) rfl (by kernel_rfl) ?_
 rw[At]
 refine z1 ?_;intro K hK;refine zk ?_;clear hK K
 refine z1 ?_;intro K hK
 refine⟨by show(3:Int)<=9223372036854775807;decide,?_⟩
 have e:CP 3 [AV.bool false,AV.int .i64 0,AV.bool false,AV.int .i64 0,AV.int .i64 0,AV.own 1 0 [],AV.int .i64 0,AV.int .i64 0,AV.int .i64 0,AV.bool false,AV.own 1 0 [],AV.own 1 0 []]=Ac (AA true) [EU,EU,EU]:=rfl
 rw[e]
 refine zk ?_;clear hK K
 refine W.weak (Wk.thaw (B:=0) (v:=0) (j:=2) (s:=8) (n:=0) (xs:=[]) (by rfl) (by rfl)) ?_
 refine zr ?_
 exact(rfl:AV.agg (Am true (De b k))=_)
theorem UZ {α:Type} (p:α->Bool) (l:List α) (k:Nat) (h:k<l.length):(l.take (k+1)).any p=((l.take k).any p||p l[k]):=by
 rw[List.take_succ_eq_append_getElem h,List.any_append];simp
theorem Xa (s:Ao) (old:Bool) (hs:A4 s) (hk0:0<=s.keep/\s.keep<=1000000):Aa pg 28 [.agg (Am false s),.bool old] [] (fun r _=>r= .own 1 (AS s (!old)).length (Ae (AS s (!old)))):=by
 have h1:=hs.1
 have h2:=hs.2.1
 have hsl:=Id s.vers
 obtain⟨m,hm⟩:∃m:Nat,max 0 (((B7 s.vers).length:Int)-s.keep)=(m:Int):=⟨_,(Int.toNat_of_nonneg (by omega)).symm⟩
 have hml:m<=(B7 s.vers).length:=by omega
 have hla:D8 s=(B7 s.vers).drop m:=by rw[D8,hm];rfl
 refine Aa.start (fn:=Tryz.f28) [.tmp 4] tk rfl rfl rfl (by kernel_rfl) (Nat.le_of_ble_eq_true rfl) rfl (by kernel_rfl) ?_
 rw[At]
 refine z1 ?_;intro K hK;refine zk ?_;clear hK K
 refine z0 ?_;intro K hK
 refine Ab.eq (Zk s hs) (by simp) (by simp) ?_
 refine zx ?_
 refine zk ?_;clear hK K
 generalize B7 s.vers=seen at*
 refine zs ?_
 (repeat refine W.seq ?_);refine W.midS (fun _:Unit=> [(1,.bool old),(2,.ptr 0 0 0),(5,.tok 1 0 1 m (seen.length-m))]) (fun _=> [.live 0 (Am false s),.live 0 (Ae seen)]) (fun _=>True) ?_ ?_
 .by_cases hlk:s.keep<(seen.length:Int)
  .have em:(seen.length:Int)-s.keep=m:=by omega
   rw[decide_eq_true hlk]
   refine zt ?_
   refine Af em ?_;intro K hK
   refine zk ?_;clear hK K
   exact⟨(),trivial,Wk.fr (by simp[Ad])⟩
  .have em:m=0:=by omega
   rw[decide_eq_false hlk]
   refine zn ?_
   refine W.skip ?_
   exact⟨(),trivial,Wk.fr (by simp[Ad,em])⟩
 rintro _ _
 refine zs ?_
 refine zs ?_
 have hdl:(seen.drop m).length=seen.length-m:=by simp
 (repeat refine W.seq ?_);refine W.block (W.loopS (fun x:Nat×List Int=> [(1,.bool old),(2,.ptr 0 0 0),(5,.tok 1 0 1 m (seen.length-m)),(6,.tok 2 x.2.length 1 0 x.2.length),(7,.int .i64 x.1)]) (fun x=> [.live 0 (Am false s),.live 0 (Ae seen),.live x.2.length (Ae x.2)]) (fun x=>s.vers.length-x.1) (fun x=>x.1<=s.vers.length/\x.2=Cz s (!old) (s.vers.take x.1)) (0,[]) ((Wk.nil (t:=6) (s:=1) (by simp)).trans (Wk.fr (by simp[Ad]))) (by simp[Cz]) ?_)
 rintro⟨k,acc⟩ ⟨hk,hacc⟩
 simp only at hk hacc
 have hal:acc.length<=k:=by rw[hacc];exact Nat.le_trans (GP _ _ _) (by simp;omega)
 by_cases c1:k<s.vers.length
 rotate_left
 .have:k=s.vers.length:=by omega
  subst this
  rw[List.take_length] at hacc
  subst hacc
  refine Af c1 ?_;intro K hK
  refine zk ?_;clear hK K
  refine zn ?_
  refine W.exit ?_
  refine zs ?_
  refine zr ?_
  exact⟨rfl,rfl⟩
 have hst:=HM (s:=s) (want:= !old) c1
 refine Af c1 ?_;intro K hK
 refine zk ?_;clear hK K
 refine zt ?_
 refine W.skip ?_
 refine zb ?_
 (repeat refine W.seq ?_);refine W.reg 1 rfl fun K hK=>?_;simp -implicitDefEqProofs (maxSteps:=999999) (disch:=omega) [c1]
 refine zk ?_;clear hK K
 obtain⟨v,hv⟩:∃v,v=s.vers[k]:=⟨_,rfl⟩
 rw[<-hv] at hst |-
 have hkb:C8 s v=(v.tag|| (seen.drop m).contains v.id||pinned s v.id):=by rw[C8,hla]
 (repeat refine W.seq ?_);refine W.midS (fun _:Unit=> [(1,.bool old),(2,.ptr 0 0 0),(5,.tok 1 0 1 m (seen.length-m)),(6,.tok 2 acc.length 1 0 acc.length),(7,.int .i64 k),(8,.ptr 3 0 0),(9,.bool (v.tag|| (seen.drop m).contains v.id))]) (fun _=> [.live 0 (Am false s),.live 0 (Ae seen),.live acc.length (Ae acc),.live 0 (Ax v)]) (fun _=>True) ?_ ?_
 .cases ht:v.tag
  .have spI:=SI (seen.drop m) v.id (by simp;omega)
   have hc:=IY (seen.drop m) v.id
   refine Af ht ?_;intro K hK
   refine Ab.eq spI (by simp(disch:=omega);rw[List.take_of_length_le (by simp)]) (by simp) ?_
   cases e:(seen.drop m).contains v.id
   .rw[e] at hc
    have hn:¬0<=AJ (fun y=>decide (y=v.id)) (seen.drop m):=by rw[hc];simp
    refine AL hn ?_
    refine zk ?_;clear hK K
    have e2:¬v.id∈seen.drop m:=by simpa using e
    exact⟨(),trivial,Wk.cutM (k:=4) (by simp[Ad,e2]) (by simp[ht]) (by simp) (by simp) (by simp) (by simp)⟩
   .rw[e] at hc
    have hn:0<=AJ (fun y=>decide (y=v.id)) (seen.drop m):=by rw[hc]
    refine AL hn ?_
    refine zk ?_;clear hK K
    have e2:v.id∈seen.drop m:=by simpa using e
    exact⟨(),trivial,Wk.cutM (k:=4) (by simp[Ad,e2]) (by simp[ht]) (by simp) (by simp) (by simp) (by simp)⟩
  .refine Af ht ?_;intro K hK
   refine zk ?_;clear hK K
   exact⟨(),trivial,Wk.cutM (k:=4) (by simp[Ad]) (by simp[ht]) (by simp) (by simp) (by simp) (by simp)⟩
 rintro _ _
 obtain⟨b,hb⟩:∃b,b=(v.tag|| (seen.drop m).contains v.id):=⟨_,rfl⟩
 rw[<-hb] at hkb |-
 refine zs ?_
 (repeat refine W.seq ?_);refine W.block (W.loopS (fun x:Nat=> [(1,.bool old),(2,.ptr 0 0 0),(5,.tok 1 0 1 m (seen.length-m)),(6,.tok 2 acc.length 1 0 acc.length),(7,.int .i64 k),(8,.ptr 3 0 0),(9,.bool (b|| (s.sess.take x).any fun y=>decide (y.pin=v.id))),(10,.int .i64 x)]) (fun _=> [.live 0 (Am false s),.live 0 (Ae seen),.live acc.length (Ae acc),.live 0 (Ax v)]) (fun x=>s.sess.length-x) (fun x=>x<=s.sess.length) 0 (Wk.fr (by simp[Ad])) (by simp) ?_)
 intro x hx
 by_cases g1:x<s.sess.length
 .have hany:=UZ (fun y:C2=>decide (y.pin=v.id)) s.sess x g1
  refine Af g1 ?_;intro K hK
  refine zk ?_;clear hK K
  refine zt ?_
  refine W.skip ?_
  obtain⟨c,hc⟩:∃c,c=(b|| (s.sess.take x).any fun y=>decide (y.pin=v.id)):=⟨_,rfl⟩
  have hn:(b|| (s.sess.take (x+1)).any fun y=>decide (y.pin=v.id))=(c||decide (s.sess[x].pin=v.id)):=by rw[hany,hc,Bool.or_assoc]
  rw[<-hc]
  have l1:(Ac (AA false) s.sess)[x*12+1]?=some (.int .i64 s.sess[x].pin):=A7 (f:=AA false) (s:=12) (fun _=>rfl) g1 (i:=1) (by omega)
  refine zb ?_
  cases c
  .refine Bu (an g1 l1) ?_;intro K hK
   refine zk ?_;clear hK K
   refine zs ?_
   exact⟨x+1,by omega,by omega,Wk.fr (by simp[Ad,hn])⟩
  .refine Bu (an g1 l1) ?_;intro K hK
   refine zk ?_;clear hK K
   refine zs ?_
   exact⟨x+1,by omega,by omega,Wk.fr (by simp[Ad,hn])⟩
 have hxe:x=s.sess.length:=by omega
 subst hxe
 have hp:(b|| (List.take s.sess.length s.sess).any fun y=>decide (y.pin=v.id))=C8 s v:=by rw[List.take_length,hkb];rfl
 rw[hp]
 refine Af g1 ?_;intro K hK
 refine zk ?_;clear hK K
 refine zn ?_
 refine W.exit ?_
 obtain⟨kb,hkb'⟩:∃kb,kb=C8 s v:=⟨_,rfl⟩
 rw[<-hkb'] at hst |-
 by_cases e:kb=old
 .have e' :(kb== !old)=false:=by rw[e];cases old<;>rfl
  rw[e'] at hst
  refine Af e ?_;intro K hK
  refine zk ?_;clear hK K
  refine zn ?_
  refine W.skip ?_
  refine zs ?_
  refine⟨(k+1,acc),by simp;omega,⟨by simp;omega,?_⟩,Wk.cutM (k:=3) (by simp[Ad]) (by simp) (by simp) (by simp) (by simp) (by simp)⟩
  simp only;rw[hst,hacc];simp
 .have e' :(kb== !old)=true:=by cases kb<;>cases old<;>simp at e |-
  rw[e'] at hst
  refine Af e ?_;intro K hK
  refine zk ?_;clear hK K
  refine zt ?_
  refine z1 ?_;intro K hK
  refine⟨by omega,by omega,?_⟩
  refine zk ?_;clear hK K
  refine zs ?_
  refine⟨(k+1,acc++[v.id]),by simp;omega,⟨by simp;omega,?_⟩,Wk.cutM (k:=3) (by simp[Ad]) ?_ (by simp) (by simp) (by simp) (by simp)⟩
  .simp only;rw[hst,hacc];simp
  .simp[B1,Ae]
section
variable (xs ys:List Nat) (M:List Ag) (k:Nat)
@[simp] theorem eN (i:Nat):(Bz xs)[i]?=(xs[i]?).map F6:=by simp[Bz,F6]
@[simp] theorem eO:Bz []=[]:=rfl
@[simp] theorem cJ:(Bz xs).take k=Bz (xs.take k):=by simp[Bz,F6,List.map_take]
@[simp] theorem cK:(Bz xs).drop k=Bz (xs.drop k):=by simp[Bz,F6,List.map_drop]
@[simp] theorem gY:ES (Bz xs)=true:=by simp[Bz,F6,ES,-ID]
@[simp] theorem gZ:ET (Bz xs)=true:=by simp[Bz,F6,ET,-Kq]
@[simp] theorem g9:DW (Bz xs)=true:=by simp[Bz,F6,DW,-IE]
@[simp] theorem hG:Df k (Bz xs)=true:=by induction xs<;>simp_all[Bz,F6]
@[simp] theorem eP:C1 (Bz xs)=true:=by induction xs<;>simp_all[Bz,F6]
@[simp] theorem eQ:ER (Bz xs)=Bz xs:=by induction xs<;>simp_all[Bz,F6]
@[simp] theorem eR:(Bz xs).map En=Bz xs:=by simp[Bz,F6]
@[simp] theorem eS:(Bz xs).map (CE M k)=Bz xs:=by cases k<;>simp[Bz,F6]
@[simp] theorem hO:(Bz xs).all Qz=true:=by simp[Bz,F6,Qz]
end
theorem QP {a x r:Nat} (h:2^r∣a) (hx:x<2^r) (ha:a+x<256):CM .or (.int .u8 (a:Int)) (.int .u8 (x:Int))=some (.int .u8 ((a+x:Nat):Int)):=
 (TZ _ _ _).trans (congrArg (fun z:Int=>some (AV.int .u8 z)) (gX h hx ha))
def Ck (l:List Bool):List AV:=[.own 1 (pk l).length (Bz (pk l)),.int .i64 l.length]
@[simp] theorem cL (l:List Bool):(Ck l).length=2:=rfl
@[simp] theorem eU (l:List Bool):DW (Ck l)=true:=by simp[Ck]
@[simp] theorem eW (k:Nat) (l:List Bool):Df k (Ck l)=true:=by simp[Ck]
@[simp] theorem cN (l:List Bool):C1 (Ck l)=true:=by simp[Ck]
theorem Ma (l:List Bool):(pk l).length=(l.length+7)/8:=by simp[pk]
set_option maxHeartbeats 2000000 in
theorem Pd (l:List Bool) (v w:Nat) (hl:l.length<100000000) (hw:w<=60) (hv:v<1099511627776):Aa pg 231 [.ptr 0 0 0,.int .i64 v,.int .i64 w] [.live 0 (Ck l)] (fun r M=>r= .tup []/\M=[.live 0 (Ck (l++A9 v w))]):=by
 refine Aa.start (fn:=Tryz.f231) [] tk rfl rfl rfl (by kernel_rfl) (Nat.le_of_ble_eq_true rfl) rfl (by kernel_rfl) ?_
 rw[Bl]
 refine zs ?_
 rw[show Ck l=Ck (l++(A9 v w).take 0) by simp]
 (repeat refine W.seq ?_);refine W.block (W.loopS (fun k:Nat=> [(0,.ptr 0 0 0),(1,.int .i64 v),(6,.int .i64 ((w:Int)-1-k))]) (fun k=> [.live 0 (Ck (l++(A9 v w).take k))]) (fun k=>w-k) (fun k=>k<=w) 0 (Wk.fr (by simp[Ad])) (by simp) ?_)
 intro k hk
 by_cases hlt:k<w
 rotate_left
 .have hk' :k=w:=by omega
  subst hk'
  have e:((k:Int)-1-k)=-1:=by omega
  have e2:(A9 v k).take k=A9 v k:=List.take_of_length_le (by simp)
  rw[e,e2]
  refine zs ?_
  refine zn ?_
  refine W.exit ?_
  (try simp only[Cq,Cr,Dj,Dk,if_true]);refine Fs (d:=0) ?_;simp -implicitDefEqProofs (maxSteps:=999999) (disch:=omega)
 obtain⟨i,hi⟩:∃i:Nat,(w:Int)-1-k=i:=⟨w-1-k,by omega⟩
 have hmin:min i 64=i:=by omega
 obtain⟨x,hx⟩:∃x,x=l++(A9 v w).take k:=⟨_,rfl⟩
 obtain⟨n,hn⟩:∃n,n=x.length:=⟨_,rfl⟩
 have hnl:n<=l.length+60:=by rw[hn,hx];simp;omega
 obtain⟨q,hq⟩:∃q,q=n/8:=⟨_,rfl⟩
 obtain⟨r,hr⟩:∃r,r=n%8:=⟨_,rfl⟩
 obtain⟨s,hs⟩:∃s,s=7-r:=⟨_,rfl⟩
 have e1:(n:Int)/8=(q:Int):=by omega
 have e2:(n:Int)%8=(r:Int):=by omega
 have e3:(7:Int)-(r:Int)=(s:Int):=by omega
 obtain⟨Q,hQd⟩:∃Q,Q=v/2^i:=⟨_,rfl⟩
 have hQ:(v:Int)/2^i=(Q:Int):=by rw[hQd,Int.natCast_ediv,Int.natCast_pow];rfl
 have hQv:Q<=v:=by rw[hQd];exact Nat.div_le_self _ _
 have hand:=Jo (Q:Int) (by omega) (by omega)
 obtain⟨b,hb⟩:∃b,b=decide (Q%2=1):=⟨_,rfl⟩
 have hto:l++(A9 v w).take (k+1)=x++[b]:=by
  rw[hx,List.append_assoc,List.take_add_one,List.getElem?_eq_getElem (by simpa using hlt)]
  have:(A9 v w)[k]'(by simpa using hlt)=b:=by
   simp only[A9,List.getElem_map,List.getElem_range]
   rw[hb,hQd,show w-1-k=i by omega]
  rw[this];rfl
 rw[hi,<-hx]
 have hcr:Ck x=[.own 1 (pk x).length (Bz (pk x)),.int .i64 n]:=by rw[hn];rfl
 rw[hcr]
 refine zs ?_
 refine zt ?_
 refine W.skip ?_
 refine zb ?_
 have hpl:=Ma x
 refine W.weak (Wk.thaw (B:=0) (v:=0) (j:=0) (s:=1) (n:=(pk x).length) (xs:=Bz (pk x)) (by rfl) (by rfl)) ?_
 (repeat refine W.seq ?_);refine W.midS (fun b:Bool=> [(0,.ptr 0 0 0),(1,.int .i64 v),(6,.int .i64 i),(18,.bool b)]) (fun _=> [.live 0 [.tok 1 0 1 0 (pk x).length,.int .i64 n],.live 0 (Bz (pk x))]) (fun b=>b=true↔r=0) ?_ ?_
 .refine Af e2 ?_;intro K hK
  refine zk ?_;clear hK K
  exact⟨decide (r=0),by simp,Wk.fr (by simp[Ad])⟩
 rintro b0 hb0
 (repeat refine W.seq ?_);refine W.midS (fun u:Nat=> [(0,.ptr 0 0 0),(1,.int .i64 v),(6,.int .i64 i)]) (fun u=> [.live 0 [.tok 1 u 1 0 (q+1),.int .i64 n],.live u (Bz (Fx (q+1) x))]) (fun _=>True) ?_ ?_
 .cases b0
  .have c:¬r=0:=fun h=>by have:=hb0.2 h;simp at this
   have em:(pk x).length=q+1:=by omega
   have ep:pk x=Fx (q+1) x:=by rw[pk,show(x.length+7)/8=q+1 by omega]
   rw[em,ep]
   refine zn ?_
   refine W.skip ?_
   exact⟨0,trivial,Wk.fr (by simp[Ad])⟩
  .have c:r=0:=hb0.1 rfl
   have em:(pk x).length=q:=by omega
   have ep:Bz (pk x)++[AV.int .u8 0]=Bz (Fx (q+1) x):=by
    rw[UY (by omega)]
    simp only[Bz,List.map_append,List.map_cons,List.map_nil]
    rw[pk,show(x.length+7)/8=q by omega];rfl
   refine zt ?_
   refine z1 ?_;intro K hK
   refine⟨by omega,by omega,?_⟩
   refine zk ?_;clear hK K
   rw[ep,em]
   exact⟨1,trivial,Wk.cutM (k:=2) (by simp[Ad]) (by simp) (by simp) (by simp) (by simp) (by simp)⟩
 rintro u _
 have hsn:=UX (q+1) x b (by omega)
 have hdv:=W9 (q+1) x q (by omega) (by omega)
 obtain⟨P,hP⟩:∃P,P=Fx (q+1) x:=⟨_,rfl⟩
 have hPl:P.length=q+1:=by rw[hP,W8]
 have hqP:q<P.length:=by omega
 simp only[<-hn,<-hP,<-hq,<-hr] at hsn
 rw[<-hn,<-hr] at hdv
 simp only[<-hP] at hdv
 rw[<-hP]
 have hPlt:P[q]<256:=by subst hP;exact Tc (by omega)
 have hu:P[q]?=some P[q]:=List.getElem?_eq_getElem hqP
 have hpk:Fx (q+1) (x++[b])=pk (x++[b]):=by rw[pk];congr 1;simp;omega
 have hend:[AV.own 1 (q+1) (Bz (pk (x++[b]))),AV.int .i64 ((n:Int)+1)]=Ck (x++[b]):=by
  unfold Ck
  rw[Ma];simp;omega
 have hpl2:(pk (x++[b])).length=q+1:=by rw[Ma];simp;omega
 have htk:List.take (q+1) (pk (x++[b]))=pk (x++[b]):=List.take_of_length_le (by omega)
 have hqq:q<q+1:=by omega
 by_cases hbq:Q%2=1
 .obtain⟨z,hz⟩:∃z:Nat,z=2^s:=⟨_,rfl⟩
  have hz1:(2:Int)^s=(z:Int):=by rw[hz];simp
  have hzl:z<2^(8-r):=by rw[hz];exact Nat.pow_lt_pow_right (by omega) (by omega)
  have hz8:z<=128:=by rw[hz];exact Nat.pow_le_pow_right (by omega) (show s<=7 by omega)
  have hsum:P[q]+z<256:=by
   have h1:P[q]<=256-2^(8-r):=by
    obtain⟨c,hc⟩:=hdv
    have hb2:2^(8-r)*2^r=256:=by rw[<-Nat.pow_add,show 8-r+r=8 by omega]
    have hlt2:2^(8-r)*c<2^(8-r)*2^r:=by rw[<-hc,hb2];exact hPlt
    have:=Nat.lt_of_mul_lt_mul_left hlt2
    have h3:2^(8-r)*(c+1)<=2^(8-r)*2^r:=Nat.mul_le_mul_left _ this
    rw[Nat.mul_add] at h3
    omega
   have:2^(8-r)<=256:=Nat.pow_le_pow_right (by omega) (show 8-r<=8 by omega)
   omega
  obtain⟨y,hy⟩:∃y,y=P[q]+z:=⟨_,rfl⟩
  have ew:IntKind.wrap .u8 (z:Int)=(z:Int):=QO ⟨z,by omega⟩
  have hw8:IntKind.u8.wrap ((Q:Int)%2)=1:=by rw[show(Q:Int)%2=1 by omega];rfl
  have eo:CM .or (.int .u8 (P[q]:Int)) (.int .u8 (z:Int))=some (.int .u8 (y:Int)):=by rw[hy];exact QP hdv hzl hsum
  have hyn:P[q]+b.toNat*2^(7-r)=y:=by rw[hb,decide_eq_true hbq,hy,hz,hs];simp
  rw[hyn,hpk] at hsn
  (repeat refine W.seq ?_);refine W.regd 0 rfl true Ct (by kernel_rfl) fun K hK=>?_;simp -implicitDefEqProofs (maxSteps:=999999) (disch:=omega) [hmin,hQ,hand,hw8,e1,e2,e3,hqq,hqP,hPl,hu,F6,hz1,ew,eo]
  refine⟨by omega,?_⟩
  refine zk ?_;clear hK K
  rw[QN,<-hsn]
  refine z0 ?_;intro K hK
  refine zk ?_;clear hK K
  refine W.weak (Wk.intern (B:=0) (v:=0) (j:=0) (T:=1) (u:=u) (s:=1) (off:=0) (n:=q+1) (xs:=Bz (pk (x++[b]))) (by rfl) (by simp[Aj]) (by simp[hpl2]) (by simp[hpl2]) (by simp[hpl2]) (by simp[hpl2])) ?_
  refine zs ?_
  exact⟨k+1,by omega,by omega,Wk.cutM (k:=1) (by simp[Ad];omega) (by simp[hto,<-hend,htk]) (by simp) (by simp) (by simp) (by simp)⟩
 .have hw8:IntKind.u8.wrap ((Q:Int)%2)=0:=by rw[show(Q:Int)%2=0 by omega];rfl
  have ew:IntKind.wrap .u8 0=0:=by decide
  have eo:CM .or (.int .u8 (P[q]:Int)) (.int .u8 0)=some (.int .u8 (P[q]:Int)):=QP (x:=0) hdv (Nat.pow_pos (by omega)) (by omega)
  have hyn:P[q]+b.toNat*2^(7-r)=P[q]:=by rw[hb,decide_eq_false hbq];simp
  rw[hyn,hpk] at hsn
  (repeat refine W.seq ?_);refine W.regd 0 rfl true Ct (by kernel_rfl) fun K hK=>?_;simp -implicitDefEqProofs (maxSteps:=999999) (disch:=omega) [hmin,hQ,hand,hw8,e1,e2,e3,hqq,hqP,hPl,hu,F6,ew,eo]
  refine⟨by omega,?_⟩
  refine zk ?_;clear hK K
  rw[QN,<-hsn]
  refine z0 ?_;intro K hK
  refine zk ?_;clear hK K
  refine W.weak (Wk.intern (B:=0) (v:=0) (j:=0) (T:=1) (u:=u) (s:=1) (off:=0) (n:=q+1) (xs:=Bz (pk (x++[b]))) (by rfl) (by simp[Aj]) (by simp[hpl2]) (by simp[hpl2]) (by simp[hpl2]) (by simp[hpl2])) ?_
  refine zs ?_
  exact⟨k+1,by omega,by omega,Wk.cutM (k:=1) (by simp[Ad];omega) (by simp[hto,<-hend,htk]) (by simp) (by simp) (by simp) (by simp)⟩
end Go.Abs
