/- A job, and a state, of one's own. -/
import Derived.Test.YtoklapibcmnaeaaGreatP13
set_option linter.unusedVariables false
set_option linter.unusedSimpArgs false
set_option maxRecDepth 100000
namespace Go.Abs
open Go.Proofs
theorem ZJ (j:Cu) (h:j.list.length<1000000000/\j.out.length<1000000000):Aa pg 137 [.agg (B4 false j)] [] (fun r _=>r= .agg (B4 true j)):=by
 obtain⟨h1,h2⟩:=h
 refine Aa.start (fn:=Tryz.f137) [.cell 2 53] tk rfl rfl rfl (by kernel_rfl) (Nat.le_of_ble_eq_true rfl) rfl (by kernel_rfl) ?_
 rw[Ay]
 refine z2 ?_;intro K hK;refine zk ?_;clear hK K
 refine Cm ?_;intro K hK
 refine Ah.eqr (Hh j.list (by omega)) (by simp) ?_
 refine zx ?_
 refine Ah.eqr (Hh j.out (by omega)) (by simp) ?_
 refine zx ?_
 refine zk ?_;clear hK K
 refine z0 ?_;intro K hK
 refine zk ?_;clear hK K
 exact zR
def Gs (k:Nat) (xs:List CZ):List AV:=Ac (Az true) (xs.take k)++Ac (Az false) (xs.drop k)
theorem Pa (k:Nat) (xs:List CZ):(Gs k xs).length=xs.length*12:=by
 unfold Gs;rw[List.length_append,PZ,PZ,<-Nat.add_mul,List.length_take,List.length_drop];congr 1;omega
theorem FU {k i:Nat} {xs:List CZ} (h:k<xs.length) (hi:i<12):(Gs k xs)[k*12+i]?=(Az false xs[k])[i]?:=by
 have hl:(Ac (Az true) (xs.take k)).length=k*12:=by simp;omega
 unfold Gs
 rw[List.getElem?_append_right (by omega),hl,Nat.add_sub_cancel_left,List.drop_eq_getElem_cons h,Ax,List.getElem?_append_left (by simpa[Az] using hi)]
theorem Eo {A X B:List AV} {a j:Nat} {v:AV} (hA:A.length=a) (hj:j<X.length):(A++(X++B)).set (a+j) v=A++(X.set j v++B):=by
 rw[List.set_append_right _ _ (by omega),hA,Nat.add_sub_cancel_left,List.set_append_left _ _ hj]
theorem M9 {A X B:List AV} {a j:Nat} (hA:A.length=a) (hj:j<X.length):(A++(X++B))[a+j]?=X[j]?:=by
 rw[List.getElem?_append_right (by omega),hA,Nat.add_sub_cancel_left,List.getElem?_append_left hj]
theorem Xx {k:Nat} {xs:List CZ} (h:k<xs.length):Gs k xs=Ac (Az true) (xs.take k)++(Az false xs[k]++Ac (Az false) (xs.drop (k+1))):=by
 unfold Gs;rw[List.drop_eq_getElem_cons h,Ax]
theorem Tm {k:Nat} {xs:List CZ} (h:k<xs.length):Gs (k+1) xs=Ac (Az true) (xs.take k)++(Az true xs[k]++Ac (Az false) (xs.drop (k+1))):=by
 unfold Gs;rw[List.take_succ_eq_append_getElem h,Ck,Ax];simp[Ac]
theorem ZK (xs:List CZ):Ac (Az false) xs=Gs 0 xs:=by simp[Gs,Ac]
theorem Vi {k:Nat} {xs:List CZ} (h:xs.length<=k):Gs k xs=Ac (Az true) xs:=by
 unfold Gs
 rw[List.take_of_length_le h,List.drop_eq_nil_of_le h];simp[Ac]
theorem Pb (s:An) (hs:AS s) (hx:Br s):Aa pg 95 [.agg (Ao false s)] [] (fun r _=>r= .agg (Ao true s)):=by
 have h1:=hs.1
 have h2:=hs.2.1
 refine Aa.start (fn:=Tryz.f95) [.cell 2 38] tk rfl rfl rfl (by kernel_rfl) (Nat.le_of_ble_eq_true rfl) rfl (by kernel_rfl) ?_
 rw[Ay]
 refine z2 ?_;intro K hK;refine zk ?_;clear hK K
 refine Cm ?_;intro K hK
 refine Ah.eqr (Vf s.vers (by omega)) (by simp) ?_
 refine zx ?_
 refine Ah.eqr (Vg s.sess (by omega)) (by simp) ?_
 refine zx ?_
 refine zk ?_;clear hK K
 refine z0 ?_;intro K hK
 refine zk ?_;clear hK K
 rw[ZK s.sess]
 (repeat refine W.seq ?_);refine W.block (W.loopS (fun k:Nat=> [(1,.ptr 0 0 0),(2,.ptr 1 0 0),(15,.int .i64 s.sess.length),(16,.int .i64 k)]) (fun k=> [.live 0 [.int .i64 s.keep,.int .i64 s.blocks,.tok 2 0 8 0 s.vers.length,.tok 3 0 12 0 s.sess.length],.live 0 [.int .i64 0,.int .i64 0,.own 8 0 [],.own 12 0 []],.live 0 (Ac Au s.vers),.live 0 (Gs k s.sess)]) (fun k=>s.sess.length-k) (fun k=>k<=s.sess.length) 0 (Wk.fr (by simp[Ad])) (by simp) ?_)
 intro k hk
 by_cases c1:k<s.sess.length
 rotate_left
 .have c1' :¬(k:Int)<(s.sess.length:Int):=by omega
  refine Af c1' ?_;intro K hK
  refine zk ?_;clear hK K
  refine zn ?_
  refine W.exit ?_
  rw[Vi (by omega)]
  refine z0 ?_;intro K hK
  refine zk ?_;clear hK K
  exact zR
 have c1' :(k:Int)<(s.sess.length:Int):=by omega
 refine Af c1' ?_;intro K hK
 refine zk ?_;clear hK K
 refine zt ?_
 refine W.skip ?_
 refine zb ?_
 refine zs ?_
 refine Af c1 ?_;intro K hK
 refine zk ?_;clear hK K
 obtain⟨hsg,hsj⟩:=hx _ (List.getElem_mem c1)
 have m4:=FU c1 (i:=4) (by omega)
 have m5:=FU c1 (i:=5) (by omega)
 have m6:=FU c1 (i:=6) (by omega)
 have m7:=FU c1 (i:=7) (by omega)
 have m8:=FU c1 (i:=8) (by omega)
 have m9:=FU c1 (i:=9) (by omega)
 have m10:=FU c1 (i:=10) (by omega)
 have m11:=FU c1 (i:=11) (by omega)
 simp only[Az,List.getElem?_cons_succ,List.getElem?_cons_zero] at m4 m5 m6 m7 m8 m9 m10 m11
 refine Bx (an c1 (an m4 (an m5 (an m6 (an m7 (an m8 (an m9 (an m10 m11)))))))) ?_;intro K hK
 refine Ah.eqr (ZI s.sess[k].stage hsg) (by simp) ?_
 refine AX (an m6 (an m7 (an m8 (an m9 (an m10 m11))))) ?_
 refine Ah.eqr (ZJ s.sess[k].job hsj) (by simp) ?_
 refine zx ?_
 refine⟨by rw[Pa];omega,by rw[Pa];omega,?_⟩
 refine zk ?_;clear hK K
 refine zs ?_
 refine⟨k+1,by omega,by omega,?_⟩
 have hA:(Ac (Az true) (s.sess.take k)).length=k*12:=by simp;omega
 have hAn:∀n,Dg n (Ac (Az true) (s.sess.take k))=true:=fun n=>by simp
 have hBn:∀n,Dg n (Ac (Az false) (s.sess.drop (k+1)))=true:=fun n=>by simp
 rw[Xx c1,Tm c1]
 generalize Ac (Az true) (s.sess.take k)=A at*
 generalize Ac (Az false) (s.sess.drop (k+1))=B at*
 generalize s.sess[k]=x at*
 simp only[Nat.add_assoc,Nat.reduceAdd]
 rw[Eo hA (by simp[Az]),Eo hA (by simp[Az]),Eo hA (by simp[Az]),Eo hA (by simp[Az]),Eo hA (by simp[Az]),Eo hA (by simp[Az]),Eo hA (by simp[Az]),Eo hA (by simp[Az])]
 simp only[Az,List.set_cons_succ,List.set_cons_zero]
 refine Wk.trans (Wk.fr (S:=[(1,.ptr 0 0 0),(2,.ptr 1 0 0),(15,.int .i64 s.sess.length),(16,.int .i64 ((k+1:Nat):Int))]) (by simp[Ad])) ?_
 refine Wk.trans (Wk.intern (B:=3) (v:=0) (j:=k*12+5) (T:=4) (u:=0) (s:=1) (off:=0) (n:=x.stage.out.length) (xs:=AA true x.stage.out) rfl (by rw[M9 hA (by simp)];rfl) rfl (by decide) (by simp) (by simp)) ?_
 rw[Eo hA (by simp)]
 simp only[List.set_cons_succ,List.set_cons_zero]
 refine Wk.trans (Wk.intern (B:=3) (v:=0) (j:=k*12+10) (T:=5) (u:=0) (s:=1) (off:=0) (n:=x.job.list.length) (xs:=Ae x.job.list) rfl (by rw[M9 hA (by simp)];rfl) rfl (by decide) (by simp) (by simp)) ?_
 rw[Eo hA (by simp)]
 simp only[List.set_cons_succ,List.set_cons_zero]
 refine Wk.trans (Wk.intern (B:=3) (v:=0) (j:=k*12+11) (T:=6) (u:=0) (s:=1) (off:=0) (n:=x.job.out.length) (xs:=Ae x.job.out) rfl (by rw[M9 hA (by simp)];rfl) rfl (by decide) (by simp) (by simp)) ?_
 rw[Eo hA (by simp)]
 simp only[List.set_cons_succ,List.set_cons_zero]
 exact Wk.cutM (k:=4) (by simp[Ad]) (by simp[Ev,Gg]) (by simp[hAn,hBn]) (by simp[hAn,hBn]) (by simp[hAn,hBn]) (by simp[hAn,hBn])
def A6:An:=⟨0,0,[],[]⟩
def FH (id parent:Int):AM:=⟨id,parent,0,⟨ByteArray.empty,0⟩,0,false,false⟩
def Dq (l:List AM) (i:Nat) (o:Obj):List AM:=match l[i]? with|some v=>l.set i {v with base:=o.base,data:=o.data} |none=>l
def Jw (l:List AM) (i:Nat) (a:Int):List AM:=match l[i]? with|some v=>l.set i {v with at_:=a} |none=>l
def EW (s:An) (o:Obj) (parent:Int):Option (List AM×Nat):=
 if AL (fun v=>decide (v.id=o.id)) s.vers<0 then(if o.id<=AN s.vers\/parent<0\/o.id<=parent then none else some (s.vers++[FH o.id parent],s.vers.length))
 else some (s.vers,(AL (fun v=>decide (v.id=o.id)) s.vers).toNat)
def Ej (s:An) (o:Obj) (parent:Int):An×Int:=match EW s o parent with
 |none=>(A6,1)
 |some (l,i)=>
  if Di o.data/\Ey {s with vers:=Dq l i o} then
   (if (DW (Av s) s.blocks (Cl o.data)).2=0 then({s with vers:=Jw (Dq l i o) i (DW (Av s) s.blocks (Cl o.data)).1},0) else(A6,5))
  else(A6,1)
theorem KJ {α:Type} {f:α->Bool} {l:List α} (h:0<=AL f l):(AL f l).toNat<l.length:=by
 unfold AL at h |-
 cases e:l.findIdx? f with
 |none=>rw[e] at h;simp at h
 |some i=>simpa using (List.findIdx?_eq_some_iff_getElem.1 e).1
theorem Q2 (o:Obj):∀(l:List AM) (k:Nat) (h:k<l.length),(((Ac Au l).set (k*8+2) (.int .i64 o.base)).set (k*8+3) (.str o.data.data)).set (k*8+3+1) (.int .i64 o.data.n)=Ac Au (l.set k {l[k] with base:=o.base,data:=o.data})
 | [],k,h=>by simp at h
 |v::t,0,h=>by simp[Ax,Au]
 |v::t,k+1,h=>by
  have ih:=Q2 o t k (by simpa using h)
  have hl:(Au v).length=8:=rfl
  rw[Ax,List.set_append_right _ _ (by omega),List.set_append_right _ _ (by omega),List.set_append_right _ _ (by omega)]
  rw[show(k+1)*8+2-(Au v).length=k*8+2 by omega,show(k+1)*8+3-(Au v).length=k*8+3 by omega,show(k+1)*8+3+1-(Au v).length=k*8+3+1 by omega,ih]
  simp[Ax]
theorem Tn (a:Int):∀(l:List AM) (k:Nat) (h:k<l.length),(Ac Au l).set (k*8+5) (.int .i64 a)=Ac Au (l.set k {l[k] with at_:=a})
 | [],k,h=>by simp at h
 |v::t,0,h=>by simp[Ax,Au]
 |v::t,k+1,h=>by
  have ih:=Tn a t k (by simpa using h)
  have hl:(Au v).length=8:=rfl
  rw[Ax,List.set_append_right _ _ (by omega),show(k+1)*8+5-(Au v).length=k*8+5 by omega,ih]
  simp[Ax]
theorem KL {l:List AM} {i:Nat} {o:Obj} (h:i<l.length):Dq l i o=l.set i {l[i] with base:=o.base,data:=o.data}:=by
 simp[Dq,List.getElem?_eq_getElem h]
theorem Pc (l:List AM) (i:Nat) (o:Obj):(Dq l i o).length=l.length:=by
 unfold Dq;split<;>simp
theorem To {l:List AM} {i:Nat} {a:Int} (h:i<l.length):Jw l i a=l.set i {l[i] with at_:=a}:=by
 simp[Jw,List.getElem?_eq_getElem h]
theorem Na (l:List AM) (i:Nat) (a:Int):(Jw l i a).length=l.length:=by
 unfold Jw;split<;>simp
theorem Pd {l:List AM} {i:Nat} {o:Obj} {n:Nat} (h:∀v∈l,v.data.data.size<n) (ho:o.data.data.size<n):∀v∈Dq l i o,v.data.data.size<n:=by
 intro v hv
 unfold Dq at hv
 split at hv
 .rcases List.mem_or_eq_of_mem_set hv with hv|hv
  .exact h v hv
  .subst hv;exact ho
 .exact h v hv
theorem ZL (hR:BT) (s:An) (o:Obj) (parent:Int) (hs:AS s) (hx:Br s) (ho:o.data.data.size<1000000000) (hn:s.vers.length<999999999):Aa pg 75 [.agg (Ao false s),.agg (As o),.int .i64 parent] [] (fun r _=>r= .tup [.agg (Ao true (Ej s o parent).1),.int .i64 (Ej s o parent).2]):=by
 have h1:=hs.1
 have h2:=hs.2.1
 refine Aa.start (fn:=Tryz.f75) [.cell 6 38,.tmp 7] tk rfl rfl rfl (by kernel_rfl) (Nat.le_of_ble_eq_true rfl) rfl (by kernel_rfl) ?_
 rw[Bl]
 refine z3 ?_;intro K hK;refine zk ?_;clear hK K
 refine z1 ?_;intro K hK
 refine Ab.eqr (Pb s hs hx) (by simp) ?_
 refine zx ?_
 refine zk ?_;clear hK K
 refine z0 ?_;intro K hK
 refine Ab.eq (Hi s o.id hs) (by simp) (by simp) ?_
 refine zx ?_
 refine zk ?_;clear hK K
 obtain⟨q,hq⟩:∃q,q=AL (fun v=>decide (v.id=o.id)) s.vers:=⟨_,rfl⟩
 rw[<-hq]
 have hqi:q<0\/∃h:q.toNat<s.vers.length,q=(q.toNat:Int):=by
  rcases(show q<0\/0<=q by omega) with h|h
  .exact .inl h
  .exact .inr ⟨by rw[hq] at h |-;exact KJ h,by omega⟩
 refine zs ?_
 refine W.midS (fun x:Nat×List AM×Nat=> [(2,.int .i64 parent),(3,.ptr 0 0 0),(4,.ptr 1 0 0),(6,.ptr 2 0 0),(7,.int .i64 0),(8,.ptr 3 0 0),(9,.int .i64 x.2.2)]) (fun x=> [.live 0 (Ao false s),.live 0 (As o),.live 0 [.int .i64 0,.int .i64 0,.own 8 0 [],.own 12 0 []],.live 0 [.int .i64 s.keep,.int .i64 s.blocks,.tok 4 x.1 8 0 x.2.1.length,.tok 5 0 12 0 s.sess.length],.live x.1 (Ac Au x.2.1),.live 0 (Ac (Az true) s.sess)]) (fun x=>EW s o parent=some (x.2.1,x.2.2)/\x.2.2<x.2.1.length/\x.2.1.length<1000000000/\∀v∈x.2.1,v.data.data.size<1000000000) ?_ ?_
 .by_cases c1:q<0
  .have eV:EW s o parent=if o.id<=AN s.vers\/parent<0\/o.id<=parent then none else some (s.vers++[FH o.id parent],s.vers.length):=by unfold EW;rw[<-hq,if_pos c1]
   rw[decide_eq_true c1]
   refine zt ?_
   by_cases d1:o.id<=AN s.vers
   .rw[if_pos (.inl d1)] at eV
    refine Cm ?_;intro K hK
    refine Ah.eq (ER s hs) (by simp) (by simp) ?_
    refine AX d1 ?_
    refine zk ?_;clear hK K
    refine zt ?_
    refine z0 ?_;intro K hK
    refine zk ?_;clear hK K
    refine W.weak ((Wk.thaw (B:=2) (v:=0) (j:=2) (s:=8) (n:=0) (xs:=[]) rfl rfl).trans (Wk.thaw (B:=2) (v:=0) (j:=3) (s:=12) (n:=0) (xs:=[]) rfl rfl)) ?_
    refine zr ?_
    simp[Ej,eV,A6]
   by_cases d2:parent<0
   .rw[if_pos (.inr (.inl d2))] at eV
    refine Cm ?_;intro K hK
    refine Ah.eq (ER s hs) (by simp) (by simp) ?_
    refine AX (an d1 d2) ?_
    refine zk ?_;clear hK K
    refine zt ?_
    refine z0 ?_;intro K hK
    refine zk ?_;clear hK K
    refine W.weak ((Wk.thaw (B:=2) (v:=0) (j:=2) (s:=8) (n:=0) (xs:=[]) rfl rfl).trans (Wk.thaw (B:=2) (v:=0) (j:=3) (s:=12) (n:=0) (xs:=[]) rfl rfl)) ?_
    refine zr ?_
    simp[Ej,eV,A6]
   by_cases d3:o.id<=parent
   .rw[if_pos (.inr (.inr d3))] at eV
    refine Cm ?_;intro K hK
    refine Ah.eq (ER s hs) (by simp) (by simp) ?_
    refine AX (an d1 (an d2 d3)) ?_
    refine zk ?_;clear hK K
    refine zt ?_
    refine z0 ?_;intro K hK
    refine zk ?_;clear hK K
    refine W.weak ((Wk.thaw (B:=2) (v:=0) (j:=2) (s:=8) (n:=0) (xs:=[]) rfl rfl).trans (Wk.thaw (B:=2) (v:=0) (j:=3) (s:=12) (n:=0) (xs:=[]) rfl rfl)) ?_
    refine zr ?_
    simp[Ej,eV,A6]
   rw[if_neg (by omega)] at eV
   refine Cm ?_;intro K hK
   refine Ah.eq (ER s hs) (by simp) (by simp) ?_
   refine AX (an d1 (an d2 d3)) ?_
   refine zk ?_;clear hK K
   refine zn ?_
   refine W.skip ?_
   refine zs ?_
   refine z1 ?_;intro K hK
   refine⟨by omega,by omega,?_⟩
   refine zk ?_;clear hK K
   exact⟨(1,s.vers++[FH o.id parent],s.vers.length),⟨eV,by simp,by simp;omega,fun v hv=>by
    rcases List.mem_append.1 hv with h|h
    .exact hs.2.2 v h
    .simp at h;subst h;exact Nat.zero_lt_succ _⟩,Wk.cutM (k:=6) (by simp[Ad]) (by simp[Ck,Ax,Au,FH]) (by simp) (by simp) (by simp) (by simp)⟩
  .obtain⟨h,hqn⟩:=hqi.resolve_left c1
   have eV:EW s o parent=some (s.vers,q.toNat):=by unfold EW;rw[<-hq,if_neg c1]
   rw[decide_eq_false c1]
   refine zn ?_
   refine W.skip ?_
   exact⟨(0,s.vers,q.toNat),⟨eV,h,h1,hs.2.2⟩,Wk.fr (by simp[Ad];omega)⟩
 rintro⟨u,l,i⟩ ⟨eV,hil,hl,hld⟩
 simp only at eV hil hl hld |-
 refine Af hil ?_;intro K hK
 refine zk ?_;clear hK K
 have b1:i*8+2<(Ac Au l).length:=by simp;omega
 have b2:i*8+3<(Ac Au l).length:=by simp;omega
 (repeat refine W.seq ?_);refine W.regdX 0 [(57,60),(57,56)] rfl true Cz (by kernel_rfl) fun K hK=>?_;simp -implicitDefEqProofs (maxSteps:=999999) (disch:=omega) [hil]
 refine⟨by omega,by omega,?_⟩
 (repeat refine⟨by first|assumption|omega,?_⟩);refine hK _ _ (by simp(disch:=omega)) ?_;clear hK K
 rw[Q2 o l i hil,<-KL hil]
 obtain⟨l1,hl1⟩:∃l1,l1=Dq l i o:=⟨_,rfl⟩
 have len1:l1.length=l.length:=by rw[hl1,Pc]
 have hl1d:∀v∈l1,v.data.data.size<1000000000:=by rw[hl1];exact Pd hld ho
 obtain⟨y,hy⟩:∃y:An,y={s with vers:=l1}:=⟨_,rfl⟩
 have eL:Ej s o parent=if Di o.data/\Ey y then(if (DW (Av s) s.blocks (Cl o.data)).2=0 then({s with vers:=Jw l1 i (DW (Av s) s.blocks (Cl o.data)).1},0) else(A6,5)) else(A6,1):=by
  unfold Ej;rw[eV,hy,hl1]
 rw[<-hl1]
 have spB:=UM o.data ho
 by_cases d4:Di o.data
 rotate_left
 .rw[if_neg (fun h=>d4 h.1)] at eL
  rw[decide_eq_false d4] at spB
  refine z0 ?_;intro K hK
  refine Ab.eq spB (by simp) (by simp) ?_
  refine zx ?_
  refine zk ?_;clear hK K
  refine zt ?_
  refine z0 ?_;intro K hK
  refine zk ?_;clear hK K
  refine W.weak ((Wk.thaw (B:=2) (v:=0) (j:=2) (s:=8) (n:=0) (xs:=[]) rfl rfl).trans (Wk.thaw (B:=2) (v:=0) (j:=3) (s:=12) (n:=0) (xs:=[]) rfl rfl)) ?_
  refine zr ?_
  simp[eL,A6]
 rw[decide_eq_true d4] at spB
 have yv:y.vers=l1:=by rw[hy]
 have ys:y.sess=s.sess:=by rw[hy]
 have yk:y.keep=s.keep:=by rw[hy]
 have yb:y.blocks=s.blocks:=by rw[hy]
 have spM:=O2 hR y ⟨by rw[yv,len1];exact hl,by rw[ys];exact h2,by rw[yv];exact hl1d⟩ (by intro x hx';rw[ys] at hx';exact hx x hx')
 have tk1:List.take l.length l1=l1:=List.take_of_length_le (by omega)
 by_cases d5:Ey y
 rotate_left
 .rw[if_neg (fun h=>d5 h.2)] at eL
  rw[decide_eq_false d5] at spM
  refine z0 ?_;intro K hK
  refine Ab.eq spB (by simp) (by simp) ?_
  refine zx ?_
  refine Ab.eq spM (by simp[yv,ys,yk,yb,len1,tk1]) (by simp) ?_
  refine zx ?_
  refine zk ?_;clear hK K
  refine zt ?_
  refine z0 ?_;intro K hK
  refine zk ?_;clear hK K
  refine W.weak ((Wk.thaw (B:=2) (v:=0) (j:=2) (s:=8) (n:=0) (xs:=[]) rfl rfl).trans (Wk.thaw (B:=2) (v:=0) (j:=3) (s:=12) (n:=0) (xs:=[]) rfl rfl)) ?_
  refine zr ?_
  simp[eL,A6]
 rw[if_pos ⟨d4,d5⟩] at eL
 rw[decide_eq_true d5] at spM
 refine z0 ?_;intro K hK
 refine Ab.eq spB (by simp) (by simp) ?_
 refine zx ?_
 refine Ab.eq spM (by simp[yv,ys,yk,yb,len1,tk1]) (by simp) ?_
 refine zx ?_
 refine zk ?_;clear hK K
 refine zn ?_
 refine W.skip ?_
 have hpl:(Av s).length<1000000000:=by simp[Av];omega
 obtain⟨f,hf⟩:∃f,f=DW (Av s) s.blocks (Cl o.data):=⟨_,rfl⟩
 have spF:=ZH (Av s) s.blocks (Cl o.data) hpl
 rw[<-hf] at spF eL
 refine Cm ?_;intro K hK
 refine Ah.eq (Qj s hs) (by simp) (by simp) ?_
 refine zx ?_
 refine Ah.eq (Qh o.data ho) (by simp) (by simp) ?_
 refine zx ?_
 refine Ah.eq spF (by simp) (by simp) ?_
 refine zx ?_
 refine zk ?_;clear hK K
 by_cases d6:f.2=0
 rotate_left
 .rw[if_neg d6] at eL
  refine Af d6 ?_;intro K hK
  refine zk ?_;clear hK K
  refine zt ?_
  refine z0 ?_;intro K hK
  refine zk ?_;clear hK K
  refine W.weak ((Wk.thaw (B:=2) (v:=0) (j:=2) (s:=8) (n:=0) (xs:=[]) rfl rfl).trans (Wk.thaw (B:=2) (v:=0) (j:=3) (s:=12) (n:=0) (xs:=[]) rfl rfl)) ?_
  refine zr ?_
  simp[eL,A6]
 rw[if_pos d6] at eL
 have hil1:i<l1.length:=by omega
 refine Af d6 ?_;intro K hK
 refine zk ?_;clear hK K
 refine zn ?_
 refine W.skip ?_
 refine Af hil1 ?_;intro K hK
 refine⟨by omega,?_⟩
 refine zk ?_;clear hK K
 rw[Tn f.1 l1 i hil1,<-To hil1]
 refine z0 ?_;intro K hK
 refine zk ?_;clear hK K
 refine zr ?_
 have tk2:List.take l.length (Jw l1 i f.1)=Jw l1 i f.1:=List.take_of_length_le (by rw[Na];omega)
 simp[eL,Na,len1,tk2]
def Pe (s:An) (o:Obj) (parent:Int):An×Int:=if A2 s then Ej s o parent else(A6,1)
def KM:List AM->Int->List AM
 | [],_=> []
 |v::t,a=>{v with at_:=a}::KM t (a+Cl v.data)
def KN:List AM->Int
 | []=>0
 |v::t=>Cl v.data+KN t
theorem Vj (b:Dh):1<=Cl b:=by unfold Cl;omega
@[simp] theorem Tp:∀(l:List AM) (a:Int),(KM l a).length=l.length
  | [],a=>rfl
  |v::t,a=>by simp[KM,Tp t]
def kU (l:List AM) (a:Int):List (Int×Int):=(KM l a).map fun v=>(v.at_,Cl v.data)
theorem HS {l m:List Obj} (P:Int->Prop) (h:∀id,P id->id≠0->A7 l id=A7 m id) (hb:∀id o,P id->id≠0->A7 l id=some o->P o.base):∀(k:Nat) (id:Int),P id->AQ l k id=AQ m k id
 |0,_,_=>rfl
 |k+1,id,hp=>by
  simp only[AQ]
  by_cases h0:id=0
  .simp[h0]
  .rw[if_neg h0,if_neg h0,<-h id hp h0]
   cases e:A7 l id with
   |none=>rfl
   |some o=>simp only;rw[HS P h hb k o.base (hb id o hp h0 e)]
theorem Tq {l m:List Obj} (P:Int->Prop) (h:∀id,P id->id≠0->A7 l id=A7 m id) (hb:∀id o,P id->id≠0->A7 l id=some o->P o.base) {id:Int} (hp:P id) (h0:id≠0):AP l id=AP m id:=by
 unfold AP AE
 rw[HS P h hb 4 id hp,HS P h hb 3 id hp,h id hp h0]
def Cg (l:List Obj) (id:Int):Prop:=∃q∈l,q.id=id
theorem DM {l:List Obj} {id:Int} {o:Obj} (h:A7 l id=some o):o∈l/\o.id=id:=⟨List.mem_of_find?_eq_some h,by simpa using List.find?_some h⟩
theorem BW {l:List Obj} {id:Int}:Cg l id↔∃o,A7 l id=some o:=by
 constructor
 .rintro⟨q,hq,e⟩
  cases h:A7 l id with
  |none=>have:=List.find?_eq_none.1 h q hq;simp[e] at this
  |some o=>exact⟨o,rfl⟩
 .rintro⟨o,h⟩
  exact⟨o,DM h⟩
def Xy (l:List Obj):Prop:=∀o∈l,o.base=0\/Cg l o.base
theorem Ca.closed {l:List Obj} (h:Ca l):Xy l:=fun o ho=>(h.2.1 o ho).2.2.2.2
theorem Vk {s y:An} {x:CZ} (hi:∀id,id∈s.vers.map (fun v=>v.id)->id∈y.vers.map fun v=>v.id) (hl:AN s.vers<=AN y.vers)
 (hg:∀id,id≠0->id∈s.vers.map (fun v=>v.id)->AP (Ai y) id=AP (Ai s) id) (h:AG s (Ai s) x):AG y (Ai y) x:=by
 unfold AG at h |-
 split at h
 .rw[if_pos (by assumption)];exact h
 .rename_i ho
  rw[if_neg ho]
  obtain⟨h1,h2,h3⟩:=h
  rw[Iq] at h1
  rw[Iq]
  refine⟨h1.imp id (hi _),?_,?_⟩
  .split at h2
   .rw[if_pos (by assumption)];exact⟨h2.1,by omega,h2.2.2⟩
   .rw[if_neg (by assumption)];exact h2
  .rcases h3 with h3| ⟨h3,h4,h5⟩
   .exact .inl h3
   .rw[hg _ h3 (h1.resolve_left h3)];exact .inr ⟨h3,h4,h5⟩
theorem Hq (s:An):(Ai s).map (fun o=>o.id)=s.vers.map fun v=>v.id:=by simp[Ai,Bm]
theorem Gt (s:An) (id:Int):Cg (Ai s) id↔id∈s.vers.map fun v=>v.id:=by
 rw[<-Hq];simp[Cg]
theorem RT (l:List AM) (v:AM):AN (l++[v])=v.id:=by simp[AN]
theorem Tr {s y:An} (h:Ey s) (hv:y.vers.map Bm=s.vers.map Bm) (hm:∀v∈y.vers,∃u∈s.vers,u.id=v.id/\u.parent=v.parent/\u.tag=v.tag/\u.gone=v.gone) (hl:Cy y.vers=false) (hs:y.sess=s.sess) (hk:y.keep=s.keep) (hb:1<=y.blocks/\y.blocks<=100):Ey y:=by
 obtain⟨⟨a1,a2,a3,a4,a5,a6,a7⟩,b,c,d⟩:=h
 have ey:Ai y=Ai s:=hv
 have ei:y.vers.map (fun v=>v.id)=s.vers.map fun v=>v.id:=by rw[<-Hq,ey,Hq]
 refine⟨⟨by omega,by omega,hb.1,hb.2,?_,hl,by rw[ey];exact a7⟩,by rw[hs];exact b,by rw[ey];exact c,?_⟩
 .intro v hv
  obtain⟨u,hu,e1,e2,e3,e4⟩:=hm v hv
  obtain⟨k1,k2,k3⟩:=a5 u hu
  exact⟨by omega,by omega,by rw[<-e3,<-e4];exact k3⟩
 .rw[hs]
  intro x hx
  exact Vk (fun id h=>by rw[ei];exact h) (by rw[L2 _ _ ei];exact Int.le_refl _) (fun id _ _=>by rw[ey]) (d x hx)
def iA (s:An) (n:Int):An:={s with blocks:=n,vers:=KM s.vers 0}
def kV (s:An) (v:AM):Obj:=⟨AN s.vers+1,v.base,v.data⟩
def kW (l:List AM) (k:Nat):List AM:=KM (l.take k) 0++l.drop k
def Fl (c:List Bool):Nat:=BH c*2^(8-c.length)
def FB (m:Nat) (l:List Bool):List Nat:=(List.range m).map fun k=>Fl ((l.drop (8*k)).take 8)
def pk (l:List Bool):List Nat:=FB ((l.length+7)/8) l
def F9 (n:Nat):AV:= .int .u8 (n:Int)
def Bz (ns:List Nat):List AV:=ns.map F9
def Ek (l:List Bool):Dh:=⟨D0 (Bz (pk l)),l.length⟩
@[simp] theorem Xz (m:Nat) (l:List Bool):(FB m l).length=m:=by simp[FB]
@[simp] theorem fC (ns:List Nat):(Bz ns).length=ns.length:=by simp[Bz]
theorem Q3 (ns:List Nat) (i n:Nat):(Bz ns).set i (.int .u8 (n:Int))=Bz (ns.set i n):=by simp[Bz,F9]
theorem Vl {c:List Bool} (h:c.length<=8):Fl c<256:=by
 have h1:=GD c
 have h2:2^c.length*2^(8-c.length)=256:=by rw[<-Nat.pow_add,show c.length+(8-c.length)=8 by omega]
 unfold Fl
 have h3:0<2^(8-c.length):=Nat.pow_pos (by omega)
 exact Nat.lt_of_lt_of_eq (Nat.mul_lt_mul_of_pos_right h1 h3) h2
theorem RU (c:List Bool) (b:Bool) (h:c.length<8):Fl (c++[b])=Fl c+b.toNat*2^(7-c.length):=by
 have e:8-c.length=(7-c.length)+1:=by omega
 unfold Fl
 rw[Od,List.length_append,List.length_singleton,e,show 8-(c.length+1)=7-c.length by omega,Nat.pow_succ,Nat.add_mul]
 congr 1
 rw[Nat.mul_comm 2,Nat.mul_assoc,Nat.mul_comm 2]
theorem Tt {m:Nat} {l:List Bool} {k:Nat} (h:k<m):(FB m l)[k]'(by simpa using h)<256:=by
 simp only[FB,List.getElem_map,List.getElem_range]
 exact Vl (by simp;omega)
theorem RV (l:List Bool) (b:Bool) (k:Nat):((l++[b]).drop (8*k)).take 8=if l.length/8=k then(l.drop (8*k)).take 8++[b] else(l.drop (8*k)).take 8:=by
 split
 .rename_i e
  rw[List.drop_append_of_le_length (by omega),List.take_append,List.length_drop]
  have:(8-(l.length-8*k))=(7-(l.length-8*k))+1:=by omega
  rw[this];simp
 .rename_i e
  by_cases h:l.length<8*k
  .rw[List.drop_eq_nil_of_le (by simp;omega),List.drop_eq_nil_of_le (by omega)]
  .rw[List.drop_append_of_le_length (by omega),List.take_append_of_le_length (by simp;omega)]
theorem Vm (m:Nat) (l:List Bool) (b:Bool) (h:l.length/8<m):FB m (l++[b])=(FB m l).set (l.length/8) ((FB m l)[l.length/8]'(by simpa using h)+b.toNat*2^(7-l.length%8)):=by
 refine List.ext_getElem (by simp) fun j h1 h2=>?_
 rw[List.getElem_set]
 simp only[FB,List.getElem_map,List.getElem_range,RV]
 split
 .rename_i e
  subst e
  have hl:((l.drop (8*(l.length/8))).take 8).length=l.length%8:=by simp;omega
  rw[RU _ _ (by omega),hl]
 .rfl
theorem XA (m:Nat) (l:List Bool) (k:Nat) (h:k<m) (hk:l.length/8=k):2^(8-l.length%8)∣(FB m l)[k]'(by simpa using h):=by
 subst hk
 simp only[FB,List.getElem_map,List.getElem_range]
 have hl:((l.drop (8*(l.length/8))).take 8).length=l.length%8:=by simp;omega
 unfold Fl
 rw[hl]
 exact Nat.dvd_mul_left _ _
theorem Vn {m:Nat} {l:List Bool} (h:l.length<=8*m):FB (m+1) l=FB m l++[0]:=by
 unfold FB
 rw[List.range_succ,List.map_append]
 congr 1
 simp only[List.map_cons,List.map_nil,List.cons.injEq,and_true]
 rw[List.drop_eq_nil_of_le (by omega)]
 rfl
theorem Q4:∀y:Fin 256,IntKind.wrap .u8 ((y.val:Nat):Int)=((y.val:Nat):Int):=by decide+kernel
theorem iB {a x r:Nat} (h:2^r∣a) (hx:x<2^r) (ha:a+x<256):IntKind.wrap .u8 ((BitVec.ofInt 8 (a:Int) |||BitVec.ofInt 8 (x:Int)).toNat:Int)=((a+x:Nat):Int):=by
 obtain⟨q,rfl⟩:=h
 have e:2^r*q|||x=2^r*q+x:=(Nat.two_pow_add_eq_or_of_lt hx q).symm
 have e1:(BitVec.ofInt 8 ((2^r*q:Nat):Int)).toNat=2^r*q:=by
  rw[BitVec.ofInt_natCast,BitVec.toNat_ofNat];exact Nat.mod_eq_of_lt (by omega)
 have e2:(BitVec.ofInt 8 (x:Int)).toNat=x:=by
  rw[BitVec.ofInt_natCast,BitVec.toNat_ofNat];exact Nat.mod_eq_of_lt (by omega)
 rw[BitVec.toNat_or,e1,e2,e]
 exact Q4 ⟨_,ha⟩
def C7:List Int->Bool->List Bool
 | [],_=> []
 |n::l,f=>AD (if f=true then n+1 else n).toNat++C7 l false
def C3 (v:Int) (ref l:List Int):List Bool:=AD ((blocks ref l).length+1)++C7 (blocks ref l) true++AY v (Bh ref l)
def Co (f:Int->List Int->List Bool):Int->List (List Int)->List Bool
 |_,[]=> []
 |v,l::ls=>f v l++Co f (v+1) ls
def Cr (g:Gr):List Bool:=AD (g.n.toNat+1)++Co AY 0 g.out
def CE (a g:Gr):List Bool:=AD (g.n.toNat+1)++Co (fun v l=>C3 v (AH a v) l) 0 g.out
theorem L4 (f:Int->List Int->List Bool) (l:List Int):∀(ls:List (List Int)) (v:Int),Co f v (ls++[l])=Co f v ls++f (v+ls.length) l
 | [],v=>by simp[Co]
 |x::ls,v=>by
  simp only[List.cons_append,Co,L4 f l ls,List.append_assoc,List.length_cons]
  congr 3
  omega
theorem L5 (f:Int->List Int->List Bool) {ls:List (List Int)} {i:Nat} (h:i<ls.length):Co f 0 (ls.take (i+1))=Co f 0 (ls.take i)++f i ls[i]:=by
 rw[List.take_succ_eq_append_getElem h,L4]
 simp[Nat.min_eq_left (Nat.le_of_lt h)]
theorem L6:∀(l:List Int) (i:Nat) (f:Bool) (h:i<l.length),C7 (l.take (i+1)) f=C7 (l.take i) f++AD (if i=0/\f=true then l[i]+1 else l[i]).toNat
 | [],i,f,h=>by simp at h
 |x::t,0,f,h=>by simp[C7]
 |x::t,i+1,f,h=>by
  have ih:=L6 t i false (by simpa using h)
  simp only[List.take_succ_cons,C7,List.getElem_cons_succ] at ih |-
  rw[ih,List.append_assoc]
  simp
def WM:Obj:=⟨0,0,⟨ByteArray.empty,0⟩⟩
def L7 (l:List Obj):Int:=match l.getLast? with|some o=>o.id+1|none=>1
def GS (l:List Obj) (base:Int) (g:Gr):Dh:=Ek (if base=0 then Cr g else CE (AP l base).1 g)
def jq (l:List Obj) (parent:Int) (g:Gr):Obj×Int:=
 if 12<=l.length\/1048576<L7 l then(WM,2) else
 if parent=0 then(⟨L7 l,0,GS l 0 g⟩,0) else
 if (AP l parent).2≠0 then(WM,(AP l parent).2) else
 if (AE l parent).1<3/\(CE (AP l parent).1 g).length<(Cr g).length then(⟨L7 l,parent,GS l parent g⟩,0) else(⟨L7 l,0,GS l 0 g⟩,0)
theorem GT {n:Nat} (h:n<32):(AD n).length<=9:=by
 have:=Dz n
 by_cases h0:n=0
 .subst h0;simp[AD,A9]
 .have:=(Nat.log2_lt (n:=n) (k:=5) h0).2 (by omega)
  omega
theorem ZM {n:Nat} (h:n<64):(AD n).length<=11:=by
 have:=Dz n
 by_cases h0:n=0
 .subst h0;simp[AD,A9]
 .have:=(Nat.log2_lt (n:=n) (k:=6) h0).2 (by omega)
  omega
theorem NF {v:Int} (hv:0<=v/\v<=16):∀(l:List Int) (f:Bool) (e:Int),(∀x∈l,0<=x/\x<16)->(f=false->0<=e)->(B3 v l f e).length<=9*l.length+(if f=true then 2 else 0)
 | [],f,e,_,_=>by simp[B3]
 |x::l,f,e,h,he=>by
  have hx:=h x (by simp)
  have ih:=NF hv l false x (fun y hy=>h y (by simp[hy])) (fun _=>hx.1)
  rw[B3,List.length_append]
  cases f
  .have:=GT (n:=(x-e).toNat) (by have:=he rfl;omega)
   simp at ih |-;omega
  .have:=ZM (n:=(BX (x-v)+1).toNat) (by unfold BX;split<;>omega)
   simp at ih |-;omega
theorem NG {v:Int} (hv:0<=v/\v<=16):∀(l:List (Int×Int)) (f:Bool) (e:Int),(∀x∈l,0<=x.1/\x.1<16/\0<=x.2/\x.2<=16)->(f=false->0<=e)->(BL v l f e).length<=18*l.length+(if f=true then 2 else 0)
 | [],f,e,_,_=>by simp[BL]
 | (a,n)::l,f,e,h,he=>by
   have hx:=h (a,n) (by simp)
   simp only at hx
   have ih:=NG hv l false (a+n) (fun y hy=>h y (by simp[hy])) (fun _=>by omega)
   rw[BL,List.length_append,List.length_append]
   have h2:=GT (n:=(n-3+1).toNat) (by omega)
   cases f
   .have:=GT (n:=(a-e).toNat) (by have:=he rfl;omega)
    simp at ih |-;omega
   .have:=ZM (n:=(BX (a-v)+1).toNat) (by unfold BX;split<;>omega)
    simp at ih |-;omega
theorem NH:∀(n:Nat) (l:List Int),l.length<=n->3*(Am l).1.length+(Am l).2.length<=l.length
 |_,[],_=>by simp[Am]
 |0,x::l,h=>by simp at h
 |n+1,x::l,h=>by
  have h1:=EL x l
  have h2:=Fb (x::l)
  have h3:((x::l).drop (AZ (x::l))).length=(x::l).length-AZ (x::l):=by simp
  have ih:=NH n ((x::l).drop (AZ (x::l))) (by omega)
  rw[Am]
  split
  .simp only[List.length_cons] at*;omega
  .simp only[List.length_append,List.length_take] at*;omega
theorem Hr {v:Int} {l:List Int} (hv:0<=v/\v<=16) (hl:AJ l):(AY v l).length<=166:=by
 have hll:=Bq hl
 obtain⟨p1,p2,p3,p4⟩:=D1 l.length l true 0 (Nat.le_refl _) hl.2 (.inl rfl)
 have pin:=Ho l.length l (Nat.le_refl _)
 have ps:=NH l.length l (Nat.le_refl _)
 have hpos:=KH (Am l).1 true 0 p1
 have a1:=GT (n:=(Am l).1.length+1) (by omega)
 have a2:=NG hv (Am l).1 true 0 (fun q hq=>by
  have h1:=pin q hq
  have h2:=hl.1 _ h1.1
  obtain⟨i,hi,rfl⟩:=List.mem_iff_getElem.1 hq
  have h3:=(hpos i hi).1
  omega) (by simp)
 have a3:=GT (n:=(Am l).2.length+1) (by omega)
 have a4:=NF hv (Am l).2 true 0 (fun x hx=>hl.1 x (p4 x hx)) (by simp)
 unfold AY Cx
 simp only[List.length_append]
 simp at a2 a4
 omega
theorem Ir (l:List Int):∀(ref:List Int) (b:Bool) (n:Nat) (h:0<(AU l ref b n).length),n<=(AU l ref b n)[0]
 | [],b,n,h=>by simp[AU] at h
 |x::ref,b,n,h=>by
  simp only[AU] at h |-
  split at h
  .rename_i e
   simp only[if_pos e]
   have:=Ir l ref b (n+1) h
   omega
  .rename_i e
   simp only[if_neg e,List.getElem_cons_zero]
   exact Nat.le_refl _
theorem GJ (l:List Int):∀(ref:List Int) (b:Bool) (n j:Nat) (h:j<(AU l ref b n).length),(AU l ref b n)[j]<=n+ref.length/\(0<j->1<=(AU l ref b n)[j])
 | [],b,n,j,h=>by simp[AU] at h
 |x::ref,b,n,j,h=>by
  simp only[AU] at h |-
  split at h
  .rename_i e
   have ih:=GJ l ref b (n+1) j h
   simp only[if_pos e]
   refine⟨by have:=ih.1;simp only[List.length_cons];omega,ih.2⟩
  .rename_i e
   simp only[if_neg e]
   cases j with
   |zero=>exact⟨by simp only[List.getElem_cons_zero,List.length_cons];omega,fun h=>by omega⟩
   |succ j=>
    have ih:=GJ l ref (!b) 1 j (by simpa using h)
    simp only[List.getElem_cons_succ,List.length_cons]
    refine⟨by have:=ih.1;omega,fun _=>?_⟩
    cases j with
    |zero=>exact Ir l ref (!b) 1 (by simpa using h)
    |succ j=>exact ih.2 (by omega)
theorem G9 (ref l:List Int):(blocks ref l).length<=ref.length:=by
 simp only[blocks,List.length_map];exact GI l ref true 0
theorem JZ (ref l:List Int) (j:Nat) (h:j<(blocks ref l).length):0<=(blocks ref l)[j]/\(blocks ref l)[j]<=ref.length/\(0<j->1<=(blocks ref l)[j]):=by
 have h' :j<(AU l ref true 0).length:=by simpa[blocks] using h
 have:=GJ l ref true 0 j h'
 simp only[blocks,List.getElem_map]
 refine⟨by omega,by omega,fun hj=>by have:=this.2 hj;omega⟩
theorem NI:∀(l:List Int) (f:Bool),(∀x∈l,x<=30)->(C7 l f).length<=9*l.length
 | [],f,_=>by simp[C7]
 |n::l,f,h=>by
  have ih:=NI l false fun x hx=>h x (by simp[hx])
  have h1:=h n (by simp)
  have:=GT (n:=(if f=true then n+1 else n).toNat) (by split<;>omega)
  rw[C7,List.length_append,List.length_cons];omega
theorem Ha {ref l:List Int} (h:AJ l):AJ (Bh ref l):=⟨fun x hx=>h.1 x (List.mem_filter.1 hx).1,h.2.filter _⟩
theorem L8 {v:Int} {ref l:List Int} (hv:0<=v/\v<=16) (hr:ref.length<=16) (hl:AJ l):(C3 v ref l).length<=330:=by
 have a1:=G9 ref l
 have a2:=GT (n:=(blocks ref l).length+1) (by omega)
 have a3:=NI (blocks ref l) true (fun x hx=>by
  obtain⟨i,hi,rfl⟩:=List.mem_iff_getElem.1 hx
  have:=JZ ref l i hi
  omega)
 have a4:=Hr hv (Ha (ref:=ref) hl)
 unfold C3
 simp only[List.length_append]
 omega
theorem GU {f:Int->List Int->List Bool} {c:Nat}:∀(ls:List (List Int)) (v:Int),(∀(i:Nat) (h:i<ls.length),(f (v+i) ls[i]).length<=c)->(Co f v ls).length<=c*ls.length
 | [],v,_=>by simp[Co]
 |l::ls,v,h=>by
  have ih:=GU (c:=c) ls (v+1) fun i hi=>by
   have:=h (i+1) (by simpa using hi)
   simp only[List.getElem_cons_succ] at this
   rw[show v+1+(i:Int)=v+((i+1:Nat):Int) by omega];exact this
  have h0:=h 0 (by simp)
  simp at h0
  rw[Co,List.length_append,List.length_cons,Nat.mul_add];omega
theorem Jy {g:Gr} (hg:A3 g):(Cr g).length<=6000:=by
 have h1:=GT (n:=g.n.toNat+1) (by have:=hg.2.1;omega)
 have h2:=GU (f:=AY) (c:=166) g.out 0 (fun i hi=>Hr ⟨by omega,by have:=hg.2.1;have:=hg.2.2.1;omega⟩ (hg.2.2.2.1 _ (List.getElem_mem hi)).1)
 have h3:=hg.2.1
 have h4:=hg.2.2.1
 unfold Cr
 rw[List.length_append]
 have:166*g.out.length<=166*16:=Nat.mul_le_mul_left _ (by omega)
 omega
theorem Jz {a g:Gr} (ha:A3 a) (hg:A3 g):(CE a g).length<=6000:=by
 have h1:=GT (n:=g.n.toNat+1) (by have:=hg.2.1;omega)
 have h2:=GU (f:=fun v l=>C3 v (AH a v) l) (c:=330) g.out 0 (fun i hi=>L8 ⟨by omega,by have:=hg.2.1;have:=hg.2.2.1;omega⟩ (Cp ha _) (hg.2.2.2.1 _ (List.getElem_mem hi)).1)
 have h3:=hg.2.1
 have h4:=hg.2.2.1
 unfold CE
 rw[List.length_append]
 have:330*g.out.length<=330*16:=Nat.mul_le_mul_left _ (by omega)
 omega
theorem Pf (s:An) (id:Int) (hs:AS s) (hm:Ca (Ai s)):Aa pg 37 [.agg (Ao false s),.int .i64 id] [] (fun r _=>r= .agg (Ba true (if id=0 then AI else(AP (Ai s) id).1))):=by
 have spO:=QZ s hs
 have spR:=HQ (Ai s) id hs.objs hm
 refine Aa.start (fn:=Tryz.f37) [.cell 4 51] tk rfl rfl rfl (by kernel_rfl) (Nat.le_of_ble_eq_true rfl) rfl (by kernel_rfl) ?_
 rw[At]
 refine z2 ?_;intro K hK;refine zk ?_;clear hK K
 by_cases h:id=0
 .refine Af h ?_;intro K hK
  refine zk ?_;clear hK K
  refine zt ?_
  refine zs ?_
  refine W.weak (Wk.thaw (B:=1) (v:=0) (j:=1) (s:=1) (n:=0) (xs:=[]) rfl rfl) ?_
  refine zr ?_
  simp[h,AI]
 .refine Af h ?_;intro K hK
  refine zk ?_;clear hK K
  refine zn ?_
  refine W.skip ?_
  refine z1 ?_;intro K hK
  refine Ab.eq spO (by simp) (by simp) ?_
  refine zx ?_
  refine Ab.eq spR (by simp) (by simp) ?_
  refine zx ?_
  refine zk ?_;clear hK K
  refine zs ?_
  refine zr ?_
  simp[h]
theorem ZN (b k:Int):Aa pg 43 [.int .i64 b,.int .i64 k] [] (fun r _=>r= .agg (Ao true (Df b k))):=by
 refine Aa.start (fn:=Tryz.f43) [.cell 4 38] tk rfl rfl rfl (by kernel_rfl) (Nat.le_of_ble_eq_true rfl) rfl (by kernel_rfl) ?_
 rw[At]
 refine z1 ?_;intro K hK;refine zk ?_;clear hK K
 refine z1 ?_;intro K hK
 refine⟨by show(3:Int)<=9223372036854775807;decide,?_⟩
 have e:CF 3 [AV.bool false,AV.int .i64 0,AV.bool false,AV.int .i64 0,AV.int .i64 0,AV.own 1 0 [],AV.int .i64 0,AV.int .i64 0,AV.int .i64 0,AV.bool false,AV.own 1 0 [],AV.own 1 0 []]=Ac (Az true) [AR,AR,AR]:=rfl
 rw[e]
 refine zk ?_;clear hK K
 refine W.weak (Wk.thaw (B:=0) (v:=0) (j:=2) (s:=8) (n:=0) (xs:=[]) (by rfl) (by rfl)) ?_
 refine zr ?_
 exact(rfl:AV.agg (Ao true (Df b k))=_)
section
variable (xs ys:List Nat) (M:List Ag) (k:Nat)
@[simp] theorem fD (i:Nat):(Bz xs)[i]?=(xs[i]?).map F9:=by simp[Bz,F9]
@[simp] theorem fE:Bz []=[]:=rfl
@[simp] theorem dr:(Bz xs).take k=Bz (xs.take k):=by simp[Bz,F9,List.map_take]
@[simp] theorem dt:(Bz xs).drop k=Bz (xs.drop k):=by simp[Bz,F9,List.map_drop]
@[simp] theorem iC:EY (Bz xs)=true:=by simp[Bz,F9,EY,-IB]
@[simp] theorem iD:EZ (Bz xs)=true:=by simp[Bz,F9,EZ,-Km]
@[simp] theorem iE:DX (Bz xs)=true:=by simp[Bz,F9,DX,-IC]
@[simp] theorem iF:Dg k (Bz xs)=true:=by induction xs<;>simp_all[Bz,F9]
@[simp] theorem fF:C4 (Bz xs)=true:=by induction xs<;>simp_all[Bz,F9]
@[simp] theorem fG:EX (Bz xs)=Bz xs:=by induction xs<;>simp_all[Bz,F9]
@[simp] theorem fH:(Bz xs).map Et=Bz xs:=by simp[Bz,F9]
@[simp] theorem fI:(Bz xs).map (CG M k)=Bz xs:=by cases k<;>simp[Bz,F9]
@[simp] theorem iG:(Bz xs).all QP=true:=by simp[Bz,F9,QP]
end
theorem Q5 {a x r:Nat} (h:2^r∣a) (hx:x<2^r) (ha:a+x<256):CN .or (.int .u8 (a:Int)) (.int .u8 (x:Int))=some (.int .u8 ((a+x:Nat):Int)):=
 (Uk _ _ _).trans (congrArg (fun z:Int=>some (AV.int .u8 z)) (iB h hx ha))
def Ch (l:List Bool):List AV:=[.own 1 (pk l).length (Bz (pk l)),.int .i64 l.length]
@[simp] theorem du (l:List Bool):(Ch l).length=2:=rfl
@[simp] theorem fJ (l:List Bool):DX (Ch l)=true:=by simp[Ch]
@[simp] theorem fK (k:Nat) (l:List Bool):Dg k (Ch l)=true:=by simp[Ch]
@[simp] theorem dv (l:List Bool):C4 (Ch l)=true:=by simp[Ch]
theorem L9 (l:List Bool):(pk l).length=(l.length+7)/8:=by simp[pk]
set_option maxHeartbeats 2000000 in
theorem Pg (l:List Bool) (v w:Nat) (hl:l.length<100000000) (hw:w<=60) (hv:v<1099511627776):Aa pg 231 [.ptr 0 0 0,.int .i64 v,.int .i64 w] [.live 0 (Ch l)] (fun r M=>r= .tup []/\M=[.live 0 (Ch (l++A9 v w))]):=by
 refine Aa.start (fn:=Tryz.f231) [] tk rfl rfl rfl (by kernel_rfl) (Nat.le_of_ble_eq_true rfl) rfl (by kernel_rfl) ?_
 rw[Bl]
 refine zs ?_
 rw[show Ch l=Ch (l++(A9 v w).take 0) by simp]
 (repeat refine W.seq ?_);refine W.block (W.loopS (fun k:Nat=> [(0,.ptr 0 0 0),(1,.int .i64 v),(6,.int .i64 ((w:Int)-1-k))]) (fun k=> [.live 0 (Ch (l++(A9 v w).take k))]) (fun k=>w-k) (fun k=>k<=w) 0 (Wk.fr (by simp[Ad])) (by simp) ?_)
 intro k hk
 by_cases hlt:k<w
 rotate_left
 .have hk' :k=w:=by omega
  subst hk'
  have e:((k:Int)-1-k)=-1:=by omega
  have e2:(A9 v k).take k=A9 v k:=List.take_of_length_le (by simp)
  rw[e,e2]
  refine zs ?_
  refine zn ?_
  refine W.exit ?_
  (try simp only[Cs,Ct,Dk,Dl,if_true]);refine Fw (d:=0) ?_;simp -implicitDefEqProofs (maxSteps:=999999) (disch:=omega)
 obtain⟨i,hi⟩:∃i:Nat,(w:Int)-1-k=i:=⟨w-1-k,by omega⟩
 have hmin:min i 64=i:=by omega
 obtain⟨x,hx⟩:∃x,x=l++(A9 v w).take k:=⟨_,rfl⟩
 obtain⟨n,hn⟩:∃n,n=x.length:=⟨_,rfl⟩
 have hnl:n<=l.length+60:=by rw[hn,hx];simp;omega
 obtain⟨q,hq⟩:∃q,q=n/8:=⟨_,rfl⟩
 obtain⟨r,hr⟩:∃r,r=n%8:=⟨_,rfl⟩
 obtain⟨s,hs⟩:∃s,s=7-r:=⟨_,rfl⟩
 have e1:(n:Int)/8=(q:Int):=by omega
 have e2:(n:Int)%8=(r:Int):=by omega
 have e3:(7:Int)-(r:Int)=(s:Int):=by omega
 obtain⟨Q,hQd⟩:∃Q,Q=v/2^i:=⟨_,rfl⟩
 have hQ:(v:Int)/2^i=(Q:Int):=by rw[hQd,Int.natCast_ediv,Int.natCast_pow];rfl
 have hQv:Q<=v:=by rw[hQd];exact Nat.div_le_self _ _
 have hand:=Jl (Q:Int) (by omega) (by omega)
 obtain⟨b,hb⟩:∃b,b=decide (Q%2=1):=⟨_,rfl⟩
 have hto:l++(A9 v w).take (k+1)=x++[b]:=by
  rw[hx,List.append_assoc,List.take_add_one,List.getElem?_eq_getElem (by simpa using hlt)]
  have:(A9 v w)[k]'(by simpa using hlt)=b:=by
   simp only[A9,List.getElem_map,List.getElem_range]
   rw[hb,hQd,show w-1-k=i by omega]
  rw[this];rfl
 rw[hi,<-hx]
 have hcr:Ch x=[.own 1 (pk x).length (Bz (pk x)),.int .i64 n]:=by rw[hn];rfl
 rw[hcr]
 refine zs ?_
 refine zt ?_
 refine W.skip ?_
 refine zb ?_
 have hpl:=L9 x
 refine W.weak (Wk.thaw (B:=0) (v:=0) (j:=0) (s:=1) (n:=(pk x).length) (xs:=Bz (pk x)) (by rfl) (by rfl)) ?_
 (repeat refine W.seq ?_);refine W.midS (fun b:Bool=> [(0,.ptr 0 0 0),(1,.int .i64 v),(6,.int .i64 i),(18,.bool b)]) (fun _=> [.live 0 [.tok 1 0 1 0 (pk x).length,.int .i64 n],.live 0 (Bz (pk x))]) (fun b=>b=true↔r=0) ?_ ?_
 .refine Af e2 ?_;intro K hK
  refine zk ?_;clear hK K
  exact⟨decide (r=0),by simp,Wk.fr (by simp[Ad])⟩
 rintro b0 hb0
 (repeat refine W.seq ?_);refine W.midS (fun u:Nat=> [(0,.ptr 0 0 0),(1,.int .i64 v),(6,.int .i64 i)]) (fun u=> [.live 0 [.tok 1 u 1 0 (q+1),.int .i64 n],.live u (Bz (FB (q+1) x))]) (fun _=>True) ?_ ?_
 .cases b0
  .have c:¬r=0:=fun h=>by have:=hb0.2 h;simp at this
   have em:(pk x).length=q+1:=by omega
   have ep:pk x=FB (q+1) x:=by rw[pk,show(x.length+7)/8=q+1 by omega]
   rw[em,ep]
   refine zn ?_
   refine W.skip ?_
   exact⟨0,trivial,Wk.fr (by simp[Ad])⟩
  .have c:r=0:=hb0.1 rfl
   have em:(pk x).length=q:=by omega
   have ep:Bz (pk x)++[AV.int .u8 0]=Bz (FB (q+1) x):=by
    rw[Vn (by omega)]
    simp only[Bz,List.map_append,List.map_cons,List.map_nil]
    rw[pk,show(x.length+7)/8=q by omega];rfl
   refine zt ?_
   refine z1 ?_;intro K hK
   refine⟨by omega,by omega,?_⟩
   refine zk ?_;clear hK K
   rw[ep,em]
   exact⟨1,trivial,Wk.cutM (k:=2) (by simp[Ad]) (by simp) (by simp) (by simp) (by simp) (by simp)⟩
 rintro u _
 have hsn:=Vm (q+1) x b (by omega)
 have hdv:=XA (q+1) x q (by omega) (by omega)
 obtain⟨P,hP⟩:∃P,P=FB (q+1) x:=⟨_,rfl⟩
 have hPl:P.length=q+1:=by rw[hP,Xz]
 have hqP:q<P.length:=by omega
 simp only[<-hn,<-hP,<-hq,<-hr] at hsn
 rw[<-hn,<-hr] at hdv
 simp only[<-hP] at hdv
 rw[<-hP]
 have hPlt:P[q]<256:=by subst hP;exact Tt (by omega)
 have hu:P[q]?=some P[q]:=List.getElem?_eq_getElem hqP
 have hpk:FB (q+1) (x++[b])=pk (x++[b]):=by rw[pk];congr 1;simp;omega
 have hend:[AV.own 1 (q+1) (Bz (pk (x++[b]))),AV.int .i64 ((n:Int)+1)]=Ch (x++[b]):=by
  unfold Ch
  rw[L9];simp;omega
 have hpl2:(pk (x++[b])).length=q+1:=by rw[L9];simp;omega
 have htk:List.take (q+1) (pk (x++[b]))=pk (x++[b]):=List.take_of_length_le (by omega)
 have hqq:q<q+1:=by omega
 by_cases hbq:Q%2=1
 .obtain⟨z,hz⟩:∃z:Nat,z=2^s:=⟨_,rfl⟩
  have hz1:(2:Int)^s=(z:Int):=by rw[hz];simp
  have hzl:z<2^(8-r):=by rw[hz];exact Nat.pow_lt_pow_right (by omega) (by omega)
  have hz8:z<=128:=by rw[hz];exact Nat.pow_le_pow_right (by omega) (show s<=7 by omega)
  have hsum:P[q]+z<256:=by
   have h1:P[q]<=256-2^(8-r):=by
    obtain⟨c,hc⟩:=hdv
    have hb2:2^(8-r)*2^r=256:=by rw[<-Nat.pow_add,show 8-r+r=8 by omega]
    have hlt2:2^(8-r)*c<2^(8-r)*2^r:=by rw[<-hc,hb2];exact hPlt
    have:=Nat.lt_of_mul_lt_mul_left hlt2
    have h3:2^(8-r)*(c+1)<=2^(8-r)*2^r:=Nat.mul_le_mul_left _ this
    rw[Nat.mul_add] at h3
    omega
   have:2^(8-r)<=256:=Nat.pow_le_pow_right (by omega) (show 8-r<=8 by omega)
   omega
  obtain⟨y,hy⟩:∃y,y=P[q]+z:=⟨_,rfl⟩
  have ew:IntKind.wrap .u8 (z:Int)=(z:Int):=Q4 ⟨z,by omega⟩
  have hw8:IntKind.u8.wrap ((Q:Int)%2)=1:=by rw[show(Q:Int)%2=1 by omega];rfl
  have eo:CN .or (.int .u8 (P[q]:Int)) (.int .u8 (z:Int))=some (.int .u8 (y:Int)):=by rw[hy];exact Q5 hdv hzl hsum
  have hyn:P[q]+b.toNat*2^(7-r)=y:=by rw[hb,decide_eq_true hbq,hy,hz,hs];simp
  rw[hyn,hpk] at hsn
  (repeat refine W.seq ?_);refine W.regd 0 rfl true Cz (by kernel_rfl) fun K hK=>?_;simp -implicitDefEqProofs (maxSteps:=999999) (disch:=omega) [hmin,hQ,hand,hw8,e1,e2,e3,hqq,hqP,hPl,hu,F9,hz1,ew,eo]
  refine⟨by omega,?_⟩
  refine zk ?_;clear hK K
  rw[Q3,<-hsn]
  refine z0 ?_;intro K hK
  refine zk ?_;clear hK K
  refine W.weak (Wk.intern (B:=0) (v:=0) (j:=0) (T:=1) (u:=u) (s:=1) (off:=0) (n:=q+1) (xs:=Bz (pk (x++[b]))) (by rfl) (by simp[Aj]) (by simp[hpl2]) (by simp[hpl2]) (by simp[hpl2]) (by simp[hpl2])) ?_
  refine zs ?_
  exact⟨k+1,by omega,by omega,Wk.cutM (k:=1) (by simp[Ad];omega) (by simp[hto,<-hend,htk]) (by simp) (by simp) (by simp) (by simp)⟩
 .have hw8:IntKind.u8.wrap ((Q:Int)%2)=0:=by rw[show(Q:Int)%2=0 by omega];rfl
  have ew:IntKind.wrap .u8 0=0:=by decide
  have eo:CN .or (.int .u8 (P[q]:Int)) (.int .u8 0)=some (.int .u8 (P[q]:Int)):=Q5 (x:=0) hdv (Nat.pow_pos (by omega)) (by omega)
  have hyn:P[q]+b.toNat*2^(7-r)=P[q]:=by rw[hb,decide_eq_false hbq];simp
  rw[hyn,hpk] at hsn
  (repeat refine W.seq ?_);refine W.regd 0 rfl true Cz (by kernel_rfl) fun K hK=>?_;simp -implicitDefEqProofs (maxSteps:=999999) (disch:=omega) [hmin,hQ,hand,hw8,e1,e2,e3,hqq,hqP,hPl,hu,F9,ew,eo]
  refine⟨by omega,?_⟩
  refine zk ?_;clear hK K
  rw[Q3,<-hsn]
  refine z0 ?_;intro K hK
  refine zk ?_;clear hK K
  refine W.weak (Wk.intern (B:=0) (v:=0) (j:=0) (T:=1) (u:=u) (s:=1) (off:=0) (n:=q+1) (xs:=Bz (pk (x++[b]))) (by rfl) (by simp[Aj]) (by simp[hpl2]) (by simp[hpl2]) (by simp[hpl2]) (by simp[hpl2])) ?_
  refine zs ?_
  exact⟨k+1,by omega,by omega,Wk.cutM (k:=1) (by simp[Ad];omega) (by simp[hto,<-hend,htk]) (by simp) (by simp) (by simp) (by simp)⟩
end Go.Abs
