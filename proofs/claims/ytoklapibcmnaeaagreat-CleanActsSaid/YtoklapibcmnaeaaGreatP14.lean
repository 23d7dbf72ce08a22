/- A job, and a state, of one's own. -/
import Derived.Test.YtoklapibcmnaeaaGreatP13
set_option linter.unusedVariables false
set_option linter.unusedSimpArgs false
set_option maxRecDepth 100000
namespace Go.Abs
open Go.Proofs
theorem Zf (j:Cq) (h:j.list.length<1000000000∧j.out.length<1000000000):Aa pg 137 [.agg (B2 false j)] [] (fun r _=>r= .agg (B2 true j)):=by
 obtain⟨h1,h2⟩:=h
 refine Aa.start (fn:=Tryz.f137) [.cell 2 53] tk rfl rfl rfl (by kernel_rfl) (Nat.le_of_ble_eq_true rfl) rfl (by kernel_rfl) ?_
 rw[Av]
 refine z2 ?_;intro K hK;refine zk ?_;clear hK K
 refine B9 ?_;intro K hK
 refine Ag.eqr (Hh j.list (by omega)) (by simp) ?_
 refine zx ?_
 refine Ag.eqr (Hh j.out (by omega)) (by simp) ?_
 refine zx ?_
 refine zk ?_;clear hK K
 refine z0 ?_;intro K hK
 refine zk ?_;clear hK K
 exact zR
def Gk (k:Nat) (xs:List CG):List AV:=Ac (Aq true) (xs.take k)++Ac (Aq false) (xs.drop k)
theorem O7 (k:Nat) (xs:List CG):(Gk k xs).length=xs.length*12:=by
 unfold Gk;rw[List.length_append,PW,PW,←Nat.add_mul,List.length_take,List.length_drop];congr 1;omega
theorem FO {k i:Nat} {xs:List CG} (h:k<xs.length) (hi:i<12):(Gk k xs)[k*12+i]?=(Aq false xs[k])[i]?:=by
 have hl:(Ac (Aq true) (xs.take k)).length=k*12:=by simp;omega
 unfold Gk
 rw[List.getElem?_append_right (by omega),hl,Nat.add_sub_cancel_left,List.drop_eq_getElem_cons h,AA,List.getElem?_append_left (by simpa[Aq] using hi)]
theorem Ej {A X B:List AV} {a j:Nat} {v:AV} (hA:A.length=a) (hj:j<X.length):(A++(X++B)).set (a+j) v=A++(X.set j v++B):=by
 rw[List.set_append_right _ _ (by omega),hA,Nat.add_sub_cancel_left,List.set_append_left _ _ hj]
theorem M6 {A X B:List AV} {a j:Nat} (hA:A.length=a) (hj:j<X.length):(A++(X++B))[a+j]?=X[j]?:=by
 rw[List.getElem?_append_right (by omega),hA,Nat.add_sub_cancel_left,List.getElem?_append_left hj]
theorem WU {k:Nat} {xs:List CG} (h:k<xs.length):Gk k xs=Ac (Aq true) (xs.take k)++(Aq false xs[k]++Ac (Aq false) (xs.drop (k+1))):=by
 unfold Gk;rw[List.drop_eq_getElem_cons h,AA]
theorem S9 {k:Nat} {xs:List CG} (h:k<xs.length):Gk (k+1) xs=Ac (Aq true) (xs.take k)++(Aq true xs[k]++Ac (Aq false) (xs.drop (k+1))):=by
 unfold Gk;rw[List.take_succ_eq_append_getElem h,Bz,AA];simp[Ac]
theorem Zg (xs:List CG):Ac (Aq false) xs=Gk 0 xs:=by simp[Gk,Ac]
theorem UN {k:Nat} {xs:List CG} (h:xs.length≤k):Gk k xs=Ac (Aq true) xs:=by
 unfold Gk
 rw[List.take_of_length_le h,List.drop_eq_nil_of_le h];simp[Ac]
theorem O8 (s:Ax) (hs:AS s) (hx:Bk s):Aa pg 95 [.agg (An false s)] [] (fun r _=>r= .agg (An true s)):=by
 have h1:=hs.1
 have h2:=hs.2.1
 refine Aa.start (fn:=Tryz.f95) [.cell 2 38] tk rfl rfl rfl (by kernel_rfl) (Nat.le_of_ble_eq_true rfl) rfl (by kernel_rfl) ?_
 rw[Av]
 refine z2 ?_;intro K hK;refine zk ?_;clear hK K
 refine B9 ?_;intro K hK
 refine Ag.eqr (UK s.vers (by omega)) (by simp) ?_
 refine zx ?_
 refine Ag.eqr (UL s.sess (by omega)) (by simp) ?_
 refine zx ?_
 refine zk ?_;clear hK K
 refine z0 ?_;intro K hK
 refine zk ?_;clear hK K
 rw[Zg s.sess]
 (repeat refine W.seq ?_);refine W.block (W.loopS (fun k:Nat=> [(1,.ptr 0 0 0),(2,.ptr 1 0 0),(15,.int .i64 s.sess.length),(16,.int .i64 k)]) (fun k=> [.live 0 [.int .i64 s.keep,.int .i64 s.blocks,.tok 2 0 8 0 s.vers.length,.tok 3 0 12 0 s.sess.length],.live 0 [.int .i64 0,.int .i64 0,.own 8 0 [],.own 12 0 []],.live 0 (Ac Ar s.vers),.live 0 (Gk k s.sess)]) (fun k=>s.sess.length-k) (fun k=>k≤s.sess.length) 0 (Wk.fr (by simp[Ad])) (by simp) ?_)
 intro k hk
 by_cases c1:k<s.sess.length
 rotate_left
 .have c1' :¬(k:Int)<(s.sess.length:Int):=by omega
  refine Af c1' ?_;intro K hK
  refine zk ?_;clear hK K
  refine zn ?_
  refine W.exit ?_
  rw[UN (by omega)]
  refine z0 ?_;intro K hK
  refine zk ?_;clear hK K
  exact zR
 have c1' :(k:Int)<(s.sess.length:Int):=by omega
 refine Af c1' ?_;intro K hK
 refine zk ?_;clear hK K
 refine zt ?_
 refine W.skip ?_
 refine zb ?_
 refine zs ?_
 refine Af c1 ?_;intro K hK
 refine zk ?_;clear hK K
 obtain⟨hsg,hsj⟩:=hx _ (List.getElem_mem c1)
 have m4:=FO c1 (i:=4) (by omega)
 have m5:=FO c1 (i:=5) (by omega)
 have m6:=FO c1 (i:=6) (by omega)
 have m7:=FO c1 (i:=7) (by omega)
 have m8:=FO c1 (i:=8) (by omega)
 have m9:=FO c1 (i:=9) (by omega)
 have m10:=FO c1 (i:=10) (by omega)
 have m11:=FO c1 (i:=11) (by omega)
 simp only[Aq,List.getElem?_cons_succ,List.getElem?_cons_zero] at m4 m5 m6 m7 m8 m9 m10 m11
 refine Ba (an c1 (an m4 (an m5 (an m6 (an m7 (an m8 (an m9 (an m10 m11)))))))) ?_;intro K hK
 refine Ag.eqr (Ze s.sess[k].stage hsg) (by simp) ?_
 refine AM (an m6 (an m7 (an m8 (an m9 (an m10 m11))))) ?_
 refine Ag.eqr (Zf s.sess[k].job hsj) (by simp) ?_
 refine zx ?_
 refine⟨by rw[O7];omega,by rw[O7];omega,?_⟩
 refine zk ?_;clear hK K
 refine zs ?_
 refine⟨k+1,by omega,by omega,?_⟩
 have hA:(Ac (Aq true) (s.sess.take k)).length=k*12:=by simp;omega
 have hAn:∀n,Da n (Ac (Aq true) (s.sess.take k))=true:=fun n=>by simp
 have hBn:∀n,Da n (Ac (Aq false) (s.sess.drop (k+1)))=true:=fun n=>by simp
 rw[WU c1,S9 c1]
 generalize Ac (Aq true) (s.sess.take k)=A at*
 generalize Ac (Aq false) (s.sess.drop (k+1))=B at*
 generalize s.sess[k]=x at*
 simp only[Nat.add_assoc,Nat.reduceAdd]
 rw[Ej hA (by simp[Aq]),Ej hA (by simp[Aq]),Ej hA (by simp[Aq]),Ej hA (by simp[Aq]),Ej hA (by simp[Aq]),Ej hA (by simp[Aq]),Ej hA (by simp[Aq]),Ej hA (by simp[Aq])]
 simp only[Aq,List.set_cons_succ,List.set_cons_zero]
 refine Wk.trans (Wk.fr (S:=[(1,.ptr 0 0 0),(2,.ptr 1 0 0),(15,.int .i64 s.sess.length),(16,.int .i64 ((k+1:Nat):Int))]) (by simp[Ad])) ?_
 refine Wk.trans (Wk.intern (B:=3) (v:=0) (j:=k*12+5) (T:=4) (u:=0) (s:=1) (off:=0) (n:=x.stage.out.length) (xs:=Ay true x.stage.out) rfl (by rw[M6 hA (by simp)];rfl) rfl (by decide) (by simp) (by simp)) ?_
 rw[Ej hA (by simp)]
 simp only[List.set_cons_succ,List.set_cons_zero]
 refine Wk.trans (Wk.intern (B:=3) (v:=0) (j:=k*12+10) (T:=5) (u:=0) (s:=1) (off:=0) (n:=x.job.list.length) (xs:=Ae x.job.list) rfl (by rw[M6 hA (by simp)];rfl) rfl (by decide) (by simp) (by simp)) ?_
 rw[Ej hA (by simp)]
 simp only[List.set_cons_succ,List.set_cons_zero]
 refine Wk.trans (Wk.intern (B:=3) (v:=0) (j:=k*12+11) (T:=6) (u:=0) (s:=1) (off:=0) (n:=x.job.out.length) (xs:=Ae x.job.out) rfl (by rw[M6 hA (by simp)];rfl) rfl (by decide) (by simp) (by simp)) ?_
 rw[Ej hA (by simp)]
 simp only[List.set_cons_succ,List.set_cons_zero]
 exact Wk.cutM (k:=4) (by simp[Ad]) (by simp[Ep,FB]) (by simp[hAn,hBn]) (by simp[hAn,hBn]) (by simp[hAn,hBn]) (by simp[hAn,hBn])
end Go.Abs
set_option maxRecDepth 100000
namespace Go.Abs
open Go.Proofs
def AD:Ax:=⟨0,0,[],[]⟩
def EU (id parent:Int):Bg:=⟨id,parent,0,⟨ByteArray.empty,0⟩,0,false,false⟩
def Dg (l:List Bg) (i:Nat) (o:Obj):List Bg:=match l[i]? with|some v=>l.set i {v with base:=o.base,data:=o.data} |none=>l
def HV (l:List Bg) (i:Nat) (a:Int):List Bg:=match l[i]? with|some v=>l.set i {v with at_:=a} |none=>l
def EV (s:Ax) (o:Obj) (parent:Int):Option (List Bg×Nat):=
 if AG (fun v=>decide (v.id=o.id)) s.vers<0 then(if o.id≤A7 s.vers∨parent<0∨o.id≤parent then none else some (s.vers++[EU o.id parent],s.vers.length))
 else some (s.vers,(AG (fun v=>decide (v.id=o.id)) s.vers).toNat)
def Eh (s:Ax) (o:Obj) (parent:Int):Ax×Int:=match EV s o parent with
 |none=>(AD,1)
 |some (l,i)=>
  if Dc o.data∧Et {s with vers:=Dg l i o} then
   (if (DV (AB s) s.blocks (CO o.data)).2=0 then({s with vers:=HV (Dg l i o) i (DV (AB s) s.blocks (CO o.data)).1},0) else(AD,5))
  else(AD,1)
theorem Hd {α:Type} {f:α→Bool} {l:List α} (h:0≤AG f l):(AG f l).toNat<l.length:=by
 unfold AG at h ⊢
 cases e:l.findIdx? f with
 |none=>rw[e] at h;simp at h
 |some i=>simpa using (List.findIdx?_eq_some_iff_getElem.1 e).1
theorem M7 (o:Obj):∀(l:List Bg) (k:Nat) (h:k<l.length),(((Ac Ar l).set (k*8+2) (.int .i64 o.base)).set (k*8+3) (.str o.data.data)).set (k*8+3+1) (.int .i64 o.data.n)=Ac Ar (l.set k {l[k] with base:=o.base,data:=o.data})
 | [],k,h=>by simp at h
 |v::t,0,h=>by simp[AA,Ar]
 |v::t,k+1,h=>by
  have ih:=M7 o t k (by simpa using h)
  have hl:(Ar v).length=8:=rfl
  rw[AA,List.set_append_right _ _ (by omega),List.set_append_right _ _ (by omega),List.set_append_right _ _ (by omega)]
  rw[show(k+1)*8+2-(Ar v).length=k*8+2 by omega,show(k+1)*8+3-(Ar v).length=k*8+3 by omega,show(k+1)*8+3+1-(Ar v).length=k*8+3+1 by omega,ih]
  simp[AA]
theorem O9 (a:Int):∀(l:List Bg) (k:Nat) (h:k<l.length),(Ac Ar l).set (k*8+5) (.int .i64 a)=Ac Ar (l.set k {l[k] with at_:=a})
 | [],k,h=>by simp at h
 |v::t,0,h=>by simp[AA,Ar]
 |v::t,k+1,h=>by
  have ih:=O9 a t k (by simpa using h)
  have hl:(Ar v).length=8:=rfl
  rw[AA,List.set_append_right _ _ (by omega),show(k+1)*8+5-(Ar v).length=k*8+5 by omega,ih]
  simp[AA]
theorem Iy {l:List Bg} {i:Nat} {o:Obj} (h:i<l.length):Dg l i o=l.set i {l[i] with base:=o.base,data:=o.data}:=by
 simp[Dg,List.getElem?_eq_getElem h]
theorem Lw (l:List Bg) (i:Nat) (o:Obj):(Dg l i o).length=l.length:=by
 unfold Dg;split<;>simp
theorem Pa {l:List Bg} {i:Nat} {a:Int} (h:i<l.length):HV l i a=l.set i {l[i] with at_:=a}:=by
 simp[HV,List.getElem?_eq_getElem h]
theorem Iz (l:List Bg) (i:Nat) (a:Int):(HV l i a).length=l.length:=by
 unfold HV;split<;>simp
theorem Pb {l:List Bg} {i:Nat} {o:Obj} {n:Nat} (h:∀v∈l,v.data.data.size<n) (ho:o.data.data.size<n):∀v∈Dg l i o,v.data.data.size<n:=by
 intro v hv
 unfold Dg at hv
 split at hv
 .rcases List.mem_or_eq_of_mem_set hv with hv|hv
  .exact h v hv
  .subst hv;exact ho
 .exact h v hv
theorem Zh (hR:By) (s:Ax) (o:Obj) (parent:Int) (hs:AS s) (hx:Bk s) (ho:o.data.data.size<1000000000) (hn:s.vers.length<999999999):Aa pg 75 [.agg (An false s),.agg (Am o),.int .i64 parent] [] (fun r _=>r= .tup [.agg (An true (Eh s o parent).1),.int .i64 (Eh s o parent).2]):=by
 have h1:=hs.1
 have h2:=hs.2.1
 refine Aa.start (fn:=Tryz.f75) [.cell 6 38,.tmp 7] tk rfl rfl rfl (by kernel_rfl) (Nat.le_of_ble_eq_true rfl) rfl (by kernel_rfl) ?_
 rw[Bd]
 refine z3 ?_;intro K hK;refine zk ?_;clear hK K
 refine z1 ?_;intro K hK
 refine Ab.eqr (O8 s hs hx) (by simp) ?_
 refine zx ?_
 refine zk ?_;clear hK K
 refine z0 ?_;intro K hK
 refine Ab.eq (Hi s o.id hs) (by simp) (by simp) ?_
 refine zx ?_
 refine zk ?_;clear hK K
 obtain⟨q,hq⟩:∃q,q=AG (fun v=>decide (v.id=o.id)) s.vers:=⟨_,rfl⟩
 rw[←hq]
 have hqi:q<0∨∃h:q.toNat<s.vers.length,q=(q.toNat:Int):=by
  rcases(show q<0∨0≤q by omega) with h|h
  .exact .inl h
  .exact .inr ⟨by rw[hq] at h ⊢;exact Hd h,by omega⟩
 refine zs ?_
 refine W.midS (fun x:Nat×List Bg×Nat=> [(2,.int .i64 parent),(3,.ptr 0 0 0),(4,.ptr 1 0 0),(6,.ptr 2 0 0),(7,.int .i64 0),(8,.ptr 3 0 0),(9,.int .i64 x.2.2)]) (fun x=> [.live 0 (An false s),.live 0 (Am o),.live 0 [.int .i64 0,.int .i64 0,.own 8 0 [],.own 12 0 []],.live 0 [.int .i64 s.keep,.int .i64 s.blocks,.tok 4 x.1 8 0 x.2.1.length,.tok 5 0 12 0 s.sess.length],.live x.1 (Ac Ar x.2.1),.live 0 (Ac (Aq true) s.sess)]) (fun x=>EV s o parent=some (x.2.1,x.2.2)∧x.2.2<x.2.1.length∧x.2.1.length<1000000000∧∀v∈x.2.1,v.data.data.size<1000000000) ?_ ?_
 .by_cases c1:q<0
  .have eV:EV s o parent=if o.id≤A7 s.vers∨parent<0∨o.id≤parent then none else some (s.vers++[EU o.id parent],s.vers.length):=by unfold EV;rw[←hq,if_pos c1]
   rw[decide_eq_true c1]
   refine zt ?_
   by_cases d1:o.id≤A7 s.vers
   .rw[if_pos (.inl d1)] at eV
    refine B9 ?_;intro K hK
    refine Ag.eq (EP s hs) (by simp) (by simp) ?_
    refine AM d1 ?_
    refine zk ?_;clear hK K
    refine zt ?_
    refine z0 ?_;intro K hK
    refine zk ?_;clear hK K
    refine W.weak ((Wk.thaw (B:=2) (v:=0) (j:=2) (s:=8) (n:=0) (xs:=[]) rfl rfl).trans (Wk.thaw (B:=2) (v:=0) (j:=3) (s:=12) (n:=0) (xs:=[]) rfl rfl)) ?_
    refine zr ?_
    simp[Eh,eV,AD]
   by_cases d2:parent<0
   .rw[if_pos (.inr (.inl d2))] at eV
    refine B9 ?_;intro K hK
    refine Ag.eq (EP s hs) (by simp) (by simp) ?_
    refine AM (an d1 d2) ?_
    refine zk ?_;clear hK K
    refine zt ?_
    refine z0 ?_;intro K hK
    refine zk ?_;clear hK K
    refine W.weak ((Wk.thaw (B:=2) (v:=0) (j:=2) (s:=8) (n:=0) (xs:=[]) rfl rfl).trans (Wk.thaw (B:=2) (v:=0) (j:=3) (s:=12) (n:=0) (xs:=[]) rfl rfl)) ?_
    refine zr ?_
    simp[Eh,eV,AD]
   by_cases d3:o.id≤parent
   .rw[if_pos (.inr (.inr d3))] at eV
    refine B9 ?_;intro K hK
    refine Ag.eq (EP s hs) (by simp) (by simp) ?_
    refine AM (an d1 (an d2 d3)) ?_
    refine zk ?_;clear hK K
    refine zt ?_
    refine z0 ?_;intro K hK
    refine zk ?_;clear hK K
    refine W.weak ((Wk.thaw (B:=2) (v:=0) (j:=2) (s:=8) (n:=0) (xs:=[]) rfl rfl).trans (Wk.thaw (B:=2) (v:=0) (j:=3) (s:=12) (n:=0) (xs:=[]) rfl rfl)) ?_
    refine zr ?_
    simp[Eh,eV,AD]
   rw[if_neg (by omega)] at eV
   refine B9 ?_;intro K hK
   refine Ag.eq (EP s hs) (by simp) (by simp) ?_
   refine AM (an d1 (an d2 d3)) ?_
   refine zk ?_;clear hK K
   refine zn ?_
   refine W.skip ?_
   refine zs ?_
   refine z1 ?_;intro K hK
   refine⟨by omega,by omega,?_⟩
   refine zk ?_;clear hK K
   exact⟨(1,s.vers++[EU o.id parent],s.vers.length),⟨eV,by simp,by simp;omega,fun v hv=>by
    rcases List.mem_append.1 hv with h|h
    .exact hs.2.2 v h
    .simp at h;subst h;exact Nat.zero_lt_succ _⟩,Wk.cutM (k:=6) (by simp[Ad]) (by simp[Bz,AA,Ar,EU]) (by simp) (by simp) (by simp) (by simp)⟩
  .obtain⟨h,hqn⟩:=hqi.resolve_left c1
   have eV:EV s o parent=some (s.vers,q.toNat):=by unfold EV;rw[←hq,if_neg c1]
   rw[decide_eq_false c1]
   refine zn ?_
   refine W.skip ?_
   exact⟨(0,s.vers,q.toNat),⟨eV,h,h1,hs.2.2⟩,Wk.fr (by simp[Ad];omega)⟩
 rintro⟨u,l,i⟩ ⟨eV,hil,hl,hld⟩
 simp only at eV hil hl hld ⊢
 refine Af hil ?_;intro K hK
 refine zk ?_;clear hK K
 have b1:i*8+2<(Ac Ar l).length:=by simp;omega
 have b2:i*8+3<(Ac Ar l).length:=by simp;omega
 (repeat refine W.seq ?_);refine W.regdX 0 [(57,60),(57,56)] rfl true Ce (by kernel_rfl) fun K hK=>?_;simp -implicitDefEqProofs (maxSteps:=999999) (disch:=omega) [hil]
 refine⟨by omega,by omega,?_⟩
 (repeat refine⟨by first|assumption|omega,?_⟩);refine hK _ _ (by simp(disch:=omega)) ?_;clear hK K
 rw[M7 o l i hil,←Iy hil]
 obtain⟨l1,hl1⟩:∃l1,l1=Dg l i o:=⟨_,rfl⟩
 have len1:l1.length=l.length:=by rw[hl1,Lw]
 have hl1d:∀v∈l1,v.data.data.size<1000000000:=by rw[hl1];exact Pb hld ho
 obtain⟨y,hy⟩:∃y:Ax,y={s with vers:=l1}:=⟨_,rfl⟩
 have eL:Eh s o parent=if Dc o.data∧Et y then(if (DV (AB s) s.blocks (CO o.data)).2=0 then({s with vers:=HV l1 i (DV (AB s) s.blocks (CO o.data)).1},0) else(AD,5)) else(AD,1):=by
  unfold Eh;rw[eV,hy,hl1]
 rw[←hl1]
 have spB:=Uk o.data ho
 by_cases d4:Dc o.data
 rotate_left
 .rw[if_neg (fun h=>d4 h.1)] at eL
  rw[decide_eq_false d4] at spB
  refine z0 ?_;intro K hK
  refine Ab.eq spB (by simp) (by simp) ?_
  refine zx ?_
  refine zk ?_;clear hK K
  refine zt ?_
  refine z0 ?_;intro K hK
  refine zk ?_;clear hK K
  refine W.weak ((Wk.thaw (B:=2) (v:=0) (j:=2) (s:=8) (n:=0) (xs:=[]) rfl rfl).trans (Wk.thaw (B:=2) (v:=0) (j:=3) (s:=12) (n:=0) (xs:=[]) rfl rfl)) ?_
  refine zr ?_
  simp[eL,AD]
 rw[decide_eq_true d4] at spB
 have yv:y.vers=l1:=by rw[hy]
 have ys:y.sess=s.sess:=by rw[hy]
 have yk:y.keep=s.keep:=by rw[hy]
 have yb:y.blocks=s.blocks:=by rw[hy]
 have spM:=OW hR y ⟨by rw[yv,len1];exact hl,by rw[ys];exact h2,by rw[yv];exact hl1d⟩ (by intro x hx';rw[ys] at hx';exact hx x hx')
 have tk1:List.take l.length l1=l1:=List.take_of_length_le (by omega)
 by_cases d5:Et y
 rotate_left
 .rw[if_neg (fun h=>d5 h.2)] at eL
  rw[decide_eq_false d5] at spM
  refine z0 ?_;intro K hK
  refine Ab.eq spB (by simp) (by simp) ?_
  refine zx ?_
  refine Ab.eq spM (by simp[yv,ys,yk,yb,len1,tk1]) (by simp) ?_
  refine zx ?_
  refine zk ?_;clear hK K
  refine zt ?_
  refine z0 ?_;intro K hK
  refine zk ?_;clear hK K
  refine W.weak ((Wk.thaw (B:=2) (v:=0) (j:=2) (s:=8) (n:=0) (xs:=[]) rfl rfl).trans (Wk.thaw (B:=2) (v:=0) (j:=3) (s:=12) (n:=0) (xs:=[]) rfl rfl)) ?_
  refine zr ?_
  simp[eL,AD]
 rw[if_pos ⟨d4,d5⟩] at eL
 rw[decide_eq_true d5] at spM
 refine z0 ?_;intro K hK
 refine Ab.eq spB (by simp) (by simp) ?_
 refine zx ?_
 refine Ab.eq spM (by simp[yv,ys,yk,yb,len1,tk1]) (by simp) ?_
 refine zx ?_
 refine zk ?_;clear hK K
 refine zn ?_
 refine W.skip ?_
 have hpl:(AB s).length<1000000000:=by simp[AB];omega
 obtain⟨f,hf⟩:∃f,f=DV (AB s) s.blocks (CO o.data):=⟨_,rfl⟩
 have spF:=Zd (AB s) s.blocks (CO o.data) hpl
 rw[←hf] at spF eL
 refine B9 ?_;intro K hK
 refine Ag.eq (Qg s hs) (by simp) (by simp) ?_
 refine zx ?_
 refine Ag.eq (Qe o.data ho) (by simp) (by simp) ?_
 refine zx ?_
 refine Ag.eq spF (by simp) (by simp) ?_
 refine zx ?_
 refine zk ?_;clear hK K
 by_cases d6:f.2=0
 rotate_left
 .rw[if_neg d6] at eL
  refine Af d6 ?_;intro K hK
  refine zk ?_;clear hK K
  refine zt ?_
  refine z0 ?_;intro K hK
  refine zk ?_;clear hK K
  refine W.weak ((Wk.thaw (B:=2) (v:=0) (j:=2) (s:=8) (n:=0) (xs:=[]) rfl rfl).trans (Wk.thaw (B:=2) (v:=0) (j:=3) (s:=12) (n:=0) (xs:=[]) rfl rfl)) ?_
  refine zr ?_
  simp[eL,AD]
 rw[if_pos d6] at eL
 have hil1:i<l1.length:=by omega
 refine Af d6 ?_;intro K hK
 refine zk ?_;clear hK K
 refine zn ?_
 refine W.skip ?_
 refine Af hil1 ?_;intro K hK
 refine⟨by omega,?_⟩
 refine zk ?_;clear hK K
 rw[O9 f.1 l1 i hil1,←Pa hil1]
 refine z0 ?_;intro K hK
 refine zk ?_;clear hK K
 refine zr ?_
 have tk2:List.take l.length (HV l1 i f.1)=HV l1 i f.1:=List.take_of_length_le (by rw[Iz];omega)
 simp[eL,Iz,len1,tk2]
def Pc (s:Ax) (o:Obj) (parent:Int):Ax×Int:=if A5 s then Eh s o parent else(AD,1)
end Go.Abs
set_option maxRecDepth 100000
namespace Go.Abs
open Go.Proofs
theorem WV (s:Ax) (hs:AS s) (hk0:0≤s.keep∧s.keep≤1000000):Aa pg 77 [.agg (An false s)] [] (fun r _=>r= .own 1 (C7 s false).length (Ae (C7 s false))):=by
 refine Aa.start (fn:=Tryz.f77) [.tmp 2] tk rfl rfl rfl (by kernel_rfl) (Nat.le_of_ble_eq_true rfl) rfl (by kernel_rfl) ?_
 rw[Av]
 refine z1 ?_;intro K hK;refine zk ?_;clear hK K
 refine z0 ?_;intro K hK
 refine Ab.eq (V7 s false hs hk0) (by simp) (by simp) ?_
 refine zx ?_
 refine zk ?_;clear hK K
 exact zR
theorem GL:∀(t:List Bool) (i a:Int),a≤i→∀x∈Bx t i a,1≤x.2∧a≤x.1∧x.1+x.2≤i+t.length
 | [],i,a,h,x,hx=>by
   simp only[Bx] at hx
   split at hx
   .simp at hx;subst hx;simp;omega
   .simp at hx
 |true::t,i,a,h,x,hx=>by
  simp only[Bx,List.mem_append] at hx
  rcases hx with hx|hx
  .split at hx
   .simp at hx;subst hx;simp;omega
   .simp at hx
  .have:=GL t (i+1) (i+1) (Int.le_refl _) x hx
   simp;omega
 |false::t,i,a,h,x,hx=>by
  simp only[Bx] at hx
  have:=GL t (i+1) a (by omega) x hx
  simp;omega
def gV (s:Ax) (id:Int):Gr×Int:=
 if A5 s then(if id=0 then(AO,0) else if AG (fun v=>decide (v.id=id)) s.vers<0 then(AO,3) else((AP (Aj s) id).1,0)) else(AO,1)
end Go.Abs
set_option maxRecDepth 100000
namespace Go.Abs
open Go.Proofs
def DH (y:List (Int×Int)) (a:Nat) (k:Nat):List (Int×Int):=y++if a<k then [((a:Int),(k:Int)-a)] else []
theorem UO {x:List (Int×Int)} {i:Nat} {p:Int×Int} (h:i<x.length) (n:Int) (hp:p=(x[i].1,n)):(Ac As x).set (i*2+1) (.int .i64 n)=Ac As (x.set i p):=by
 subst hp
 induction x generalizing i with
 |nil=>simp at h
 |cons a t ih=>
  cases i with
  |zero=>simp[AA,As]
  |succ i=>
   have e:=ih (i:=i) (by simpa using h)
   have hl:(As a).length=2:=rfl
   rw[AA,List.set_append_right _ _ (by omega),show(i+1)*2+1-(As a).length=i*2+1 by omega,e]
   simp[AA]
set_option maxHeartbeats 2000000 in
theorem WW (l:List (Int×Int)) (blocks:Int) (hl:l.length<1000000000) (hp:Cl l blocks):Aa pg 81 [.ro l.length (Ac As l),.int .i64 blocks] [] (fun r _=>r= .own 2 (Bx (BI l blocks.toNat) 0 0).length (Ac As (Bx (BI l blocks.toNat) 0 0))):=by
 obtain⟨n,hn⟩:=Int.eq_ofNat_of_zero_le (show 0≤blocks by have:=hp.1;omega)
 have hn1:=hp.1
 have hn2:=hp.2.1
 subst hn
 rw[Int.toNat_natCast]
 refine Aa.start (fn:=Tryz.f81) [.tmp 4] tk rfl rfl rfl (by kernel_rfl) (Nat.le_of_ble_eq_true rfl) rfl (by kernel_rfl) ?_
 rw[At]
 refine zs ?_
 refine z1 ?_;intro K hK
 refine⟨by omega,by omega,?_⟩
 rw[MO]
 refine zk ?_;clear hK K
 refine zs ?_
 (repeat refine W.seq ?_);refine W.block (W.loopS (fun k:Nat=> [(0,.ro l.length (Ac As l)),(1,.int .i64 n),(5,.tok 0 0 1 0 n),(6,.int .i64 k)]) (fun k=> [.live 0 (AK (BI (l.take k) n))]) (fun k=>l.length-k) (fun k=>k≤l.length) 0 (Wk.cutM (k:=1) (by simp[Ad]) (by simp[BI,Eu,List.map_const']) (by simp) (by simp) (by simp) (by simp)) (by simp) ?_)
 .intro i hi
  by_cases c1:i<l.length
  rotate_left
  .have:i=l.length:=by omega
   subst this
   rw[List.take_length]
   refine Af c1 ?_;intro K hK
   refine zk ?_;clear hK K
   refine zn ?_
   refine W.exit ?_
   obtain⟨t,ht⟩:∃t,t=BI l n:=⟨_,rfl⟩
   have htl:t.length=n:=by rw[ht,MP]
   rw[←ht]
   obtain⟨g,hg⟩:∃g,g=Bx t 0 0:=⟨_,rfl⟩
   have hgl:g.length≤n+1:=by have:=FN t 0 0;rw[hg];omega
   rw[←hg]
   refine zs ?_
   refine zs ?_
   (repeat refine W.seq ?_);refine W.block (W.loopS (fun x:Nat×List (Int×Int)×Nat=> [(0,.ro l.length (Ac As l)),(1,.int .i64 n),(5,.tok 0 0 1 0 n),(8,.tok 1 (DH x.2.1 x.2.2 x.1).length 2 0 (DH x.2.1 x.2.2 x.1).length),(9,.int .i64 x.1)]) (fun x=> [.live 0 (AK t),.live (DH x.2.1 x.2.2 x.1).length (Ac As (DH x.2.1 x.2.2 x.1))]) (fun x=>n-x.1) (fun x=>x.1≤n∧x.2.2≤x.1∧g=x.2.1++Bx (t.drop x.1) x.1 x.2.2∧∀z∈x.2.1,0≤z.1∧1≤z.2∧z.1+z.2<x.2.2) (0,[],0) ?_ ?_ ?_)
   .exact(Wk.nil (t:=8) (s:=2) (by simp)).trans (Wk.cutM (k:=2) (by simp[Ad,DH]) (by simp[DH]) (by simp) (by simp) (by simp) (by simp))
   .exact⟨by simp,by simp,by simp[hg],by simp⟩
   rintro⟨k,y,a⟩ ⟨hk,hak,hgy,hy⟩
   simp only at hk hak hgy hy ⊢
   by_cases d1:k<n
   rotate_left
   .have:k=n:=by omega
    subst this
    rw[List.drop_of_length_le (by omega)] at hgy
    have e:DH y a k=g:=by rw[hgy,DH,Bx];congr 1;split<;>split<;>first|rfl|omega
    rw[e]
    refine Af d1 ?_;intro K hK
    refine zk ?_;clear hK K
    refine zn ?_
    refine W.exit ?_
    refine zs ?_
    exact zR
   refine Af d1 ?_;intro K hK
   refine zk ?_;clear hK K
   refine zt ?_
   refine W.skip ?_
   refine zb ?_
   have hkt:k<t.length:=by omega
   cases d2:t[k]
   rotate_left
   .rw[Nz hkt d2] at hgy
    refine Af (an d1 (an d2 hkt)) ?_;intro K hK
    refine zk ?_;clear hK K
    refine zt ?_
    refine W.exit ?_
    refine zs ?_
    refine⟨(k+1,DH y a k,k+1),by simp only;omega,⟨by simp only;omega,by simp only;omega,by simp only;rw[hgy,DH,List.append_assoc];congr 2;split<;>split<;>first|rfl|omega,?_⟩,?_⟩
    .intro z hz
     simp only[DH,List.mem_append] at hz ⊢
     rcases hz with hz|hz
     .have:=hy z hz;omega
     .split at hz
      .simp at hz;subst hz;simp only;omega
      .simp at hz
    .have e:DH (DH y a k) (k+1) (k+1)=DH y a k:=by rw[DH,if_neg (by omega),List.append_nil]
     simp only[e]
     exact Wk.cutM (k:=2) (by simp[Ad]) (by simp) (by simp) (by simp) (by simp) (by simp)
   rw[L4 hkt d2] at hgy
   refine Af (an d1 (an d2 hkt)) ?_;intro K hK
   refine zk ?_;clear hK K
   refine zn ?_
   refine W.skip ?_
   have hyl:y.length≤n+1:=by rw[hgy] at hgl;simp at hgl;omega
   by_cases e1:a<k
   .obtain⟨x,hx⟩:∃x,x=DH y a k:=⟨_,rfl⟩
    have hx2:x=y++[((a:Int),(k:Int)-a)]:=by rw[hx,DH,if_pos e1]
    have hxl:x.length=y.length+1:=by rw[hx2];simp
    have hN:y.length<x.length:=by omega
    have hxN:x[y.length]=((a:Int),(k:Int)-a):=by simp[hx2]
    have em:(x.length:Int)-1=(y.length:Int):=by omega
    have hpos:0<x.length:=by omega
    have f0:(Ac As x)[y.length*2]?=some (.int .i64 a):=by
     have:(Ac As x)[y.length*2]?=some (.int .i64 x[y.length].1):=AE (f:=As) (s:=2) (fun _=>rfl) hN (i:=0) (by omega)
     rw[hxN] at this;exact this
    have f1:(Ac As x)[y.length*2+1]?=some (.int .i64 ((k:Int)-a)):=by
     have:(Ac As x)[y.length*2+1]?=some (.int .i64 x[y.length].2):=AE (f:=As) (s:=2) (fun _=>rfl) hN (i:=1) (by omega)
     rw[hxN] at this;exact this
    have hcd:((a:Int)+((k:Int)-a)=k)=True:=eq_true (by omega)
    have hset:=UO (x:=x) (i:=y.length) (p:=((a:Int),(k:Int)-a+1)) hN ((k:Int)-a+1) (by rw[hxN])
    have hxs:x.set y.length ((a:Int),(k:Int)-a+1)=DH y a (k+1):=by
     rw[hx2,List.set_append_right _ _ (by omega),Nat.sub_self,List.set_cons_zero,DH,if_pos (by omega)]
     congr 2
     simp;omega
    have hxgl:(DH y a (k+1)).length=x.length:=by rw[←hxs];simp
    rw[←hx]
    refine Ba (an hpos (an em (an hN (an f0 (an f1 hcd))))) ?_;intro K hK
    refine zk ?_;clear hK K
    refine zt ?_
    refine Af (an em (an hN (an f0 f1))) ?_;intro K hK
    refine⟨by omega,?_⟩
    refine zk ?_;clear hK K
    rw[hset,hxs]
    refine zs ?_
    refine⟨(k+1,y,a),by simp only;omega,⟨by simp only;omega,by simp only;omega,by simp only;rw[hgy];simp,hy⟩,?_⟩
    simp only[hxgl]
    exact Wk.cutM (k:=2) (by simp[Ad]) (by simp) (by simp) (by simp) (by simp) (by simp)
   .have hae:a=k:=by omega
    subst hae
    have hx:DH y a a=y:=by rw[DH,if_neg (by omega),List.append_nil]
    have hx2:DH y a (a+1)=y++[((a:Int),1)]:=by rw[DH,if_pos (by omega)];congr 2;simp;omega
    rw[hx]
    (repeat refine W.seq ?_);refine W.midS (fun _:Unit=> [(0,.ro l.length (Ac As l)),(1,.int .i64 n),(5,.tok 0 0 1 0 n),(8,.tok 1 y.length 2 0 y.length),(9,.int .i64 a),(66,.bool false)]) (fun _=> [.live 0 (AK t),.live y.length (Ac As y)]) (fun _=>True) ?_ ?_
    .by_cases e2:y.length=0
     .have e2' :y=[]:=List.eq_nil_of_length_eq_zero e2
      subst e2'
      refine B9 ?_;intro K hK
      refine zk ?_;clear hK K
      exact⟨(),trivial,Wk.fr (by simp[Ad])⟩
     .obtain⟨N,hN⟩:∃N,y.length=N+1:=⟨y.length-1,by omega⟩
      have hNl:N<y.length:=by omega
      have em:(y.length:Int)-1=(N:Int):=by omega
      have hpos:0<y.length:=by omega
      have f0:(Ac As y)[N*2]?=some (.int .i64 y[N].1):=AE (f:=As) (s:=2) (fun _=>rfl) hNl (i:=0) (by omega)
      have f1:(Ac As y)[N*2+1]?=some (.int .i64 y[N].2):=AE (f:=As) (s:=2) (fun _=>rfl) hNl (i:=1) (by omega)
      have hz:=hy _ (List.getElem_mem hNl)
      have hcd:(y[N].1+y[N].2=(a:Int))=False:=eq_false (by omega)
      refine Ba (an hpos (an em (an hNl (an f0 (an f1 hcd))))) ?_;intro K hK
      refine zk ?_;clear hK K
      exact⟨(),trivial,Wk.fr (by simp[Ad])⟩
    rintro _ _
    refine zn ?_
    refine z1 ?_;intro K hK
    refine⟨by omega,by omega,?_⟩
    refine zk ?_;clear hK K
    refine zs ?_
    refine⟨(a+1,y,a),by simp only;omega,⟨by simp only;omega,by simp only;omega,by simp only;rw[hgy];simp,hy⟩,?_⟩
    simp only[hx2]
    exact Wk.cutM (k:=2) (by simp[Ad]) (by simp[Bz,AA,As]) (by simp) (by simp) (by simp) (by simp)
  obtain⟨p1,p2,p3⟩:=hp.2.2.2.1 _ (List.getElem_mem c1)
  have hto:l.take (i+1)=l.take i++[l[i]]:=by rw[List.take_add_one];simp[c1]
  refine Af c1 ?_;intro K hK
  refine zk ?_;clear hK K
  refine zt ?_
  refine W.skip ?_
  refine zb ?_
  refine zs ?_
  obtain⟨a,ha⟩:=Int.eq_ofNat_of_zero_le p1
  obtain⟨m,hm⟩:=Int.eq_ofNat_of_zero_le (show 0≤l[i].2 by omega)
  (repeat refine W.seq ?_);refine W.block (W.loopS (fun k:Nat=> [(0,.ro l.length (Ac As l)),(1,.int .i64 n),(5,.tok 0 0 1 0 n),(6,.int .i64 i),(7,.int .i64 k)]) (fun k=> [.live 0 (AK (CV (l.take i) n a ((a+k:Nat):Int)))]) (fun k=>m-k) (fun k=>k≤m) 0 (Wk.cutM (k:=1) (by simp[Ad]) (by simp[Oq]) (by simp) (by simp) (by simp) (by simp)) (by simp) ?_)
  intro k hk
  have g0:(Ac As l)[i*2]?=some (.int .i64 a):=by rw[←ha];exact AE (f:=As) (s:=2) (fun _=>rfl) c1 (i:=0) (by omega)
  have g1:(Ac As l)[i*2+1]?=some (.int .i64 m):=by rw[←hm];exact AE (f:=As) (s:=2) (fun _=>rfl) c1 (i:=1) (by omega)
  by_cases c2:k<m
  .have hidx:a+k<n:=by omega
   have hset:=Ln (l.take i) n (a+k) a (by omega) hidx
   refine Af (an c1 (an g1 c2)) ?_;intro K hK
   refine zk ?_;clear hK K
   refine zt ?_
   refine W.skip ?_
   refine zb ?_
   have ei:(a:Int)+(k:Int)=((a+k:Nat):Int):=by omega
   obtain⟨q,hq⟩:∃q,q=a+k:=⟨_,rfl⟩
   rw[←hq] at ei hset hidx
   rw[ei]
   have hql:q<(AK (CV (l.take i) n a q)).length:=by simp;exact hidx
   (repeat refine W.seq ?_);refine W.reg 0 rfl fun K hK=>?_;simp -implicitDefEqProofs (maxSteps:=999999) (disch:=omega) [c1,ha,As,ei,hidx]
   refine⟨by omega,?_⟩
   refine zk ?_;clear hK K
   rw[Fg,hset]
   refine zs ?_
   have eq1:((a+(k+1):Nat):Int)=(q:Int)+1:=by omega
   exact⟨k+1,by omega,by omega,Wk.cutM (k:=1) (by simp[Ad]) (by rw[eq1];simp) (by simp) (by simp) (by simp) (by simp)⟩
  .have:k=m:=by omega
   subst this
   refine Af (an c1 (an g1 c2)) ?_;intro K hK
   refine zk ?_;clear hK K
   refine zn ?_
   refine W.exit ?_
   refine zs ?_
   exact⟨i+1,by omega,by omega,Wk.cutM (k:=1) (by simp[Ad]) (by rw[hto,←Lm,ha,hm];simp) (by simp) (by simp) (by simp) (by simp)⟩
theorem WX (l:List (Int×Int)) (blocks m:Int) (hl:l.length<1000000000) (hp:Cl l blocks):Aa pg 92 [.ro l.length (Ac As l),.int .i64 blocks,.int .i64 m] [] (fun r _=>r= .int .i64 (match (Bx (BI l blocks.toNat) 0 0).find? fun x=>decide (m≤x.2) with|some x=>x.1|none=>-1)):=by
 have sp:=WW l blocks hl hp
 obtain⟨g,hg⟩:∃g,g=Bx (BI l blocks.toNat) 0 0:=⟨_,rfl⟩
 have hgl:g.length≤101:=by have:=FN (BI l blocks.toNat) 0 0;have:=hp.2.1;rw[hg];simp at*;omega
 rw[←hg] at sp ⊢
 refine Aa.start (fn:=Tryz.f92) [.tmp 6] tk rfl rfl rfl (by kernel_rfl) (Nat.le_of_ble_eq_true rfl) rfl (by kernel_rfl) ?_
 rw[Bd]
 refine zs ?_
 refine z0 ?_;intro K hK
 refine Ab.eq sp (by simp) (by simp) ?_
 refine zx ?_
 refine zk ?_;clear hK K
 refine zs ?_
 (repeat refine W.seq ?_);refine W.block (W.loopS (fun k:Nat=> [(2,.int .i64 m),(7,.tok 0 0 2 0 g.length),(8,.int .i64 k)]) (fun _=> [.live 0 (Ac As g)]) (fun k=>g.length-k) (fun k=>k≤g.length∧∀x∈g.take k,decide (m≤x.2)=false) 0 (Wk.fr (by simp[Ad])) ⟨by omega,by simp⟩ ?_)
 rintro k ⟨hk,hm⟩
 by_cases c3:k<g.length
 rotate_left
 .rw[List.take_of_length_le (by omega)] at hm
  rw[List.find?_eq_none.2 (by intro x hx;simpa using hm x hx)]
  refine Af c3 ?_;intro K hK
  refine zk ?_;clear hK K
  refine zn ?_
  refine W.exit ?_
  refine zs ?_
  exact zR
 have g0:(Ac As g)[k*2]?=some (.int .i64 g[k].1):=AE (f:=As) (s:=2) (fun _=>rfl) c3 (i:=0) (by omega)
 have g1:(Ac As g)[k*2+1]?=some (.int .i64 g[k].2):=AE (f:=As) (s:=2) (fun _=>rfl) c3 (i:=1) (by omega)
 refine Af c3 ?_;intro K hK
 refine zk ?_;clear hK K
 refine zt ?_
 refine W.skip ?_
 refine zb ?_
 by_cases c4:m≤g[k].2
 .rw[Hq c3 hm (by simpa using c4)]
  refine Af (an c3 (an g1 c4)) ?_;intro K hK
  refine zk ?_;clear hK K
  refine zt ?_
  refine Af (an c3 g0) ?_;intro K hK
  refine zk ?_;clear hK K
  exact zR
 .refine Af (an c3 (an g1 c4)) ?_;intro K hK
  refine zk ?_;clear hK K
  refine zn ?_
  refine W.skip ?_
  refine zs ?_
  exact⟨k+1,by omega,⟨by omega,HU c3 hm (by simpa using c4)⟩,Wk.fr (by simp[Ad])⟩
end Go.Abs
set_option maxRecDepth 100000
namespace Go.Abs
open Go.Proofs
theorem UP {xs:List Int} {i:Nat} (h:i<xs.length):(List.replicate i (-99)++xs.drop i).set i (-99)=List.replicate (i+1) (-99:Int)++xs.drop (i+1):=by
 rw[List.set_append_right _ _ (by simp),List.length_replicate,Nat.sub_self,List.drop_eq_getElem_cons h,List.set_cons_zero,List.replicate_succ']
 simp
theorem J1 (xs:List Int) (u:Nat) (hx:xs.length<1000000000):Aa pg 85 [.tok 0 u 1 0 xs.length] [.live u (Ae xs)] (fun r M=>r= .tup []∧M=[.live u (Ae (List.replicate xs.length (-99)))]):=by
 refine Aa.start (fn:=Tryz.f85) [] tk rfl rfl rfl (by kernel_rfl) (Nat.le_of_ble_eq_true rfl) rfl (by kernel_rfl) ?_
 rw[Av]
 refine zs ?_
 (repeat refine W.seq ?_);refine W.block (W.loopS (fun i:Nat=> [(0,.tok 0 u 1 0 xs.length),(2,.int .i64 i)]) (fun i=> [.live u (Ae (List.replicate i (-99)++xs.drop i))]) (fun i=>xs.length-i) (fun i=>i≤xs.length) 0 (Wk.fr (by simp[Ad])) (by simp) ?_)
 intro i hi
 by_cases c1:i<xs.length
 .have hset:=UP c1
  obtain⟨l,hl⟩:∃l,l=List.replicate i (-99)++xs.drop i:=⟨_,rfl⟩
  have hll:l.length=xs.length:=by rw[hl];simp;omega
  rw[←hl] at hset ⊢
  refine Af c1 ?_;intro K hK
  refine zk ?_;clear hK K
  refine zt ?_
  refine W.skip ?_
  refine zb ?_
  refine Af (an c1 hll) ?_;intro K hK
  refine⟨by omega,?_⟩
  refine zk ?_;clear hK K
  rw[Dw,hset]
  refine zs ?_
  exact⟨i+1,by omega,by omega,Wk.fr (by simp[Ad])⟩
 .have:i=xs.length:=by omega
  subst this
  refine Af c1 ?_;intro K hK
  refine zk ?_;clear hK K
  refine zn ?_
  refine W.exit ?_
  (try simp only[BJ,BK,Cx,Cy,if_true]);refine Eo (d:=0) ?_;simp -implicitDefEqProofs (maxSteps:=999999) (disch:=omega)
@[simp] theorem eN (n:Nat):CY (List.replicate n (AV.own 1 0 []))=true:=by
  induction n with
  |zero=>rfl
  |succ n ih=>rw[List.replicate_succ,CY,ih];rfl
@[simp] theorem gW (k n:Nat):Da k (List.replicate n (AV.own 1 0 []))=true:=by rw[Gu];simp[GO]
@[simp] theorem gX (n:Nat):DT (List.replicate n (AV.own 1 0 []))=true:=by simp[DT,-HC]
def EC (i:Nat) (xs:List (List Int)):List AV:=List.replicate i (.own 1 0 [])++Ay true (xs.drop i)
theorem Ta {i:Nat} {xs:List (List Int)} (h:i≤xs.length):(EC i xs).length=xs.length:=by simp[EC,Ay];omega
theorem UQ {i:Nat} {xs:List (List Int)} (h:i<xs.length):(EC i xs)[i]?=some (.own 1 xs[i].length (Ae xs[i])):=by
 rw[EC,List.getElem?_append_right (by simp),List.length_replicate,Nat.sub_self,List.drop_eq_getElem_cons h]
 simp only[Ay,List.map_cons,List.getElem?_cons_zero,FB,Yo]
theorem Tb {i:Nat} {xs:List (List Int)} (h:i<xs.length):(EC i xs).set i (.own 1 0 [])=EC (i+1) xs:=by
 rw[EC,EC,List.set_append_right _ _ (by simp),List.length_replicate,Nat.sub_self,List.drop_eq_getElem_cons h,List.replicate_succ']
 simp only[Ay,List.map_cons,List.set_cons_zero,List.append_assoc,List.cons_append,List.nil_append]
theorem Tc (xs:List (List Int)):EC xs.length xs=List.replicate xs.length (.own 1 0 []):=by simp[EC,Ay]
@[simp] theorem cL (i n:Nat) (xs:List (List Int)):Da n (EC i xs)=true:=by
  rw[EC,Rg]
  have:Da n (List.replicate i (AV.own 1 0 []))=true:=by rw[Gu];simp[GO]
  simp[this]
theorem UR (xs:List (List Int)) (g u:Nat) (n:Int) (hx:xs.length<1000000000) (hxs:∀l∈xs,l.length<1000000000):Aa pg 39 [.agg [.int .i64 n,.tok 0 u 1 0 xs.length]] [.live u (Ay true xs)] (fun r M=>r= .tup []∧M=[.live u (List.replicate xs.length (.own 1 0 []))]):=by
 refine Aa.start (fn:=Tryz.f39) [] tk rfl rfl rfl (by kernel_rfl) (Nat.le_of_ble_eq_true rfl) rfl (by kernel_rfl) ?_
 rw[Av]
 refine z1 ?_;intro K hK;refine zk ?_;clear hK K
 refine zs ?_
 (repeat refine W.seq ?_);refine W.block (W.loopS (fun i:Nat=> [(1,.ptr 1 0 0),(2,.int .i64 i)]) (fun i=> [.live u (EC i xs),.live 0 [.int .i64 n,.tok 0 u 1 0 xs.length]]) (fun i=>xs.length-i) (fun i=>i≤xs.length) 0 (Wk.cutM (k:=2) (by simp[Ad]) (by simp[EC]) (by simp) (by simp) (by simp) (by simp)) (by simp) ?_)
 intro i hi
 by_cases c1:i<xs.length
 .have hll:=Ta (Nat.le_of_lt c1)
  have hat:=UQ c1
  have hset:=Tb c1
  obtain⟨l,hl⟩:∃l,l=EC i xs:=⟨_,rfl⟩
  rw[←hl] at hset hll hat ⊢
  refine Af c1 ?_;intro K hK
  refine zk ?_;clear hK K
  refine zt ?_
  refine W.skip ?_
  refine zb ?_
  refine W.weak (Wk.thaw (B:=0) (v:=u) (j:=i) (s:=1) (n:=xs[i].length) (xs:=Ae xs[i]) (by simp[Ai]) hat) ?_
  have hin:=hxs _ (List.getElem_mem c1)
  have hcell:(l.set i (.tok 2 0 1 0 xs[i].length))[i]?=some (.tok 2 0 1 0 xs[i].length):=List.getElem?_set_self (by omega)
  refine Af (an c1 (an hll hcell)) ?_;intro K hK
  refine Ab.pass [2] (J1 xs[i] 0 hin) (by simp) (by simp) (by simp) (by simp) ?_
  rintro r M ⟨rfl,rfl⟩ _
  refine zx ?_
  refine zk ?_;clear hK K
  refine Af (an c1 hll) ?_;intro K hK
  refine⟨by omega,?_⟩
  refine zk ?_;clear hK K
  rw[hset]
  refine zs ?_
  exact⟨i+1,by omega,by omega,Wk.cutM (k:=2) (by simp[Ad]) (by simp) (by simp) (by simp) (by simp) (by simp)⟩
 .have:i=xs.length:=by omega
  subst this
  refine Af c1 ?_;intro K hK
  refine zk ?_;clear hK K
  refine zn ?_
  refine W.exit ?_
  (try simp only[BJ,BK,Cx,Cy,if_true]);refine Eo (d:=0) ?_;simp -implicitDefEqProofs (maxSteps:=999999) (disch:=omega)
  rw[Tc]
  exact⟨by simp[DT,-HC],rfl⟩
end Go.Abs
set_option maxRecDepth 100000
namespace Go.Abs
open Go.Proofs
theorem WY {C:Bn} {T:Nat→Option TI} (tk:BH C.P T) {t e es eb:Nat} {ez:List AV} (htd:Au T t= .slice e es eb ez) {a:Option Addr} {n c l h:Nat} {lo hi:Option (IntKind×Int)} (hnc:n≤c) (h1:FI (hi.map fun x=> .int x.1 x.2) n n=some h) (h2:FI (lo.map fun x=> .int x.1 x.2) 0 h=some l) (w:World):
 (Instr.sliceAt t (.slice a n c) (lo.map fun x=> .int x.1 x.2) (hi.map fun x=> .int x.1 x.2) none).run C.P w= .ok (.slice (if c=l then a else a.map (·.add (l*es))) (h-l) (c-l)) w:=by
 obtain⟨hD,E,z,hE,hs,_⟩:=Ci tk htd
 have hh:∀(x:Option (IntKind×Int)) (y:AV),(x.map fun x=>AV.int x.1 x.2)=some y→∃u,(x.map fun x=>Value.int x.1 x.2)=some u∧VR w C.sh (fun _ _=>none) y u (fun _=>0):=by
  intro x y hy
  cases x with
  |none=>simp at hy
  |some x=>simp at hy;subst hy;exact⟨_,rfl,rfl,fun _=>rfl⟩
 have hb:=(FJ (P:=C.P) (w:=w) (σ:=fun _ _=>none) (C:=C) true (hh lo) (by cases lo<;>simp) (hh hi) (by cases hi<;>simp) hnc h1 h2).1
 simp only[Instr.sliceAt,Sem.run_bind,run_underlying hD,Result.andThen_ok,Instr.slice,hb,BZ hE,hs,Sem.run_pure]
theorem Td {C:Bn} {T:Nat→Option TI} (tk:BH C.P T) {F:Fr} {M:List Ah} {a:Act} {w:World} {σ:Nat→Nat→Option St} {own:Nat→Option Nat} (R:AJ C F M a w σ own) {t e eb:Nat} {ez:List AV} (htd:Au T t= .slice e 1 eb ez) {B v off n tx ty d ty' :Nat} {pos:String} {af:Array Edge} {cs ys:List AV} (hb:Ai M B v=some cs) (hx:F tx= .tok B v 1 off n) (hxn:tx<C.n) (hyn:ty<C.n)
 {m:Nat} (hyc:CX M (F ty)=some (m,ys)) (hyl:ys.length=m*1) (hyo:ys.all C4=true) (hle:off+n≤cs.length) (hn:0<n) (hm:0<m) {next:Act→World→Prop} {Q:Exit→Act→World→Prop}
 (hK:∀a' w',AJ C (Be F d (.int .i64 (min m n:Nat))) (M.set B (.live v (Cn cs off (ys.take (min m n))))) a' w' σ own→(∀t,t≠d→a'.tmps.getD t undef=a.tmps.getD t undef)→next a' w'):
 Oper.wpIn (FX C) 0 C.P {dst:=some d,op:= .call {callee:= .builtin .copy,args:= #[.tmp tx,.tmp ty],argTypes:= #[t,t]},type:=ty',pos:=pos,after:=af,guard:=none} a w next Q:=by
 have e1:=R.tmp tx hxn;rw[hx] at e1
 obtain⟨w',hrun,R'⟩:=R.copy (ty:=ty') tk htd hb e1 (R.tmp ty hyn) hyc hyl hyo hle hn hm
 refine Oper.wp_value (fun _ h=>by cases h) (v:= .int .i64 (min m n:Nat)) (w' :=w') ?_ (hK _ _ (R'.put (some d) (av:= .int .i64 (min m n:Nat)) ⟨rfl,fun _=>rfl⟩) fun t ht=>BA ht)
 have e2:∀t,a.eval (.tmp t)=a.tmps.getD t undef:=fun _=>rfl
 simp only[execOp,resolve,invoke,builtin,e2,List.map_toArray,List.map_cons,List.map_nil,Sem.run_bind,hrun,Result.andThen_ok,Sem.run_pure]
theorem Te {C:Bn} (hrd:C.rd=none) {K:Act→World→Prop} {ops:Array Oper} {i d fuel:Nat} {listed:Array Bool} {F:Fr} {M:List Ah} {a:Act} {w:World} {σ:Nat→Nat→Option St} {own:Nat→Option Nat} {o:Oper} {v:Value} {av:AV} (R:AJ C F M a w σ own) (ho:ops[i]?=some o) (hd:o.dst=some d) (hg:o.guard=none) (hs:Region.noSelect ops=true) (hf:Region.free .any ops listed i=true) (hr:(Region.ready .any ops listed).contains i=true)
 (hv:VR w C.sh σ av v (fun _=>0)) (hrun:∀w,(execOp a.eval o).run C.P w= .ok (.value v) w) (hab:∀w,o.about C.P w a.eval=none) (next:∀a',AJ C (Be F d av) M a' w σ own→wpAnyIn (FX C) 0 C.P .any ops (fun e a w=>e= .normal∧K a w) fuel (listed.setIfInBounds i true) a' w):wpAnyIn (FX C) 0 C.P .any ops (fun e a w=>e= .normal∧K a w) (fuel+1) listed a w:=by
 refine wpAnyIn_take (i:=i) (v:=v) (by simp[FX,hrd]) ho hs hf hr (fun _ _ _ h=>by cases h.1) ⟨.inl ⟨by simp[Region.wanted,hg],hrun⟩,hab⟩ ?_
 rw[hd]
 exact next _ (R.put (some d) hv)
theorem Hr {C:Bn} (hrd:C.rd=none) {K:Act→World→Prop} {ops:Array Oper} {i d s ty fuel:Nat} {pos:String} {af:Array Edge} {listed:Array Bool} {F:Fr} {M:List Ah} {a:Act} {w:World} {σ:Nat→Nat→Option St} {own:Nat→Option Nat} (R:AJ C F M a w σ own) (ho:ops[i]?=some {dst:=some d,op:= .move (.tmp s),type:=ty,pos:=pos,after:=af,guard:=none}) (hs:Region.noSelect ops=true) (hf:Region.free .any ops listed i=true) (hr:(Region.ready .any ops listed).contains i=true) (hn:s<C.n)
 (next:∀a',AJ C (Be F d (F s)) M a' w σ own→wpAnyIn (FX C) 0 C.P .any ops (fun e a w=>e= .normal∧K a w) fuel (listed.setIfInBounds i true) a' w):wpAnyIn (FX C) 0 C.P .any ops (fun e a w=>e= .normal∧K a w) (fuel+1) listed a w:=
 Te hrd R ho rfl rfl hs hf hr (R.tmp s hn) (fun w=>by simp only[execOp];rfl) (fun _=>rfl) next
theorem NA {C:Bn} {T:Nat→Option TI} (tk:BH C.P T) (hrd:C.rd=none) {K:Act→World→Prop} {ops:Array Oper} {i d s ty t e es eb fuel B v n l h:Nat} {ez:List AV} {lo hi:Option (Nat×IntKind×Int)} {pos:String} {af:Array Edge} {listed:Array Bool} {F:Fr} {M:List Ah} {a:Act} {w:World} {σ:Nat→Nat→Option St} {own:Nat→Option Nat} (R:AJ C F M a w σ own) (ho:ops[i]?=some {dst:=some d,op:= .slice t (.tmp s) (lo.map fun x=> .tmp x.1) (hi.map fun x=> .tmp x.1) none,type:=ty,pos:=pos,after:=af,guard:=none}) (hs:Region.noSelect ops=true) (hf:Region.free .any ops listed i=true) (hr:(Region.ready .any ops listed).contains i=true) (hn:s<C.n) (htd:Au T t= .slice e es eb ez) (hF:F s= .tok B v es 0 n) (hb:(Ai M B v).isSome) (hlo:∀x,lo=some x→x.1<C.n∧F x.1= .int x.2.1 x.2.2) (hhi:∀x,hi=some x→x.1<C.n∧F x.1= .int x.2.1 x.2.2)
 (h1:FI (hi.map fun x=> .int x.2.1 x.2.2) n n=some h) (h2:FI (lo.map fun x=> .int x.2.1 x.2.2) 0 h=some l)
 (next:∀a',AJ C (Be F d (.tok B v es (l*es) (h-l))) M a' w σ own→wpAnyIn (FX C) 0 C.P .any ops (fun e a w=>e= .normal∧K a w) fuel (listed.setIfInBounds i true) a' w):wpAnyIn (FX C) 0 C.P .any ops (fun e a w=>e= .normal∧K a w) (fuel+1) listed a w:=by
 have hx:=R.tmp s hn
 rw[hF] at hx
 obtain⟨cs,hcs⟩:=Option.isSome_iff_exists.1 hb
 obtain⟨_,fp,hB,_⟩:=BS R.mem hcs
 have hx2:=hx
 simp only[VR] at hx2
 obtain⟨_,⟨ad,c,hval⟩,st,hst,hnil,hloc⟩:=hx2
 have hnc:n≤c:=by
  simp only[BR] at hB
  rcases hB.2 with⟨h1,_,_⟩ | ⟨g,b,cur,e',fp',h1,_⟩
  .rw[h1] at hst;simp at hst;subst hst
   have:=(hnil rfl).2.2;omega
  .rw[h1] at hst;simp at hst;subst hst
   obtain⟨a2,c2,e2,_,e3,_⟩:=hloc _ _ _ rfl
   rw[hval] at e2;cases e2;exact e3
 have el:(lo.map fun x=>Operand.tmp x.1).map a.eval=(lo.map fun x=>x.2).map fun x=>Value.int x.1 x.2:=by
  cases lo with
  |none=>rfl
  |some x=>
   obtain⟨h3,h4⟩:=hlo x rfl
   have:=R.tmp x.1 h3;rw[h4] at this
   simp only[Option.map_some];exact congrArg some this.1
 have eh:(hi.map fun x=>Operand.tmp x.1).map a.eval=(hi.map fun x=>x.2).map fun x=>Value.int x.1 x.2:=by
  cases hi with
  |none=>rfl
  |some x=>
   obtain⟨h3,h4⟩:=hhi x rfl
   have:=R.tmp x.1 h3;rw[h4] at this
   simp only[Option.map_some];exact congrArg some this.1
 have e1:a.eval (.tmp s)= .slice ad n c:=hval
 have hall:=WY tk htd (a:=ad) (lo:=lo.map fun x=>x.2) (hi:=hi.map fun x=>x.2) hnc (by rw[Option.map_map];exact h1) (by rw[Option.map_map];exact h2)
 obtain⟨u,hu,hv⟩:=SN R.mem tk (t:=t) (lo:=lo.map fun x=>AV.int x.2.1 x.2.2) (hi:=hi.map fun x=>AV.int x.2.1 x.2.2) (mx:=none) (vl:=(lo.map fun x=>x.2).map fun x=>Value.int x.1 x.2) (vh:=(hi.map fun x=>x.2).map fun x=>Value.int x.1 x.2) (vm:=none) hx (by
  intro y hy;cases lo with
  |none=>simp at hy
  |some x=>simp at hy;subst hy;exact⟨_,rfl,rfl,fun _=>rfl⟩) (by cases lo<;>simp) (by
  intro y hy;cases hi with
  |none=>simp at hy
  |some x=>simp at hy;subst hy;exact⟨_,rfl,rfl,fun _=>rfl⟩) (by cases hi<;>simp) (by simp) (by simp) (r:= .tok B v es (0+l*es) (h-l)) (by
  unfold JB
  simp only[htd]
  rw[if_pos ⟨trivial,hb⟩]
  simp only[h1,h2])
 rw[hval] at hu
 have h5:=hall w
 rw[h5] at hu
 cases hu
 refine Te hrd R ho rfl rfl hs hf hr (by simpa using hv) (fun w=>?_) (fun _=>rfl) next
 simp only[execOp,e1,el,eh,Option.map_none,Sem.run_bind,hall,Result.andThen_ok,Sem.run_pure]
theorem Zi {C:Bn} {T:Nat→Option TI} (tk:BH C.P T) {F:Fr} {M:List Ah} {a:Act} {w:World} {σ:Nat→Nat→Option St} {own:Nat→Option Nat} {o:Oper} {next:Act→World→Prop} {Q:Exit→Act→World→Prop} (R:AJ C F M a w σ own) (hb:Bw C.n o=true) (hnd:∀c,o.op≠ .defer c) {r:AV} (hv:pv T M F o=some r)
 (h:∀a',AJ C (Al F o.dst r) M a' w σ own→next a' w):o.wpIn (FX C) 0 C.P a w next Q:=by
 obtain⟨u,hu,hr⟩:=RT tk R hb hv
 exact Oper.wp_value hnd hu (h _ (R.put _ hr))
theorem Q2 (a b:Int):∀(j k m:Nat),j≤m→Cn (Ae (List.replicate k a++List.replicate m b)) k (Ae (List.replicate j a))=Ae (List.replicate (k+j) a++List.replicate (m-j) b)
 |0,k,m,_=>by simp[Cn,Ae]
 |j+1,k,m,h=>by
  obtain⟨m,rfl⟩:∃m',m=m' +1:=⟨m-1,by omega⟩
  have ih:=Q2 a b j (k+1) m (by omega)
  have e:(Ae (List.replicate k a++List.replicate (m+1) b)).set k (.int .i64 a)=Ae (List.replicate (k+1) a++List.replicate m b):=by
   rw[List.replicate_succ,List.replicate_succ',List.append_assoc]
   simp only[Ae,List.map_append,List.map_cons]
   rw[List.set_append_right _ _ (by simp)]
   simp
  have e2:Ae (List.replicate (j+1) a)= .int .i64 a::Ae (List.replicate j a):=by simp[Ae,List.replicate_succ]
  rw[e2,Cn,e,ih,show k+1+j=k+(j+1) by omega,show m+1-(j+1)=m-j by omega]
theorem US (n:Nat) (hn1:1≤n) (hn:n<1000):Aa pg 250 [.ro 1 [.int .i64 (-1)],.int .i64 n] [] (fun r _=>r= .own 1 n (Ae (List.replicate n (-1)))):=by
 refine Aa.enterA (fn:=Tryz.f250) tk rfl rfl rfl (Nat.le_of_ble_eq_true rfl) (by kernel_rfl) ?_
 intro C hC hp hnC hrd hdf
 have hp0:C.p≤0:=Nat.le_of_eq hp
 have hn48:C.n=48:=hnC
 show AW C _ _ _ (G8 tT [.tmp 4] 0 _)
 rw[At]
 refine AW.seqW tk hC hp0 (by rw[hn48];kernel_rfl) ?_
 refine zs ?_
 refine AW.seqW tk hC hp0 (by rw[hn48];kernel_rfl) ?_
 refine zs ?_
 refine zn ?_
 refine W.skip ?_
 refine AW.seqW tk hC hp0 (by rw[hn48];kernel_rfl) ?_
 refine z0 ?_;intro K hK
 refine Ab.eq (ab n hn) (by simp) (by simp) ?_
 refine zx ?_
 refine zk ?_;clear hK K
 refine AW.seqW tk hC hp0 (by rw[hn48];kernel_rfl) ?_
 have z1:¬(9223372036854775807<(n:Int)):=by omega
 refine Af z1 ?_;intro K hK
 refine zk ?_;clear hK K
 refine zn ?_
 refine W.skip ?_
 refine AW.seqW tk hC hp0 (by rw[hn48];kernel_rfl) ?_
 (repeat refine W.seq ?_);refine W.reg 1 rfl fun K hK=>?_;simp -implicitDefEqProofs (maxSteps:=999999) (disch:=omega)
 refine zk ?_;clear hK K
 have hz:Cs n [AV.int .i64 0]=Ae (List.replicate n 0):=by
  simp only[Cs,Ae]
  clear z1 hn1 hn
  induction n with
  |zero=>rfl
  |succ n ih=>simp[List.replicate_succ,ih]
 rw[hz]
 refine AW.seq ?_
 intro a w hr
 refine wpIn_region_lit ?_
 refine(FD (hC ▸ tk) (K:=fun F' M' =>Wk 0 F' M' (fr [(7,.tok 0 0 1 0 n),(31,.tok 0 0 1 0 n),(32,.ro 1 [.int .i64 (-1)])]) [.live 0 (Ae (List.replicate n 0))]) ?_ [_,_] 1 _ _ a w ?_ ?_ ?_ hr:wpListIn _ _ _ _ _ ([_,_]++[_,_]) a w)
 rotate_left
 .rw[hn48];kernel_rfl
 .rw[hn48];kernel_rfl
 .refine D1 (call:=Ab pg) (call' :=DE C) (fun f args M K K' hk hc=>(hc C hC).mono hk) (fun _ _ h=>h) _ _ _ _ ?_
  simp -implicitDefEqProofs (maxSteps:=999999) (disch:=omega)
  exact Wk.fr (by simp[Ad])
 clear hr a w
 intro F' M' a w hwk hr
 obtain⟨σ,own,R⟩:=hwk C hp0 a w hr
 clear hr hwk
 simp only[wpListIn]
 rw[if_pos (by simp[Region.wanted])]
 refine Td (hC ▸ tk) R (t:=28) (e:=3) (eb:=8) (ez:=[.int .i64 0]) rfl (cs:=Ae (List.replicate n 0)) (B:=0) (v:=0) (off:=0) (n:=n) (m:=1) (ys:=[.int .i64 (-1)]) rfl rfl (by omega) (by omega) rfl rfl rfl (by simp) (by omega) (by omega) ?_
 intro a' w' R' _
 rw[if_pos (by simp[Region.wanted])]
 have e33:a'.eval (.tmp 33)= .int .i64 (min 1 n:Nat):=by
  have:=R'.tmp 33 (by omega)
  have h2:a'.tmps.getD 33 undef= .int .i64 (min 1 n:Nat):=by simpa[Be,VR,fr] using this.1
  exact h2
 have hmin:min 1 n=1:=by omega
 rw[hmin] at R' e33
 refine Oper.wp_value (fun _ h=>by cases h) (v:= .int .i64 (1:Nat)) (w' :=w') (by simp only[execOp,e33];rfl) (.inl ⟨_,_,?_,σ,own,R'.put (some 8) (av:= .int .i64 (1:Nat)) ⟨rfl,fun _=>rfl⟩⟩)
 have hset:[Ah.live 0 (Ae (List.replicate n 0))].set 0 (.live 0 (Cn (Ae (List.replicate n 0)) 0 (List.take 1 [AV.int .i64 (-1)])))=[.live 0 (Ae (List.replicate 1 (-1)++List.replicate (n-1) 0))]:=by
  obtain⟨j,rfl⟩:∃j,n=j+1:=⟨n-1,by omega⟩
  simp[Ae,Cn,List.replicate_succ]
 rw[hset]
 clear R' e33 hset R
 refine AW.weak (Wk.fr (S:=[(7,.tok 0 0 1 0 n),(8,.int .i64 (1:Nat))]) (by simp[Ad,Be]) C hp0) ?_
 refine AW.seq ?_
 refine AW.block ?_
 refine AW.loop (fun m F M=>∃k,m=n-k∧1≤k∧k≤n∧F=fr [(7,.tok 0 0 1 0 n),(8,.int .i64 k)]∧M=[.live 0 (Ae (List.replicate k (-1)++List.replicate (n-k) 0))]) (n-1) _ _ (CB.refl _ _ _) ⟨1,rfl,by omega,by omega,rfl,rfl⟩ ?_
 rintro m F M ⟨k,rfl,hk1,hkn,rfl,rfl⟩
 refine AW.seqW tk hC hp0 (by rw[hn48];kernel_rfl) ?_
 by_cases hlt:k<n
 rotate_left
 .refine Af hlt ?_;intro K hK
  refine zk ?_;clear hK K
  refine zn ?_
  refine W.exit ?_
  have ek:k=n:=by omega
  subst ek
  refine AW.seqW tk hC hp0 (by rw[hn48];kernel_rfl) ?_
  refine zs ?_
  refine AW.ret ?_
  simp only[CF,Dl,CT]
  refine CN (d:=0) ?_
  simp -implicitDefEqProofs (maxSteps:=999999) (disch:=omega)
 refine Af hlt ?_;intro K hK
 refine zk ?_;clear hK K
 refine zt ?_
 refine W.skip ?_
 refine AW.block ?_
 generalize hF:Be (Be _ _ _) _ _=F1
 have f7:F1 7= .tok 0 0 1 0 n:=by rw[←hF];simp[Be,fr]
 have f8:F1 8= .int .i64 k:=by rw[←hF];simp[Be,fr]
 clear hF
 intro a w hr
 refine wpIn_mono (Q:=fun e a w=>e= .normal∧CW C (fr [(7,.tok 0 0 1 0 n),(8,.int .i64 ((k+min k (n-k):Nat):Int))]) [.live 0 (Ae (List.replicate (k+min k (n-k)) (-1)++List.replicate (n-(k+min k (n-k))) 0))] a w) ?_ ?_
 rotate_left
 .rintro e a w ⟨rfl,hr⟩
  refine .inl ⟨_,_,?_,hr⟩
  exact⟨n-(k+min k (n-k)),_,_,by omega,CB.refl _ _ _,k+min k (n-k),rfl,by omega,by omega,rfl,rfl⟩
 refine wpIn_region_any (hC ▸ Ce) ?_
 obtain⟨σ,own,R⟩:=hr
 have R:=R.drew
 show wpAnyIn _ _ _ _ _ _ 10 _ a w.drew
 generalize w.drew=w at*
 refine Hr hrd R (i:=0) rfl (by kernel_rfl) (by kernel_rfl) (by kernel_rfl) (by omega) fun a R=>?_
 refine Hr hrd R (i:=1) rfl (by kernel_rfl) (by kernel_rfl) (by kernel_rfl) (by omega) fun a R=>?_
 refine Hr hrd R (i:=2) rfl (by kernel_rfl) (by kernel_rfl) (by kernel_rfl) (by omega) fun a R=>?_
 refine NA (hC ▸ tk) hrd R (i:=3) (lo:=some (40,.i64,k)) (hi:=none) rfl (by kernel_rfl) (by kernel_rfl) (by kernel_rfl) (by omega) (t:=28) (e:=3) (es:=1) (eb:=8) (ez:=[.int .i64 0]) (n:=n) (h:=n) (l:=k) rfl (by simp[Be,f7];exact⟨rfl,rfl⟩) rfl (by simp[Be,f8];omega) (by simp) rfl (by simp[FI];omega) fun a R=>?_
 refine Hr hrd R (i:=4) rfl (by kernel_rfl) (by kernel_rfl) (by kernel_rfl) (by omega) fun a R=>?_
 refine Hr hrd R (i:=5) rfl (by kernel_rfl) (by kernel_rfl) (by kernel_rfl) (by omega) fun a R=>?_
 refine NA (hC ▸ tk) hrd R (i:=6) (lo:=none) (hi:=some (43,.i64,k)) rfl (by kernel_rfl) (by kernel_rfl) (by kernel_rfl) (by omega) (t:=28) (e:=3) (es:=1) (eb:=8) (ez:=[.int .i64 0]) (n:=n) (h:=k) (l:=0) rfl (by simp[Be,f7];exact⟨rfl,rfl⟩) rfl (by simp) (by simp[Be,f8];omega) (by simp[FI];omega) rfl fun a R=>?_
 refine wpAnyIn_ready (rs:=[7]) (by kernel_rfl) (by simp) (AllReadyIn.cons rfl (fun K' hK=>?_) AllReadyIn.nil)
 rw[if_pos (by simp[Region.wanted])]
 refine Td (hC ▸ tk) R (t:=28) (e:=3) (eb:=8) (ez:=[.int .i64 0]) rfl (cs:=Ae (List.replicate k (-1)++List.replicate (n-k) 0)) (B:=0) (v:=0) (off:=k) (n:=n-k) (m:=k) (ys:=Ae (List.replicate k (-1))) rfl (by simp[Be]) (by omega) (by omega) ?_ (by simp) (by simp) (by simp) (by omega) (by omega) ?_
 .simp[Be,CX,Ai]
 intro a' w' R' _
 refine hK _ _ ?_
 refine wpAnyIn_ready (rs:=[8]) (by kernel_rfl) (by simp) (AllReadyIn.cons rfl (fun K' hK=>?_) AllReadyIn.nil)
 rw[if_pos (by simp[Region.wanted])]
 refine Zi (hC ▸ tk) R' (by rw[hn48];kernel_rfl) (fun _ h=>by cases h) (r:= .int .i64 ((k+min k (n-k):Nat):Int)) (by simp(disch:=omega) [pv,Be,f8]) fun a R=>hK _ _ ?_
 refine wpAnyIn_ready (rs:=[9]) (by kernel_rfl) (by simp) (AllReadyIn.cons rfl (fun K' hK=>?_) AllReadyIn.nil)
 rw[if_pos (by simp[Region.wanted])]
 refine Zi (hC ▸ tk) R (by rw[hn48];kernel_rfl) (fun _ h=>by cases h) (r:= .int .i64 ((k+min k (n-k):Nat):Int)) (by simp(disch:=omega) [pv,Be,f8,Al]) fun a R=>hK _ _ ?_
 refine wpAnyIn_done (by kernel_rfl) ⟨rfl,?_⟩ _
 have hm:Cn (Ae (List.replicate k (-1)++List.replicate (n-k) 0)) k ((Ae (List.replicate k (-1))).take (min k (n-k)))=Ae (List.replicate (k+min k (n-k)) (-1)++List.replicate (n-(k+min k (n-k))) 0):=by
  have e:(Ae (List.replicate k (-1))).take (min k (n-k))=Ae (List.replicate (min k (n-k)) (-1)):=by
   simp only[Ae,←List.map_take,List.take_replicate]
   rw[Nat.min_eq_left (by omega)]
  rw[e,Q2 _ _ _ _ _ (by omega),show n-k-min k (n-k)=n-(k+min k (n-k)) by omega]
 have hr:=Wk.fr (p:=0) (S:=[(7,.tok 0 0 1 0 n),(8,.int .i64 ((k+min k (n-k):Nat):Int))]) (by simp[Ad,Be,Al,f7]) C hp0 a _ ⟨σ,own,R⟩
 simp only[List.set_cons_zero,hm] at hr
 exact hr
theorem Tf:By:=fun n h1 h2=>US n h1 h2
end Go.Abs
set_option maxRecDepth 100000
namespace Go.Abs
open Go.Proofs
abbrev HW:List AV:=[.int .i64 0,.int .i64 0,.int .i64 0,.str ByteArray.empty,.int .i64 0,.int .i64 0,.bool false,.bool false]
theorem WZ {cs:List AV} (h:cs.all C4=true) (i j:Nat):((cs.drop i).take j).all C4=true:=by
 rw[List.all_eq_true] at h ⊢
 exact fun x hx=>h x (List.mem_of_mem_drop (List.mem_of_mem_take hx))
theorem He:∀(ys cs:List AV) (o:Nat),o+ys.length≤cs.length→Cn cs o ys=cs.take o++ys++cs.drop (o+ys.length)
 | [],cs,o,_=>by simp[Cn]
 |y::ys,cs,o,h=>by
  simp only[List.length_cons] at h
  rw[Cn,He ys _ _ (by simp;omega),List.length_cons]
  have e:(cs.set o y).take (o+1)=cs.take o++[y]:=by
   rw[List.take_add_one,List.take_set_of_le (Nat.le_refl _),List.getElem?_set_self (by omega)];rfl
  rw[e,List.drop_set_of_lt (by omega)]
  simp[Nat.add_assoc,Nat.add_comm 1]
theorem UT (cs:List AV) (u n i:Nat) (hi:i<n) (hn:n<1000000000000) (hl:cs.length=n*8) (hpl:cs.all C4=true) (htf:DT cs=true):Aa pg 133 [.tok 0 u 8 0 n,.int .i64 i,.int .i64 ((i+1:Nat):Int)] [.live u cs] (fun r M=>r= .own 8 (n-1) (cs.take (i*8)++cs.drop ((i+1)*8))∧M=[.dead]):=by
 refine Aa.enterA (fn:=Tryz.f133) tk rfl rfl rfl (Nat.le_of_ble_eq_true rfl) (by kernel_rfl) ?_
 intro C hC hp hnC hrd hdf
 have hp0:C.p≤1:=Nat.le_of_eq hp
 have hn33:C.n=33:=hnC
 show AW C _ _ _ (G8 tT [.tmp 6] 1 _)
 rw[Bd]
 refine AW.seqW tk hC hp0 (by rw[hn33];kernel_rfl) ?_
 refine zs ?_
 refine AW.seq ?_
 intro a w hr
 refine wpIn_region_lit ?_
 refine(FD (hC ▸ tk) (K:=fun F' M' =>Wk 1 F' M' (fr [(0,.tok 0 u 8 0 n),(1,.int .i64 i),(2,.int .i64 ((i+1:Nat):Int)),(8,.tok 0 u 8 0 n),(9,.int .i64 i),(10,.int .i64 ((i+1:Nat):Int)),(12,.int .i64 n)]) [.live u cs]) ?_ [_,_,_,_,_] 1 _ _ a w ?_ ?_ ?_ hr:wpListIn _ _ _ _ _ ([_,_,_,_,_]++[_]) a w)
 rotate_left
 .rw[hn33];kernel_rfl
 .rw[hn33];kernel_rfl
 .refine D1 (call:=Ab pg) (call' :=DE C) (fun f args M K K' hk hc=>(hc C hC).mono hk) (fun _ _ h=>h) _ _ _ _ ?_
  simp -implicitDefEqProofs (maxSteps:=999999) (disch:=omega)
  exact Wk.fr (by simp[Ad])
 clear hr a w
 intro F' M' a w hwk hr
 obtain⟨σ,own,R⟩:=hwk C hp0 a w hr
 clear hr hwk
 simp only[wpListIn]
 rw[if_pos (by simp[Region.wanted])]
 obtain⟨h8,b8',sz,c,hst,hv8,hnc,hcm,hsz⟩:=T8 R (t:=8) (B:=0) (u:=u) (s:=8) (off:=0) (n:=n) (cs:=cs) (by omega) rfl (by simp[Ai]) (by omega)
 have e9:a.eval (.tmp 9)= .int .i64 i:=(R.tmp 9 (by omega)).1
 have e10:a.eval (.tmp 10)= .int .i64 ((i+1:Nat):Int):=(R.tmp 10 (by omega)).1
 have e12:a.eval (.tmp 12)= .int .i64 n:=(R.tmp 12 (by omega)).1
 have e8:a.eval (.tmp 8)=_:=hv8
 obtain⟨v,hv⟩:=ZQ (hC ▸ tk) (t:=35) (e:=42) (es:=8) (eb:=64) (ez:=HW) rfl (ad:=some ⟨h8,b8' +0,none⟩) (n:=n) (c:=c) (l:=i) (h:=i+1) (m:=n) (by omega) (by omega) hnc w
 refine Oper.wp_value (fun _ h=>by cases h) (v:=v) (w' :=w) ?_ (.inl ⟨_,_,?_,σ,own,R.put (some 13) (av:= .any) (fun _=>rfl)⟩)
 .simp only[execOp,e8,e9,e10,e12,Option.map_some,Sem.run_bind]
  rw[hv]
  simp only[Result.andThen_ok,Sem.run_pure]
 refine AW.weak (Wk.fr (S:=[(0,.tok 0 u 8 0 n),(1,.int .i64 i),(2,.int .i64 ((i+1:Nat):Int))]) (by simp[Ad,Be]) C hp0) ?_
 clear hv e8 e9 e10 e12 v hv8 hst R
 refine AW.seqW tk hC hp0 (by rw[hn33];kernel_rfl) ?_
 have z1:¬(i:Int)=((i+1:Nat):Int):=by omega
 refine Af z1 ?_;intro K hK
 refine zk ?_;clear hK K
 refine zn ?_
 refine W.skip ?_
 refine AW.seqW tk hC hp0 (by rw[hn33];kernel_rfl) ?_
 refine zs ?_
 refine AW.weak (Wk.fr (S:=[(0,.tok 0 u 8 0 n),(1,.int .i64 i),(2,.int .i64 ((i+1:Nat):Int)),(7,.int .i64 n)]) (by simp[Ad,Be]) C hp0) ?_
 clear hnc hcm hsz h8 b8' sz c own σ a w M' F'
 obtain⟨m,hm⟩:∃m,m=n-(i+1):=⟨_,rfl⟩
 have hys:((cs.drop ((i+1)*8)).take (m*8)).length=m*8:=by simp;omega
 have hcs:Cn cs (i*8) ((cs.drop ((i+1)*8)).take (m*8))=cs.take (i*8)++cs.drop ((i+1)*8)++cs.drop ((n-1)*8):=by
  rw[He _ _ _ (by rw[hys];omega),hys,show i*8+m*8=(n-1)*8 by omega,List.take_of_length_le (l:=cs.drop ((i+1)*8)) (by simp;omega)]
 intro a w hr
 refine wpIn_seq (wpIn_mono (Q:=fun e a w=>e= .normal∧∃F σ own h b sz c,F 0= .tok 0 u 8 0 (n-1)∧F 7= .int .i64 n∧AJ C F [.live u (cs.take (i*8)++cs.drop ((i+1)*8)++cs.drop ((n-1)*8))] a w σ own∧σ 0 u=some (.loc h b sz)∧a.tmps.getD 0 undef= .slice (some ⟨h,b,none⟩) (n-1) c∧n≤c∧c≤maxLen∧b+c*8≤sz) ?_ ?_)
 rotate_left
 .rintro e a w ⟨rfl,F,σ,own,h0,b0,sz,c,f0,f7,R,hst,hv0,hnc,hcm,hsz⟩
  obtain⟨cs2,hc2⟩:∃cs2,cs2=cs.take (i*8)++cs.drop ((i+1)*8)++cs.drop ((n-1)*8):=⟨_,rfl⟩
  have hl2:cs2.length=n*8:=by rw[hc2];simp;omega
  have ht2:cs2.take ((n-1)*8)=cs.take (i*8)++cs.drop ((i+1)*8):=by
   rw[hc2,List.take_left' (by simp;omega)]
  have hq:DT (cs2.take ((n-1)*8))=true:=by
   rw[ht2]
   unfold DT at htf ⊢
   rw[List.all_eq_true] at htf ⊢
   intro x hx
   rcases List.mem_append.1 hx with h|h
   .exact htf x (List.mem_of_mem_take h)
   .exact htf x (List.mem_of_mem_drop h)
  rw[←ht2]
  rw[←hc2] at R
  clear hc2 ht2 hcs hys hr
  refine wpIn_seq (wpIn_region_lit ?_)
  simp only[wpListIn]
  have e7:a.tmps.getD 7 undef= .int .i64 n:=by have:=R.tmp 7 (by omega);rw[f7] at this;exact this.1
  have r0:=R.tmp 0 (by omega)
  rw[f0,hv0] at r0
  rw[if_pos (by simp[Region.wanted])]
  refine KX R (fun _ h=>by cases h) rfl (by omega) (v:= .slice (some ⟨h0,b0,none⟩) (n-1) c) (av:= .tok 0 u 8 0 (n-1)) r0 (by rw[←hv0];rfl) fun a1 R v1 k1=>?_
  rw[if_pos (by simp[Region.wanted])]
  refine KX R (fun _ h=>by cases h) rfl (by omega) (v:= .slice (some ⟨h0,b0,none⟩) (n-1) c) (av:= .tok 0 u 8 0 (n-1)) r0 (by rw[←hv0,←k1 0 (by decide)];rfl) fun a2 R v2 k2=>?_
  rw[if_pos (by simp[Region.wanted])]
  have e28:a2.eval (.tmp 28)= .slice (some ⟨h0,b0,none⟩) (n-1) c:=v2
  refine KX R (fun _ h=>by cases h) rfl (by omega) (v:= .int .i64 ((n-1:Nat):Int)) (av:= .int .i64 ((n-1:Nat):Int)) ⟨rfl,fun _=>rfl⟩ ?_ fun a3 R v3 k3=>?_
  .have hD:=(Ci (P:=C.P) (hC ▸ tk:BH C.P tT) (t:=35) (e:=42) (es:=8) (eb:=64) (ez:=HW) rfl).1
   simp[execOp,resolve,invoke,builtin,e28,Builtin.len_,run_underlying hD,goInt]
  rw[if_pos (by simp[Region.wanted])]
  refine KX R (fun _ h=>by cases h) rfl (by omega) (v:= .int .i64 n) (av:= .int .i64 n) ⟨rfl,fun _=>rfl⟩ (by rw[←e7,←k1 7 (by decide),←k2 7 (by decide),←k3 7 (by decide)];rfl) fun a4 R v4 k4=>?_
  rw[if_pos (by simp[Region.wanted])]
  have e27:a4.eval (.tmp 27)= .slice (some ⟨h0,b0,none⟩) (n-1) c:=by
   show a4.tmps.getD 27 undef=_
   rw[k4 _ (by decide),k3 _ (by decide),k2 _ (by decide),v1]
  have e29:a4.eval (.tmp 29)= .int .i64 ((n-1:Nat):Int):=by
   show a4.tmps.getD 29 undef=_
   rw[k4 _ (by decide),v3]
  have e30:a4.eval (.tmp 30)= .int .i64 n:=v4
  have hs31:=Wm (hC ▸ tk) (t:=35) (e:=42) (es:=8) (eb:=64) (ez:=HW) rfl (ad:=some ⟨h0,b0,none⟩) (n:=n-1) (c:=c) (lo:=some (n-1)) (hi:=some n) (l:=n-1) (h:=n) rfl rfl (by omega) hnc w
  have hne:¬c=n-1:=by omega
  simp only[Option.map_some,hne,if_false,show n-(n-1)=1 by omega] at hs31
  refine KX R (fun _ h=>by cases h) rfl (by omega) (v:= .slice (some (Addr.add ⟨h0,b0,none⟩ ((n-1)*8))) 1 (c-(n-1))) (av:= .any) (fun _=>rfl) ?_ fun a5 R v5 k5=>?_
  .simp only[execOp,e27,e29,e30,Option.map_some,Option.map_none,Sem.run_bind]
   rw[hs31]
   simp only[Result.andThen_ok,Sem.run_pure]
  rw[show(some (Addr.add ⟨h0,b0,none⟩ ((n-1)*8)))=some ⟨h0,b0+(n-1)*8,none⟩ by simp[Addr.add]] at v5
  rw[if_pos (by simp[Region.wanted])]
  refine ba (hC ▸ tk) R (t:=35) (e:=42) (s:=8) (eb:=64) (ez:=HW) rfl (B:=0) (u:=u) (h:=h0) (b:=b0) (sz:=sz) (cs:=cs2) (off:=(n-1)*8) (n:=1) (by simp[Ai]) hst v5 (by rfl) (by omega) (by omega) fun a w R=>?_
  clear hs31 e27 e29 e30 e28 v1 v2 v3 v4 v5 k1 k2 k3 k4 k5 r0 e7 hv0 hst
  have hl1:(Cs 1 HW).length=8:=rfl
  rw[show([Ah.live u cs2].set 0 (.live u (Cn cs2 ((n-1)*8) (Cs 1 HW))))=[Ah.live u (Cn cs2 ((n-1)*8) (Cs 1 HW))] from rfl,He _ _ _ (by rw[hl1];omega)] at R
  have ht3:cs2.take ((n-1)*8)=(cs2.take ((n-1)*8)++Cs 1 HW++cs2.drop ((n-1)*8+(Cs 1 HW).length)).take ((n-1)*8):=by
   rw[List.append_assoc,List.take_left' (by simp;omega)]
  have hl3:(n-1)*8≤(cs2.take ((n-1)*8)++Cs 1 HW++cs2.drop ((n-1)*8+(Cs 1 HW).length)).length:=by
   simp only[List.length_append,List.length_take];omega
  generalize cs2.take ((n-1)*8)++Cs 1 HW++cs2.drop ((n-1)*8+(Cs 1 HW).length)=cs3 at ht3 hl3 R
  rw[ht3] at hq ⊢
  have hw:=Wk.fr (p:=1) (S:=[(0,.tok 0 u 8 0 (n-1))]) (by simp[Ad,Be,f0]) C hp0 a _ ⟨σ,own,R⟩
  refine AW.seqW (Q:=G8 tT [.tmp 6] 1 _) tk hC hp0 (by rw[hn33];kernel_rfl) ?_ a w hw
  refine zs ?_
  refine AW.ret ?_
  simp only[CF,Dl,CT]
  refine CN (d:=0) ?_
  simp -implicitDefEqProofs (maxSteps:=999999) (disch:=omega) [hq]
 refine wpIn_region_any (hC ▸ Ce) ?_
 obtain⟨σ,own,R⟩:=hr
 have R:=R.drew
 show wpAnyIn _ _ _ _ _ _ 8 _ a w.drew
 generalize w.drew=w at*
 obtain⟨h0,b0,sz,c,hst,hv0,hnc,hcm,hsz⟩:=T8 R (t:=0) (B:=0) (u:=u) (s:=8) (off:=0) (n:=n) (cs:=cs) (by omega) rfl (by simp[Ai]) (by omega)
 have e1:a.tmps.getD 1 undef= .int .i64 i:=(R.tmp 1 (by omega)).1
 have e2:a.tmps.getD 2 undef= .int .i64 ((i+1:Nat):Int):=(R.tmp 2 (by omega)).1
 simp only[Nat.add_zero] at hv0 hsz
 refine H6 hrd R (i:=0) rfl (by kernel_rfl) (by kernel_rfl) (by kernel_rfl) (by omega) (by omega) fun a1 R v1 k1=>?_
 rw[hv0] at v1
 refine H6 hrd R (i:=1) rfl (by kernel_rfl) (by kernel_rfl) (by kernel_rfl) (by omega) (by omega) fun a2 R v2 k2=>?_
 rw[k1 _ (by decide),e1] at v2
 refine My (hC ▸ tk) hrd R (i:=2) (lo:=none) (hi:=some (21,i)) (u:=u) (B:=0) (n:=n) (c:=c) (hp:=h0) (b:=b0) (sz:=sz) (h:=i) (l:=0) (es:=8) rfl (by kernel_rfl) (by kernel_rfl) (by kernel_rfl) (by omega) (t:=35) rfl hst (by rw[k2 _ (by decide),v1]) hcm hsz (by simp) (by rintro x ⟨⟩;exact v2) rfl rfl (by omega) (by omega) fun a3 R v3 k3=>?_
 refine H6 hrd R (i:=3) rfl (by kernel_rfl) (by kernel_rfl) (by kernel_rfl) (by omega) (by omega) fun a4 R v4 k4=>?_
 rw[k3 _ (by decide),k2 _ (by decide),k1 _ (by decide),hv0] at v4
 refine H6 hrd R (i:=4) rfl (by kernel_rfl) (by kernel_rfl) (by kernel_rfl) (by omega) (by omega) fun a5 R v5 k5=>?_
 rw[k4 _ (by decide),k3 _ (by decide),k2 _ (by decide),k1 _ (by decide),e2] at v5
 refine My (hC ▸ tk) hrd R (i:=5) (lo:=some (24,i+1)) (hi:=none) (u:=u) (B:=0) (n:=n) (c:=c) (hp:=h0) (b:=b0) (sz:=sz) (h:=n) (l:=i+1) (es:=8) rfl (by kernel_rfl) (by kernel_rfl) (by kernel_rfl) (by omega) (t:=35) rfl hst (by rw[k5 _ (by decide),v4]) hcm hsz (by rintro x ⟨⟩;exact v5) (by simp) rfl rfl (by omega) (by omega) fun a6 R v6 k6=>?_
 rw[show(if c=0 then(some ⟨h0,b0,none⟩:Option Addr) else some ⟨h0,b0+0*8,none⟩)=some ⟨h0,b0,none⟩ by split<;>simp] at v3
 have e22:a6.tmps.getD 22 undef= .slice (some ⟨h0,b0,none⟩) i c:=by
  have:a6.tmps.getD 22 undef= .slice (some ⟨h0,b0,none⟩) (i-0) (c-0):=by rw[k6 _ (by decide),k5 _ (by decide),k4 _ (by decide)];exact v3
  exact this
 refine wpAnyIn_ready (rs:=[6]) (by kernel_rfl) (by simp) (AllReadyIn.cons rfl (fun K' hK=>?_) AllReadyIn.nil)
 rw[if_pos (by simp[Region.wanted])]
 refine a8 (hC ▸ tk) R (t:=35) (e:=42) (s:=8) (eb:=64) (ez:=HW) rfl (B:=0) (u:=u) (h:=h0) (b:=b0) (sz:=sz) (cs:=cs) (by simp[Ai]) hst e22 (by omega) (m:=m) (ys:=(cs.drop ((i+1)*8)).take (m*8)) (n:=i) (c:=c) (by simp[Be,CX,Ai,hm]) hys (WZ hpl _ _) (by omega) (by omega) hcm hsz (by omega) fun a7 w' R' v7=>hK _ _ ?_
 rw[hcs,show i+m=n-1 by omega] at R'
 rw[show i+m=n-1 by omega] at v7
 refine wpAnyIn_ready (rs:=[7]) (by kernel_rfl) (by simp) (AllReadyIn.cons rfl (fun K' hK=>?_) AllReadyIn.nil)
 rw[if_pos (by simp[Region.wanted])]
 refine KX R' (fun _ h=>by cases h) rfl (by omega) (v:= .slice (some ⟨h0,b0,none⟩) (n-1) c) (av:= .tok 0 u 8 0 (n-1)) (Mw hst (by omega) hcm (by omega) (fun _=>rfl)) (by rw[←v7];rfl) fun a R v8 k8=>hK _ _ ?_
 refine wpAnyIn_done (by kernel_rfl) ⟨rfl,?_⟩ _
 exact⟨_,σ,own,h0,b0,sz,c,by simp[Be],by simp[Be,fr],R,hst,v8,hnc,hcm,hsz⟩
end Go.Abs
set_option maxRecDepth 100000
namespace Go.Abs
open Go.Proofs
def Hu (s:Ax) (id:Int):Bool:=s.vers.any fun v=>decide (v.base=id)
def CC (s:Ax) (id:Int):Ax×Int:=
 if AG (fun v=>decide (v.id=id)) s.vers<0 then(AD,3)
 else if id=A7 s.vers∨pinned s id=true∨Hu s id=true then(AD,6)
 else({s with vers:=s.vers.eraseIdx (AG (fun v=>decide (v.id=id)) s.vers).toNat},0)
def iR (s:Ax) (id:Int):Ax×Int:=if A5 s then CC s id else(AD,1)
theorem UU (v:Bg) (id:Int):Aa pg 132 ([.agg (Ar v)]++[.rptr [.int .i64 id]]) [] (fun r _=>r= .bool (decide (v.base=id))):=by
 refine Aa.start (fn:=Tryz.f132) [.tmp 3] tk rfl rfl rfl (by kernel_rfl) (Nat.le_of_ble_eq_true rfl) rfl (by kernel_rfl) ?_
 simp only[List.cons_append,List.nil_append]
 rw[At]
 refine z1 ?_;intro K hK;refine zk ?_;clear hK K
 refine zs ?_
 exact zR
theorem L5:∀(l:List Bg) (k:Nat),k<l.length→(Ac Ar l).take (k*8)++(Ac Ar l).drop ((k+1)*8)=Ac Ar (l.eraseIdx k)
 | [],k,h=>by simp at h
 |v::l,0,_=>by simp[AA,Ar]
 |v::l,k+1,h=>by
  have ih:=L5 l k (by simpa using h)
  have hv:(Ar v).length=8:=rfl
  have a1:(Ar v++Ac Ar l).take ((k+1)*8)=Ar v++(Ac Ar l).take (k*8):=by rw[show(k+1)*8=(Ar v).length+k*8 by omega,List.take_length_add_append]
  have a2:(Ar v++Ac Ar l).drop ((k+1+1)*8)=(Ac Ar l).drop ((k+1)*8):=by rw[show(k+1+1)*8=(Ar v).length+(k+1)*8 by omega,List.drop_length_add_append]
  rw[AA,List.eraseIdx_cons_succ,AA,←ih,a1,a2,List.append_assoc]
set_option maxHeartbeats 2000000 in
theorem W0 (hR:By) (s:Ax) (id:Int) (hs:AS s) (hx:Bk s):Aa pg 94 [.agg (An false s),.int .i64 id] [] (fun r _=>r= .tup [.agg (An true (CC s id).1),.int .i64 (CC s id).2]):=by
 have h1:=hs.1
 have h2:=hs.2.1
 refine Aa.start (fn:=Tryz.f94) [.cell 4 38,.tmp 5] tk rfl rfl rfl (by kernel_rfl) (Nat.le_of_ble_eq_true rfl) rfl (by kernel_rfl) ?_
 rw[At]
 refine z3 ?_;intro K hK;refine zk ?_;clear hK K
 refine z0 ?_;intro K hK
 refine Ab.eq (Hi s id hs) (by simp) (by simp) ?_
 refine zx ?_
 refine zk ?_;clear hK K
 obtain⟨q,hq⟩:∃q,q=AG (fun v=>decide (v.id=id)) s.vers:=⟨_,rfl⟩
 rw[←hq]
 unfold CC
 rw[←hq]
 refine zb ?_
 by_cases c1:q<0
 .rw[if_pos c1]
  refine Af c1 ?_;intro K hK
  refine zk ?_;clear hK K
  refine zt ?_
  refine z0 ?_;intro K hK
  refine zk ?_;clear hK K
  refine W.weak ((Wk.thaw (B:=2) (v:=0) (j:=2) (s:=8) (n:=0) (xs:=[]) rfl rfl).trans (Wk.thaw (B:=2) (v:=0) (j:=3) (s:=12) (n:=0) (xs:=[]) rfl rfl)) ?_
  refine zr ?_
  simp[AD]
 rw[if_neg c1]
 obtain⟨k,hk,rfl⟩:∃k:Nat,k<s.vers.length∧q=(k:Int):=⟨q.toNat,by rw[hq] at c1 ⊢;exact Hd (by omega),by omega⟩
 have c1' :¬(k:Int)<0:=c1
 refine Af c1' ?_;intro K hK
 refine zk ?_;clear hK K
 refine zn ?_
 have spB:=Ox s.vers 132 [.rptr [.int .i64 id]] (fun v=>decide (v.base=id)) (by omega) (fun v _=>UU v id) (by simp) (by simp)
 have hbd:(s.vers.any fun v=>decide (v.base=id))=Hu s id:=rfl
 rw[hbd] at spB
 have spP:=LK s id hs
 by_cases c2:id=A7 s.vers
 .rw[if_pos (.inl c2)]
  refine B9 ?_;intro K hK
  refine Ag.eq (EP s hs) (by simp) (by simp) ?_
  refine AM c2 ?_
  refine zk ?_;clear hK K
  refine zt ?_
  refine z0 ?_;intro K hK
  refine zk ?_;clear hK K
  refine W.weak ((Wk.thaw (B:=2) (v:=0) (j:=2) (s:=8) (n:=0) (xs:=[]) rfl rfl).trans (Wk.thaw (B:=2) (v:=0) (j:=3) (s:=12) (n:=0) (xs:=[]) rfl rfl)) ?_
  refine zr ?_
  simp[AD]
 by_cases c3:pinned s id=true
 .rw[if_pos (.inr (.inl c3))]
  rw[c3] at spP
  refine B9 ?_;intro K hK
  refine Ag.eq (EP s hs) (by simp) (by simp) ?_
  refine AM c2 ?_
  refine Ag.eq spP (by simp) (by simp) ?_
  refine zx ?_
  refine zk ?_;clear hK K
  refine zt ?_
  refine z0 ?_;intro K hK
  refine zk ?_;clear hK K
  refine W.weak ((Wk.thaw (B:=2) (v:=0) (j:=2) (s:=8) (n:=0) (xs:=[]) rfl rfl).trans (Wk.thaw (B:=2) (v:=0) (j:=3) (s:=12) (n:=0) (xs:=[]) rfl rfl)) ?_
  refine zr ?_
  simp[AD]
 by_cases c4:Hu s id=true
 .rw[if_pos (.inr (.inr c4))]
  rw[Bool.eq_false_iff.2 c3] at spP
  rw[c4] at spB
  refine B9 ?_;intro K hK
  refine Ag.eq (EP s hs) (by simp) (by simp) ?_
  refine AM c2 ?_
  refine Ag.eq spP (by simp) (by simp) ?_
  refine zx ?_
  refine Ag.eq spB (by simp) (by simp) ?_
  refine zx ?_
  refine zk ?_;clear hK K
  refine zt ?_
  refine z0 ?_;intro K hK
  refine zk ?_;clear hK K
  refine W.weak ((Wk.thaw (B:=2) (v:=0) (j:=2) (s:=8) (n:=0) (xs:=[]) rfl rfl).trans (Wk.thaw (B:=2) (v:=0) (j:=3) (s:=12) (n:=0) (xs:=[]) rfl rfl)) ?_
  refine zr ?_
  simp[AD]
 rw[if_neg (by simp[c2,c3,c4])]
 rw[Bool.eq_false_iff.2 c3] at spP
 rw[Bool.eq_false_iff.2 c4] at spB
 refine B9 ?_;intro K hK
 refine Ag.eq (EP s hs) (by simp) (by simp) ?_
 refine AM c2 ?_
 refine Ag.eq spP (by simp) (by simp) ?_
 refine zx ?_
 refine Ag.eq spB (by simp) (by simp) ?_
 refine zx ?_
 refine zk ?_;clear hK K
 refine zn ?_
 refine W.skip ?_
 refine z0 ?_;intro K hK
 refine Ab.eqr (O8 s hs hx) (by simp) ?_
 refine zx ?_
 refine zk ?_;clear hK K
 obtain⟨c,hc⟩:∃c:Nat,c=k+1:=⟨_,rfl⟩
 have e1:(k:Int)+1=(c:Int):=by omega
 refine Af e1 ?_;intro K hK
 have spD:=UT (Ac Ar s.vers) 0 s.vers.length k hk (by omega) (DA (f:=Ar) (fun _=>rfl) _) (Yq _) (by simp)
 have hle:(s.vers.eraseIdx k).length=s.vers.length-1:=List.length_eraseIdx_of_lt hk
 rw[L5 _ _ hk,←hc,←hle] at spD
 clear hle
 generalize hl' :s.vers.eraseIdx k=l' at spD
 refine Ab.pass [3] spD (by simp) (by simp) (by simp) (by simp) ?_
 rintro r M ⟨rfl,rfl⟩ _
 refine zx ?_
 refine zk ?_;clear hK K
 refine z0 ?_;intro K hK
 refine zk ?_;clear hK K
 refine zr ?_
 simp[hl']
end Go.Abs
set_option maxRecDepth 100000
namespace Go.Abs
open Go.Proofs
theorem NB (s:Ax) (id:Int):Hu s id=true↔∃i,∃h:i<s.vers.length,s.vers[i].base=id:=by
 unfold Hu
 rw[List.any_eq_true]
 constructor
 .rintro⟨v,hv,h⟩
  obtain⟨i,hi,rfl⟩:=List.mem_iff_getElem.1 hv
  exact⟨i,hi,by simpa using h⟩
 .rintro⟨i,hi,h⟩
  exact⟨_,List.getElem_mem hi,by simpa using h⟩
theorem L6 (s:Ax) (id:Int):pinned s id=true↔∃i,∃h:i<s.sess.length,s.sess[i].pin=id:=by
 unfold pinned
 rw[List.any_eq_true]
 constructor
 .rintro⟨v,hv,h⟩
  obtain⟨i,hi,rfl⟩:=List.mem_iff_getElem.1 hv
  exact⟨i,hi,by simpa using h⟩
 .rintro⟨i,hi,h⟩
  exact⟨_,List.getElem_mem hi,by simpa using h⟩
theorem J2 {s:Ax} {id:Int} (h0:¬AG (fun v=>decide (v.id=id)) s.vers<0) (h:Hu s id=true∨pinned s id=true∨id=A7 s.vers):CC s id=(AD,6):=by
 unfold CC
 rw[if_neg h0,if_pos]
 rcases h with h|h|h
 .exact .inr (.inr h)
 .exact .inr (.inl h)
 .exact .inl h
set_option maxHeartbeats 2000000 in
theorem W6 (s:Ax) (id:Int) (hs:AS s) (hx:Bk s):Aa pg 51 [.agg (An false s),.int .i64 id] [] (fun r _=>r= .tup [.agg (An true (CC s id).1),.int .i64 (CC s id).2]):=by
 have h1:=hs.1
 have h2:=hs.2.1
 refine Aa.start (fn:=Tryz.f51) [.cell 4 38,.tmp 5] tk rfl rfl rfl (by kernel_rfl) (Nat.le_of_ble_eq_true rfl) rfl (by kernel_rfl) ?_
 rw[At]
 refine z2 ?_;intro K hK;refine zk ?_;clear hK K
 refine z0 ?_;intro K hK
 refine Ab.eq (No s id hs) (by simp) (by simp) ?_
 refine zx ?_
 refine zk ?_;clear hK K
 obtain⟨q,hq⟩:∃q,q=AG (fun v=>decide (v.id=id)) s.vers:=⟨_,rfl⟩
 rw[←hq]
 by_cases c1:q<0
 .have e0:CC s id=(AD,3):=by unfold CC;rw[←hq,if_pos c1]
  rw[e0]
  refine Af c1 ?_;intro K hK
  refine zk ?_;clear hK K
  refine zt ?_
  refine z0 ?_;intro K hK
  refine zk ?_;clear hK K
  refine W.weak ((Wk.thaw (B:=1) (v:=0) (j:=2) (s:=8) (n:=0) (xs:=[]) rfl rfl).trans (Wk.thaw (B:=1) (v:=0) (j:=3) (s:=12) (n:=0) (xs:=[]) rfl rfl)) ?_
  refine zr ?_
  simp[AD]
 have hq0:=c1
 rw[hq] at hq0
 refine Af c1 ?_;intro K hK
 refine zk ?_;clear hK K
 refine zn ?_
 refine W.skip ?_
 refine zs ?_
 refine W.midS (fun k:Nat=> [(1,.int .i64 id),(2,.ptr 0 0 0),(4,.ptr 1 0 0),(5,.int .i64 0),(6,.int .i64 q)]) (fun _=> [.live 0 (An false s),.live 0 (An true AD)]) (fun _=>∀i (h:i<s.vers.length),¬s.vers[i].base=id) ?_ ?_
 . (repeat refine W.seq ?_);refine W.block (W.loopS (fun k:Nat=> [(1,.int .i64 id),(2,.ptr 0 0 0),(4,.ptr 1 0 0),(5,.int .i64 0),(6,.int .i64 q),(7,.int .i64 k)]) (fun _=> [.live 0 (An false s),.live 0 (An true AD)]) (fun k=>s.vers.length-k) (fun k=>k≤s.vers.length∧∀i (h:i<s.vers.length),i<k→¬s.vers[i].base=id) 0 (Wk.fr (by simp[Ad])) ⟨by omega,fun i _ h=>by omega⟩ ?_)
   rintro k ⟨hk,hall⟩
   by_cases c2:k<s.vers.length
   .refine Af c2 ?_;intro K hK
    refine zk ?_;clear hK K
    refine zt ?_
    refine W.skip ?_
    refine zb ?_
    by_cases c3:s.vers[k].base=id
    .rw[J2 hq0 (.inl ((NB s id).2 ⟨k,c2,c3⟩))]
     refine Af (an c2 c3) ?_;intro K hK
     refine zk ?_;clear hK K
     refine zt ?_
     refine z0 ?_;intro K hK
     refine zk ?_;clear hK K
     refine W.weak ((Wk.thaw (B:=1) (v:=0) (j:=2) (s:=8) (n:=0) (xs:=[]) rfl rfl).trans (Wk.thaw (B:=1) (v:=0) (j:=3) (s:=12) (n:=0) (xs:=[]) rfl rfl)) ?_
     refine zr ?_
     simp[AD]
    .refine Af (an c2 c3) ?_;intro K hK
     refine zk ?_;clear hK K
     refine zn ?_
     refine W.skip ?_
     refine zs ?_
     refine⟨k+1,by omega,⟨by omega,fun i hi h=>?_⟩,Wk.fr (by simp[Ad])⟩
     by_cases e:i=k
     .subst e;exact c3
     .exact hall i hi (by omega)
   .have:k=s.vers.length:=by omega
    subst this
    refine Af c2 ?_;intro K hK
    refine zk ?_;clear hK K
    refine zn ?_
    refine W.exit ?_
    exact⟨0,fun i hi=>hall i hi hi,Wk.fr (by simp[Ad])⟩
 rintro _ hb
 refine zs ?_
 refine W.midS (fun k:Nat=> [(1,.int .i64 id),(2,.ptr 0 0 0),(4,.ptr 1 0 0),(5,.int .i64 0),(6,.int .i64 q)]) (fun _=> [.live 0 (An false s),.live 0 (An true AD)]) (fun _=>∀i (h:i<s.sess.length),¬s.sess[i].pin=id) ?_ ?_
 . (repeat refine W.seq ?_);refine W.block (W.loopS (fun k:Nat=> [(1,.int .i64 id),(2,.ptr 0 0 0),(4,.ptr 1 0 0),(5,.int .i64 0),(6,.int .i64 q),(8,.int .i64 k)]) (fun _=> [.live 0 (An false s),.live 0 (An true AD)]) (fun k=>s.sess.length-k) (fun k=>k≤s.sess.length∧∀i (h:i<s.sess.length),i<k→¬s.sess[i].pin=id) 0 (Wk.fr (by simp[Ad])) ⟨by omega,fun i _ h=>by omega⟩ ?_)
   rintro k ⟨hk,hall⟩
   by_cases c2:k<s.sess.length
   .refine Af c2 ?_;intro K hK
    refine zk ?_;clear hK K
    refine zt ?_
    refine W.skip ?_
    refine zb ?_
    by_cases c3:s.sess[k].pin=id
    .rw[J2 hq0 (.inr (.inl ((L6 s id).2 ⟨k,c2,c3⟩)))]
     refine Af (an c2 c3) ?_;intro K hK
     refine zk ?_;clear hK K
     refine zt ?_
     refine z0 ?_;intro K hK
     refine zk ?_;clear hK K
     refine W.weak ((Wk.thaw (B:=1) (v:=0) (j:=2) (s:=8) (n:=0) (xs:=[]) rfl rfl).trans (Wk.thaw (B:=1) (v:=0) (j:=3) (s:=12) (n:=0) (xs:=[]) rfl rfl)) ?_
     refine zr ?_
     simp[AD]
    .refine Af (an c2 c3) ?_;intro K hK
     refine zk ?_;clear hK K
     refine zn ?_
     refine W.skip ?_
     refine zs ?_
     refine⟨k+1,by omega,⟨by omega,fun i hi h=>?_⟩,Wk.fr (by simp[Ad])⟩
     by_cases e:i=k
     .subst e;exact c3
     .exact hall i hi (by omega)
   .have:k=s.sess.length:=by omega
    subst this
    refine Af c2 ?_;intro K hK
    refine zk ?_;clear hK K
    refine zn ?_
    refine W.exit ?_
    exact⟨0,fun i hi=>hall i hi hi,Wk.fr (by simp[Ad])⟩
 rintro _ hp
 by_cases c4:id=A7 s.vers
 .rw[J2 hq0 (.inr (.inr c4))]
  refine z0 ?_;intro K hK
  refine Ab.eq (K3 s hs) (by simp) (by simp) ?_
  refine AM c4 ?_
  refine zk ?_;clear hK K
  refine zt ?_
  refine z0 ?_;intro K hK
  refine zk ?_;clear hK K
  refine W.weak ((Wk.thaw (B:=1) (v:=0) (j:=2) (s:=8) (n:=0) (xs:=[]) rfl rfl).trans (Wk.thaw (B:=1) (v:=0) (j:=3) (s:=12) (n:=0) (xs:=[]) rfl rfl)) ?_
  refine zr ?_
  simp[AD]
 have e0:CC s id=({s with vers:=s.vers.eraseIdx q.toNat},0):=by
  unfold CC
  rw[←hq,if_neg c1,if_neg]
  rintro(h|h|h)
  .exact c4 h
  .obtain⟨i,hi,h⟩:=(L6 s id).1 h;exact hp i hi h
  .obtain⟨i,hi,h⟩:=(NB s id).1 h;exact hb i hi h
 rw[e0]
 obtain⟨k,hk,rfl⟩:∃k:Nat,k<s.vers.length∧q=(k:Int):=⟨q.toNat,by rw[hq] at c1 ⊢;exact Hd (by omega),by omega⟩
 refine z0 ?_;intro K hK
 refine Ab.eq (K3 s hs) (by simp) (by simp) ?_
 refine AM c4 ?_
 refine zk ?_;clear hK K
 refine zn ?_
 refine W.skip ?_
 refine z0 ?_;intro K hK
 refine Ab.eqr (Ir s hs hx) (by simp) ?_
 refine zx ?_
 refine zk ?_;clear hK K
 obtain⟨c,hc⟩:∃c:Nat,c=k+1:=⟨_,rfl⟩
 have e1:(k:Int)+1=(c:Int):=by omega
 have hmin:min k s.vers.length=k:=by omega
 have spC:=IM (s.vers.take k) (by simp;omega)
 rw[List.length_take,hmin] at spC
 have hsl:((Ac Ar s.vers).drop (c*8)).take ((s.vers.length-c)*8)=Ac Ar (s.vers.drop c):=by
  rw[Ha (f:=Ar) (s:=8) (fun _=>rfl),List.take_of_length_le]
  rw[DA (f:=Ar) (s:=8) (fun _=>rfl)];simp
 refine Ba e1 ?_;intro K hK
 refine⟨_,_,spC,.inl ⟨rfl,⟨[],by simp[Bm];omega⟩,?_⟩⟩
 rintro r rfl
 refine⟨by simp,?_⟩
 refine AM (an e1 hsl) ?_
 refine⟨by omega,by omega,?_⟩
 have hlen:k+(s.vers.length-c)=(s.vers.eraseIdx k).length:=by rw[List.length_eraseIdx_of_lt hk];omega
 have hcat:Ac Ar (s.vers.take k)++Ac Ar (s.vers.drop c)=Ac Ar (s.vers.eraseIdx k):=by rw[←Bz,List.eraseIdx_eq_take_drop_succ,hc]
 rw[hlen,hcat]
 refine zk ?_;clear hK K
 refine z0 ?_;intro K hK
 refine zk ?_;clear hK K
 exact zR
end Go.Abs
set_option maxRecDepth 100000
namespace Go.Abs
open Go.Proofs
def D9 (s:Ax) (o:Obj) (p:Int):Option (List Obj):=
 if AG (fun v=>decide (v.id=o.id)) s.vers<0 then(if¬(0≤p∧p≤o.id-1)∨o.id≤A7 s.vers then none else some (Aj s++[o]))
 else some ((Aj s).set (AG (fun v=>decide (v.id=o.id)) s.vers).toNat o)
def J3 (s:Ax) (o:Obj) (p:Int):Prop:=∃l,D9 s o p=some l∧Cf l∧(∀i (h:i<l.length),(AP l l[i].id).2=0)∧∀x∈s.sess,AI s l x
theorem Qp {s:Ax} {o:Obj} {p:Int} (h:D9 s o p=none):¬J3 s o p:=by rintro⟨l,hl,_⟩;rw[h] at hl;simp at hl
theorem M8 (o:Obj):∀(l:List Obj) (k:Nat) (h:k<l.length),((((Ac Am l).set (k*4) (.int .i64 o.id)).set (k*4+1) (.int .i64 o.base)).set (k*4+1+1) (.str o.data.data)).set (k*4+1+1+1) (.int .i64 o.data.n)=Ac Am (l.set k o)
 | [],k,h=>by simp at h
 |x::l,0,_=>by simp[AA,Am]
 |x::l,k+1,h=>by
  have ih:=M8 o l k (by simpa using h)
  have hv:(Am x).length=4:=rfl
  have e:∀(F:List AV) (i:Nat) (z:AV),(Am x++F).set (4+i) z=Am x++F.set i z:=fun F i z=>by rw[List.set_append_right _ _ (by omega),hv,Nat.add_sub_cancel_left]
  rw[AA,List.set_cons_succ,AA,←ih,show(k+1)*4=4+k*4 by omega]
  rw[e,show 4+k*4+1=4+(k*4+1) by omega,e,show 4+(k*4+1)+1=4+(k*4+1+1) by omega,e,show 4+(k*4+1+1)+1=4+(k*4+1+1+1) by omega,e]
end Go.Abs
