/- Cleaning: so many actions at once. -/
import Derived.Test.YtoklapibcmnaeaaGreatP17
set_option linter.unusedVariables false
set_option linter.unusedSimpArgs false
set_option maxRecDepth 100000
namespace Go.Abs
open Go.Proofs
def DK (s:Ax) (n:Int):Ax×Int×Int:=if A5 s∧0≤n∧n≤1000 then((BF s n.toNat).getLast?.getD s,((BF s n.toNat).length:Int),0) else(AD,0,1)
theorem TA:∀(n:Nat) (s:Ax),AS s→Bk s→A5 s→∀y∈BF s n,AS y∧Bk y
 |0,s,_,_,_,y,hy=>by simp[BF] at hy
 |n+1,s,hs,hx,h,y,hy=>by
  rw[BF] at hy
  split at hy
  .simp at hy
  .rename_i c
   have ha:=Pm h (J8 c)
   have hi:=Hf (k:=(Bl s).1) (id:=(Bl s).2) hs hx h
   rw[List.mem_cons] at hy
   rcases hy with rfl|hy
   .exact hi
   .exact TA n _ hi.1 hi.2 ha.1 y hy
theorem Vd {s:Ax} {n:Int} (hs:AS s) (hx:Bk s):AS (DK s n).1∧Bk (DK s n).1:=by
 unfold DK
 split
 .rename_i h
  cases e:(BF s n.toNat).getLast? with
  |none=>exact⟨hs,hx⟩
  |some y=>exact TA _ _ hs hx h.1 y (List.mem_of_getLast? e)
 .exact Ek
def FW (s:Ax):List AV:=[.int .i64 s.keep,.int .i64 s.blocks,.ro s.vers.length [],.ro s.sess.length []]
theorem NQ:∀L:List Ax,loose (Ac (An true) L) (Ac FW L)
 | []=>trivial
 |s::L=>by
  rw[AA,AA]
  exact Kt ⟨.inl rfl,.inl rfl,.inr (.inr ⟨_,_,_,rfl,rfl⟩),.inr (.inr ⟨_,_,_,rfl,rfl⟩),trivial⟩ (NQ L)
section
variable (xs:List Ax) (k:Nat)
@[simp] theorem fg:(Ac FW xs).length=xs.length*4:=DA _ (fun x=>by simp[FW]) xs
theorem Zq:(Ac FW xs).all C4=true:=Gt _ (fun x=>by simp[FW,C4,LN,BO]) xs
@[simp] theorem ib:Da k (Ac FW xs)=true:=Gv _ k (fun x=>by simp[FW]) xs
end
theorem Pu (L:List Ax) (c:Ax) (x:AV):(Ac (An true) (L++[c]))[L.length*4+2]?=some (.own 8 c.vers.length (Ac Ar c.vers))∧((Ac (An true) (L++[c])).set (L.length*4+2) x)[L.length*4+3]?=some (.own 12 c.sess.length (Ac (Aq true) c.sess)):=by
 refine⟨?_,?_⟩
 .rw[Bz,List.getElem?_append_right (by simp)];simp[AA]
 .rw[List.getElem?_set_ne (by omega),Bz,List.getElem?_append_right (by simp)];simp[AA]
theorem Wk.lastT {p:Nat} {F:Fr} (a0 a1 a2 a3 a4:Ah) (L:List Ax) (c:Ax):Wk p F [a0,a1,a2,a3,a4,.live 0 (Ac (An true) (L++[c]))] F [a0,a1,a2,a3,a4,.live 0 (Ac FW L++Bo 6 7 c),.live 0 (Ac Ar c.vers),.live 0 (Ac (Aq true) c.sess)]:=by
 have w1:=Wk.thaw (p:=p) (F:=F) (M:=[a0,a1,a2,a3,a4,.live 0 (Ac (An true) (L++[c]))]) (B:=5) (v:=0) (j:=L.length*4+2) (s:=8) (n:=c.vers.length) (xs:=Ac Ar c.vers) (by simp[Ai]) (Pu L c .any).1
 have w2:=Wk.thaw (p:=p) (F:=F) (M:=[a0,a1,a2,a3,a4,.live 0 ((Ac (An true) (L++[c])).set (L.length*4+2) (.tok 6 0 8 0 c.vers.length)),.live 0 (Ac Ar c.vers)]) (B:=5) (v:=0) (j:=L.length*4+3) (s:=12) (n:=c.sess.length) (xs:=Ac (Aq true) c.sess) (by simp[Ai]) (Pu L c (.tok 6 0 8 0 c.vers.length)).2
 have hc:((Ac (An true) (L++[c])).set (L.length*4+2) (.tok 6 0 8 0 c.vers.length)).set (L.length*4+3) (.tok 7 0 12 0 c.sess.length)=Ac (An true) L++Bo 6 7 c:=by
  rw[Bz,List.set_append_right _ _ (by simp),List.set_append_right _ _ (by simp)]
  simp[AA,Bo]
 have w3:=Wk.loose (p:=p) (F:=F) (M:=[a0,a1,a2,a3,a4,.live 0 (Ac (An true) L++Bo 6 7 c),.live 0 (Ac Ar c.vers),.live 0 (Ac (Aq true) c.sess)]) (B:=5) (v:=0) (cs' :=Ac FW L++Bo 6 7 c) (by simp[Ai]) (Kt (NQ L) (Mz _))
 refine w1.trans (Wk.trans ?_ (w2.trans (Wk.trans ?_ w3)))
 .exact Wk.refl
 .simp only[List.set_cons_succ,List.set_cons_zero,List.length_cons,List.length_nil]
  rw[hc]
  exact Wk.refl
set_option maxHeartbeats 4000000 in
theorem Xm (hR:By) (s:Ax) (n:Int) (hs:AS s) (hx:Bk s):Aa pg 52 [.agg (An false s),.int .i64 n] [] (fun r _=>r= .tup [.agg (An true (DK s n).1),.int .i64 (DK s n).2.1,.int .i64 (DK s n).2.2]):=by
 have spM:=IZ hR s hs hx
 have h1:=hs.1
 have h2:=hs.2.1
 refine Aa.start (fn:=Tryz.f52) [.cell 4 38,.tmp 5,.tmp 6] tk rfl rfl rfl (by kernel_rfl) (Nat.le_of_ble_eq_true rfl) rfl (by kernel_rfl) ?_
 rw[At]
 refine z2 ?_;intro K hK;refine zk ?_;clear hK K
 by_cases h:A5 s
 rotate_left
 .rw[decide_eq_false h] at spM
  have e:DK s n=(AD,0,1):=by unfold DK;rw[if_neg (fun g=>h g.1)]
  rw[e]
  refine z0 ?_;intro K hK
  refine Ab.eq spM (by simp) (by simp) ?_
  refine zx ?_
  refine zk ?_;clear hK K
  refine zt ?_
  refine z0 ?_;intro K hK
  refine zk ?_;clear hK K
  refine W.weak ((Wk.thaw (B:=1) (v:=0) (j:=2) (s:=8) (n:=0) (xs:=[]) rfl rfl).trans (Wk.thaw (B:=1) (v:=0) (j:=3) (s:=12) (n:=0) (xs:=[]) rfl rfl)) ?_
  refine zr ?_
  simp[AD]
 rw[decide_eq_true h] at spM
 by_cases hn:0≤n∧n≤1000
 rotate_left
 .have e:DK s n=(AD,0,1):=by unfold DK;rw[if_neg (fun g=>hn g.2)]
  rw[e]
  by_cases g:n<0
  .refine z0 ?_;intro K hK
   refine Ab.eq spM (by simp) (by simp) ?_
   refine AM g ?_
   refine zk ?_;clear hK K
   refine zt ?_
   refine z0 ?_;intro K hK
   refine zk ?_;clear hK K
   refine W.weak ((Wk.thaw (B:=1) (v:=0) (j:=2) (s:=8) (n:=0) (xs:=[]) rfl rfl).trans (Wk.thaw (B:=1) (v:=0) (j:=3) (s:=12) (n:=0) (xs:=[]) rfl rfl)) ?_
   refine zr ?_
   simp[AD]
  .have g2:1000<n:=by omega
   refine z0 ?_;intro K hK
   refine Ab.eq spM (by simp) (by simp) ?_
   refine AM (an g g2) ?_
   refine zk ?_;clear hK K
   refine zt ?_
   refine z0 ?_;intro K hK
   refine zk ?_;clear hK K
   refine W.weak ((Wk.thaw (B:=1) (v:=0) (j:=2) (s:=8) (n:=0) (xs:=[]) rfl rfl).trans (Wk.thaw (B:=1) (v:=0) (j:=3) (s:=12) (n:=0) (xs:=[]) rfl rfl)) ?_
   refine zr ?_
   simp[AD]
 obtain⟨m,rfl⟩:=Int.eq_ofNat_of_zero_le hn.1
 have g1:¬(m:Int)<0:=by omega
 have g2:¬1000<(m:Int):=by omega
 have e:DK s m=((BF s m).getLast?.getD s,((BF s m).length:Int),0):=by unfold DK;rw[if_pos ⟨h,hn⟩];rfl
 rw[e]
 have hrl:=Q6 m s
 have spO:=O8 s hs hx
 have spR:=aw hR s m hs hx h (by omega)
 refine z0 ?_;intro K hK
 refine Ab.eq spM (by simp) (by simp) ?_
 refine AM (an g1 g2) ?_
 refine zk ?_;clear hK K
 refine zn ?_
 refine W.skip ?_
 obtain⟨R,hRd⟩:∃R,R=BF s m:=⟨_,rfl⟩
 rw[←hRd] at spR hrl ⊢
 rcases List.eq_nil_or_concat R with hR0| ⟨L,c,hRc⟩
 .subst hR0
  (repeat refine W.seq ?_);refine W.regdT 1 6 rfl false Ce (by kernel_rfl) fun K hK=>?_;simp -implicitDefEqProofs (maxSteps:=999999) (disch:=omega)
  refine Ag.eqr spO (by simp) ?_
  refine zx ?_
  refine Ag.eqr spR (by simp) ?_
  refine zx ?_
  refine⟨_,_,Wk.refl,?_⟩
  simp -implicitDefEqProofs (maxSteps:=999999) (disch:=omega)
  refine zk ?_;clear hK K
  refine z0 ?_;intro K hK
  refine zk ?_;clear hK K
  exact zR
 .rw[List.concat_eq_append] at hRc
  subst hRc
  (repeat refine W.seq ?_);refine W.regdT 1 6 rfl false Ce (by kernel_rfl) fun K hK=>?_;simp -implicitDefEqProofs (maxSteps:=999999) (disch:=omega)
  refine Ag.eqr spO (by simp) ?_
  refine zx ?_
  refine Ag.eqr spR (by simp) ?_
  refine zx ?_
  have hLl:L.length+1≤1000:=by simp at hrl;omega
  have lt4:(Bo 6 7 c).length=4:=rfl
  have htk:List.take ((L.length+1)*4) (Ac FW L++Bo 6 7 c)=Ac FW L++Bo 6 7 c:=List.take_of_length_le (by simp[lt4];omega)
  have hpl:EY (Ac FW L++Bo 6 7 c)=true:=by rw[←II,List.all_append,Zq];simp[Bo,C4,LN,BO]
  refine⟨_,_,Wk.lastT _ _ _ _ _ L c,?_⟩
  simp -implicitDefEqProofs (maxSteps:=999999) (disch:=omega) [lt4,htk,hpl]
  refine zk ?_;clear hK K
  obtain⟨N,hN⟩:∃N,N=L.length+1:=⟨_,rfl⟩
  obtain⟨X,hX⟩:∃X,X=AV.int .i64 s.keep::AV.int .i64 s.blocks::AV.tok 3 0 8 0 s.vers.length::AV.tok 4 0 12 0 s.sess.length::(Ac FW L++Bo 6 7 c):=⟨_,rfl⟩
  rw[←hX,←hN]
  have hXf:X=[AV.int .i64 s.keep,AV.int .i64 s.blocks,AV.tok 3 0 8 0 s.vers.length,AV.tok 4 0 12 0 s.sess.length]++(Ac FW L++Bo 6 7 c):=by rw[hX];rfl
  have hXl:X.length=(1+N)*4:=by rw[hXf];simp[lt4];omega
  have hXi:∀j,j<4→X[N*4+j]?=(Bo 6 7 c)[j]?:=fun j hj=>by
   rw[hXf,List.getElem?_append_right (by simp;omega),List.getElem?_append_right (by simp;omega)]
   congr 1;simp;omega
  have x0:X[N*4]?=some (.int .i64 c.keep):=hXi 0 (by omega)
  have x1:X[N*4+1]?=some (.int .i64 c.blocks):=hXi 1 (by omega)
  have x2:X[N*4+1+1]?=some (.tok 6 0 8 0 c.vers.length):=hXi 2 (by omega)
  have x3:X[N*4+1+1+1]?=some (.tok 7 0 12 0 c.sess.length):=hXi 3 (by omega)
  obtain⟨N2,hN2⟩:∃N2,N2=1+N:=⟨_,rfl⟩
  rw[←hN2] at hXl ⊢
  have hN1:(N2:Int)-1=(N:Int):=by omega
  have hNl:N<N2:=by omega
  clear hXl
  refine Af (an hN1 (an hNl (an x0 (an x1 (an x2 x3))))) ?_;intro K hK
  refine zk ?_;clear hK K
  refine zr ?_
  simp[hN]
end Go.Abs
set_option maxRecDepth 100000
namespace Go.Abs
open Go.Proofs
theorem FP (e:Int):Aa pg 53 [.int .i64 e] [] (fun r _=>r= .int .i64 e):=by
 refine Aa.start (fn:=Tryz.f53) [.tmp 2] tk rfl rfl rfl (by kernel_rfl) (Nat.le_of_ble_eq_true rfl) rfl (by kernel_rfl) ?_
 rw[Av]
 refine zs ?_
 refine zs ?_
 exact zR
theorem Oz:A5 (C9 5 1):=by
 rw[Ny]
 refine⟨by simp[C9],by simp[C9],by simp[C9],by simp[C9],⟨by simp[C9,Aj],by simp[C9,Aj],by simp[C9,Aj]⟩,⟨by simp[C9],by simp[C9],by simp[C9,AB],by simp[C9,AB],by simp[C9,AB]⟩,fun i h=>by simp[C9] at h,fun x hx=>?_⟩
 have:x=E0:=by simpa[C9] using hx
 subst this
 simp[AI,E0]
theorem TB (hR:By):Aa pg 54 [] [] (fun r _=>r= .bool true):=by
 obtain⟨hs,hx⟩:=Xa 5 1
 have spN:=Zb 5 1
 have sp1:=Na hR (C9 5 1) hs hx
 have sp2:=Q9 hR (C9 5 1) hs hx
 have hf:Bl (C9 5 1)=(0,0):=by simp[Bl,C7,Dv,C9]
 rw[if_pos Oz,if_pos Oz,hf] at sp1
 rw[if_pos Oz,hf,decide_eq_true ⟨Oz,rfl⟩] at sp2
 obtain⟨s,hsd⟩:∃s,s=C9 5 1:=⟨_,rfl⟩
 rw[←hsd] at spN sp1 sp2
 refine Aa.start (fn:=Tryz.f54) [.tmp 0] tk rfl rfl rfl (by kernel_rfl) (Nat.le_of_ble_eq_true rfl) rfl (by kernel_rfl) ?_
 rw[Y4]
 refine zs ?_
 refine z1 ?_;intro K hK
 refine Ab.eq spN (by simp) (by simp) ?_
 refine zx ?_
 refine Ab.eq sp1 (by simp) (by simp) ?_
 refine zx ?_
 refine zk ?_;clear hK K
 refine z0 ?_;intro K hK
 refine Ab.eq spN (by simp) (by simp) ?_
 refine zx ?_
 refine Ab.eq sp2 (by simp) (by simp) ?_
 refine zx ?_
 refine zk ?_;clear hK K
 refine z0 ?_;intro K hK
 refine Ab.eq (FP 0) (by simp) (by simp) ?_
 refine zx ?_
 refine Ab.eq (FP 0) (by simp) (by simp) ?_
 refine zx ?_
 refine zk ?_;clear hK K
 exact zR
end Go.Abs
set_option maxRecDepth 100000
namespace Go.Abs
open Go.Proofs
set_option maxHeartbeats 8000000 in
theorem Qt (hR:By) (S:List Ax) (L:List (List Obj)) (G:List Gr) (na nn:Nat) (h0:S.length<Bq) (hS:∀s∈S,Lv s) (h1:G.length<Bq) (h2:∀g∈G,JY g) (h3:na<Bq) (h4:nn<Bq) (h5:L.length<Bq) (h6:∀l∈L,l.length<Bq∧∀o∈l,Gj o):Aa pg 11 [.agg (M0 S L G na nn)] [] (fun r _=>r= .bool true):=by
 have spH:=WO S L G na nn h0 hS h1 h2 h3 h4 h5 (fun l hl=>⟨(h6 l hl).1,fun o ho=>((h6 l hl).2 o ho).1⟩)
 have spW:=TB hR
 simp only[M0,I6,I5,List.cons_append,List.nil_append] at spH ⊢
 obtain⟨ask,hask⟩:∃ask:List AV,ask=[.ro S.length (Ac (An false) S),.ro L.length (C0 L),.ro G.length (Ac (A2 false) G),.ro na [],.ro nn []]:=⟨_,rfl⟩
 refine Aa.start (fn:=Tryz.f11) [.tmp 2] tk rfl rfl rfl (by kernel_rfl) (Nat.le_of_ble_eq_true rfl) rfl (by kernel_rfl) ?_
 rw[Av]
 refine z1 ?_;intro K hK;refine zk ?_;clear hK K
 refine z0 ?_;intro K hK
 refine Ab.bor spH (by simp) ?_
 rintro r ⟨b,rfl,hb⟩
 refine⟨by simp,?_⟩
 cases b
 rotate_left
 .refine zx ?_
  refine zk ?_;clear hK K
  refine zt ?_
  refine zs ?_
  exact zR
 obtain⟨⟨hS1,hS2⟩,⟨hL1,hL2⟩,hG1,hG2⟩:=hb rfl
 refine zx ?_
 refine zk ?_;clear hK K
 refine zn ?_
 refine W.skip ?_
 refine zs ?_
 (repeat refine W.seq ?_);refine W.block (W.loopS (fun i:Nat=> [(1,.ptr 0 0 0),(3,.int .i64 i)]) (fun _=> [.live 0 [.ro S.length (Ac (An false) S),.ro L.length (C0 L),.ro G.length (Ac (A2 false) G),.ro na [],.ro nn []]]) (fun i=>S.length-i) (fun i=>i≤S.length) 0 (Wk.fr (by simp[Ad])) (by simp) ?_)
 intro i hi
 by_cases c:i<S.length∧i<4
 rotate_left
 . (repeat refine W.seq ?_);refine W.midS (fun _:Unit=> [(40,.bool false)]) (fun _=> []) (fun _=>True) ?_ ?_
   .by_cases d1:i<S.length
    .have d2:¬(i:Int)<4:=by omega
     refine Af (an d1 d2) ?_;intro K hK
     refine zk ?_;clear hK K
     exact⟨(),trivial,Wk.cutM (k:=0) (by simp[Ad]) (by simp) (by simp) (by simp) (by simp) (by simp)⟩
    .refine Af d1 ?_;intro K hK
     refine zk ?_;clear hK K
     exact⟨(),trivial,Wk.cutM (k:=0) (by simp[Ad]) (by simp) (by simp) (by simp) (by simp) (by simp)⟩
   rintro _ _
   refine zn ?_
   refine W.exit ?_
   refine z0 ?_;intro K hK
   refine Ab.eq spW (by simp) (by simp) ?_
   refine zx ?_
   refine zk ?_;clear hK K
   exact zR
 obtain⟨d1,d2⟩:=c
 have d2' :(i:Int)<4:=by omega
 have k0:(Ac (An false) S)[i*4]?=some (.int .i64 S[i].keep):=AE (f:=An false) (s:=4) (fun _=>rfl) d1 (i:=0) (by omega)
 have k1:(Ac (An false) S)[i*4+1]?=some (.int .i64 S[i].blocks):=AE (f:=An false) (s:=4) (fun _=>rfl) d1 (i:=1) (by omega)
 have k2:(Ac (An false) S)[i*4+1+1]?=some (.ro S[i].vers.length (Ac Ar S[i].vers)):=AE (f:=An false) (s:=4) (fun _=>rfl) d1 (i:=2) (by omega)
 have k3:(Ac (An false) S)[i*4+1+1+1]?=some (.ro S[i].sess.length (Ac (Aq false) S[i].sess)):=AE (f:=An false) (s:=4) (fun _=>rfl) d1 (i:=3) (by omega)
 obtain⟨hsi,hsx⟩:=UH (hS2 _ (List.getElem_mem d1))
 have hsm:=hS2 _ (List.getElem_mem d1)
 obtain⟨s,hsd⟩:∃s,s=S[i]:=⟨_,rfl⟩
 rw[←hsd] at k0 k1 k2 k3 hsi hsx hsm
 have hvl:=hsm.1
 have spS:=UE s hsi hsx
 have spC:=Ir s hsi hsx
 have spE:=KG s s (Pf ⟨hsi,hsx⟩)
 rw[decide_eq_true rfl] at spE
 refine Af (an d1 d2') ?_;intro K hK
 refine zk ?_;clear hK K
 refine zt ?_
 refine W.skip ?_
 refine zb ?_
 refine JH (an d1 (an k0 (an k1 (an k2 k3)))) ?_;intro K hK
 refine Ab.eq spC (by simp) (by simp) ?_
 refine zx ?_
 refine zk ?_;clear hK K
 obtain⟨ok,hok⟩:∃ok:Bool,ok=decide (A5 s):=⟨_,rfl⟩
 rw[←hok] at spS
 refine Af (an d1 (an k0 (an k1 (an k2 k3)))) ?_;intro K hK
 refine Ab.eq spS (by simp) (by simp) ?_
 refine zx ?_
 refine zk ?_;clear hK K
 have sp1:=Na hR s hsi hsx
 have sp2:=Q9 hR s hsi hsx
 have sp3:=Vc hR s hsi hsx
 obtain⟨a,ha⟩:∃a,a=if A5 s then Bl s else(0,0):=⟨_,rfl⟩
 obtain⟨e,he⟩:∃e:Int,e=if A5 s then 0 else 1:=⟨_,rfl⟩
 obtain⟨is,his⟩:∃is,is=decide (A5 s∧(Bl s).1=0):=⟨_,rfl⟩
 obtain⟨bd,hbd⟩:∃bd:Int,bd=if A5 s then(s.vers.length:Int)*4 else 0:=⟨_,rfl⟩
 rw[←ha,←he] at sp1
 rw[←his,←he] at sp2
 rw[←hbd,←he] at sp3
 have hF:ok=false→a=(0,0)∧e=1∧is=false∧bd=0:=fun h=>by
  rw[h] at hok
  have hn:¬A5 s:=of_decide_eq_false hok.symm
  rw[ha,he,his,hbd];simp[hn]
 have hT:ok=true→A5 s∧a=Bl s∧e=0∧is=decide (a.1=0)∧bd=(s.vers.length:Int)*4:=fun h=>by
  rw[h] at hok
  have hy:A5 s:=of_decide_eq_true hok.symm
  rw[ha,he,his,hbd];simp[hy]
 refine z1 ?_;intro K hK
 refine Ab.eq sp1 (by simp) (by simp) ?_
 refine zx ?_
 refine zk ?_;clear hK K
 refine z0 ?_;intro K hK
 refine Ab.eq sp2 (by simp) (by simp) ?_
 refine zx ?_
 refine zk ?_;clear hK K
 refine z0 ?_;intro K hK
 refine Ab.eq sp3 (by simp) (by simp) ?_
 refine zx ?_
 refine zk ?_;clear hK K
 refine zs ?_
 refine z1 ?_;intro K hK
 refine zk ?_;clear hK K
 refine zs ?_
 refine W.midS (fun _:Unit=> [(1,.ptr 0 0 0),(3,.int .i64 i),(4,.ptr 1 0 0),(5,.bool ok),(6,.ptr 4 0 0),(7,.int .i64 e),(8,.bool is),(9,.int .i64 e),(10,.int .i64 bd),(11,.int .i64 e),(12,.int .i64 e),(13,.bool is),(14,.int .i64 bd),(15,.ptr 5 0 0)]) (fun _=> [.live 0 [.ro S.length (Ac (An false) S),.ro L.length (C0 L),.ro G.length (Ac (A2 false) G),.ro na [],.ro nn []],.live 0 [.int .i64 s.keep,.int .i64 s.blocks,.tok 2 0 8 0 s.vers.length,.tok 3 0 12 0 s.sess.length],.live 0 (Ac Ar s.vers),.live 0 (Ac (Aq true) s.sess),.live 0 (In a),.live 0 (In a)]) (fun _=>True) ?_ ?_
 .cases ok
  .obtain⟨g1,g2,g3,g4⟩:=hF rfl
   rw[g1,g2,g3,g4]
   refine zn ?_
   refine W.skip ?_
   exact⟨(),trivial,Wk.fr (by simp[Ad])⟩
  .obtain⟨g0,g1,g2,g3,g4⟩:=hT rfl
   have spN:=Q8 s hsi hsx g0
   rw[←g1] at spN
   have hmul:(s.vers.length:Int)*4=bd:=g4.symm
   refine zt ?_
   refine z0 ?_;intro K hK
   refine Ab.eq spN (by simp) (by simp) ?_
   refine zx ?_
   refine zk ?_;clear hK K
   refine Ba hmul ?_;intro K hK
   refine zk ?_;clear hK K
   exact⟨(),trivial,Wk.fr (by simp[Ad,g2,g3,g4])⟩
 rintro _ _
 refine z0 ?_;intro K hK
 refine Ab.eq (FP e) (by simp) (by simp) ?_
 refine zx ?_
 refine Ab.eq (FP e) (by simp) (by simp) ?_
 refine zx ?_
 refine Ab.eq (FP e) (by simp) (by simp) ?_
 refine zx ?_
 refine zk ?_;clear hK K
 refine zn ?_
 refine W.skip ?_
 refine zs ?_
 (repeat refine W.seq ?_);refine W.midS (fun _:Unit=> [(1,.ptr 0 0 0),(3,.int .i64 i),(4,.ptr 1 0 0),(5,.bool ok)]) (fun _=> [.live 0 [.ro S.length (Ac (An false) S),.ro L.length (C0 L),.ro G.length (Ac (A2 false) G),.ro na [],.ro nn []],.live 0 [.int .i64 s.keep,.int .i64 s.blocks,.tok 2 0 8 0 s.vers.length,.tok 3 0 12 0 s.sess.length],.live 0 (Ac Ar s.vers),.live 0 (Ac (Aq true) s.sess)]) (fun _=>True) ?_ ?_
 . (repeat refine W.seq ?_);refine W.block (W.loopS (fun q:Nat=> [(1,.ptr 0 0 0),(3,.int .i64 i),(4,.ptr 1 0 0),(5,.bool ok),(16,.int .i64 q)]) (fun _=> [.live 0 [.ro S.length (Ac (An false) S),.ro L.length (C0 L),.ro G.length (Ac (A2 false) G),.ro na [],.ro nn []],.live 0 [.int .i64 s.keep,.int .i64 s.blocks,.tok 2 0 8 0 s.vers.length,.tok 3 0 12 0 s.sess.length],.live 0 (Ac Ar s.vers),.live 0 (Ac (Aq true) s.sess)]) (fun q=>9-q) (fun q=>q≤4) 0 (Wk.cutM (k:=4) (by simp[Ad]) (by simp) (by simp) (by simp) (by simp) (by simp)) (by simp) ?_)
   intro q hq
   by_cases q1:q<4
   rotate_left
   .have q1' :¬(q:Int)≤3:=by omega
    refine Af q1' ?_;intro K hK
    refine zk ?_;clear hK K
    refine zn ?_
    refine W.exit ?_
    exact⟨(),trivial,Wk.fr (by simp[Ad])⟩
   have q1' :(q:Int)≤3:=by omega
   refine Af q1' ?_;intro K hK
   refine zk ?_;clear hK K
   refine zt ?_
   refine W.skip ?_
   refine zb ?_
   refine zs ?_
   (repeat refine W.seq ?_);refine W.block (W.loopS (fun k:Nat=> [(1,.ptr 0 0 0),(3,.int .i64 i),(4,.ptr 1 0 0),(5,.bool ok),(16,.int .i64 q),(17,.int .i64 ((k:Int)-1))]) (fun _=> [.live 0 [.ro S.length (Ac (An false) S),.ro L.length (C0 L),.ro G.length (Ac (A2 false) G),.ro na [],.ro nn []],.live 0 [.int .i64 s.keep,.int .i64 s.blocks,.tok 2 0 8 0 s.vers.length,.tok 3 0 12 0 s.sess.length],.live 0 (Ac Ar s.vers),.live 0 (Ac (Aq true) s.sess)]) (fun k=>20-k) (fun k=>k≤10) 0 (Wk.fr (by simp[Ad])) (by simp) ?_)
   intro k hk
   by_cases e1:k<10
   rotate_left
   .have e1' :¬((k:Int)-1<9):=by omega
    refine Af e1' ?_;intro K hK
    refine zk ?_;clear hK K
    refine zn ?_
    refine W.exit ?_
    refine zs ?_
    exact⟨q+1,by omega,by omega,Wk.fr (by simp[Ad])⟩
   have e1' :(k:Int)-1<9:=by omega
   obtain⟨id,Bm⟩:∃id:Int,id=(k:Int)-1:=⟨_,rfl⟩
   rw[←Bm] at e1' ⊢
   obtain⟨kd,hkd⟩:∃kd:Int,kd=(q:Int):=⟨_,rfl⟩
   rw[←hkd]
   have spT:=ax hR s kd id hsi hsx
   obtain⟨y,hy⟩:∃y,y=if A5 s then(B1 s kd id).1 else AD:=⟨_,rfl⟩
   obtain⟨w,hw⟩:∃w:Int,w=if A5 s then(B1 s kd id).2 else 1:=⟨_,rfl⟩
   rw[←hy,←hw] at spT
   have hyin:AS y∧Bk y:=by
    rw[hy];split
    .exact Hf hsi hsx (by assumption)
    .exact Ek
   have spQ:=KG y y (Pf hyin)
   rw[decide_eq_true rfl] at spQ
   have spO:=UV y 0 0 hyin.1 hyin.2
   have hyf:ok=false→y=AD∧w=1:=fun h=>by
    rw[h] at hok
    have hn:¬A5 s:=of_decide_eq_false hok.symm
    rw[hy,hw,if_neg hn,if_neg hn];exact⟨rfl,rfl⟩
   have hyt:ok=true→y=(B1 s kd id).1∧w=(B1 s kd id).2:=fun h=>by
    have hn:=(hT h).1
    rw[hy,hw,if_pos hn,if_pos hn];exact⟨rfl,rfl⟩
   refine Af e1' ?_;intro K hK
   refine zk ?_;clear hK K
   refine zt ?_
   refine W.skip ?_
   refine zb ?_
   refine z1 ?_;intro K hK
   refine Ab.eq spT (by simp) (by simp) ?_
   refine zx ?_
   refine zk ?_;clear hK K
   refine zs ?_
   refine z1 ?_;intro K hK
   refine zk ?_;clear hK K
   refine zs ?_
   (repeat refine W.seq ?_);refine W.midS (fun _:Unit=> [(1,.ptr 0 0 0),(3,.int .i64 i),(4,.ptr 1 0 0),(5,.bool ok),(16,.int .i64 kd),(17,.int .i64 id),(18,.ptr 4 0 0),(19,.int .i64 w),(20,.int .i64 w),(21,.ptr 7 0 0)]) (fun _=> [.live 0 [.ro S.length (Ac (An false) S),.ro L.length (C0 L),.ro G.length (Ac (A2 false) G),.ro na [],.ro nn []],.live 0 [.int .i64 s.keep,.int .i64 s.blocks,.tok 2 0 8 0 s.vers.length,.tok 3 0 12 0 s.sess.length],.live 0 (Ac Ar s.vers),.live 0 (Ac (Aq true) s.sess),.live 0 [.int .i64 y.keep,.int .i64 y.blocks,.tok 5 0 8 0 y.vers.length,.tok 6 0 12 0 y.sess.length],.live 0 (Ac Ar y.vers),.live 0 (Ac (Aq true) y.sess),.live 0 [.int .i64 y.keep,.int .i64 y.blocks,.tok 8 0 8 0 y.vers.length,.tok 9 0 12 0 y.sess.length],.live 0 (Ac Ar y.vers),.live 0 (Ac (Aq true) y.sess)]) (fun _=>True) ?_ ?_
   .cases ok
    .obtain⟨g1,g2⟩:=hyf rfl
     rw[g1,g2]
     refine W.weak ((Wk.thaw (B:=7) (v:=0) (j:=2) (s:=8) (n:=0) (xs:=[]) (by rfl) (by rfl)).trans (Wk.thaw (B:=7) (v:=0) (j:=3) (s:=12) (n:=0) (xs:=[]) (by rfl) (by rfl))) ?_
     refine zn ?_
     refine W.skip ?_
     exact⟨(),trivial,Wk.fr (by simp[Ad])⟩
    .have spA:=RS s kd id hsi hsx (hT rfl).1
     rw[←(hyt rfl).1,←(hyt rfl).2] at spA
     refine zt ?_
     refine Af (an d1 (an k0 (an k1 (an k2 k3)))) ?_;intro K hK
     refine Ab.eq spA (by simp) (by simp) ?_
     refine zx ?_
     refine zk ?_;clear hK K
     exact⟨(),trivial,Wk.fr (by simp[Ad])⟩
   rintro _ _
   refine Ba (an d1 (an k0 (an k1 (an k2 k3)))) ?_;intro K hK
   refine Ag.eq (FP w) (by simp) (by simp) ?_
   refine AM (an d1 (an k0 (an k1 (an k2 k3)))) ?_
   refine Ag.eq spQ (by simp) (by simp) ?_
   refine AM (an d1 (an k0 (an k1 (an k2 k3)))) ?_
   refine Ag.eq spE (by simp) (by simp) ?_
   refine zx ?_
   refine zk ?_;clear hK K
   refine zn ?_
   refine W.skip ?_
   refine z0 ?_;intro K hK
   refine Ab.pass [5,6] spO (by simp) (by simp) (by simp) (by simp) ?_
   rintro r M ⟨rfl,rfl⟩ _
   refine zx ?_
   refine zk ?_;clear hK K
   refine Ba (an d1 (an k0 (an k1 (an k2 k3)))) ?_;intro K hK
   refine Ag.eq spE (by simp) (by simp) ?_
   refine zx ?_
   refine zk ?_;clear hK K
   refine zn ?_
   refine W.skip ?_
   refine zs ?_
   exact⟨k+1,by omega,by omega,Wk.cutM (k:=4) (by simp[Ad,hkd];omega) (by simp) (by simp) (by simp) (by simp) (by simp)⟩
 rintro _ _
 have hrep:Cs 7 [AV.int .i64 0]=[.int .i64 0,.int .i64 0,.int .i64 0,.int .i64 0,.int .i64 0,.int .i64 0,.int .i64 0]:=rfl
 obtain⟨ns,hns⟩:∃ns:List Int,ns=[0,1,2,5,1000,1001,-1]:=⟨_,rfl⟩
 have hnl:ns.length=7:=by rw[hns];rfl
 have hnm:Ae ns=[.int .i64 0,.int .i64 1,.int .i64 2,.int .i64 5,.int .i64 1000,.int .i64 1001,.int .i64 (-1)]:=by rw[hns];rfl
 refine JH hrep ?_;intro K hK
 rw[←hnm]
 refine zk ?_;clear hK K
 refine zs ?_
 (repeat refine W.seq ?_);refine W.block (W.loopS (fun k:Nat=> [(1,.ptr 0 0 0),(3,.int .i64 i),(4,.ptr 1 0 0),(5,.bool ok),(22,.tok 4 0 1 0 7),(23,.int .i64 k)]) (fun _=> [.live 0 [.ro S.length (Ac (An false) S),.ro L.length (C0 L),.ro G.length (Ac (A2 false) G),.ro na [],.ro nn []],.live 0 [.int .i64 s.keep,.int .i64 s.blocks,.tok 2 0 8 0 s.vers.length,.tok 3 0 12 0 s.sess.length],.live 0 (Ac Ar s.vers),.live 0 (Ac (Aq true) s.sess),.live 0 (Ae ns)]) (fun k=>7-k) (fun k=>k≤7) 0 (Wk.fr (by simp[Ad])) (by simp) ?_)
 intro k hk
 by_cases e1:k<7
 rotate_left
 .have e1' :¬((k:Int)<7):=by omega
  refine Af e1' ?_;intro K hK
  refine zk ?_;clear hK K
  refine zn ?_
  refine W.exit ?_
  refine zs ?_
  exact⟨i+1,by omega,by omega,Wk.cutM (k:=1) (by simp[Ad]) (by simp) (by simp) (by simp) (by simp) (by simp)⟩
 have e1' :(k:Int)<7:=by omega
 have e1n:k<ns.length:=by omega
 obtain⟨n,hn⟩:∃n,n=ns[k]:=⟨_,rfl⟩
 have g1:(Ae ns)[k]?=some (.int .i64 n):=by rw[hn];simp[e1n,Ae]
 have spM:=Xm hR s n hsi hsx
 obtain⟨y,hy⟩:∃y,y=(DK s n).1:=⟨_,rfl⟩
 obtain⟨m,hm⟩:∃m,m=(DK s n).2.1:=⟨_,rfl⟩
 obtain⟨w,hw⟩:∃w,w=(DK s n).2.2:=⟨_,rfl⟩
 rw[←hy,←hm,←hw] at spM
 have hyin:AS y∧Bk y:=by rw[hy];exact Vd hsi hsx
 have spQ:=KG y y (Pf hyin)
 rw[decide_eq_true rfl] at spQ
 have spN:=Ig n 1000
 refine Af e1' ?_;intro K hK
 refine zk ?_;clear hK K
 refine zt ?_
 refine W.skip ?_
 refine zb ?_
 (repeat refine W.seq ?_);refine W.regd 1 rfl true Ce (by kernel_rfl) fun K hK=>?_;simp -implicitDefEqProofs (maxSteps:=999999) (disch:=omega) [e1',g1]
 refine Ag.eq spM (by simp) (by simp) ?_
 refine zx ?_
 refine zk ?_;clear hK K
 refine zs ?_
 refine z1 ?_;intro K hK
 refine zk ?_;clear hK K
 (repeat refine W.seq ?_);refine W.midS (fun b:Bool=> [(1,.ptr 0 0 0),(3,.int .i64 i),(4,.ptr 1 0 0),(5,.bool ok),(22,.tok 4 0 1 0 7),(23,.int .i64 k),(24,.ptr 5 0 0),(25,.int .i64 m),(26,.int .i64 w),(27,.int .i64 1),(28,.int .i64 0),(29,.ptr 8 0 0),(194,.bool b)]) (fun _=> [.live 0 [.ro S.length (Ac (An false) S),.ro L.length (C0 L),.ro G.length (Ac (A2 false) G),.ro na [],.ro nn []],.live 0 [.int .i64 s.keep,.int .i64 s.blocks,.tok 2 0 8 0 s.vers.length,.tok 3 0 12 0 s.sess.length],.live 0 (Ac Ar s.vers),.live 0 (Ac (Aq true) s.sess),.live 0 (Ae ns),.live 0 [.int .i64 y.keep,.int .i64 y.blocks,.tok 6 0 8 0 y.vers.length,.tok 7 0 12 0 y.sess.length],.live 0 (Ac Ar y.vers),.live 0 (Ac (Aq true) y.sess),.live 0 [.int .i64 0,.int .i64 0,.own 8 0 [],.own 12 0 []]]) (fun b=>b=true↔ok=true∧0≤n∧n≤1000) ?_ ?_
 .cases ok
  .refine z0 ?_;intro K hK
   refine zk ?_;clear hK K
   exact⟨false,by simp,Wk.fr (by simp[Ad])⟩
  .refine Af (an e1' g1) ?_;intro K hK
   refine Ab.eq spN (by simp) (by simp) ?_
   refine zx ?_
   refine zk ?_;clear hK K
   exact⟨decide (0≤n∧n≤1000),by simp,Wk.fr (by simp[Ad])⟩
 rintro b hb
 refine W.midS (fun q:Bool=> [(1,.ptr 0 0 0),(3,.int .i64 i),(4,.ptr 1 0 0),(5,.bool ok),(22,.tok 4 0 1 0 7),(23,.int .i64 k),(24,.ptr 5 0 0),(25,.int .i64 m),(26,.int .i64 w),(27,.int .i64 w),(28,.int .i64 m),(29,.ptr 8 0 0)]) (fun q=>if q=true then [.live 0 [.ro S.length (Ac (An false) S),.ro L.length (C0 L),.ro G.length (Ac (A2 false) G),.ro na [],.ro nn []],.live 0 [.int .i64 s.keep,.int .i64 s.blocks,.tok 2 0 8 0 s.vers.length,.tok 3 0 12 0 s.sess.length],.live 0 (Ac Ar s.vers),.live 0 (Ac (Aq true) s.sess),.live 0 (Ae ns),.live 0 [.int .i64 y.keep,.int .i64 y.blocks,.tok 6 0 8 0 y.vers.length,.tok 7 0 12 0 y.sess.length],.live 0 (Ac Ar y.vers),.live 0 (Ac (Aq true) y.sess),.live 0 [.int .i64 y.keep,.int .i64 y.blocks,.tok 9 0 8 0 y.vers.length,.tok 10 0 12 0 y.sess.length],.live 0 (Ac Ar y.vers),.live 0 (Ac (Aq true) y.sess)] else [.live 0 [.ro S.length (Ac (An false) S),.ro L.length (C0 L),.ro G.length (Ac (A2 false) G),.ro na [],.ro nn []],.live 0 [.int .i64 s.keep,.int .i64 s.blocks,.tok 2 0 8 0 s.vers.length,.tok 3 0 12 0 s.sess.length],.live 0 (Ac Ar s.vers),.live 0 (Ac (Aq true) s.sess),.live 0 (Ae ns),.live 0 [.int .i64 y.keep,.int .i64 y.blocks,.tok 6 0 8 0 y.vers.length,.tok 7 0 12 0 y.sess.length],.live 0 (Ac Ar y.vers),.live 0 (Ac (Aq true) y.sess),.live 0 (An false y)]) (fun _=>True) ?_ ?_
 .cases b
  .have hz:DK s n=(AD,0,1):=by
    unfold DK
    rw[if_neg]
    rintro⟨g1,g2⟩
    have:=hb.2 ⟨by rw[hok];simp[g1],g2⟩
    simp at this
   rw[hz] at hy hm hw
   simp only at hy hm hw
   rw[hy,hm,hw]
   refine W.weak ((Wk.thaw (B:=8) (v:=0) (j:=2) (s:=8) (n:=0) (xs:=[]) (by rfl) (by rfl)).trans (Wk.thaw (B:=8) (v:=0) (j:=3) (s:=12) (n:=0) (xs:=[]) (by rfl) (by rfl))) ?_
   refine zn ?_
   refine W.skip ?_
   exact⟨true,trivial,Wk.fr (by simp[Ad])⟩
  .obtain⟨g1',g2⟩:=hb.1 rfl
   have hst:=(hT g1').1
   obtain⟨nn',hnn⟩:=Int.eq_ofNat_of_zero_le g2.1
   have hz:DK s n=(Hw s nn',((BF s nn').length:Int),0):=by
    unfold DK Hw
    rw[if_pos ⟨hst,g2⟩,hnn];rfl
   rw[hz] at hy hm hw
   simp only at hy hm hw
   have spC:=Vb s nn' hsi hsx hst (by omega)
   rw[←hy,←hm,←hnn] at spC
   rw[hw]
   refine zt ?_
   refine zs ?_
   cases hd:decide (0<(BF s nn').length)
   .rw[hd] at spC
    refine Ba (an d1 (an k0 (an k1 (an k2 (an k3 (an e1' g1)))))) ?_;intro K hK
    refine Ag.eqr spC (by simp) ?_
    refine AM (an d1 (an k0 (an k1 (an k2 (an k3 (an e1' g1)))))) ?_
    refine zk ?_;clear hK K
    exact⟨false,trivial,Wk.fr (by simp[Ad])⟩
   .rw[hd] at spC
    refine Ba (an d1 (an k0 (an k1 (an k2 (an k3 (an e1' g1)))))) ?_;intro K hK
    refine Ag.eqr spC (by simp) ?_
    refine AM (an d1 (an k0 (an k1 (an k2 (an k3 (an e1' g1)))))) ?_
    refine zk ?_;clear hK K
    exact⟨true,trivial,Wk.fr (by simp[Ad])⟩
 rintro q _
 cases q
 .simp only[Bool.false_eq_true,if_false]
  refine Ba (an d1 (an k0 (an k1 (an k2 k3)))) ?_;intro K hK
  refine Ag.eq (FP w) (by simp) (by simp) ?_
  refine AM (an d1 (an k0 (an k1 (an k2 k3)))) ?_
  refine Ag.eq spQ (by simp) (by simp) ?_
  refine AM (an d1 (an k0 (an k1 (an k2 k3)))) ?_
  refine Ag.eq spE (by simp) (by simp) ?_
  refine zx ?_
  refine zk ?_;clear hK K
  refine zn ?_
  refine W.skip ?_
  refine zs ?_
  exact⟨k+1,by omega,by omega,Wk.cutM (k:=5) (by simp[Ad]) (by simp) (by simp) (by simp) (by simp) (by simp)⟩
 .simp only[if_true]
  refine Ba (an d1 (an k0 (an k1 (an k2 k3)))) ?_;intro K hK
  refine Ag.eq (FP w) (by simp) (by simp) ?_
  refine AM (an d1 (an k0 (an k1 (an k2 k3)))) ?_
  refine Ag.eq spQ (by simp) (by simp) ?_
  refine AM (an d1 (an k0 (an k1 (an k2 k3)))) ?_
  refine Ag.eq spE (by simp) (by simp) ?_
  refine zx ?_
  refine zk ?_;clear hK K
  refine zn ?_
  refine W.skip ?_
  refine zs ?_
  exact⟨k+1,by omega,by omega,Wk.cutM (k:=5) (by simp[Ad]) (by simp) (by simp) (by simp) (by simp) (by simp)⟩
end Go.Abs
set_option maxRecDepth 100000
namespace Go.Abs
open Go.Proofs Go.ChangeShapes Go.WideShapes Go.ChangeAt Go.RowKit
def Ka (P:Program) (fn:Func) (s:ChangeSpec) (c:OpenClaim):Bool:=
 c.wf (OpenSpec.ofChange s)&&laidOutB P&&mapsRowed P&&
 fn.params.all (fun t=>P.readableRec t)&&namedTie P c.named s.vars&&
 (c.stops==[])&&(P.stops==[])&&(c.knobs==[])&&(P.stopKnobs==[])&&
 (c.maps==(fn.params.toList++s.plain.varTypes P).any (fun t=>P.mapsRec t))&&(c.ifaces==(fn.params.toList++s.plain.varTypes P).any (fun t=>P.ifacesRec t))&&(c.mapsOut==P.mapsAmong fn.resultTypes.toList)&&
 (c.loops==(fn.params.toList++s.plain.varTypes P).any (fun t=>P.loopsFrom t))&&(c.wideKeys==(fn.params.toList++s.plain.varTypes P++fn.resultTypes.toList).any (fun t=>P.wideKeysFrom t))&&
 s.vars.all (fun t=>P.varReadable t)&&fn.resultTypes.all (fun t=>P.readableRec t&&decide (t<P.types.size))&&(c.ifacesOut==fn.resultTypes.toList.any (fun t=>P.ifacesRec t))&&(c.loopsOut==fn.resultTypes.toList.any (fun t=>P.loopsFrom t))&&(c.plainKeys==P.plainKeys)&&c.shortTexts.isNone&&(c.kinds==(if c.domain.isEmpty then [] else fn.params.toList.map fun t=>match P.underlying t with|some (.int k)=>some k|_=>none))&&(c.pinned==c.pinnedBy)&&
 (c.veiled==(fn.params.toList++s.plain.varTypes P++fn.resultTypes.toList).any (fun t=>P.veiledRec t))&&c.veiledFits P fn.params.toList (fn.params.toList++s.plain.varTypes P++fn.resultTypes.toList)
theorem TC {P:Program} {f:FuncId} {fn:Func} {s:ChangeSpec} {c:OpenClaim} (h1:(c.inPlace==P.inPlace f)=true) (h2:(c.unfollowed==P.unfollowed f)=true) (h3:(c.recurses==P.recurses f)=true) (h4:(c.named==P.varsNamed f)=true)
 (h5:P.stopsHeard=true) (h6:P.mayEnter=true) (h7:(c.lifted==P.liftsFinal)=true) (h8:(P.make==some c.make)=true) (h:Ka P fn s c=true):joinedFacts P f fn s c=true:=by
 simp only[Ka,Bool.and_eq_true] at h
 obtain⟨⟨⟨⟨⟨⟨⟨⟨⟨⟨⟨⟨⟨⟨⟨⟨⟨⟨⟨⟨⟨⟨⟨k1,k2⟩,k3⟩,k4⟩,k5⟩,k6⟩,k7⟩,k8⟩,k9⟩,k10⟩,k11⟩,k12⟩,k13⟩,k14⟩,k15⟩,k16⟩,k17⟩,k18⟩,k19⟩,k20⟩,k21⟩,k22⟩,k23⟩,k24⟩:=h
 simp only[joinedFacts,Bool.and_eq_true]
 exact⟨⟨⟨⟨⟨⟨⟨⟨⟨⟨⟨⟨⟨⟨⟨⟨⟨⟨⟨⟨⟨⟨⟨⟨⟨⟨⟨⟨⟨⟨⟨k1,k2⟩,k3⟩,k4⟩,k5⟩,k6⟩,k7⟩,k8⟩,k9⟩,h1⟩,h2⟩,h3⟩,h4⟩,k10⟩,k11⟩,k12⟩,k13⟩,k14⟩,k15⟩,k16⟩,k17⟩,k18⟩,k19⟩,k20⟩,h5⟩,h6⟩,h7⟩,h8⟩,k21⟩,k22⟩,k23⟩,k24⟩
end Go.Abs
