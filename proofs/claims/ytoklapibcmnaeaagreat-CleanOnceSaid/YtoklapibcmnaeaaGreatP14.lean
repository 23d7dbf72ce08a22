/- A state with an object laid. -/
import Derived.Test.YtoklapibcmnaeaaGreatP13
set_option linter.unusedVariables false
set_option linter.unusedSimpArgs false
set_option maxRecDepth 100000
namespace Go.Abs
open Go.Proofs
def AQ:Au:=⟨0,0,[],[]⟩
def Fm (id parent:Int):Bj:=⟨id,parent,0,⟨ByteArray.empty,0⟩,0,false,false⟩
def De (l:List Bj) (i:Nat) (o:Obj):List Bj:=match l[i]? with|some v=>l.set i {v with base:=o.base,data:=o.data} |none=>l
def I7 (l:List Bj) (i:Nat) (a:Int):List Bj:=match l[i]? with|some v=>l.set i {v with at_:=a} |none=>l
def EE (s:Au) (o:Obj) (parent:Int):Option (List Bj×Nat):=
 if AI (fun v=>decide (v.id=o.id)) s.vers<0 then(if o.id≤A9 s.vers∨parent<0∨o.id≤parent then none else some (s.vers++[Fm o.id parent],s.vers.length))
 else some (s.vers,(AI (fun v=>decide (v.id=o.id)) s.vers).toNat)
def D5 (s:Au) (o:Obj) (parent:Int):Au×Int:=match EE s o parent with
 |none=>(AQ,1)
 |some (l,i)=>
  if C2 o.data∧Eh {s with vers:=De l i o} then
   (if (DI (Ax s) s.blocks (CY o.data)).2=0 then({s with vers:=I7 (De l i o) i (DI (Ax s) s.blocks (CY o.data)).1},0) else(AQ,5))
  else(AQ,1)
theorem Kf {α:Type} {f:α→Bool} {l:List α} (h:0≤AI f l):(AI f l).toNat<l.length:=by
 unfold AI at h ⊢
 cases e:l.findIdx? f with
 |none=>rw[e] at h;simp at h
 |some i=>simpa using (List.findIdx?_eq_some_iff_getElem.1 e).1
theorem Qa (o:Obj):∀(l:List Bj) (k:Nat) (h:k<l.length),(((Ac Ay l).set (k*8+2) (.int .i64 o.base)).set (k*8+3) (.str o.data.data)).set (k*8+3+1) (.int .i64 o.data.n)=Ac Ay (l.set k {l[k] with base:=o.base,data:=o.data})
 | [],k,h=>by simp at h
 |v::t,0,h=>by simp[Az,Ay]
 |v::t,k+1,h=>by
  have ih:=Qa o t k (by simpa using h)
  have hl:(Ay v).length=8:=rfl
  rw[Az,List.set_append_right _ _ (by omega),List.set_append_right _ _ (by omega),List.set_append_right _ _ (by omega)]
  rw[show(k+1)*8+2-(Ay v).length=k*8+2 by omega,show(k+1)*8+3-(Ay v).length=k*8+3 by omega,show(k+1)*8+3+1-(Ay v).length=k*8+3+1 by omega,ih]
  simp[Az]
theorem Sm (a:Int):∀(l:List Bj) (k:Nat) (h:k<l.length),(Ac Ay l).set (k*8+5) (.int .i64 a)=Ac Ay (l.set k {l[k] with at_:=a})
 | [],k,h=>by simp at h
 |v::t,0,h=>by simp[Az,Ay]
 |v::t,k+1,h=>by
  have ih:=Sm a t k (by simpa using h)
  have hl:(Ay v).length=8:=rfl
  rw[Az,List.set_append_right _ _ (by omega),show(k+1)*8+5-(Ay v).length=k*8+5 by omega,ih]
  simp[Az]
theorem Kg {l:List Bj} {i:Nat} {o:Obj} (h:i<l.length):De l i o=l.set i {l[i] with base:=o.base,data:=o.data}:=by
 simp[De,List.getElem?_eq_getElem h]
theorem Oq (l:List Bj) (i:Nat) (o:Obj):(De l i o).length=l.length:=by
 unfold De;split<;>simp
theorem Sn {l:List Bj} {i:Nat} {a:Int} (h:i<l.length):I7 l i a=l.set i {l[i] with at_:=a}:=by
 simp[I7,List.getElem?_eq_getElem h]
theorem Mm (l:List Bj) (i:Nat) (a:Int):(I7 l i a).length=l.length:=by
 unfold I7;split<;>simp
theorem Ot {l:List Bj} {i:Nat} {o:Obj} {n:Nat} (h:∀v∈l,v.data.data.size<n) (ho:o.data.data.size<n):∀v∈De l i o,v.data.data.size<n:=by
 intro v hv
 unfold De at hv
 split at hv
 .rcases List.mem_or_eq_of_mem_set hv with hv|hv
  .exact h v hv
  .subst hv;exact ho
 .exact h v hv
theorem Ym (hR:BC) (s:Au) (o:Obj) (parent:Int) (hs:A5 s) (hx:BM s) (ho:o.data.data.size<1000000000) (hn:s.vers.length<999999999):Aa pg 75 [.agg (An false s),.agg (Aq o),.int .i64 parent] [] (fun r _=>r= .tup [.agg (An true (D5 s o parent).1),.int .i64 (D5 s o parent).2]):=by
 have h1:=hs.1
 have h2:=hs.2.1
 refine Aa.start (fn:=Tryz.f75) [.cell 6 38,.tmp 7] tk rfl rfl rfl (by kernel_rfl) (Nat.le_of_ble_eq_true rfl) rfl (by kernel_rfl) ?_
 rw[Bi]
 refine z3 ?_;intro K hK;refine zk ?_;clear hK K
 refine z1 ?_;intro K hK
 refine Ab.eqr (Oo s hs hx) (by simp) ?_
 refine zx ?_
 refine zk ?_;clear hK K
 refine z0 ?_;intro K hK
 refine Ab.eq (G0 s o.id hs) (by simp) (by simp) ?_
 refine zx ?_
 refine zk ?_;clear hK K
 obtain⟨q,hq⟩:∃q,q=AI (fun v=>decide (v.id=o.id)) s.vers:=⟨_,rfl⟩
 rw[←hq]
 have hqi:q<0∨∃h:q.toNat<s.vers.length,q=(q.toNat:Int):=by
  rcases(show q<0∨0≤q by omega) with h|h
  .exact .inl h
  .exact .inr ⟨by rw[hq] at h ⊢;exact Kf h,by omega⟩
 refine zs ?_
 refine W.midS (fun x:Nat×List Bj×Nat=> [(2,.int .i64 parent),(3,.ptr 0 0 0),(4,.ptr 1 0 0),(6,.ptr 2 0 0),(7,.int .i64 0),(8,.ptr 3 0 0),(9,.int .i64 x.2.2)]) (fun x=> [.live 0 (An false s),.live 0 (Aq o),.live 0 [.int .i64 0,.int .i64 0,.own 8 0 [],.own 12 0 []],.live 0 [.int .i64 s.keep,.int .i64 s.blocks,.tok 4 x.1 8 0 x.2.1.length,.tok 5 0 12 0 s.sess.length],.live x.1 (Ac Ay x.2.1),.live 0 (Ac (AB true) s.sess)]) (fun x=>EE s o parent=some (x.2.1,x.2.2)∧x.2.2<x.2.1.length∧x.2.1.length<1000000000∧∀v∈x.2.1,v.data.data.size<1000000000) ?_ ?_
 .by_cases c1:q<0
  .have eV:EE s o parent=if o.id≤A9 s.vers∨parent<0∨o.id≤parent then none else some (s.vers++[Fm o.id parent],s.vers.length):=by unfold EE;rw[←hq,if_pos c1]
   rw[decide_eq_true c1]
   refine zt ?_
   by_cases d1:o.id≤A9 s.vers
   .rw[if_pos (.inl d1)] at eV
    refine B9 ?_;intro K hK
    refine Ah.eq (Ey s hs) (by simp) (by simp) ?_
    refine AO d1 ?_
    refine zk ?_;clear hK K
    refine zt ?_
    refine z0 ?_;intro K hK
    refine zk ?_;clear hK K
    refine W.weak ((Wk.thaw (B:=2) (v:=0) (j:=2) (s:=8) (n:=0) (xs:=[]) rfl rfl).trans (Wk.thaw (B:=2) (v:=0) (j:=3) (s:=12) (n:=0) (xs:=[]) rfl rfl)) ?_
    refine zr ?_
    simp[D5,eV,AQ]
   by_cases d2:parent<0
   .rw[if_pos (.inr (.inl d2))] at eV
    refine B9 ?_;intro K hK
    refine Ah.eq (Ey s hs) (by simp) (by simp) ?_
    refine AO (an d1 d2) ?_
    refine zk ?_;clear hK K
    refine zt ?_
    refine z0 ?_;intro K hK
    refine zk ?_;clear hK K
    refine W.weak ((Wk.thaw (B:=2) (v:=0) (j:=2) (s:=8) (n:=0) (xs:=[]) rfl rfl).trans (Wk.thaw (B:=2) (v:=0) (j:=3) (s:=12) (n:=0) (xs:=[]) rfl rfl)) ?_
    refine zr ?_
    simp[D5,eV,AQ]
   by_cases d3:o.id≤parent
   .rw[if_pos (.inr (.inr d3))] at eV
    refine B9 ?_;intro K hK
    refine Ah.eq (Ey s hs) (by simp) (by simp) ?_
    refine AO (an d1 (an d2 d3)) ?_
    refine zk ?_;clear hK K
    refine zt ?_
    refine z0 ?_;intro K hK
    refine zk ?_;clear hK K
    refine W.weak ((Wk.thaw (B:=2) (v:=0) (j:=2) (s:=8) (n:=0) (xs:=[]) rfl rfl).trans (Wk.thaw (B:=2) (v:=0) (j:=3) (s:=12) (n:=0) (xs:=[]) rfl rfl)) ?_
    refine zr ?_
    simp[D5,eV,AQ]
   rw[if_neg (by omega)] at eV
   refine B9 ?_;intro K hK
   refine Ah.eq (Ey s hs) (by simp) (by simp) ?_
   refine AO (an d1 (an d2 d3)) ?_
   refine zk ?_;clear hK K
   refine zn ?_
   refine W.skip ?_
   refine zs ?_
   refine z1 ?_;intro K hK
   refine⟨by omega,by omega,?_⟩
   refine zk ?_;clear hK K
   exact⟨(1,s.vers++[Fm o.id parent],s.vers.length),⟨eV,by simp,by simp;omega,fun v hv=>by
    rcases List.mem_append.1 hv with h|h
    .exact hs.2.2 v h
    .simp at h;subst h;exact Nat.zero_lt_succ _⟩,Wk.cutM (k:=6) (by simp[Ad]) (by simp[Cr,Az,Ay,Fm]) (by simp) (by simp) (by simp) (by simp)⟩
  .obtain⟨h,hqn⟩:=hqi.resolve_left c1
   have eV:EE s o parent=some (s.vers,q.toNat):=by unfold EE;rw[←hq,if_neg c1]
   rw[decide_eq_false c1]
   refine zn ?_
   refine W.skip ?_
   exact⟨(0,s.vers,q.toNat),⟨eV,h,h1,hs.2.2⟩,Wk.fr (by simp[Ad];omega)⟩
 rintro⟨u,l,i⟩ ⟨eV,hil,hl,hld⟩
 simp only at eV hil hl hld ⊢
 refine Af hil ?_;intro K hK
 refine zk ?_;clear hK K
 have b1:i*8+2<(Ac Ay l).length:=by simp;omega
 have b2:i*8+3<(Ac Ay l).length:=by simp;omega
 (repeat refine W.seq ?_);refine W.regdX 0 [(57,60),(57,56)] rfl true Ck (by kernel_rfl) fun K hK=>?_;simp -implicitDefEqProofs (maxSteps:=999999) (disch:=omega) [hil]
 refine⟨by omega,by omega,?_⟩
 (repeat refine⟨by first|assumption|omega,?_⟩);refine hK _ _ (by simp(disch:=omega)) ?_;clear hK K
 rw[Qa o l i hil,←Kg hil]
 obtain⟨l1,hl1⟩:∃l1,l1=De l i o:=⟨_,rfl⟩
 have len1:l1.length=l.length:=by rw[hl1,Oq]
 have hl1d:∀v∈l1,v.data.data.size<1000000000:=by rw[hl1];exact Ot hld ho
 obtain⟨y,hy⟩:∃y:Au,y={s with vers:=l1}:=⟨_,rfl⟩
 have eL:D5 s o parent=if C2 o.data∧Eh y then(if (DI (Ax s) s.blocks (CY o.data)).2=0 then({s with vers:=I7 l1 i (DI (Ax s) s.blocks (CY o.data)).1},0) else(AQ,5)) else(AQ,1):=by
  unfold D5;rw[eV,hy,hl1]
 rw[←hl1]
 have spB:=Tw o.data ho
 by_cases d4:C2 o.data
 rotate_left
 .rw[if_neg (fun h=>d4 h.1)] at eL
  rw[decide_eq_false d4] at spB
  refine z0 ?_;intro K hK
  refine Ab.eq spB (by simp) (by simp) ?_
  refine zx ?_
  refine zk ?_;clear hK K
  refine zt ?_
  refine z0 ?_;intro K hK
  refine zk ?_;clear hK K
  refine W.weak ((Wk.thaw (B:=2) (v:=0) (j:=2) (s:=8) (n:=0) (xs:=[]) rfl rfl).trans (Wk.thaw (B:=2) (v:=0) (j:=3) (s:=12) (n:=0) (xs:=[]) rfl rfl)) ?_
  refine zr ?_
  simp[eL,AQ]
 rw[decide_eq_true d4] at spB
 have yv:y.vers=l1:=by rw[hy]
 have ys:y.sess=s.sess:=by rw[hy]
 have yk:y.keep=s.keep:=by rw[hy]
 have yb:y.blocks=s.blocks:=by rw[hy]
 have spM:=Oe hR y ⟨by rw[yv,len1];exact hl,by rw[ys];exact h2,by rw[yv];exact hl1d⟩ (by intro x hx';rw[ys] at hx';exact hx x hx')
 have tk1:List.take l.length l1=l1:=List.take_of_length_le (by omega)
 by_cases d5:Eh y
 rotate_left
 .rw[if_neg (fun h=>d5 h.2)] at eL
  rw[decide_eq_false d5] at spM
  refine z0 ?_;intro K hK
  refine Ab.eq spB (by simp) (by simp) ?_
  refine zx ?_
  refine Ab.eq spM (by simp[yv,ys,yk,yb,len1,tk1]) (by simp) ?_
  refine zx ?_
  refine zk ?_;clear hK K
  refine zt ?_
  refine z0 ?_;intro K hK
  refine zk ?_;clear hK K
  refine W.weak ((Wk.thaw (B:=2) (v:=0) (j:=2) (s:=8) (n:=0) (xs:=[]) rfl rfl).trans (Wk.thaw (B:=2) (v:=0) (j:=3) (s:=12) (n:=0) (xs:=[]) rfl rfl)) ?_
  refine zr ?_
  simp[eL,AQ]
 rw[if_pos ⟨d4,d5⟩] at eL
 rw[decide_eq_true d5] at spM
 refine z0 ?_;intro K hK
 refine Ab.eq spB (by simp) (by simp) ?_
 refine zx ?_
 refine Ab.eq spM (by simp[yv,ys,yk,yb,len1,tk1]) (by simp) ?_
 refine zx ?_
 refine zk ?_;clear hK K
 refine zn ?_
 refine W.skip ?_
 have hpl:(Ax s).length<1000000000:=by simp[Ax];omega
 obtain⟨f,hf⟩:∃f,f=DI (Ax s) s.blocks (CY o.data):=⟨_,rfl⟩
 have spF:=Yi (Ax s) s.blocks (CY o.data) hpl
 rw[←hf] at spF eL
 refine B9 ?_;intro K hK
 refine Ah.eq (Pr s hs) (by simp) (by simp) ?_
 refine zx ?_
 refine Ah.eq (Pp o.data ho) (by simp) (by simp) ?_
 refine zx ?_
 refine Ah.eq spF (by simp) (by simp) ?_
 refine zx ?_
 refine zk ?_;clear hK K
 by_cases d6:f.2=0
 rotate_left
 .rw[if_neg d6] at eL
  refine Af d6 ?_;intro K hK
  refine zk ?_;clear hK K
  refine zt ?_
  refine z0 ?_;intro K hK
  refine zk ?_;clear hK K
  refine W.weak ((Wk.thaw (B:=2) (v:=0) (j:=2) (s:=8) (n:=0) (xs:=[]) rfl rfl).trans (Wk.thaw (B:=2) (v:=0) (j:=3) (s:=12) (n:=0) (xs:=[]) rfl rfl)) ?_
  refine zr ?_
  simp[eL,AQ]
 rw[if_pos d6] at eL
 have hil1:i<l1.length:=by omega
 refine Af d6 ?_;intro K hK
 refine zk ?_;clear hK K
 refine zn ?_
 refine W.skip ?_
 refine Af hil1 ?_;intro K hK
 refine⟨by omega,?_⟩
 refine zk ?_;clear hK K
 rw[Sm f.1 l1 i hil1,←Sn hil1]
 refine z0 ?_;intro K hK
 refine zk ?_;clear hK K
 refine zr ?_
 have tk2:List.take l.length (I7 l1 i f.1)=I7 l1 i f.1:=List.take_of_length_le (by rw[Mm];omega)
 simp[eL,Mm,len1,tk2]
def Ou (s:Au) (o:Obj) (parent:Int):Au×Int:=if Bk s then D5 s o parent else(AQ,1)
end Go.Abs
namespace Go.Abs
def Kh:List Bj→Int→List Bj
 | [],_=> []
 |v::t,a=>{v with at_:=a}::Kh t (a+CY v.data)
def Zn:List Bj→Int
 | []=>0
 |v::t=>CY v.data+Zn t
@[simp] theorem So:∀(l:List Bj) (a:Int),(Kh l a).length=l.length
  | [],a=>rfl
  |v::t,a=>by simp[Kh,So t]
def jk (l:List Bj) (a:Int):List (Int×Int):=(Kh l a).map fun v=>(v.at_,CY v.data)
end Go.Abs
namespace Go.Abs
theorem Jy {l m:List Obj} (P:Int→Prop) (h:∀id,P id→id≠0→A7 l id=A7 m id) (hb:∀id o,P id→id≠0→A7 l id=some o→P o.base):∀(k:Nat) (id:Int),P id→AL l k id=AL m k id
 |0,_,_=>rfl
 |k+1,id,hp=>by
  simp only[AL]
  by_cases h0:id=0
  .simp[h0]
  .rw[if_neg h0,if_neg h0,←h id hp h0]
   cases e:A7 l id with
   |none=>rfl
   |some o=>simp only;rw[Jy P h hb k o.base (hb id o hp h0 e)]
theorem Sp {l m:List Obj} (P:Int→Prop) (h:∀id,P id→id≠0→A7 l id=A7 m id) (hb:∀id o,P id→id≠0→A7 l id=some o→P o.base) {id:Int} (hp:P id) (h0:id≠0):AR l id=AR m id:=by
 unfold AR AT
 rw[Jy P h hb 4 id hp,Jy P h hb 3 id hp,h id hp h0]
def CA (l:List Obj) (id:Int):Prop:=∃q∈l,q.id=id
theorem EP {l:List Obj} {id:Int} {o:Obj} (h:A7 l id=some o):o∈l∧o.id=id:=⟨List.mem_of_find?_eq_some h,by simpa using List.find?_some h⟩
theorem C0 {l:List Obj} {id:Int}:CA l id↔∃o,A7 l id=some o:=by
 constructor
 .rintro⟨q,hq,e⟩
  cases h:A7 l id with
  |none=>have:=List.find?_eq_none.1 h q hq;simp[e] at this
  |some o=>exact⟨o,rfl⟩
 .rintro⟨o,h⟩
  exact⟨o,EP h⟩
def V4 (l:List Obj):Prop:=∀o∈l,o.base=0∨CA l o.base
theorem Cj.closed {l:List Obj} (h:Cj l):V4 l:=fun o ho=>(h.2.1 o ho).2.2.2.2
theorem T5 {s y:Au} {x:CT} (hi:∀id,id∈s.vers.map (fun v=>v.id)→id∈y.vers.map fun v=>v.id) (hl:A9 s.vers≤A9 y.vers)
 (hg:∀id,id≠0→id∈s.vers.map (fun v=>v.id)→AR (Aj y) id=AR (Aj s) id) (h:AD s (Aj s) x):AD y (Aj y) x:=by
 unfold AD at h ⊢
 split at h
 .rw[if_pos (by assumption)];exact h
 .rename_i ho
  rw[if_neg ho]
  obtain⟨h1,h2,h3⟩:=h
  rw[H5] at h1
  rw[H5]
  refine⟨h1.imp id (hi _),?_,?_⟩
  .split at h2
   .rw[if_pos (by assumption)];exact⟨h2.1,by omega,h2.2.2⟩
   .rw[if_neg (by assumption)];exact h2
  .rcases h3 with h3| ⟨h3,h4,h5⟩
   .exact .inl h3
   .rw[hg _ h3 (h1.resolve_left h3)];exact .inr ⟨h3,h4,h5⟩
theorem G7 (s:Au):(Aj s).map (fun o=>o.id)=s.vers.map fun v=>v.id:=by simp[Aj,B8]
theorem Gc (s:Au) (id:Int):CA (Aj s) id↔id∈s.vers.map fun v=>v.id:=by
 rw[←G7];simp[CA]
theorem QQ (l:List Bj) (v:Bj):A9 (l++[v])=v.id:=by simp[A9]
theorem Sq {s y:Au} (h:Eh s) (hv:y.vers.map B8=s.vers.map B8) (hm:∀v∈y.vers,∃u∈s.vers,u.id=v.id∧u.parent=v.parent∧u.tag=v.tag∧u.gone=v.gone) (hl:Dg y.vers=false) (hs:y.sess=s.sess) (hk:y.keep=s.keep) (hb:1≤y.blocks∧y.blocks≤100):Eh y:=by
 obtain⟨⟨a1,a2,a3,a4,a5,a6,a7⟩,b,c,d⟩:=h
 have ey:Aj y=Aj s:=hv
 have ei:y.vers.map (fun v=>v.id)=s.vers.map fun v=>v.id:=by rw[←G7,ey,G7]
 refine⟨⟨by omega,by omega,hb.1,hb.2,?_,hl,by rw[ey];exact a7⟩,by rw[hs];exact b,by rw[ey];exact c,?_⟩
 .intro v hv
  obtain⟨u,hu,e1,e2,e3,e4⟩:=hm v hv
  obtain⟨k1,k2,k3⟩:=a5 u hu
  exact⟨by omega,by omega,by rw[←e3,←e4];exact k3⟩
 .rw[hs]
  intro x hx
  exact T5 (fun id h=>by rw[ei];exact h) (by rw[Lr _ _ ei];exact Int.le_refl _) (fun id _ _=>by rw[ey]) (d x hx)
def fI (s:Au) (n:Int):Au:={s with blocks:=n,vers:=Kh s.vers 0}
def jl (s:Au) (v:Bj):Obj:=⟨A9 s.vers+1,v.base,v.data⟩
def jm (l:List Bj) (k:Nat):List Bj:=Kh (l.take k) 0++l.drop k
end Go.Abs
namespace Go.Abs
def E1 (c:List Bool):Nat:=Bz c*2^(8-c.length)
def Fj (m:Nat) (l:List Bool):List Nat:=(List.range m).map fun k=>E1 ((l.drop (8*k)).take 8)
def pk (l:List Bool):List Nat:=Fj ((l.length+7)/8) l
def FJ (n:Nat):AV:= .int .u8 (n:Int)
def Bu (ns:List Nat):List AV:=ns.map FJ
def D6 (l:List Bool):Da:=⟨DP (Bu (pk l)),l.length⟩
@[simp] theorem V5 (m:Nat) (l:List Bool):(Fj m l).length=m:=by simp[Fj]
@[simp] theorem dj (ns:List Nat):(Bu ns).length=ns.length:=by simp[Bu]
theorem Qb (ns:List Nat) (i n:Nat):(Bu ns).set i (.int .u8 (n:Int))=Bu (ns.set i n):=by simp[Bu,FJ]
theorem T6 {c:List Bool} (h:c.length≤8):E1 c<256:=by
 have h1:=Gl c
 have h2:2^c.length*2^(8-c.length)=256:=by rw[←Nat.pow_add,show c.length+(8-c.length)=8 by omega]
 unfold E1
 have h3:0<2^(8-c.length):=Nat.pow_pos (by omega)
 exact Nat.lt_of_lt_of_eq (Nat.mul_lt_mul_of_pos_right h1 h3) h2
theorem QR (c:List Bool) (b:Bool) (h:c.length<8):E1 (c++[b])=E1 c+b.toNat*2^(7-c.length):=by
 have e:8-c.length=(7-c.length)+1:=by omega
 unfold E1
 rw[Nt,List.length_append,List.length_singleton,e,show 8-(c.length+1)=7-c.length by omega,Nat.pow_succ,Nat.add_mul]
 congr 1
 rw[Nat.mul_comm 2,Nat.mul_assoc,Nat.mul_comm 2]
theorem Sr {m:Nat} {l:List Bool} {k:Nat} (h:k<m):(Fj m l)[k]'(by simpa using h)<256:=by
 simp only[Fj,List.getElem_map,List.getElem_range]
 exact T6 (by simp;omega)
theorem QS (l:List Bool) (b:Bool) (k:Nat):((l++[b]).drop (8*k)).take 8=if l.length/8=k then(l.drop (8*k)).take 8++[b] else(l.drop (8*k)).take 8:=by
 split
 .rename_i e
  rw[List.drop_append_of_le_length (by omega),List.take_append,List.length_drop]
  have:(8-(l.length-8*k))=(7-(l.length-8*k))+1:=by omega
  rw[this];simp
 .rename_i e
  by_cases h:l.length<8*k
  .rw[List.drop_eq_nil_of_le (by simp;omega),List.drop_eq_nil_of_le (by omega)]
  .rw[List.drop_append_of_le_length (by omega),List.take_append_of_le_length (by simp;omega)]
theorem T7 (m:Nat) (l:List Bool) (b:Bool) (h:l.length/8<m):Fj m (l++[b])=(Fj m l).set (l.length/8) ((Fj m l)[l.length/8]'(by simpa using h)+b.toNat*2^(7-l.length%8)):=by
 refine List.ext_getElem (by simp) fun j h1 h2=>?_
 rw[List.getElem_set]
 simp only[Fj,List.getElem_map,List.getElem_range,QS]
 split
 .rename_i e
  subst e
  have hl:((l.drop (8*(l.length/8))).take 8).length=l.length%8:=by simp;omega
  rw[QR _ _ (by omega),hl]
 .rfl
theorem V6 (m:Nat) (l:List Bool) (k:Nat) (h:k<m) (hk:l.length/8=k):2^(8-l.length%8)∣(Fj m l)[k]'(by simpa using h):=by
 subst hk
 simp only[Fj,List.getElem_map,List.getElem_range]
 have hl:((l.drop (8*(l.length/8))).take 8).length=l.length%8:=by simp;omega
 unfold E1
 rw[hl]
 exact Nat.dvd_mul_left _ _
theorem T8 {m:Nat} {l:List Bool} (h:l.length≤8*m):Fj (m+1) l=Fj m l++[0]:=by
 unfold Fj
 rw[List.range_succ,List.map_append]
 congr 1
 simp only[List.map_cons,List.map_nil,List.cons.injEq,and_true]
 rw[List.drop_eq_nil_of_le (by omega)]
 rfl
theorem Qc:∀y:Fin 256,IntKind.wrap .u8 ((y.val:Nat):Int)=((y.val:Nat):Int):=by decide+kernel
theorem fJ {a x r:Nat} (h:2^r∣a) (hx:x<2^r) (ha:a+x<256):IntKind.wrap .u8 ((BitVec.ofInt 8 (a:Int) |||BitVec.ofInt 8 (x:Int)).toNat:Int)=((a+x:Nat):Int):=by
 obtain⟨q,rfl⟩:=h
 have e:2^r*q|||x=2^r*q+x:=(Nat.two_pow_add_eq_or_of_lt hx q).symm
 have e1:(BitVec.ofInt 8 ((2^r*q:Nat):Int)).toNat=2^r*q:=by
  rw[BitVec.ofInt_natCast,BitVec.toNat_ofNat];exact Nat.mod_eq_of_lt (by omega)
 have e2:(BitVec.ofInt 8 (x:Int)).toNat=x:=by
  rw[BitVec.ofInt_natCast,BitVec.toNat_ofNat];exact Nat.mod_eq_of_lt (by omega)
 rw[BitVec.toNat_or,e1,e2,e]
 exact Qc ⟨_,ha⟩
def D7:List Int→Bool→List Bool
 | [],_=> []
 |n::l,f=>AA (if f=true then n+1 else n).toNat++D7 l false
def DE (v:Int) (ref l:List Int):List Bool:=AA ((blocks ref l).length+1)++D7 (blocks ref l) true++AZ v (Bf ref l)
def CI (f:Int→List Int→List Bool):Int→List (List Int)→List Bool
 |_,[]=> []
 |v,l::ls=>f v l++CI f (v+1) ls
def CX (g:Gr):List Bool:=AA (g.n.toNat+1)++CI AZ 0 g.out
def C8 (a g:Gr):List Bool:=AA (g.n.toNat+1)++CI (fun v l=>DE v (AF a v) l) 0 g.out
theorem Ls (f:Int→List Int→List Bool) (l:List Int):∀(ls:List (List Int)) (v:Int),CI f v (ls++[l])=CI f v ls++f (v+ls.length) l
 | [],v=>by simp[CI]
 |x::ls,v=>by
  simp only[List.cons_append,CI,Ls f l ls,List.append_assoc,List.length_cons]
  congr 3
  omega
theorem Lt (f:Int→List Int→List Bool) {ls:List (List Int)} {i:Nat} (h:i<ls.length):CI f 0 (ls.take (i+1))=CI f 0 (ls.take i)++f i ls[i]:=by
 rw[List.take_succ_eq_append_getElem h,Ls]
 simp[Nat.min_eq_left (Nat.le_of_lt h)]
theorem Lu:∀(l:List Int) (i:Nat) (f:Bool) (h:i<l.length),D7 (l.take (i+1)) f=D7 (l.take i) f++AA (if i=0∧f=true then l[i]+1 else l[i]).toNat
 | [],i,f,h=>by simp at h
 |x::t,0,f,h=>by simp[D7]
 |x::t,i+1,f,h=>by
  have ih:=Lu t i false (by simpa using h)
  simp only[List.take_succ_cons,D7,List.getElem_cons_succ] at ih ⊢
  rw[ih,List.append_assoc]
  simp
def Vn:Obj:=⟨0,0,⟨ByteArray.empty,0⟩⟩
def Lv (l:List Obj):Int:=match l.getLast? with|some o=>o.id+1|none=>1
def G8 (l:List Obj) (base:Int) (g:Gr):Da:=D6 (if base=0 then CX g else C8 (AR l base).1 g)
def gJ (l:List Obj) (parent:Int) (g:Gr):Obj×Int:=
 if 12≤l.length∨1048576<Lv l then(Vn,2) else
 if parent=0 then(⟨Lv l,0,G8 l 0 g⟩,0) else
 if (AR l parent).2≠0 then(Vn,(AR l parent).2) else
 if (AT l parent).1<3∧(C8 (AR l parent).1 g).length<(CX g).length then(⟨Lv l,parent,G8 l parent g⟩,0) else(⟨Lv l,0,G8 l 0 g⟩,0)
end Go.Abs
namespace Go.Abs
theorem Jz {n:Nat} (h:n<32):(AA n).length≤9:=by
 have:=DW n
 by_cases h0:n=0
 .subst h0;simp[AA,A0]
 .have:=(Nat.log2_lt (n:=n) (k:=5) h0).2 (by omega)
  omega
theorem Yn {n:Nat} (h:n<64):(AA n).length≤11:=by
 have:=DW n
 by_cases h0:n=0
 .subst h0;simp[AA,A0]
 .have:=(Nat.log2_lt (n:=n) (k:=6) h0).2 (by omega)
  omega
theorem MR {v:Int} (hv:0≤v∧v≤16):∀(l:List Int) (f:Bool) (e:Int),(∀x∈l,0≤x∧x<16)→(f=false→0≤e)→(Ch v l f e).length≤9*l.length+(if f=true then 2 else 0)
 | [],f,e,_,_=>by simp[Ch]
 |x::l,f,e,h,he=>by
  have hx:=h x (by simp)
  have ih:=MR hv l false x (fun y hy=>h y (by simp[hy])) (fun _=>hx.1)
  rw[Ch,List.length_append]
  cases f
  .have:=Jz (n:=(x-e).toNat) (by have:=he rfl;omega)
   simp at ih ⊢;omega
  .have:=Yn (n:=(BZ (x-v)+1).toNat) (by unfold BZ;split<;>omega)
   simp at ih ⊢;omega
theorem MT {v:Int} (hv:0≤v∧v≤16):∀(l:List (Int×Int)) (f:Bool) (e:Int),(∀x∈l,0≤x.1∧x.1<16∧0≤x.2∧x.2≤16)→(f=false→0≤e)→(B7 v l f e).length≤18*l.length+(if f=true then 2 else 0)
 | [],f,e,_,_=>by simp[B7]
 | (a,n)::l,f,e,h,he=>by
   have hx:=h (a,n) (by simp)
   simp only at hx
   have ih:=MT hv l false (a+n) (fun y hy=>h y (by simp[hy])) (fun _=>by omega)
   rw[B7,List.length_append,List.length_append]
   have h2:=Jz (n:=(n-3+1).toNat) (by omega)
   cases f
   .have:=Jz (n:=(a-e).toNat) (by have:=he rfl;omega)
    simp at ih ⊢;omega
   .have:=Yn (n:=(BZ (a-v)+1).toNat) (by unfold BZ;split<;>omega)
    simp at ih ⊢;omega
theorem MU:∀(n:Nat) (l:List Int),l.length≤n→3*(Am l).1.length+(Am l).2.length≤l.length
 |_,[],_=>by simp[Am]
 |0,x::l,h=>by simp at h
 |n+1,x::l,h=>by
  have h1:=Et x l
  have h2:=EW (x::l)
  have h3:((x::l).drop (AN (x::l))).length=(x::l).length-AN (x::l):=by simp
  have ih:=MU n ((x::l).drop (AN (x::l))) (by omega)
  rw[Am]
  split
  .simp only[List.length_cons] at*;omega
  .simp only[List.length_append,List.length_take] at*;omega
theorem G9 {v:Int} {l:List Int} (hv:0≤v∧v≤16) (hl:AH l):(AZ v l).length≤166:=by
 have hll:=Bq hl
 obtain⟨p1,p2,p3,p4⟩:=Ei l.length l true 0 (Nat.le_refl _) hl.2 (.inl rfl)
 have pin:=G5 l.length l (Nat.le_refl _)
 have ps:=MU l.length l (Nat.le_refl _)
 have hpos:=Kd (Am l).1 true 0 p1
 have a1:=Jz (n:=(Am l).1.length+1) (by omega)
 have a2:=MT hv (Am l).1 true 0 (fun q hq=>by
  have h1:=pin q hq
  have h2:=hl.1 _ h1.1
  obtain⟨i,hi,rfl⟩:=List.mem_iff_getElem.1 hq
  have h3:=(hpos i hi).1
  omega) (by simp)
 have a3:=Jz (n:=(Am l).2.length+1) (by omega)
 have a4:=MR hv (Am l).2 true 0 (fun x hx=>hl.1 x (p4 x hx)) (by simp)
 unfold AZ CG
 simp only[List.length_append]
 simp at a2 a4
 omega
theorem H6 (l:List Int):∀(ref:List Int) (b:Bool) (n:Nat) (h:0<(AU l ref b n).length),n≤(AU l ref b n)[0]
 | [],b,n,h=>by simp[AU] at h
 |x::ref,b,n,h=>by
  simp only[AU] at h ⊢
  split at h
  .rename_i e
   simp only[if_pos e]
   have:=H6 l ref b (n+1) h
   omega
  .rename_i e
   simp only[if_neg e,List.getElem_cons_zero]
   exact Nat.le_refl _
theorem HU (l:List Int):∀(ref:List Int) (b:Bool) (n j:Nat) (h:j<(AU l ref b n).length),(AU l ref b n)[j]≤n+ref.length∧(0<j→1≤(AU l ref b n)[j])
 | [],b,n,j,h=>by simp[AU] at h
 |x::ref,b,n,j,h=>by
  simp only[AU] at h ⊢
  split at h
  .rename_i e
   have ih:=HU l ref b (n+1) j h
   simp only[if_pos e]
   refine⟨by have:=ih.1;simp only[List.length_cons];omega,ih.2⟩
  .rename_i e
   simp only[if_neg e]
   cases j with
   |zero=>exact⟨by simp only[List.getElem_cons_zero,List.length_cons];omega,fun h=>by omega⟩
   |succ j=>
    have ih:=HU l ref (!b) 1 j (by simpa using h)
    simp only[List.getElem_cons_succ,List.length_cons]
    refine⟨by have:=ih.1;omega,fun _=>?_⟩
    cases j with
    |zero=>exact H6 l ref (!b) 1 (by simpa using h)
    |succ j=>exact ih.2 (by omega)
theorem IB (ref l:List Int):(blocks ref l).length≤ref.length:=by
 simp only[blocks,List.length_map];exact Gs l ref true 0
theorem JA (ref l:List Int) (j:Nat) (h:j<(blocks ref l).length):0≤(blocks ref l)[j]∧(blocks ref l)[j]≤ref.length∧(0<j→1≤(blocks ref l)[j]):=by
 have h' :j<(AU l ref true 0).length:=by simpa[blocks] using h
 have:=HU l ref true 0 j h'
 simp only[blocks,List.getElem_map]
 refine⟨by omega,by omega,fun hj=>by have:=this.2 hj;omega⟩
theorem MV:∀(l:List Int) (f:Bool),(∀x∈l,x≤30)→(D7 l f).length≤9*l.length
 | [],f,_=>by simp[D7]
 |n::l,f,h=>by
  have ih:=MV l false fun x hx=>h x (by simp[hx])
  have h1:=h n (by simp)
  have:=Jz (n:=(if f=true then n+1 else n).toNat) (by split<;>omega)
  rw[D7,List.length_append,List.length_cons];omega
theorem IC {ref l:List Int} (h:AH l):AH (Bf ref l):=⟨fun x hx=>h.1 x (List.mem_filter.1 hx).1,h.2.filter _⟩
theorem Lw {v:Int} {ref l:List Int} (hv:0≤v∧v≤16) (hr:ref.length≤16) (hl:AH l):(DE v ref l).length≤330:=by
 have a1:=IB ref l
 have a2:=Jz (n:=(blocks ref l).length+1) (by omega)
 have a3:=MV (blocks ref l) true (fun x hx=>by
  obtain⟨i,hi,rfl⟩:=List.mem_iff_getElem.1 hx
  have:=JA ref l i hi
  omega)
 have a4:=G9 hv (IC (ref:=ref) hl)
 unfold DE
 simp only[List.length_append]
 omega
theorem JB {f:Int→List Int→List Bool} {c:Nat}:∀(ls:List (List Int)) (v:Int),(∀(i:Nat) (h:i<ls.length),(f (v+i) ls[i]).length≤c)→(CI f v ls).length≤c*ls.length
 | [],v,_=>by simp[CI]
 |l::ls,v,h=>by
  have ih:=JB (c:=c) ls (v+1) fun i hi=>by
   have:=h (i+1) (by simpa using hi)
   simp only[List.getElem_cons_succ] at this
   rw[show v+1+(i:Int)=v+((i+1:Nat):Int) by omega];exact this
  have h0:=h 0 (by simp)
  simp at h0
  rw[CI,List.length_append,List.length_cons,Nat.mul_add];omega
theorem I8 {g:Gr} (hg:A1 g):(CX g).length≤6000:=by
 have h1:=Jz (n:=g.n.toNat+1) (by have:=hg.2.1;omega)
 have h2:=JB (f:=AZ) (c:=166) g.out 0 (fun i hi=>G9 ⟨by omega,by have:=hg.2.1;have:=hg.2.2.1;omega⟩ (hg.2.2.2.1 _ (List.getElem_mem hi)).1)
 have h3:=hg.2.1
 have h4:=hg.2.2.1
 unfold CX
 rw[List.length_append]
 have:166*g.out.length≤166*16:=Nat.mul_le_mul_left _ (by omega)
 omega
theorem I9 {a g:Gr} (ha:A1 a) (hg:A1 g):(C8 a g).length≤6000:=by
 have h1:=Jz (n:=g.n.toNat+1) (by have:=hg.2.1;omega)
 have h2:=JB (f:=fun v l=>DE v (AF a v) l) (c:=330) g.out 0 (fun i hi=>Lw ⟨by omega,by have:=hg.2.1;have:=hg.2.2.1;omega⟩ (Cn ha _) (hg.2.2.2.1 _ (List.getElem_mem hi)).1)
 have h3:=hg.2.1
 have h4:=hg.2.2.1
 unfold C8
 rw[List.length_append]
 have:330*g.out.length≤330*16:=Nat.mul_le_mul_left _ (by omega)
 omega
end Go.Abs
set_option maxRecDepth 100000
namespace Go.Abs
open Go.Proofs
theorem Yo (b k:Int):Aa pg 43 [.int .i64 b,.int .i64 k] [] (fun r _=>r= .agg (An true (CZ b k))):=by
 refine Aa.start (fn:=Tryz.f43) [.cell 4 38] tk rfl rfl rfl (by kernel_rfl) (Nat.le_of_ble_eq_true rfl) rfl (by kernel_rfl) ?_
 rw[Ar]
 refine z1 ?_;intro K hK;refine zk ?_;clear hK K
 refine z1 ?_;intro K hK
 refine⟨by show(3:Int)≤9223372036854775807;decide,?_⟩
 have e:CB 3 [AV.bool false,AV.int .i64 0,AV.bool false,AV.int .i64 0,AV.int .i64 0,AV.own 1 0 [],AV.int .i64 0,AV.int .i64 0,AV.int .i64 0,AV.bool false,AV.own 1 0 [],AV.own 1 0 []]=Ac (AB true) [EI,EI,EI]:=rfl
 rw[e]
 refine zk ?_;clear hK K
 refine W.weak (Wk.thaw (B:=0) (v:=0) (j:=2) (s:=8) (n:=0) (xs:=[]) (by rfl) (by rfl)) ?_
 refine zr ?_
 exact(rfl:AV.agg (An true (CZ b k))=_)
end Go.Abs
set_option maxRecDepth 100000
namespace Go.Abs
open Go.Proofs
end Go.Abs
set_option maxRecDepth 100000
namespace Go.Abs
open Go.Proofs
section
variable (xs ys:List Nat) (M:List Ag) (k:Nat)
@[simp] theorem dk (i:Nat):(Bu xs)[i]?=(xs[i]?).map FJ:=by simp[Bu,FJ]
@[simp] theorem dl:Bu []=[]:=rfl
@[simp] theorem bt:(Bu xs).take k=Bu (xs.take k):=by simp[Bu,FJ,List.map_take]
@[simp] theorem bu:(Bu xs).drop k=Bu (xs.drop k):=by simp[Bu,FJ,List.map_drop]
@[simp] theorem fK:EG (Bu xs)=true:=by simp[Bu,FJ,EG,-Ie]
@[simp] theorem fL:EH (Bu xs)=true:=by simp[Bu,FJ,EH,-JT]
@[simp] theorem fM:DJ (Bu xs)=true:=by simp[Bu,FJ,DJ,-If]
@[simp] theorem fN:C1 k (Bu xs)=true:=by induction xs<;>simp_all[Bu,FJ]
@[simp] theorem dm:CP (Bu xs)=true:=by induction xs<;>simp_all[Bu,FJ]
@[simp] theorem dp:EF (Bu xs)=Bu xs:=by induction xs<;>simp_all[Bu,FJ]
@[simp] theorem dq:(Bu xs).map Ec=Bu xs:=by simp[Bu,FJ]
@[simp] theorem dr:(Bu xs).map (Cp M k)=Bu xs:=by cases k<;>simp[Bu,FJ]
@[simp] theorem fO:(Bu xs).all PX=true:=by simp[Bu,FJ,PX]
end
theorem Qd {a x r:Nat} (h:2^r∣a) (hx:x<2^r) (ha:a+x<256):Cx .or (.int .u8 (a:Int)) (.int .u8 (x:Int))=some (.int .u8 ((a+x:Nat):Int)):=
 (S4 _ _ _).trans (congrArg (fun z:Int=>some (AV.int .u8 z)) (fJ h hx ha))
end Go.Abs
set_option maxRecDepth 100000
namespace Go.Abs
open Go.Proofs
def B5 (l:List Bool):List AV:=[.own 1 (pk l).length (Bu (pk l)),.int .i64 l.length]
@[simp] theorem bx (l:List Bool):(B5 l).length=2:=rfl
@[simp] theorem dt (l:List Bool):DJ (B5 l)=true:=by simp[B5]
@[simp] theorem du (k:Nat) (l:List Bool):C1 k (B5 l)=true:=by simp[B5]
@[simp] theorem bz (l:List Bool):CP (B5 l)=true:=by simp[B5]
theorem Lx (l:List Bool):(pk l).length=(l.length+7)/8:=by simp[pk]
set_option maxHeartbeats 2000000 in
theorem Ov (l:List Bool) (v w:Nat) (hl:l.length<100000000) (hw:w≤60) (hv:v<1099511627776):Aa pg 231 [.ptr 0 0 0,.int .i64 v,.int .i64 w] [.live 0 (B5 l)] (fun r M=>r= .tup []∧M=[.live 0 (B5 (l++A0 v w))]):=by
 refine Aa.start (fn:=Tryz.f231) [] tk rfl rfl rfl (by kernel_rfl) (Nat.le_of_ble_eq_true rfl) rfl (by kernel_rfl) ?_
 rw[Bi]
 refine zs ?_
 rw[show B5 l=B5 (l++(A0 v w).take 0) by simp]
 (repeat refine W.seq ?_);refine W.block (W.loopS (fun k:Nat=> [(0,.ptr 0 0 0),(1,.int .i64 v),(6,.int .i64 ((w:Int)-1-k))]) (fun k=> [.live 0 (B5 (l++(A0 v w).take k))]) (fun k=>w-k) (fun k=>k≤w) 0 (Wk.fr (by simp[Ad])) (by simp) ?_)
 intro k hk
 by_cases hlt:k<w
 rotate_left
 .have hk' :k=w:=by omega
  subst hk'
  have e:((k:Int)-1-k)=-1:=by omega
  have e2:(A0 v k).take k=A0 v k:=List.take_of_length_le (by simp)
  rw[e,e2]
  refine zs ?_
  refine zn ?_
  refine W.exit ?_
  (try simp only[Cd,Ce,C4,C6,if_true]);refine Fc (d:=0) ?_;simp -implicitDefEqProofs (maxSteps:=999999) (disch:=omega)
 obtain⟨i,hi⟩:∃i:Nat,(w:Int)-1-k=i:=⟨w-1-k,by omega⟩
 have hmin:min i 64=i:=by omega
 obtain⟨x,hx⟩:∃x,x=l++(A0 v w).take k:=⟨_,rfl⟩
 obtain⟨n,hn⟩:∃n,n=x.length:=⟨_,rfl⟩
 have hnl:n≤l.length+60:=by rw[hn,hx];simp;omega
 obtain⟨q,hq⟩:∃q,q=n/8:=⟨_,rfl⟩
 obtain⟨r,hr⟩:∃r,r=n%8:=⟨_,rfl⟩
 obtain⟨s,hs⟩:∃s,s=7-r:=⟨_,rfl⟩
 have e1:(n:Int)/8=(q:Int):=by omega
 have e2:(n:Int)%8=(r:Int):=by omega
 have e3:(7:Int)-(r:Int)=(s:Int):=by omega
 obtain⟨Q,hQd⟩:∃Q,Q=v/2^i:=⟨_,rfl⟩
 have hQ:(v:Int)/2^i=(Q:Int):=by rw[hQd,Int.natCast_ediv,Int.natCast_pow];rfl
 have hQv:Q≤v:=by rw[hQd];exact Nat.div_le_self _ _
 have hand:=IV (Q:Int) (by omega) (by omega)
 obtain⟨b,hb⟩:∃b,b=decide (Q%2=1):=⟨_,rfl⟩
 have hto:l++(A0 v w).take (k+1)=x++[b]:=by
  rw[hx,List.append_assoc,List.take_add_one,List.getElem?_eq_getElem (by simpa using hlt)]
  have:(A0 v w)[k]'(by simpa using hlt)=b:=by
   simp only[A0,List.getElem_map,List.getElem_range]
   rw[hb,hQd,show w-1-k=i by omega]
  rw[this];rfl
 rw[hi,←hx]
 have hcr:B5 x=[.own 1 (pk x).length (Bu (pk x)),.int .i64 n]:=by rw[hn];rfl
 rw[hcr]
 refine zs ?_
 refine zt ?_
 refine W.skip ?_
 refine zb ?_
 have hpl:=Lx x
 refine W.weak (Wk.thaw (B:=0) (v:=0) (j:=0) (s:=1) (n:=(pk x).length) (xs:=Bu (pk x)) (by rfl) (by rfl)) ?_
 (repeat refine W.seq ?_);refine W.midS (fun b:Bool=> [(0,.ptr 0 0 0),(1,.int .i64 v),(6,.int .i64 i),(18,.bool b)]) (fun _=> [.live 0 [.tok 1 0 1 0 (pk x).length,.int .i64 n],.live 0 (Bu (pk x))]) (fun b=>b=true↔r=0) ?_ ?_
 .refine Af e2 ?_;intro K hK
  refine zk ?_;clear hK K
  exact⟨decide (r=0),by simp,Wk.fr (by simp[Ad])⟩
 rintro b0 hb0
 (repeat refine W.seq ?_);refine W.midS (fun u:Nat=> [(0,.ptr 0 0 0),(1,.int .i64 v),(6,.int .i64 i)]) (fun u=> [.live 0 [.tok 1 u 1 0 (q+1),.int .i64 n],.live u (Bu (Fj (q+1) x))]) (fun _=>True) ?_ ?_
 .cases b0
  .have c:¬r=0:=fun h=>by have:=hb0.2 h;simp at this
   have em:(pk x).length=q+1:=by omega
   have ep:pk x=Fj (q+1) x:=by rw[pk,show(x.length+7)/8=q+1 by omega]
   rw[em,ep]
   refine zn ?_
   refine W.skip ?_
   exact⟨0,trivial,Wk.fr (by simp[Ad])⟩
  .have c:r=0:=hb0.1 rfl
   have em:(pk x).length=q:=by omega
   have ep:Bu (pk x)++[AV.int .u8 0]=Bu (Fj (q+1) x):=by
    rw[T8 (by omega)]
    simp only[Bu,List.map_append,List.map_cons,List.map_nil]
    rw[pk,show(x.length+7)/8=q by omega];rfl
   refine zt ?_
   refine z1 ?_;intro K hK
   refine⟨by omega,by omega,?_⟩
   refine zk ?_;clear hK K
   rw[ep,em]
   exact⟨1,trivial,Wk.cutM (k:=2) (by simp[Ad]) (by simp) (by simp) (by simp) (by simp) (by simp)⟩
 rintro u _
 have hsn:=T7 (q+1) x b (by omega)
 have hdv:=V6 (q+1) x q (by omega) (by omega)
 obtain⟨P,hP⟩:∃P,P=Fj (q+1) x:=⟨_,rfl⟩
 have hPl:P.length=q+1:=by rw[hP,V5]
 have hqP:q<P.length:=by omega
 simp only[←hn,←hP,←hq,←hr] at hsn
 rw[←hn,←hr] at hdv
 simp only[←hP] at hdv
 rw[←hP]
 have hPlt:P[q]<256:=by subst hP;exact Sr (by omega)
 have hu:P[q]?=some P[q]:=List.getElem?_eq_getElem hqP
 have hpk:Fj (q+1) (x++[b])=pk (x++[b]):=by rw[pk];congr 1;simp;omega
 have hend:[AV.own 1 (q+1) (Bu (pk (x++[b]))),AV.int .i64 ((n:Int)+1)]=B5 (x++[b]):=by
  unfold B5
  rw[Lx];simp;omega
 have hpl2:(pk (x++[b])).length=q+1:=by rw[Lx];simp;omega
 have htk:List.take (q+1) (pk (x++[b]))=pk (x++[b]):=List.take_of_length_le (by omega)
 have hqq:q<q+1:=by omega
 by_cases hbq:Q%2=1
 .obtain⟨z,hz⟩:∃z:Nat,z=2^s:=⟨_,rfl⟩
  have hz1:(2:Int)^s=(z:Int):=by rw[hz];simp
  have hzl:z<2^(8-r):=by rw[hz];exact Nat.pow_lt_pow_right (by omega) (by omega)
  have hz8:z≤128:=by rw[hz];exact Nat.pow_le_pow_right (by omega) (show s≤7 by omega)
  have hsum:P[q]+z<256:=by
   have h1:P[q]≤256-2^(8-r):=by
    obtain⟨c,hc⟩:=hdv
    have hb2:2^(8-r)*2^r=256:=by rw[←Nat.pow_add,show 8-r+r=8 by omega]
    have hlt2:2^(8-r)*c<2^(8-r)*2^r:=by rw[←hc,hb2];exact hPlt
    have:=Nat.lt_of_mul_lt_mul_left hlt2
    have h3:2^(8-r)*(c+1)≤2^(8-r)*2^r:=Nat.mul_le_mul_left _ this
    rw[Nat.mul_add] at h3
    omega
   have:2^(8-r)≤256:=Nat.pow_le_pow_right (by omega) (show 8-r≤8 by omega)
   omega
  obtain⟨y,hy⟩:∃y,y=P[q]+z:=⟨_,rfl⟩
  have ew:IntKind.wrap .u8 (z:Int)=(z:Int):=Qc ⟨z,by omega⟩
  have hw8:IntKind.u8.wrap ((Q:Int)%2)=1:=by rw[show(Q:Int)%2=1 by omega];rfl
  have eo:Cx .or (.int .u8 (P[q]:Int)) (.int .u8 (z:Int))=some (.int .u8 (y:Int)):=by rw[hy];exact Qd hdv hzl hsum
  have hyn:P[q]+b.toNat*2^(7-r)=y:=by rw[hb,decide_eq_true hbq,hy,hz,hs];simp
  rw[hyn,hpk] at hsn
  (repeat refine W.seq ?_);refine W.regd 0 rfl true Ck (by kernel_rfl) fun K hK=>?_;simp -implicitDefEqProofs (maxSteps:=999999) (disch:=omega) [hmin,hQ,hand,hw8,e1,e2,e3,hqq,hqP,hPl,hu,FJ,hz1,ew,eo]
  refine⟨by omega,?_⟩
  refine zk ?_;clear hK K
  rw[Qb,←hsn]
  refine z0 ?_;intro K hK
  refine zk ?_;clear hK K
  refine W.weak (Wk.intern (B:=0) (v:=0) (j:=0) (T:=1) (u:=u) (s:=1) (off:=0) (n:=q+1) (xs:=Bu (pk (x++[b]))) (by rfl) (by simp[Ai]) (by simp[hpl2]) (by simp[hpl2]) (by simp[hpl2]) (by simp[hpl2])) ?_
  refine zs ?_
  exact⟨k+1,by omega,by omega,Wk.cutM (k:=1) (by simp[Ad];omega) (by simp[hto,←hend,htk]) (by simp) (by simp) (by simp) (by simp)⟩
 .have hw8:IntKind.u8.wrap ((Q:Int)%2)=0:=by rw[show(Q:Int)%2=0 by omega];rfl
  have ew:IntKind.wrap .u8 0=0:=by decide
  have eo:Cx .or (.int .u8 (P[q]:Int)) (.int .u8 0)=some (.int .u8 (P[q]:Int)):=Qd (x:=0) hdv (Nat.pow_pos (by omega)) (by omega)
  have hyn:P[q]+b.toNat*2^(7-r)=P[q]:=by rw[hb,decide_eq_false hbq];simp
  rw[hyn,hpk] at hsn
  (repeat refine W.seq ?_);refine W.regd 0 rfl true Ck (by kernel_rfl) fun K hK=>?_;simp -implicitDefEqProofs (maxSteps:=999999) (disch:=omega) [hmin,hQ,hand,hw8,e1,e2,e3,hqq,hqP,hPl,hu,FJ,ew,eo]
  refine⟨by omega,?_⟩
  refine zk ?_;clear hK K
  rw[Qb,←hsn]
  refine z0 ?_;intro K hK
  refine zk ?_;clear hK K
  refine W.weak (Wk.intern (B:=0) (v:=0) (j:=0) (T:=1) (u:=u) (s:=1) (off:=0) (n:=q+1) (xs:=Bu (pk (x++[b]))) (by rfl) (by simp[Ai]) (by simp[hpl2]) (by simp[hpl2]) (by simp[hpl2]) (by simp[hpl2])) ?_
  refine zs ?_
  exact⟨k+1,by omega,by omega,Wk.cutM (k:=1) (by simp[Ad];omega) (by simp[hto,←hend,htk]) (by simp) (by simp) (by simp) (by simp)⟩
end Go.Abs
set_option maxRecDepth 100000
namespace Go.Abs
open Go.Proofs
theorem T9 (f:Nat):Lib.bitLenAux f 0=0:=by cases f<;>simp[Lib.bitLenAux]
theorem Ly:∀(f x:Nat),x<2^f→x≠0→Lib.bitLenAux f x=Nat.log2 x+1
 |0,x,h,h0=>by simp at h;omega
 |f+1,x,h,h0=>by
  rw[Lib.bitLenAux,if_neg h0]
  by_cases h2:x/2=0
  .have:x=1:=by omega
   subst this
   rw[h2,T9];decide
  .rw[Ly f (x/2) (by rw[Nat.pow_succ] at h;omega) h2]
   obtain⟨a,b⟩:=HL (n:=x/2) (by omega)
   rw[J1 (n:=x) (q:=Nat.log2 (x/2)+1) (by rw[Nat.pow_succ];omega) (by rw[Nat.pow_succ];omega)]
   omega
theorem Yp (n:Nat) (h:1≤n) (h2:n<1099511627776):Aa pg 232 [.int .i64 n] [] (fun r _=>r= .int .i64 (Nat.log2 n)):=by
 have hlg:=(Nat.log2_lt (n:=n) (k:=40) (by omega)).2 (by omega)
 have hb:=NB n (by omega)
 rw[show Lib.bitLen n=Nat.log2 n+1 from Ly 64 n (Nat.lt_trans h2 (by decide)) (by omega)] at hb
 have w1:IntKind.u64.wrap (n:Int)=(n:Int):=by unfold IntKind.wrap;simp;omega
 refine Aa.start (fn:=Tryz.f232) [.tmp 2] tk rfl rfl rfl (by kernel_rfl) (Nat.le_of_ble_eq_true rfl) rfl (by kernel_rfl) ?_
 rw[Av]
 refine zs ?_
 refine Af w1 ?_;intro K hK
 refine Ab.eq hb (by simp) (by simp) ?_
 refine zx ?_
 refine zk ?_;clear hK K
 exact zR
theorem Ss (n:Int) (h:-1000000≤n∧n≤1000000):Aa pg 246 [.int .i64 n] [] (fun r _=>r= .int .i64 (BZ n)):=by
 refine Aa.start (fn:=Tryz.f246) [.tmp 2] tk rfl rfl rfl (by kernel_rfl) (Nat.le_of_ble_eq_true rfl) rfl (by kernel_rfl) ?_
 rw[Av]
 refine zs ?_
 refine zs ?_
 refine zc ?_ ?_<;>intro h
 .refine z0 ?_;intro K hK
  refine zk ?_;clear hK K
  refine zr ?_
  simp[BZ];omega
 .refine W.skip ?_
  refine z0 ?_;intro K hK
  refine zk ?_;clear hK K
  refine zr ?_
  simp[BZ];omega
theorem EQ (l:List Bool) (n:Nat) (hl:l.length<10000000) (h1:1≤n) (h2:n<1099511627776):Aa pg 212 [.ptr 0 0 0,.int .i64 2,.int .i64 n] [.live 0 (B5 l)] (fun r M=>r= .tup []∧M=[.live 0 (B5 (l++AA n))]):=by
 have hlg:=(Nat.log2_lt (n:=n) (k:=40) (by omega)).2 (by omega)
 have spL:=Yp n h1 h2
 obtain⟨g,hg⟩:∃g,g=Nat.log2 n:=⟨_,rfl⟩
 have e:l++AA n=(l++A0 0 g)++A0 n (g+1):=by rw[hg];simp[AA]
 rw[e]
 rw[←hg] at spL hlg
 obtain⟨g1,hg1⟩:∃g1,g1=g+1:=⟨_,rfl⟩
 have hgi:(g:Int)+1=(g1:Int):=by omega
 rw[←hg1]
 refine Aa.start (fn:=Tryz.f212) [] tk rfl rfl rfl (by kernel_rfl) (Nat.le_of_ble_eq_true rfl) rfl (by kernel_rfl) ?_
 rw[Bi]
 refine zs ?_
 refine zb ?_
 refine zs ?_
 refine zn ?_
 refine zs ?_
 refine zt ?_
 refine z0 ?_;intro K hK
 refine Ab.eq spL (by simp) (by simp) ?_
 refine zx ?_
 refine Ab.pass [0] (Ov l 0 g (by omega) (by omega) (by omega)) (by simp) (by simp) (by simp) (by simp) ?_
 rintro r M ⟨rfl,rfl⟩ _
 refine zx ?_
 refine zk ?_;clear hK K
 refine z0 ?_;intro K hK
 refine Ab.eq spL (by simp) (by simp) ?_
 refine AO hgi ?_
 refine Ab.pass [0] (Ov (l++A0 0 g) n g1 (by simp;omega) (by omega) (by omega)) (by simp) (by simp) (by simp) (by simp) ?_
 rintro r M ⟨rfl,rfl⟩ _
 refine zx ?_
 refine zk ?_;clear hK K
 (try simp only[Cd,Ce,C4,C6,if_true]);refine Fc (d:=0) ?_;simp -implicitDefEqProofs (maxSteps:=999999) (disch:=omega)
theorem Yq (xs:List Bool) (v:Int) (l:List Int) (hx:xs.length<1000000) (hv:0≤v∧v≤16) (hl:AH l):Aa pg 247 [.ptr 0 0 0,.int .i64 v,.ro l.length (Ae l)] [.live 0 (B5 xs)] (fun r M=>r= .tup []∧M=[.live 0 (B5 (xs++CG v l))]):=by
 have hll:=Bq hl
 have hg0:=DB (l.length+1) (by omega)
 obtain⟨m,hm⟩:∃m,m=l.length+1:=⟨_,rfl⟩
 have hn1:(l.length:Int)+1=(m:Int):=by omega
 rw[←hm] at hg0
 refine Aa.start (fn:=Tryz.f247) [] tk rfl rfl rfl (by kernel_rfl) (Nat.le_of_ble_eq_true rfl) rfl (by kernel_rfl) ?_
 rw[Bi]
 refine Af hn1 ?_;intro K hK
 refine Ab.pass [0] (EQ xs m (by omega) (by omega) (by omega)) (by simp) (by simp) (by simp) (by simp) ?_
 rintro r M ⟨rfl,rfl⟩ _
 refine zx ?_
 refine zk ?_;clear hK K
 refine zs ?_
 (repeat refine W.seq ?_);refine W.block (W.loopS (fun z:Nat×List Bool=> [(0,.ptr 0 0 0),(1,.int .i64 v),(2,.ro l.length (Ae l)),(13,.ro l.length (Ae l)),(14,.int .i64 l.length),(15,.int .i64 (z.1:Nat))]) (fun z=> [.live 0 (B5 z.2)]) (fun z=>l.length-z.1) (fun z=>z.1≤l.length∧z.2=xs++(AA m++Ch v (l.take z.1) true 0)∧z.2.length≤xs.length+81*(z.1+1)) (0,xs++AA m) (Wk.fr (by simp[Ad])) ⟨by simp,by simp[Ch],by simp;omega⟩ ?_)
 rintro⟨i,B⟩ ⟨hi,hB,hBl⟩
 simp only at hi hB hBl
 by_cases hlt:i<l.length
 rotate_left
 .have hi' :i=l.length:=by omega
  subst hi'
  rw[List.take_length] at hB
  refine z0 ?_;intro K hK
  refine zk ?_;clear hK K
  refine zn ?_
  refine W.exit ?_
  (try simp only[Cd,Ce,C4,C6,if_true]);refine Fc (d:=0) ?_;simp -implicitDefEqProofs (maxSteps:=999999) (disch:=omega)
  rw[hB,hm];simp[CG]
 have hto:=Is v l i true 0 hlt
 have hbd:=hl.1 _ (List.getElem_mem hlt)
 refine Af hlt ?_;intro K hK
 refine zk ?_;clear hK K
 refine zt ?_
 refine W.skip ?_
 refine zb ?_
 by_cases h0:i=0
 .subst h0
  have hz:=Dj (l[0]-v)
  have hz2:BZ (l[0]-v)≤100:=by unfold BZ;split<;>omega
  obtain⟨c,hc⟩:=Int.eq_ofNat_of_zero_le (show 0≤BZ (l[0]-v)+1 by omega)
  have hcl:=DB c (by omega)
  (repeat refine W.seq ?_);refine W.reg 0 rfl fun K hK=>?_;simp -implicitDefEqProofs (maxSteps:=999999) (disch:=omega) [hlt]
  refine zk ?_;clear hK K
  refine z0 ?_;intro K hK
  refine zk ?_;clear hK K
  refine zt ?_
  refine z0 ?_;intro K hK
  refine Ab.eq (Ss (l[0]-v) (by omega)) (by simp) (by simp) ?_
  refine AO hc ?_
  refine Ab.pass [0] (EQ B c (by omega) (by omega) (by omega)) (by simp) (by simp) (by simp) (by simp) ?_
  rintro r M ⟨rfl,rfl⟩ _
  refine zx ?_
  refine zk ?_;clear hK K
  refine zs ?_
  refine⟨(1,B++AA c),by simp only;omega,⟨by simp only;omega,?_,by simp;omega⟩,Wk.fr (by simp[Ad])⟩
  simp only[hto,if_true,hc,Int.toNat_natCast]
  rw[hB];simp[Ch]
 .have hup:=List.pairwise_iff_getElem.1 hl.2 (i-1) i (by omega) hlt (by omega)
  have hbd2:=hl.1 _ (List.getElem_mem (show i-1<l.length by omega))
  obtain⟨c,hc⟩:=Int.eq_ofNat_of_zero_le (show 0≤l[i]-l[i-1] by omega)
  have hcl:=DB c (by omega)
  obtain⟨j,hj⟩:∃j,j=i-1:=⟨_,rfl⟩
  have hi1:(i:Int)-1=(j:Int):=by omega
  have hlt2:j<l.length:=by omega
  simp only[←hj] at hc hup hbd2
  (repeat refine W.seq ?_);refine W.reg 0 rfl fun K hK=>?_;simp -implicitDefEqProofs (maxSteps:=999999) (disch:=omega) [hlt]
  refine zk ?_;clear hK K
  refine Af h0 ?_;intro K hK
  refine zk ?_;clear hK K
  refine zn ?_
  refine Af (an hi1 (an hlt2 hc)) ?_;intro K hK
  refine Ab.pass [0] (EQ B c (by omega) (by omega) (by omega)) (by simp) (by simp) (by simp) (by simp) ?_
  rintro r M ⟨rfl,rfl⟩ _
  refine zx ?_
  refine zk ?_;clear hK K
  refine zs ?_
  refine⟨(i+1,B++AA c),by simp only;omega,⟨by simp only;omega,?_,by simp;omega⟩,Wk.fr (by simp[Ad])⟩
  simp only[←hj] at hto
  simp only[hto,if_neg h0,hc,Int.toNat_natCast]
  rw[hB];simp
end Go.Abs
