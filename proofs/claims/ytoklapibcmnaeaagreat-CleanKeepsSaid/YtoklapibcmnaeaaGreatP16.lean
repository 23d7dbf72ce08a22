/- A state with an object taken out. -/
import Derived.Test.YtoklapibcmnaeaaGreatP15
set_option linter.unusedVariables false
set_option linter.unusedSimpArgs false
set_option maxRecDepth 100000
namespace Go.Abs
open Go.Proofs
def GV (s:An) (id:Int):Bool:=s.vers.any fun v=>decide (v.base=id)
def Dd (s:An) (id:Int):An×Int:=
 if AL (fun v=>decide (v.id=id)) s.vers<0 then(A6,3)
 else if id=AN s.vers\/pinned s id=true\/GV s id=true then(A6,6)
 else({s with vers:=s.vers.eraseIdx (AL (fun v=>decide (v.id=id)) s.vers).toNat},0)
def jr (s:An) (id:Int):An×Int:=if A2 s then Dd s id else(A6,1)
theorem Vs (v:AM) (id:Int):Aa pg 132 ([.agg (Au v)]++[.rptr [.int .i64 id]]) [] (fun r _=>r= .bool (decide (v.base=id))):=by
 refine Aa.start (fn:=Tryz.f132) [.tmp 3] tk rfl rfl rfl (by kernel_rfl) (Nat.le_of_ble_eq_true rfl) rfl (by kernel_rfl) ?_
 simp only[List.cons_append,List.nil_append]
 rw[At]
 refine z1 ?_;intro K hK;refine zk ?_;clear hK K
 refine zs ?_
 exact zR
theorem Mh:∀(l:List AM) (k:Nat),k<l.length->(Ac Au l).take (k*8)++(Ac Au l).drop ((k+1)*8)=Ac Au (l.eraseIdx k)
 | [],k,h=>by simp at h
 |v::l,0,_=>by simp[Ax,Au]
 |v::l,k+1,h=>by
  have ih:=Mh l k (by simpa using h)
  have hv:(Au v).length=8:=rfl
  have a1:(Au v++Ac Au l).take ((k+1)*8)=Au v++(Ac Au l).take (k*8):=by rw[show(k+1)*8=(Au v).length+k*8 by omega,List.take_length_add_append]
  have a2:(Au v++Ac Au l).drop ((k+1+1)*8)=(Ac Au l).drop ((k+1)*8):=by rw[show(k+1+1)*8=(Au v).length+(k+1)*8 by omega,List.drop_length_add_append]
  rw[Ax,List.eraseIdx_cons_succ,Ax,<-ih,a1,a2,List.append_assoc]
set_option maxHeartbeats 2000000 in
theorem XI (hR:BT) (s:An) (id:Int) (hs:AS s) (hx:Br s):Aa pg 94 [.agg (Ao false s),.int .i64 id] [] (fun r _=>r= .tup [.agg (Ao true (Dd s id).1),.int .i64 (Dd s id).2]):=by
 have h1:=hs.1
 have h2:=hs.2.1
 refine Aa.start (fn:=Tryz.f94) [.cell 4 38,.tmp 5] tk rfl rfl rfl (by kernel_rfl) (Nat.le_of_ble_eq_true rfl) rfl (by kernel_rfl) ?_
 rw[At]
 refine z3 ?_;intro K hK;refine zk ?_;clear hK K
 refine z0 ?_;intro K hK
 refine Ab.eq (Hi s id hs) (by simp) (by simp) ?_
 refine zx ?_
 refine zk ?_;clear hK K
 obtain⟨q,hq⟩:∃q,q=AL (fun v=>decide (v.id=id)) s.vers:=⟨_,rfl⟩
 rw[<-hq]
 unfold Dd
 rw[<-hq]
 refine zb ?_
 by_cases c1:q<0
 .rw[if_pos c1]
  refine Af c1 ?_;intro K hK
  refine zk ?_;clear hK K
  refine zt ?_
  refine z0 ?_;intro K hK
  refine zk ?_;clear hK K
  refine W.weak ((Wk.thaw (B:=2) (v:=0) (j:=2) (s:=8) (n:=0) (xs:=[]) rfl rfl).trans (Wk.thaw (B:=2) (v:=0) (j:=3) (s:=12) (n:=0) (xs:=[]) rfl rfl)) ?_
  refine zr ?_
  simp[A6]
 rw[if_neg c1]
 obtain⟨k,hk,rfl⟩:∃k:Nat,k<s.vers.length/\q=(k:Int):=⟨q.toNat,by rw[hq] at c1 |-;exact KJ (by omega),by omega⟩
 have c1' :¬(k:Int)<0:=c1
 refine Af c1' ?_;intro K hK
 refine zk ?_;clear hK K
 refine zn ?_
 have spB:=OC s.vers 132 [.rptr [.int .i64 id]] (fun v=>decide (v.base=id)) (by omega) (fun v _=>Vs v id) (by simp) (by simp)
 have hbd:(s.vers.any fun v=>decide (v.base=id))=GV s id:=rfl
 rw[hbd] at spB
 have spP:=LK s id hs
 by_cases c2:id=AN s.vers
 .rw[if_pos (.inl c2)]
  refine Cm ?_;intro K hK
  refine Ah.eq (ER s hs) (by simp) (by simp) ?_
  refine AX c2 ?_
  refine zk ?_;clear hK K
  refine zt ?_
  refine z0 ?_;intro K hK
  refine zk ?_;clear hK K
  refine W.weak ((Wk.thaw (B:=2) (v:=0) (j:=2) (s:=8) (n:=0) (xs:=[]) rfl rfl).trans (Wk.thaw (B:=2) (v:=0) (j:=3) (s:=12) (n:=0) (xs:=[]) rfl rfl)) ?_
  refine zr ?_
  simp[A6]
 by_cases c3:pinned s id=true
 .rw[if_pos (.inr (.inl c3))]
  rw[c3] at spP
  refine Cm ?_;intro K hK
  refine Ah.eq (ER s hs) (by simp) (by simp) ?_
  refine AX c2 ?_
  refine Ah.eq spP (by simp) (by simp) ?_
  refine zx ?_
  refine zk ?_;clear hK K
  refine zt ?_
  refine z0 ?_;intro K hK
  refine zk ?_;clear hK K
  refine W.weak ((Wk.thaw (B:=2) (v:=0) (j:=2) (s:=8) (n:=0) (xs:=[]) rfl rfl).trans (Wk.thaw (B:=2) (v:=0) (j:=3) (s:=12) (n:=0) (xs:=[]) rfl rfl)) ?_
  refine zr ?_
  simp[A6]
 by_cases c4:GV s id=true
 .rw[if_pos (.inr (.inr c4))]
  rw[Bool.eq_false_iff.2 c3] at spP
  rw[c4] at spB
  refine Cm ?_;intro K hK
  refine Ah.eq (ER s hs) (by simp) (by simp) ?_
  refine AX c2 ?_
  refine Ah.eq spP (by simp) (by simp) ?_
  refine zx ?_
  refine Ah.eq spB (by simp) (by simp) ?_
  refine zx ?_
  refine zk ?_;clear hK K
  refine zt ?_
  refine z0 ?_;intro K hK
  refine zk ?_;clear hK K
  refine W.weak ((Wk.thaw (B:=2) (v:=0) (j:=2) (s:=8) (n:=0) (xs:=[]) rfl rfl).trans (Wk.thaw (B:=2) (v:=0) (j:=3) (s:=12) (n:=0) (xs:=[]) rfl rfl)) ?_
  refine zr ?_
  simp[A6]
 rw[if_neg (by simp[c2,c3,c4])]
 rw[Bool.eq_false_iff.2 c3] at spP
 rw[Bool.eq_false_iff.2 c4] at spB
 refine Cm ?_;intro K hK
 refine Ah.eq (ER s hs) (by simp) (by simp) ?_
 refine AX c2 ?_
 refine Ah.eq spP (by simp) (by simp) ?_
 refine zx ?_
 refine Ah.eq spB (by simp) (by simp) ?_
 refine zx ?_
 refine zk ?_;clear hK K
 refine zn ?_
 refine W.skip ?_
 refine z0 ?_;intro K hK
 refine Ab.eqr (Pb s hs hx) (by simp) ?_
 refine zx ?_
 refine zk ?_;clear hK K
 obtain⟨c,hc⟩:∃c:Nat,c=k+1:=⟨_,rfl⟩
 have e1:(k:Int)+1=(c:Int):=by omega
 refine Af e1 ?_;intro K hK
 have spD:=Vr (Ac Au s.vers) 0 s.vers.length k hk (by omega) (FJ (f:=Au) (fun _=>rfl) _) (YS _) (by simp)
 have hle:(s.vers.eraseIdx k).length=s.vers.length-1:=List.length_eraseIdx_of_lt hk
 rw[Mh _ _ hk,<-hc,<-hle] at spD
 clear hle
 generalize hl' :s.vers.eraseIdx k=l' at spD
 refine Ab.pass [3] spD (by simp) (by simp) (by simp) (by simp) ?_
 rintro r M ⟨rfl,rfl⟩ _
 refine zx ?_
 refine zk ?_;clear hK K
 refine z0 ?_;intro K hK
 refine zk ?_;clear hK K
 refine zr ?_
 simp[hl']
def Ec (s:An) (o:Obj) (p:Int):Option (List Obj):=
 if AL (fun v=>decide (v.id=o.id)) s.vers<0 then(if¬(0<=p/\p<=o.id-1)\/o.id<=AN s.vers then none else some (Ai s++[o]))
 else some ((Ai s).set (AL (fun v=>decide (v.id=o.id)) s.vers).toNat o)
def J0 (s:An) (o:Obj) (p:Int):Prop:=∃l,Ec s o p=some l/\Ca l/\(∀i (h:i<l.length),(AP l l[i].id).2=0)/\∀x∈s.sess,AG s l x
theorem Qt {s:An} {o:Obj} {p:Int} (h:Ec s o p=none):¬J0 s o p:=by rintro⟨l,hl,_⟩;rw[h] at hl;simp at hl
theorem Q9 (o:Obj):∀(l:List Obj) (k:Nat) (h:k<l.length),((((Ac As l).set (k*4) (.int .i64 o.id)).set (k*4+1) (.int .i64 o.base)).set (k*4+1+1) (.str o.data.data)).set (k*4+1+1+1) (.int .i64 o.data.n)=Ac As (l.set k o)
 | [],k,h=>by simp at h
 |x::l,0,_=>by simp[Ax,As]
 |x::l,k+1,h=>by
  have ih:=Q9 o l k (by simpa using h)
  have hv:(As x).length=4:=rfl
  have e:∀(F:List AV) (i:Nat) (z:AV),(As x++F).set (4+i) z=As x++F.set i z:=fun F i z=>by rw[List.set_append_right _ _ (by omega),hv,Nat.add_sub_cancel_left]
  rw[Ax,List.set_cons_succ,Ax,<-ih,show(k+1)*4=4+k*4 by omega]
  rw[e,show 4+k*4+1=4+(k*4+1) by omega,e,show 4+(k*4+1)+1=4+(k*4+1+1) by omega,e,show 4+(k*4+1+1)+1=4+(k*4+1+1+1) by omega,e]
def FD (l:List (Int×Int)) (blocks m:Int):Int:=match (Bo (BE l blocks.toNat) 0 0).find? fun x=>decide (m<=x.2) with|some x=>x.1|none=>-1
def CV (s:An) (o:Obj) (p:Int):List AM×Nat:=if AL (fun v=>decide (v.id=o.id)) s.vers<0 then(s.vers++[FH o.id p],s.vers.length) else(s.vers,(AL (fun v=>decide (v.id=o.id)) s.vers).toNat)
def E6 (s:An) (o:Obj) (p:Int):An×Int:=
 if FD (Av s) s.blocks (Cl o.data)<0 then(A6,5)
 else({s with vers:=Jw (Dq (CV s o p).1 (CV s o p).2 o) (CV s o p).2 (FD (Av s) s.blocks (Cl o.data))},0)
theorem J1 (l m:List AM) (h:l.map (fun v=>v.gone)=m.map fun v=>v.gone):Cy l=Cy m:=by
 have:=congrArg List.getLast? h
 rw[List.getLast?_map,List.getLast?_map] at this
 unfold Cy
 cases e1:l.getLast?<;>cases e2:m.getLast?<;>rw[e1,e2] at this<;>simp at this |-<;>exact this
theorem LA {β:Type} (g:AM->β) {l:List AM} {i:Nat} {o:Obj} (hg:∀v:AM,g {v with base:=o.base,data:=o.data}=g v):(Dq l i o).map g=l.map g:=by
 unfold Dq
 cases e:l[i]? with
 |none=>rfl
 |some v=>
  simp only
  rw[List.map_set,hg]
  refine List.ext_getElem? fun j=>?_
  rw[List.getElem?_set]
  split
  .rename_i h;subst h
   simp only[List.length_map]
   split
   .rw[List.getElem?_map,e];rfl
   .rename_i h;rw[List.getElem?_eq_none (by simpa using h)]
  .rfl
theorem TE (s:An) (o:Obj) (p:Int) (h:A2 s):(EW s o p=none/\Ec s o p=none)\/
 (EW s o p=some (CV s o p)/\Ec s o p=some ((Dq (CV s o p).1 (CV s o p).2 o).map Bm)/\(∀v∈Dq (CV s o p).1 (CV s o p).2 o,Gh v)/\Cy (Dq (CV s o p).1 (CV s o p).2 o)=false/\
   AN s.vers<=AN (Dq (CV s o p).1 (CV s o p).2 o)/\∀v∈s.vers,∃u∈Dq (CV s o p).1 (CV s o p).2 o,u.id=v.id):=by
 obtain⟨⟨⟨a1,a2,a3,a4,a5,a6,a7⟩,b,c,d⟩,e⟩:=h
 have put_ok:∀(l:List AM) (i:Nat),(∀v∈l,Gh v)->∀v∈Dq l i o,Gh v:=by
  intro l i hl v hv
  unfold Dq at hv
  split at hv
  .rename_i w hw
   rcases List.mem_or_eq_of_mem_set hv with h|h
   .exact hl v h
   .subst h
    exact hl w (List.mem_of_getElem? hw)
  .exact hl v hv
 have put_id:∀(l:List AM) (i:Nat),∀v∈l,∃u∈Dq l i o,u.id=v.id:=by
  intro l i v hv
  have hm:=LA (o:=o) (l:=l) (i:=i) (fun v=>v.id) (fun _=>rfl)
  have:v.id∈(Dq l i o).map fun v=>v.id:=by rw[hm];exact List.mem_map.2 ⟨v,hv,rfl⟩
  obtain⟨u,hu,e⟩:=List.mem_map.1 this
  exact⟨u,hu,e⟩
 by_cases c1:AL (fun v=>decide (v.id=o.id)) s.vers<0
 .by_cases c2:o.id<=AN s.vers\/p<0\/o.id<=p
  .refine .inl ⟨?_,?_⟩
   .unfold EW;rw[if_pos c1,if_pos c2]
   .unfold Ec;rw[if_pos c1,if_pos (by omega)]
  .have er:CV s o p=(s.vers++[FH o.id p],s.vers.length):=by unfold CV;rw[if_pos c1]
   have ep:Dq (s.vers++[FH o.id p]) s.vers.length o=s.vers++[{FH o.id p with base:=o.base,data:=o.data}]:=by
    rw[KL (by simp)]
    rw[List.set_append_right _ _ (Nat.le_refl _),Nat.sub_self];simp
   rw[er]
   refine .inr ⟨?_,?_,?_,?_,?_,?_⟩
   .unfold EW;rw[if_pos c1,if_neg c2]
   .unfold Ec;rw[if_pos c1,if_neg (by omega),ep];simp[Ai,Bm,FH]
   .refine put_ok _ _ fun v hv=>?_
    rcases List.mem_append.1 hv with h|h
    .exact a5 v h
    .simp at h;subst h
     exact⟨by simp[FH];omega,by simp[FH];omega,by simp[FH]⟩
   .rw[ep];simp[Cy,FH]
   .rw[ep,RT];simp[FH];omega
   .intro v hv
    exact put_id _ _ v (List.mem_append_left _ hv)
 .have er:CV s o p=(s.vers,(AL (fun v=>decide (v.id=o.id)) s.vers).toNat):=by unfold CV;rw[if_neg c1]
  rw[er]
  obtain⟨k,hk⟩:∃k,k=(AL (fun v=>decide (v.id=o.id)) s.vers).toNat:=⟨_,rfl⟩
  have hlt:k<s.vers.length:=by rw[hk];exact KJ (by omega)
  have Bw:s.vers[k].id=o.id:=by
   have:s.vers.findIdx? (fun v=>decide (v.id=o.id))=some k:=by
    unfold AL at hk c1
    cases e:s.vers.findIdx? (fun v=>decide (v.id=o.id)) with
    |none=>rw[e] at c1;simp at c1
    |some j=>rw[e] at hk;simp at hk;rw[hk]
   simpa using (List.findIdx?_eq_some_iff_getElem.1 this).2.1
  rw[<-hk]
  refine .inr ⟨?_,?_,put_ok _ _ a5,?_,?_,put_id _ _⟩
  .unfold EW;rw[if_neg c1,hk]
  .unfold Ec
   rw[if_neg c1,<-hk,KL hlt,List.map_set]
   simp[Ai,Bm,Bw]
  .rw[J1 _ _ (LA (fun v=>v.gone) (fun _=>rfl))];exact a6
  .rw[L2 _ _ (LA (fun v=>v.id) (fun _=>rfl))];exact Int.le_refl _
theorem Pj {s y:An} {l:List Obj} {x:CZ} (hl:AN s.vers<=AN y.vers) (hi:∀v∈s.vers,∃u∈y.vers,u.id=v.id) (h:AG s (Ai s) x):AG y l x↔AG s l x:=by
 unfold AG at h |-
 by_cases c:x.opn=false
 .simp only[if_pos c]
 .simp only[if_neg c] at h |-
  obtain⟨h1,h2,_⟩:=h
  refine⟨fun⟨_,_,k⟩=>⟨h1,h2,k⟩,fun⟨_,_,k⟩=>⟨?_,?_,k⟩⟩
  .refine h1.imp id fun⟨v,hv,e⟩=>?_
   obtain⟨u,hu,e2⟩:=hi v hv
   exact⟨u,hu,by rw[e2,e]⟩
  .split at h2
   .rw[if_pos (by assumption)];exact⟨h2.1,by omega,h2.2.2⟩
   .rw[if_neg (by assumption)];exact h2
theorem NR {s:An} {n:Int} (h:CL (Av s) s.blocks) (hn:1<=n/\n<=100):((DW (Av s) s.blocks n).2=0↔¬FD (Av s) s.blocks n<0)/\(¬FD (Av s) s.blocks n<0->(DW (Av s) s.blocks n).1=FD (Av s) s.blocks n):=by
 unfold DW FD
 rw[if_pos ⟨h,hn⟩]
 cases e:(Bo (BE (Av s) s.blocks.toNat) 0 0).find? fun x=>decide (n<=x.2) with
 |none=>simp
 |some x=>
  have:=(FV _ _ _ (Int.le_refl _) x (List.mem_of_find?_eq_some e)).2.1
  simp;omega
theorem Vt (s:An) (o:Obj) (p:Int) (h:A2 s):(J0 s o p->Pe s o p=E6 s o p)/\(¬J0 s o p->Pe s o p=(A6,1)):=by
 have hb:=TE s o p h
 unfold Pe
 rw[if_pos h]
 obtain⟨⟨⟨a1,a2,a3,a4,a5,a6,a7⟩,b,c,d⟩,e⟩:=h
 rcases hb with⟨h1,h2⟩ | ⟨h1,h2,h3,h4,h5,h6⟩
 .exact⟨fun hm=>absurd hm (Qt h2),fun _=>by unfold Ej;rw[h1]⟩
 .unfold Ej
  rw[h1]
  simp only
  obtain⟨l1,hl1⟩:∃l1,l1=Dq (CV s o p).1 (CV s o p).2 o:=⟨_,rfl⟩
  rw[<-hl1] at h2 h3 h4 h5 h6 |-
  have key:J0 s o p↔Di o.data/\Ey {s with vers:=l1}:=by
   have ho:o∈l1.map Bm:=by
    have:Ec s o p=some (l1.map Bm):=h2
    unfold Ec at this
    split at this
    .split at this
     .simp at this
     .simp at this;rw[<-this];simp
    .rename_i c1
     simp at this;rw[<-this]
     have hlt:(AL (fun v=>decide (v.id=o.id)) s.vers).toNat<(Ai s).length:=by
      rw[show(Ai s).length=s.vers.length by simp[Ai]];exact KJ (by omega)
     exact List.mem_iff_getElem.2 ⟨_,by simpa using hlt,List.getElem_set_self _⟩
   constructor
   .rintro⟨m,hm,k1,k2,k3⟩
    rw[h2] at hm
    cases hm
    refine⟨(k1.2.1 o ho).2.2.1,⟨a1,a2,a3,a4,h3,h4,k1⟩,b,fun q hq=>?_,fun x hx=>(Pj h5 h6 (d x hx)).2 (k3 x hx)⟩
    obtain⟨i,hi,rfl⟩:=List.mem_iff_getElem.1 hq
    exact k2 i hi
   .rintro⟨_,⟨b1,b2,b3,b4,b5,b6,b7⟩,_,k2,k3⟩
    exact⟨_,h2,b7,fun i hi=>k2 _ (List.getElem_mem hi),fun x hx=>(Pj (l:=l1.map Bm) h5 h6 (d x hx)).1 (k3 x hx)⟩
  refine⟨fun hm=>?_,fun hm=>by rw[if_neg (fun g=>hm (key.2 g))]⟩
  have hg:=key.1 hm
  rw[if_pos hg]
  have hn:1<=Cl o.data/\Cl o.data<=100:=by
   obtain⟨b1,b2,b3,_⟩:=hg.1
   unfold Cl;omega
  obtain⟨r1,r2⟩:=NR e hn
  unfold E6
  rw[<-hl1]
  by_cases c1:FD (Av s) s.blocks (Cl o.data)<0
  .rw[if_neg (fun g=>(r1.1 g) c1),if_pos c1]
  .rw[if_pos (r1.2 c1),if_neg c1,r2 c1]
theorem TF {l:List Obj} {g:Gr} (b:Int) (hg:A3 g):(GS l b g).data.size<=751/\Di (GS l b g):=by
 unfold GS
 rw[Hb]
 split
 .have:=Jy hg;exact⟨by omega,Q7 this⟩
 .have:=Jz (Dc l b) hg;exact⟨by omega,Q7 this⟩
theorem Fm:AS A6/\Br A6:=⟨⟨by simp[A6],by simp[A6],by simp[A6]⟩,fun x hx=>by simp[A6] at hx⟩
theorem XJ {l:List AM} {i:Nat} {a:Int} {v:AM} (h:v∈Jw l i a):∃u∈l,v.data=u.data:=by
 unfold Jw at h
 split at h
 .rename_i w hw
  rcases List.mem_or_eq_of_mem_set h with h|h
  .exact⟨v,h,rfl⟩
  .subst h;exact⟨w,List.mem_of_getElem? hw,rfl⟩
 .exact⟨v,h,rfl⟩
theorem Vu {s:An} {o:Obj} {p:Int} (hs:AS s) (hx:Br s) (ho:o.data.data.size<1000000000) (hn:s.vers.length<999999999):AS (Ej s o p).1/\Br (Ej s o p).1:=by
 unfold Ej
 split
 .exact Fm
 .rename_i l i e
  split
  .split
   .have hl:l.length<1000000000/\∀v∈l,v.data.data.size<1000000000:=by
     unfold EW at e
     split at e
     .split at e
      .simp at e
      .simp at e
       rw[<-e.1]
       refine⟨by simp;omega,fun v hv=>?_⟩
       rcases List.mem_append.1 hv with h|h
       .exact hs.2.2 v h
       .simp at h;subst h;simp[FH]
     .simp at e
      rw[<-e.1]
      exact⟨by omega,hs.2.2⟩
    refine⟨⟨by simp only[Na,Pc];exact hl.1,hs.2.1,fun v hv=>?_⟩,hx⟩
    obtain⟨u,hu,e2⟩:=XJ hv
    rw[e2]
    exact Pd hl.2 ho u hu
   .exact Fm
  .exact Fm
theorem TG {s:An} {id:Int} (hs:AS s) (hx:Br s):AS (Dd s id).1/\Br (Dd s id).1:=by
 unfold Dd
 split
 .exact Fm
 .split
  .exact Fm
  .refine⟨⟨?_,hs.2.1,fun v hv=>hs.2.2 v (List.mem_of_mem_eraseIdx hv)⟩,hx⟩
   have h1:=hs.1
   have h2:=List.length_eraseIdx_le s.vers (AL (fun v=>decide (v.id=id)) s.vers).toNat
   simp only;omega
theorem IZ (l:List Obj):∀(k:Nat) (id:Int),AQ l k id=(AQ l (k+1) id).take k
 |0,_=>by simp[AQ]
 |k+1,id=>by
  rw[AQ,AQ]
  by_cases h:id=0
  .simp[h]
  .rw[if_neg h,if_neg h]
   cases e:A7 l id with
   |none=>simp
   |some o=>simp only[List.take_succ_cons];rw[IZ l k o.base]
theorem Mi {l:List Obj} {id:Int} {o:Obj} (h:A7 l id=some o) (h0:id≠0) (k:Nat):AQ l (k+1) id=o::AQ l k o.base:=by
 rw[AQ,if_neg h0,h]
theorem WO (l:List Obj) (k:Nat):AQ l k 0=[]:=by cases k<;>simp[AQ]
theorem EA {l:List Obj} {id:Int} {o:Obj} (h:A7 l id=some o) (h0:id≠0) (hb:o.base=0):AE l id=(1,0)/\AP l id=match BD (Aq o.data) with|some g=>(g,0) |none=>(AI,9):=by
 have e:∀k,AQ l (k+1) id=[o]:=fun k=>by rw[Mi h h0,hb,WO]
 have hd:AE l id=(1,0):=by unfold AE;rw[h];simp only[e];simp
 refine⟨hd,?_⟩
 unfold AP
 rw[hd,e,if_neg (by simp)]
 simp only[C9,if_pos hb]
 cases BD (Aq o.data)<;>rfl
theorem DR {l:List Obj} {id:Int} {o:Obj} (h:A7 l id=some o) (h0:id≠0) (hh:Cg l o.base):((AE l id).2=0↔(AE l o.base).2=0/\(AE l o.base).1<3)/\((AE l id).2=0->(AE l id).1=(AE l o.base).1+1):=by
 obtain⟨q,hq⟩:=BW.1 hh
 have e3:(AQ l 3 o.base).length=min 3 (AQ l 4 o.base).length:=by rw[IZ l 3];simp
 unfold AE
 rw[h,hq]
 simp only[Mi h h0 3,List.length_cons]
 by_cases c1:3<(AQ l 4 o.base).length
 .rw[if_pos c1,if_pos (by omega)];simp
 .rw[if_neg c1]
  by_cases c2:3<(AQ l 3 o.base).length+1
  .rw[if_pos c2];simp;omega
  .rw[if_neg c2];simp;omega
theorem Dr {l:List Obj} {id:Int} (h:(AP l id).2=0):(AE l id).2=0:=by
 unfold AP at h
 by_cases c:(AE l id).2≠0
 .rw[if_pos c] at h;exact absurd h c
 .omega
theorem Mj {l:List Obj} {id:Int} {o:Obj} (h:A7 l id=some o) (h0:id≠0) (hb:o.base≠0) (hh:Cg l o.base) (hd:(AE l id).2=0):AP l id=if (AP l o.base).2=0 then(match BK (AP l o.base).1 (Aq o.data) with|some g=>(g,(0:Int)) |none=>(AI,(9:Int))) else(AI,(9:Int)):=by
 obtain⟨q,hq⟩:=BW.1 hh
 have e3:(AQ l 3 o.base).length=min 3 (AQ l 4 o.base).length:=by rw[IZ l 3];simp
 have hd2:=((DR h h0 hh).1.1 hd)
 have hlen:(AQ l 4 o.base).length<3:=by
  have:=hd2.2
  have h2:=hd2.1
  unfold AE at this h2
  rw[hq] at this h2
  by_cases c:3<(AQ l 4 o.base).length
  .simp only[if_pos c] at h2;simp at h2
  .simp only[if_neg c] at this;omega
 have e4:AQ l 2 o.base=(AQ l 3 o.base).take 2:=IZ l 2 o.base
 have e2:AQ l 2 o.base=AQ l 3 o.base:=by rw[e4,List.take_of_length_le (by omega)]
 have e5:AP l o.base=match C9 BD BK (AQ l 3 o.base) with|some g=>(g,0) |none=>(AI,9):=by unfold AP;rw[if_neg (fun g=>g hd2.1)];cases C9 BD BK (AQ l 3 o.base)<;>rfl
 have e6:AP l id=match C9 BD BK (AQ l 3 id) with|some g=>(g,0) |none=>(AI,9):=by unfold AP;rw[if_neg (fun g=>g hd)];cases C9 BD BK (AQ l 3 id)<;>rfl
 rw[e5,e6,Mi h h0 2,e2]
 simp only[C9,if_neg hb]
 cases C9 BD BK (AQ l 3 o.base) with
 |none=>rfl
 |some a=>rw[if_pos rfl]
theorem Ie {l:List Obj} {i:Nat} (hi:i<l.length) {id:Int} (h:l[i].id≠id):A7 (l.eraseIdx i) id=A7 l id:=by
 have e:l=l.take i++l[i]::l.drop (i+1):=by rw[<-List.drop_eq_getElem_cons hi,List.take_append_drop]
 rw[List.eraseIdx_eq_take_drop_succ]
 conv=>rhs;rw[e]
 unfold A7
 rw[List.find?_append,List.find?_append,List.find?_cons]
 simp[h]
theorem RZ {α:Type} {l:List α} {i:Nat} (hi:i+1<l.length):(l.eraseIdx i).getLast?=l.getLast?:=by
 rw[List.eraseIdx_eq_take_drop_succ]
 have e:l.drop (i+1)≠ []:=by simp;omega
 have e2:l=l.take (i+1)++l.drop (i+1):=(List.take_append_drop _ _).symm
 conv=>rhs;rw[e2]
 rw[List.getLast?_append,List.getLast?_append]
 cases h:(l.drop (i+1)).getLast? with
 |none=>exact absurd (List.getLast?_eq_none_iff.1 h) e
 |some x=>rfl
theorem KO {s:An} {id:Int} (h:¬AL (fun v=>decide (v.id=id)) s.vers<0):∃hk:(AL (fun v=>decide (v.id=id)) s.vers).toNat<s.vers.length,s.vers[(AL (fun v=>decide (v.id=id)) s.vers).toNat].id=id:=by
 cases e:s.vers.findIdx? (fun v=>decide (v.id=id)) with
 |none=>exact absurd (by unfold AL;rw[e];decide) h
 |some j=>
  obtain⟨hj,hp,_⟩:=List.findIdx?_eq_some_iff_getElem.1 e
  have hi:(AL (fun v=>decide (v.id=id)) s.vers).toNat=j:=by unfold AL;rw[e];simp
  exact⟨by rw[hi];exact hj,by simp only[hi];simpa using hp⟩
theorem Vv {s:An} {id:Int} (h:A2 s) (he:(Dd s id).2=0):A2 (Dd s id).1/\∀i,i≠0->i∈(Dd s id).1.vers.map (fun v=>v.id)->AP (Ai (Dd s id).1) i=AP (Ai s) i:=by
 unfold Dd at he |-
 by_cases c1:AL (fun v=>decide (v.id=id)) s.vers<0
 .rw[if_pos c1] at he;simp at he
 rw[if_neg c1] at he |-
 by_cases c2:id=AN s.vers\/pinned s id=true\/GV s id=true
 .rw[if_pos c2] at he;simp at he
 rw[if_neg c2]
 obtain⟨hk,Bw⟩:=KO c1
 obtain⟨k,hkd⟩:∃k,k=(AL (fun v=>decide (v.id=id)) s.vers).toNat:=⟨_,rfl⟩
 simp only[<-hkd] at hk Bw |-
 have c3:id≠AN s.vers:=fun g=>c2 (.inl g)
 have c4:∀x∈s.sess,x.pin≠id:=fun x hx g=>c2 (.inr (.inl (List.any_eq_true.2 ⟨x,hx,by simpa using g⟩)))
 have c5:∀v∈s.vers,v.base≠id:=fun v hv g=>c2 (.inr (.inr (List.any_eq_true.2 ⟨v,hv,by simpa using g⟩)))
 obtain⟨⟨⟨a1,a2,a3,a4,a5,a6,a7⟩,b,c,d⟩,e⟩:=h
 have hk1:k+1<s.vers.length:=by
  rcases Nat.lt_or_ge (k+1) s.vers.length with h|h
  .exact h
  .exfalso;apply c3
   unfold AN
   have:s.vers.getLast?=some s.vers[k]:=by rw[List.getLast?_eq_getElem?,show s.vers.length-1=k by omega,List.getElem?_eq_getElem]
   rw[this];exact Bw.symm
 have hlast:=RZ hk1
 have hl:AN (s.vers.eraseIdx k)=AN s.vers:=by unfold AN;rw[hlast]
 have hm:∀v∈s.vers.eraseIdx k,v∈s.vers:=fun v hv=>List.mem_of_mem_eraseIdx hv
 have hle:(s.vers.eraseIdx k).length<=s.vers.length:=List.length_eraseIdx_le ..
 have eo:Ai {s with vers:=s.vers.eraseIdx k}=(Ai s).eraseIdx k:=by simp[Ai,List.eraseIdx_eq_take_drop_succ,List.map_take,List.map_drop]
 have hko:k<(Ai s).length:=by simpa[Ai] using hk
 have hoi:(Ai s)[k].id=id:=by simpa[Ai,Bm] using Bw
 have hheld:∀i,i≠id->Cg (Ai s) i->Cg ((Ai s).eraseIdx k) i:=fun i hi hh=>by
  obtain⟨q,hq⟩:=BW.1 hh
  exact BW.2 ⟨q,by rw[Ie hko (by rw[hoi];exact fun g=>hi g.symm)];exact hq⟩
 have hof:∀i,i≠0->i≠id->Cg (Ai s) i->AP ((Ai s).eraseIdx k) i=AP (Ai s) i:=fun i h0 hi hh=>
  (Tq (fun j=>j≠id) (fun j hj _=>(Ie hko (by rw[hoi];exact fun g=>hj g.symm)).symm) (fun j o hj _ ho=>by
    obtain⟨v,hv,rfl⟩:=List.mem_map.1 (DM ho).1
    exact c5 v hv) hi h0).symm
 have hup:(s.vers.map fun v=>v.id).Pairwise (·<·):=by rw[<-Hq,List.pairwise_map];exact a7.2.2
 have hne:∀v∈s.vers.eraseIdx k,v.id≠id:=fun v hv g=>by
  obtain⟨j,hj,rfl⟩:=List.mem_iff_getElem.1 hv
  rw[List.getElem_eraseIdx] at g
  have key:∀(j:Nat) (hj:j<s.vers.length),s.vers[j].id=id->j=k:=fun j hj g=>by
   have hp:=List.pairwise_iff_getElem.1 hup
   rcases Nat.lt_trichotomy j k with h|h|h
   .have:=hp j k (by simpa using hj) (by simpa using hk) h;simp at this;omega
   .exact h
   .have:=hp k j (by simpa using hk) (by simpa using hj) h;simp at this;omega
  split at g
  .have:=key j (by omega) g;omega
  .have:=key (j+1) (by rw[List.length_eraseIdx] at hj;split at hj<;>omega) g;omega
 have hids:∀i,i≠id->i∈s.vers.map (fun v=>v.id)->i∈(s.vers.eraseIdx k).map fun v=>v.id:=fun i hi hmem=>by
  have:=hheld i hi ((Gt s i).2 hmem)
  rw[<-eo] at this
  exact(Gt _ i).1 this
 refine⟨⟨⟨⟨a1,a2,a3,a4,fun v hv=>a5 v (hm v hv),?_,?_⟩,b,?_,?_⟩,?_⟩,?_⟩
 .show Cy (s.vers.eraseIdx k)=false
  unfold Cy;rw[hlast];exact a6
 .rw[eo]
  refine⟨by have:=a7.1;have:=List.length_eraseIdx_le (Ai s) k;omega,fun o ho=>?_,a7.2.2.sublist (List.eraseIdx_sublist _ _)⟩
  have ho' :=List.mem_of_mem_eraseIdx ho
  obtain⟨k1,k2,k3,k4,k5⟩:=a7.2.1 o ho'
  refine⟨k1,k2,k3,k4,k5.imp _root_.id fun hh=>hheld _ ?_ hh⟩
  obtain⟨v,hv,rfl⟩:=List.mem_map.1 ho'
  exact c5 v hv
 .rw[eo]
  intro o ho
  have ho' :=List.mem_of_mem_eraseIdx ho
  have hoid:o.id≠id:=by
   rw[<-eo] at ho
   obtain⟨v,hv,rfl⟩:=List.mem_map.1 ho
   exact hne v hv
  have:=(a7.2.1 o ho').1
  rw[hof o.id (by omega) hoid ⟨o,ho',rfl⟩]
  exact c o ho'
 .intro x hx
  have hd:=d x hx
  have hxp:=c4 x hx
  rw[eo]
  unfold AG at hd |-
  by_cases co:x.opn=false
  .rw[if_pos co] at hd |-;exact hd
  rw[if_neg co] at hd |-
  obtain⟨h1,h2,h3⟩:=hd
  refine⟨?_,?_,?_⟩
  .refine h1.imp _root_.id fun hh=>?_
   have:=hids x.pin hxp ((Iq _ _).1 hh)
   exact(Iq _ _).2 this
  .show if x.on=true then 0<=x.frm/\x.frm<=AN (s.vers.eraseIdx k)/\A3 x.stage else x.frm=0/\x.stage=AI
   rw[hl];exact h2
  .refine h3.imp _root_.id fun⟨g1,g2⟩=>?_
   have hh:Cg (Ai s) x.pin:=(Gt s x.pin).2 ((Iq _ _).1 (h1.resolve_left g1))
   rw[hof x.pin g1 hxp hh];exact⟨g1,g2⟩
 .obtain⟨e1,e2,e3,e4,e5⟩:=e
  have ep:Av {s with vers:=s.vers.eraseIdx k}=(Av s).eraseIdx k:=by simp[Av,List.eraseIdx_eq_take_drop_succ,List.map_take,List.map_drop]
  show CL (Av {s with vers:=s.vers.eraseIdx k}) s.blocks
  rw[ep]
  exact⟨e1,e2,by have:=List.length_eraseIdx_le (Av s) k;omega,fun x hx=>e4 x (List.mem_of_mem_eraseIdx hx),e5.sublist (List.eraseIdx_sublist _ _)⟩
 .intro i h0 hi
  rw[eo]
  obtain⟨v,hv,rfl⟩:=List.mem_map.1 hi
  exact hof _ h0 (hne v hv) ((Gt s _).2 (List.mem_map.2 ⟨v,hm v hv,rfl⟩))
theorem J2:∀(t:List Bool) (i a:Int),a<=i->((Bo t i a).map fun x=>x.2).sum=(i-a)+(t.count false:Nat)
 | [],i,a,h=>by
   simp only[Bo]
   split
   .simp
   .simp;omega
 |true::t,i,a,h=>by
  have ih:=J2 t (i+1) (i+1) (Int.le_refl _)
  simp only[Bo,List.map_append,List.sum_append,ih]
  rw[List.count_cons_of_ne (by simp)]
  split
  .simp
  .simp;omega
 |false::t,i,a,h=>by
  have ih:=J2 t (i+1) a (by omega)
  simp only[Bo,ih,List.count_cons_self]
  omega
theorem I0:∀(t:List Bool) (i a:Int),a<=i->∀x∈Bo t i a,∀j:Nat,x.1<=i+j->i+j<x.1+x.2->t[j]?=some false
 | [],i,a,h,x,hx,j,h1,h2=>by
   simp only[Bo] at hx
   split at hx
   .simp at hx;subst hx;simp at h1 h2;omega
   .simp at hx
 |true::t,i,a,h,x,hx,j,h1,h2=>by
  simp only[Bo,List.mem_append] at hx
  rcases hx with hx|hx
  .split at hx
   .simp at hx;subst hx;simp at h1 h2;omega
   .simp at hx
  .have hp:=FV t (i+1) (i+1) (Int.le_refl _) x hx
   cases j with
   |zero=>omega
   |succ j=>simpa using I0 t (i+1) (i+1) (Int.le_refl _) x hx j (by omega) (by omega)
 |false::t,i,a,h,x,hx,j,h1,h2=>by
  simp only[Bo] at hx
  cases j with
  |zero=>rfl
  |succ j=>simpa using I0 t (i+1) a (by omega) x hx j (by omega) (by omega)
theorem JA {l:List (Int×Int)} {n:Nat} {a:Int} (ha:0<=a):∀(k:Nat),(∀i:Int,a<=i->i<a+k->C6 l i=false)->a+k<=n->(CB l n a (a+k)).count false+k=(BE l n).count false
 |0,_,_=>by simp[Oy]
 |k+1,hf,hn=>by
  have ih:=JA (l:=l) (n:=n) ha k (fun i h1 h2=>hf i h1 (by omega)) (by omega)
  obtain⟨i,hi⟩:∃i:Nat,(i:Int)=a+k:=⟨(a+k).toNat,by omega⟩
  have hin:i<n:=by omega
  have hs:=Ln l n i a (by omega) hin
  have hg:=Ll (l:=l) (a:=a) hin
  rw[hf i (by omega) (by omega)] at hg
  rw[<-hi] at ih
  have e:a+((k+1:Nat):Int)=(i:Int)+1:=by omega
  rw[e,<-hs]
  have hlen:i<(CB l n a i).length:=by simpa using hin
  have hc:=List.count_set (a:=true) (b:=false) (l:=CB l n a i) hlen
  rw[hg] at hc
  simp at hc
  have hpos:0<(CB l n a i).count false:=List.count_pos_iff.2 (by rw[<-hg];exact List.getElem_mem _)
  omega
theorem K9 {n:Nat}:∀(k:Nat) (l:List (Int×Int)),l.length=k->Js l n->((BE l n).count false:Int)=n-(l.map fun x=>x.2).sum
 |0,l,hl,_=>by
  have:l=[]:=List.length_eq_zero_iff.1 hl
  subst this
  have:BE [] n=List.replicate n false:=List.ext_getElem (by simp) fun j _ _=>by simp[BE,C6]
  rw[this];simp
 |k+1,l,hl,hp=>by
  have hk:k<l.length:=by omega
  have e:l=l.take k++[l[k]]:=by
   have:=List.take_succ_eq_append_getElem hk
   rw[List.take_of_length_le (by omega)] at this;exact this
  obtain⟨m,hm⟩:∃m,m=l.take k:=⟨_,rfl⟩
  obtain⟨x,hx⟩:∃x,x=l[k]:=⟨_,rfl⟩
  rw[<-hm,<-hx] at e
  have hml:m.length=k:=by rw[hm];simp;omega
  rw[e] at hp |-
  obtain⟨p1,p2,p3⟩:=KB.1 hp
  have ih:=K9 k m hml p1
  have hc:=JA (l:=m) (n:=n) (a:=x.1) p2.1 x.2.toNat (fun i h1 h2=>p3 i h1 (by omega)) (by omega)
  rw[show x.1+(x.2.toNat:Int)=x.1+x.2 by omega,Lm] at hc
  simp only[List.map_append,List.sum_append,List.map_cons,List.map_nil,List.sum_cons,List.sum_nil]
  omega
theorem XK {l:List (Int×Int)} {n:Int} (h:CL l n):RS l n=(n-(l.map fun x=>x.2).sum,0):=by
 obtain⟨h1,h2,h3,h4,h5⟩:=h
 unfold RS
 rw[if_pos ⟨h1,h2,h3,h4,h5⟩,J2 _ _ _ (Int.le_refl _),K9 l.length l rfl ⟨fun x hx=>by have:=h4 x hx;omega,h5⟩]
 congr 1;omega
theorem TH {l:List (Int×Int)} {b n a:Int} (h:DW l b n=(a,0)):1<=n/\0<=a/\a+n<=b/\∀i,a<=i->i<a+n->C6 l i=false:=by
 unfold DW at h
 split at h
 .rename_i hp
  split at h
  .rename_i x hx
   simp at h;subst h
   have hm:=List.mem_of_find?_eq_some hx
   have hn:=List.find?_some hx
   simp only[decide_eq_true_eq] at hn
   have hps:=FV _ _ _ (Int.le_refl _) x hm
   simp at hps
   have hb:=hp.1.1
   refine⟨hp.2.1,by omega,by omega,fun i h1 h2=>?_⟩
   have:=I0 _ _ _ (Int.le_refl _) x hm i.toNat (by omega) (by omega)
   have hi:i.toNat<b.toNat:=by omega
   simp[BE,hi] at this
   have e:i=max i 0:=by omega
   rw[e];exact this
  .simp at h
 .simp at h
theorem Ra {s:An} (h:Ca (Ai s)):(s.vers.map fun v=>v.id).Pairwise (·<·):=by rw[<-Hq,List.pairwise_map];exact h.2.2
def fL (s:An) (o:Obj) (p a:Int):An:={s with vers:=s.vers++[⟨o.id,p,o.base,o.data,a,false,false⟩]}
theorem TJ {s:An} (h:A2 s) (h0:AN s.vers≠0):∃v∈s.vers,v.id=AN s.vers/\s.vers.getLast?=some v/\v.gone=false:=by
 have hg:=h.1.1.2.2.2.2.2.1
 unfold AN Cy at*
 cases e:s.vers.getLast? with
 |none=>rw[e] at h0;simp at h0
 |some v=>rw[e] at hg;exact⟨v,List.mem_of_getLast? e,rfl,rfl,hg⟩
theorem TK {s:An} (h:A2 s) (h0:AN s.vers≠0):AN s.vers∈A4 s true:=by
 obtain⟨v,hv,e,hl,hg⟩:=TJ h h0
 rw[L3]
 refine⟨v,hv,?_,e⟩
 have hk:=h.1.1.1
 have hs:(CT s.vers).getLast?=some v.id:=by
  obtain⟨ys,e2⟩:=List.getLast?_eq_some_iff.1 hl
  rw[e2,CT,List.filter_append,List.map_append]
  simp[hg]
 have hm:v.id∈Ea s:=by
  unfold Ea
  have hne:0<(CT s.vers).length:=by
   cases hq:CT s.vers with
   |nil=>rw[hq] at hs;simp at hs
   |cons _ _=>simp
  rw[List.getLast?_eq_getElem?] at hs
  exact List.mem_of_getElem? (i:=(CT s.vers).length-1-(max 0 (((CT s.vers).length:Int)-s.keep)).toNat) (by
   rw[List.getElem?_drop,<-hs];congr 1;omega)
 unfold Dp
 have:(Ea s).contains v.id=true:=by simpa using hm
 rw[this];simp
theorem Is (s:An) (i:Int):i∈A4 s false↔∃v∈s.vers,Dp s v=false/\v.id=i:=by
 simp[A4,CU,and_assoc]
theorem Vw {s:An} (h:A2 s) {i:Int} (hi:i∈A4 s false):¬i∈A4 s true:=by
 rw[Is] at hi
 rw[L3]
 obtain⟨v,hv,k1,e1⟩:=hi
 rintro⟨u,hu,k2,e2⟩
 obtain⟨a,ha,rfl⟩:=List.mem_iff_getElem.1 hv
 obtain⟨b,hb,rfl⟩:=List.mem_iff_getElem.1 hu
 have:=Q1 h ha hb (by rw[e1,e2])
 subst this
 rw[k1] at k2;simp at k2
theorem J3 {l:List Obj} (hp:l.Pairwise fun a b=>a.id<b.id) {i:Nat} (hi:i<l.length) {o:Obj} (ho:o.id=l[i].id) (j:Int):A7 (l.set i o) j=if j=o.id then some o else A7 l j:=by
 have e:l=l.take i++l[i]::l.drop (i+1):=by rw[<-List.drop_eq_getElem_cons hi,List.take_append_drop]
 have e2:l.set i o=l.take i++o::l.drop (i+1):=by rw[List.set_eq_take_append_cons_drop,if_pos hi]
 have hn:∀q∈l.take i,q.id≠o.id:=fun q hq g=>by
  obtain⟨k,hk,rfl⟩:=List.mem_iff_getElem.1 hq
  simp only[List.length_take] at hk
  have:=List.pairwise_iff_getElem.1 hp k i (by omega) hi (by omega)
  simp at g;omega
 by_cases h:j=o.id
 .rw[if_pos h,e2]
  unfold A7
  have h1:(l.take i).find? (fun q=>decide (q.id=j))=none:=List.find?_eq_none.2 fun q hq=>by simpa[h] using hn q hq
  rw[List.find?_append,h1,List.find?_cons,decide_eq_true h.symm];rfl
 .rw[if_neg h,e2]
  conv=>rhs;rw[e]
  unfold A7
  rw[List.find?_append,List.find?_append,List.find?_cons,List.find?_cons,decide_eq_false (fun g=>h g.symm),decide_eq_false (fun g=>h (by rw[ho];exact g.symm))]
theorem I2 {l:List Obj} (hp:l.Pairwise fun a b=>a.id<b.id) {i:Nat} (hi:i<l.length):A7 l l[i].id=some l[i]:=by
 have:=J3 hp hi (o:=l[i]) rfl l[i].id
 rwa [List.set_getElem_self,if_pos rfl] at this
theorem EB {l:List Obj} {j:Int} {o:Obj} (h:A7 l j=some o) (h0:j≠0) (hd:(AE l j).2=0):1<=(AE l j).1/\(AE l j).1<=3:=by
 unfold AE at hd |-
 rw[h] at hd |-
 simp only at hd |-
 by_cases c:3<(AQ l 4 j).length
 .rw[if_pos c] at hd;simp at hd
 .rw[if_neg c]
  simp only
  rw[Mi h h0 3] at c |-
  simp at c |-;omega
theorem I3 {l:List Obj} (hl:Ca l) (hall:∀o∈l,(AP l o.id).2=0) (id:Int):∀(n:Nat) (j:Int),Cg l j->0<=AL (fun o:Obj=>decide (o.id=id)) (AQ l n j)->(AE l j).1=AL (fun o:Obj=>decide (o.id=id)) (AQ l n j)+(AE l id).1
 |0,j,_,h=>by simp[AQ,AL] at h
 |n+1,j,hj,h=>by
  obtain⟨o,ho⟩:=BW.1 hj
  obtain⟨hm,hi⟩:=DM ho
  have hpos:=(hl.2.1 o hm).1
  have h0:j≠0:=by omega
  rw[Mi ho h0] at h |-
  unfold AL at h |-
  rw[List.findIdx?_cons] at h |-
  by_cases c:o.id=id
  .rw[decide_eq_true c];simp[<-c,hi]
  .rw[decide_eq_false c] at h |-
   simp only[Bool.false_eq_true,if_false] at h |-
   by_cases hb:o.base=0
   .rw[hb,WO] at h;simp at h
   .have hh:=(hl.closed o hm).resolve_left hb
    have hd:=Dr (hall o hm)
    rw[hi] at hd
    have h2:=(DR ho h0 hh).2 hd
    have ih:=I3 hl hall id n o.base hh
    unfold AL at ih
    cases e:(AQ l n o.base).findIdx? fun o=>decide (o.id=id) with
    |none=>rw[e] at h;simp at h
    |some k=>
     rw[e] at ih
     simp only[Option.map_some] at ih |-
     have:=ih (by omega)
     omega
section
variable {l:List Obj} {i:Nat} {q:Obj}
theorem HU (hl:Ca l) (hall:∀o∈l,(AP l o.id).2=0) (hi:i<l.length) (hb:l[i].base≠0) (hq:A7 l l[i].base=some q):(AE l l[i].id).2=0/\(AE l l[i].id).1<=3/\(q.base=0->(AE l l[i].id).1=2)/\(q.base≠0->Cg l q.base/\(AE l q.base).2=0/\1<=(AE l q.base).1/\(AE l l[i].id).1=(AE l q.base).1+2):=by
 have hm:=List.getElem_mem hi
 have hpos:=(hl.2.1 _ hm).1
 obtain⟨qm,qi⟩:=DM hq
 have qpos:=(hl.2.1 q qm).1
 have hf:=I2 hl.2.2 hi
 have hd:=Dr (hall _ hm)
 have hdq:=Dr (hall _ qm)
 have hp:=EB hf (by omega) hd
 have h1:=(DR hf (by omega) ⟨q,qm,qi⟩).2 hd
 refine⟨hd,hp.2,fun h=>?_,fun h=>?_⟩
 .have:=(EA hq (by omega) h).1
  rw[this] at h1;simpa using h1
 .have hh:=(hl.closed q qm).resolve_left h
  rw[qi] at hdq
  have h2:=(DR hq (by omega) hh).2 hdq
  obtain⟨r,hr⟩:=BW.1 hh
  obtain⟨rm,ri⟩:=DM hr
  have rpos:=(hl.2.1 r rm).1
  have hdr:=Dr (hall _ rm)
  rw[ri] at hdr
  have:=EB hr h hdr
  exact⟨hh,hdr,this.1,by omega⟩
theorem Sa (hl:Ca l) (hall:∀o∈l,(AP l o.id).2=0) (hi:i<l.length) (hb:l[i].base≠0) (hq:A7 l l[i].base=some q) (n:Nat):(q.base≠0->AL (fun o:Obj=>decide (o.id=l[i].id)) (AQ l n q.base)<0)/\∀o∈l,AL (fun o:Obj=>decide (o.id=l[i].id)) (AQ l n o.id)+(if q.base=0 then 1 else(AE l q.base).1+1)<=3:=by
 obtain⟨d1,d2,d3,d4⟩:=HU hl hall hi hb hq
 have hge:∀w:List Obj,-1<=AL (fun o:Obj=>decide (o.id=l[i].id)) w:=fun w=>by unfold AL;split<;>omega
 refine⟨fun h=>?_,fun o ho=>?_⟩
 .obtain⟨k1,k2,k3,k4⟩:=d4 h
  rcases Int.lt_or_le (AL (fun o:Obj=>decide (o.id=l[i].id)) (AQ l n q.base)) 0 with g|g
  .exact g
  .have:=I3 hl hall l[i].id n q.base k1 g;omega
 .have hpos:=(hl.2.1 o ho).1
  have hd:=Dr (hall o ho)
  obtain⟨o',ho'⟩:=BW.1 (show Cg l o.id from ⟨o,ho,rfl⟩)
  have hp:=EB ho' (by omega) hd
  have:=hge (AQ l n o.id)
  rcases Int.lt_or_le (AL (fun o:Obj=>decide (o.id=l[i].id)) (AQ l n o.id)) 0 with g|g
  .split
   .omega
   .rename_i h;have:=d4 h;omega
  .have:=I3 hl hall l[i].id n o.id ⟨o,ho,rfl⟩ g
   split
   .rename_i h;have:=d3 h;omega
   .rename_i h;have:=d4 h;omega
def Ep (l:List Obj) (o:Obj) (b:Int):Obj:=⟨o.id,b,GS l b (AP l o.id).1⟩
theorem La (hl:Ca l) (hall:∀o∈l,(AP l o.id).2=0) (hi:i<l.length) (hb:l[i].base≠0) (hq:A7 l l[i].base=some q):Ca (l.set i (Ep l l[i] q.base))/\∀j,Cg l j->AP (l.set i (Ep l l[i] q.base)) j=AP l j:=by
 obtain⟨d1,d2,d3,d4⟩:=HU hl hall hi hb hq
 have hm:=List.getElem_mem hi
 have hme:=hl.2.1 _ hm
 have hf:=I2 hl.2.2 hi
 obtain⟨o',ho'⟩:∃o',o' =Ep l l[i] q.base:=⟨_,rfl⟩
 have oi:o'.id=l[i].id:=by rw[ho'];rfl
 have ob:o'.base=q.base:=by rw[ho'];rfl
 have od:o'.data=GS l q.base (AP l l[i].id).1:=by rw[ho'];rfl
 rw[<-ho']
 obtain⟨x,hx⟩:∃x,x=l.set i o' :=⟨_,rfl⟩
 have hset:=J3 hl.2.2 hi (o:=o') oi
 rw[<-hx,oi] at hset
 rw[<-hx]
 have hids:x.map (fun o=>o.id)=l.map fun o=>o.id:=by
  rw[hx,List.map_set]
  refine List.ext_getElem? fun j=>?_
  rw[List.getElem?_set]
  split
  .rename_i h;subst h;simp[hi,oi]
  .rfl
 have hheld:∀j,Cg x j↔Cg l j:=fun j=>by
  have:∀m:List Obj,Cg m j↔j∈m.map fun o=>o.id:=fun m=>by simp[Cg]
  rw[this,this,hids]
 have key:∀(n:Nat) (j:Int),Cg l j->(AE l j).1<=n->AP x j=AP l j/\(AE x j).2=0/\(AE x j).1<=(AE l j).1:=by
  intro n
  induction n with
  |zero=>
   intro j hj hn
   obtain⟨p,hp⟩:=BW.1 hj
   obtain⟨pm,pi⟩:=DM hp
   have:=(hl.2.1 p pm).1
   have hd:=Dr (hall p pm)
   rw[pi] at hd
   have:=EB hp (by omega) hd
   omega
  |succ n ih=>
   intro j hj hn
   obtain⟨p,hp⟩:=BW.1 hj
   obtain⟨pm,pi⟩:=DM hp
   have ppos:=(hl.2.1 p pm).1
   have j0:j≠0:=by omega
   have hd:=Dr (hall p pm)
   have hok:=hall p pm
   rw[pi] at hd hok
   have hs:=hset j
   by_cases c:j=l[i].id
   .have hs:A7 x j=some o' :=by rw[hs,if_pos c]
    have hg:AP l j=((AP l l[i].id).1,0):=by rw[c];exact Prod.ext rfl (hall _ hm)
    by_cases hb0:q.base=0
    .obtain⟨e1,e2⟩:=EA hs j0 (by rw[ob];exact hb0)
     rw[e1]
     refine⟨?_,rfl,by have:=EB hp j0 hd;simp only;omega⟩
     rw[e2,hg]
     rw[od]
     simp only[hb0,GS,if_true]
     rw[Md,RX (Dc _ _)]
    .obtain⟨k1,k2,k3,k4⟩:=d4 hb0
     rw[<-c] at k4
     obtain⟨g1,g2,g3⟩:=ih q.base k1 (by omega)
     have hd3:(AE l j).1<=3:=by rw[c];exact d2
     have hhx:Cg x o'.base:=by rw[ob];exact(hheld q.base).2 k1
     have hdb:=DR hs j0 hhx
     have hdx:=hdb.1.2 (by rw[ob];exact⟨g2,by omega⟩)
     have hdy:=hdb.2 hdx
     rw[ob] at hdy
     refine⟨?_,hdx,by omega⟩
     rw[Mj hs j0 (by rw[ob];exact hb0) hhx hdx,ob,od]
     have hqok:(AP l q.base).2=0:=by
      obtain⟨r,rm,ri⟩:=k1
      rw[<-ri];exact hall r rm
     rw[g1,if_pos hqok,hg]
     simp only[GS,if_neg hb0]
     rw[Md,RY (Dc _ _) (Dc _ _)]
   .have hs:A7 x j=some p:=by rw[hs,if_neg c];exact hp
    by_cases hb0:p.base=0
    .obtain⟨e1,e2⟩:=EA hs j0 hb0
     obtain⟨e3,e4⟩:=EA hp j0 hb0
     rw[e1,e2,e3,e4]
     exact⟨rfl,rfl,Int.le_refl _⟩
    .have hh:=(hl.closed p pm).resolve_left hb0
     have hdl:=(DR hp j0 hh).2 hd
     have hdl1:=(DR hp j0 hh).1.1 hd
     obtain⟨g1,g2,g3⟩:=ih p.base hh (by omega)
     have hhx:=(hheld p.base).2 hh
     have hdb:=DR hs j0 hhx
     have hdx:=hdb.1.2 ⟨g2,by omega⟩
     have hdy:=hdb.2 hdx
     refine⟨?_,hdx,by omega⟩
     rw[Mj hs j0 hb0 hhx hdx,Mj hp j0 hb0 hh hd,g1]
 refine⟨⟨by rw[hx];simp;exact hl.1,fun o ho=>?_,?_⟩,fun j hj=>(key (AE l j).1.toNat j hj (by omega)).1⟩
 .rw[hx] at ho
  have hcl:∀b,b=0\/Cg l b->b=0\/∃r∈x,r.id=b:=fun b h=>h.imp id fun h=>(hheld b).2 h
  rcases List.mem_or_eq_of_mem_set ho with h|h
  .obtain⟨k1,k2,k3,k4,k5⟩:=hl.2.1 o h
   exact⟨k1,k2,k3,k4,hcl _ k5⟩
  .subst h
   rw[oi,ob,od]
   refine⟨hme.1,hme.2.1,(TF _ (Dc _ _)).2,?_,hcl _ ?_⟩
   .intro e
    have hne:q.base≠0:=by omega
    have:=(d4 hne).2.2.2
    rw[e] at this;omega
   .by_cases h:q.base=0
    .exact .inl h
    .exact .inr (d4 h).1
 .have:(l.map fun o=>o.id).Pairwise (·<·):=List.pairwise_map.2 hl.2.2
  rw[<-hids] at this
  exact List.pairwise_map.1 this
end
def DS (l:List Obj) (b:Int):Int:=match A7 l b with|some q=>q.base|none=>0
def BJ (s:An) (k id:Int):An×Int:=
 if¬(k=1\/k=2) then(A6,1) else if AL (fun v=>decide (v.id=id)) s.vers<0 then(A6,3) else if k=1 then Dd s id else
 match s.vers[(AL (fun v=>decide (v.id=id)) s.vers).toNat]? with
 |none=>(A6,6)
 |some v=>if v.base=0 then(A6,6) else E6 s (Ep (Ai s) (Bm v) (DS (Ai s) v.base)) 0
def B2 (s:An) (id:Int):Int×Int:=match s.vers.find? fun v=>decide (v.base=id) with|some v=>(2,v.id) |none=>(1,id)
def AB (s:An):Int×Int:=match (A4 s false).find? fun id=>decide ((BJ s (B2 s id).1 (B2 s id).2).2=0) with|some id=>B2 s id|none=>(0,0)
def B0 (s:An):Nat->List An
 |0=> []
 |n+1=>if (AB s).1=0 then [] else(BJ s (AB s).1 (AB s).2).1::B0 (BJ s (AB s).1 (AB s).2).1 n
theorem TL {l:List (Int×Int)} {b n a:Int} {i:Nat} (h:DW l b n=(a,0)) (hp:CL l b):CL (l.set i (a,n)) b:=by
 obtain⟨h1,h2,h3,h4⟩:=TH h
 obtain⟨p1,p2,p3,p4,p5⟩:=hp
 have hap:=(Jr (l:=l) (x:=(a,n)) (fun y hy=>(p4 y hy).2.1) h1).2 ⟨p5,h4⟩
 rw[List.pairwise_append] at hap
 have hy:∀y∈l,apart y (a,n):=fun y hy=>hap.2.2 y hy _ (by simp)
 have hsy:∀x y:Int×Int,apart x y->apart y x:=fun x y h g=>h ⟨g.2,g.1⟩
 refine⟨p1,p2,by simpa using p3,fun x hx=>?_,List.pairwise_iff_getElem.2 fun j k hj hk hjk=>?_⟩
 .rcases List.mem_or_eq_of_mem_set hx with hx|hx
  .exact p4 x hx
  .subst hx;exact⟨h2,h1,h3⟩
 .simp only[List.length_set] at hj hk
  rw[List.getElem_set,List.getElem_set]
  split
  .split
   .omega
   .exact hsy _ _ (hy _ (List.getElem_mem hk))
  .split
   .exact hy _ (List.getElem_mem hj)
   .exact List.pairwise_iff_getElem.1 p5 j k hj hk hjk
theorem It {s:An} (h:Ca (Ai s)) {i:Nat} (hi:i<s.vers.length):AL (fun v=>decide (v.id=s.vers[i].id)) s.vers=(i:Int):=by
 refine Ei hi (by simp) fun j hj hlt=>?_
 have:=List.pairwise_iff_getElem.1 (Ra h) j i (by simpa using hj) (by simpa using hi) hlt
 simp at this |-;omega
theorem I4 {s:An} (h:A2 s) {i:Nat} (hi:i<s.vers.length) (hb:s.vers[i].base≠0):
 Ej s (Ep (Ai s) (Bm s.vers[i]) (DS (Ai s) s.vers[i].base)) 0=E6 s (Ep (Ai s) (Bm s.vers[i]) (DS (Ai s) s.vers[i].base)) 0/\
 (E6 s (Ep (Ai s) (Bm s.vers[i]) (DS (Ai s) s.vers[i].base)) 0=(A6,5)\/∃y a,E6 s (Ep (Ai s) (Bm s.vers[i]) (DS (Ai s) s.vers[i].base)) 0=(y,0)/\A2 y/\
   y={s with vers:=s.vers.set i {s.vers[i] with base:=DS (Ai s) s.vers[i].base,data:=GS (Ai s) (DS (Ai s) s.vers[i].base) (AP (Ai s) s.vers[i].id).1,at_:=a}}/\
   (∀j,AP (Ai y) j=AP (Ai s) j\/¬Cg (Ai s) j)):=by
 have hmy:=h.1.1.2.2.2.2.2.2
 have hall:=h.1.2.2.1
 have hio:i<(Ai s).length:=by simpa[Ai] using hi
 have eo:(Ai s)[i]=Bm s.vers[i]:=by simp[Ai]
 have hbo:(Ai s)[i].base≠0:=by rw[eo];exact hb
 obtain⟨q,hq⟩:=BW.1 ((hmy.closed _ (List.getElem_mem hio)).resolve_left hbo)
 have hqb:DS (Ai s) s.vers[i].base=q.base:=by
  rw[eo] at hq;unfold DS
  have:A7 (Ai s) s.vers[i].base=some q:=hq
  rw[this]
 obtain⟨r1,r2⟩:=La hmy hall hio hbo hq
 rw[eo] at r1 r2
 rw[hqb]
 obtain⟨o,ho⟩:∃o,o=Ep (Ai s) (Bm s.vers[i]) q.base:=⟨_,rfl⟩
 rw[<-ho] at r1 r2 |-
 have oi:o.id=s.vers[i].id:=by rw[ho];rfl
 have hidx:AL (fun v=>decide (v.id=o.id)) s.vers=(i:Int):=by rw[oi];exact It hmy hi
 have hheld:∀j,Cg ((Ai s).set i o) j↔Cg (Ai s) j:=fun j=>by
  have e:((Ai s).set i o).map (fun o=>o.id)=(Ai s).map fun o=>o.id:=by
   rw[List.map_set]
   refine List.ext_getElem? fun j=>?_
   rw[List.getElem?_set]
   split
   .rename_i h;subst h;simp[hio,oi,eo,Bm]
   .rfl
  have:∀m:List Obj,Cg m j↔j∈m.map fun o=>o.id:=fun m=>by simp[Cg]
  rw[this,this,e]
 have hml:J0 s o 0:=by
  refine⟨(Ai s).set i o,by unfold Ec;rw[hidx,if_neg (by omega)];simp,r1,fun k hk=>?_,fun x hx=>?_⟩
  .have hh:=(hheld ((Ai s).set i o)[k].id).1 ⟨_,List.getElem_mem hk,rfl⟩
   rw[r2 _ hh]
   obtain⟨p,pm,pi⟩:=hh
   rw[<-pi];exact hall p pm
  .have hx2:=h.1.2.2.2 x hx
   unfold AG at hx2 |-
   by_cases co:x.opn=false
   .rw[if_pos co] at hx2 |-;exact hx2
   rw[if_neg co] at hx2 |-
   refine⟨hx2.1,hx2.2.1,hx2.2.2.imp id fun⟨g1,g2⟩=>⟨g1,?_⟩⟩
   rw[r2 _ ((Gt s x.pin).2 ((Iq _ _).1 (hx2.1.resolve_left g1)))];exact g2
 have hlp:=(Vt s o 0 h).1 hml
 have hls:Pe s o 0=Ej s o 0:=by unfold Pe;rw[if_pos h]
 rw[hls] at hlp
 refine⟨hlp,?_⟩
 have er:CV s o 0=(s.vers,i):=by unfold CV;rw[hidx,if_neg (by omega)];simp
 have elv:EW s o 0=some (s.vers,i):=by unfold EW;rw[hidx,if_neg (by omega)];simp
 have ep:Dq s.vers i o=s.vers.set i {s.vers[i] with base:=o.base,data:=o.data}:=KL hi
 have ea:∀a,Jw (Dq s.vers i o) i a=s.vers.set i {s.vers[i] with base:=o.base,data:=o.data,at_:=a}:=fun a=>by
  rw[ep,To (by simpa using hi)];simp
 by_cases c:FD (Av s) s.blocks (Cl o.data)<0
 .left;unfold E6;rw[if_pos c]
 .right
  have e1:E6 s o 0=({s with vers:=s.vers.set i {s.vers[i] with base:=o.base,data:=o.data,at_:=FD (Av s) s.blocks (Cl o.data)}},0):=by
   unfold E6;rw[if_neg c,er];simp only;rw[ea]
  rw[e1] at hlp |-
  obtain⟨a,haf⟩:∃a,a=FD (Av s) s.blocks (Cl o.data):=⟨_,rfl⟩
  rw[<-haf] at hlp |-
  have hmost:Ey {s with vers:=Dq s.vers i o}/\Di o.data:=by
   unfold Ej at hlp
   rw[elv] at hlp
   simp only at hlp
   split at hlp
   .rename_i g;exact⟨g.2,g.1⟩
   .simp at hlp
  have hn:1<=Cl o.data/\Cl o.data<=100:=by
   obtain⟨b1,b2,b3,_⟩:=hmost.2
   unfold Cl;omega
  obtain⟨f1,f2⟩:=NR h.2 hn
  have hfind:DW (Av s) s.blocks (Cl o.data)=(a,0):=Prod.ext (by rw[f2 c,haf]) (f1.2 c)
  have eobj:Ai {s with vers:=s.vers.set i {s.vers[i] with base:=o.base,data:=o.data,at_:=a}}=(Ai s).set i o:=by
   unfold Ai
   simp only[List.map_set]
   congr 1
   cases o;simp[Bm] at oi |-;exact oi.symm
  refine⟨_,a,rfl,⟨?_,?_⟩,?_,?_⟩
  .refine Tr (s:={s with vers:=Dq s.vers i o}) hmost.1 ?_ ?_ ?_ rfl rfl ⟨h.1.1.2.2.1,h.1.1.2.2.2.1⟩
   .simp only[ep,List.map_set];rfl
   .intro v hv
    simp only[ep] at hv |-
    rcases List.mem_or_eq_of_mem_set hv with g|g
    .obtain⟨k,hk,rfl⟩:=List.mem_iff_getElem.1 g
     by_cases e:i=k
     .subst e
      exact⟨_,List.mem_iff_getElem.2 ⟨i,by simpa using hi,List.getElem_set_self _⟩,rfl,rfl,rfl,rfl⟩
     .exact⟨_,List.mem_iff_getElem.2 ⟨k,by simpa using hk,List.getElem_set_ne e _⟩,rfl,rfl,rfl,rfl⟩
    .subst g
     exact⟨_,List.mem_iff_getElem.2 ⟨i,by simpa using hi,List.getElem_set_self _⟩,rfl,rfl,rfl,rfl⟩
   .have:=hmost.1.1.2.2.2.2.2.1
    rw[<-this,ep]
    refine J1 _ _ ?_
    simp only[List.map_set]
  .have e2:Av {s with vers:=s.vers.set i {s.vers[i] with base:=o.base,data:=o.data,at_:=a}}=(Av s).set i (a,Cl o.data):=by simp[Av,List.map_set]
   rw[e2]
   exact TL hfind h.2
  .rw[ho];rfl
  .intro j
   rw[eobj]
   by_cases hh:Cg (Ai s) j
   .exact .inl (r2 j hh)
   .exact .inr hh
theorem Pk {s:An} {k id:Int} (h:A2 s) (he:(BJ s k id).2=0):A2 (BJ s k id).1/\(BJ s k id).1.sess=s.sess/\(BJ s k id).1.blocks=s.blocks/\(BJ s k id).1.keep=s.keep/\
 (∀j,j∈(BJ s k id).1.vers.map (fun v=>v.id)->j∈s.vers.map fun v=>v.id)/\∀j,j≠0->j∈(BJ s k id).1.vers.map (fun v=>v.id)->AP (Ai (BJ s k id).1) j=AP (Ai s) j:=by
 unfold BJ at he |-
 by_cases c1:¬(k=1\/k=2)
 .rw[if_pos c1] at he;simp at he
 rw[if_neg c1] at he |-
 by_cases c2:AL (fun v=>decide (v.id=id)) s.vers<0
 .rw[if_pos c2] at he;simp at he
 rw[if_neg c2] at he |-
 by_cases c3:k=1
 .rw[if_pos c3] at he |-
  obtain⟨t1,t2⟩:=Vv h he
  refine⟨t1,?_⟩
  have e:Dd s id=({s with vers:=s.vers.eraseIdx (AL (fun v=>decide (v.id=id)) s.vers).toNat},0):=by
   unfold Dd at he |-
   rw[if_neg c2] at he |-
   split
   .rename_i g;rw[if_pos g] at he;simp at he
   .rfl
  refine⟨by rw[e],by rw[e],by rw[e],fun j hj=>?_,t2⟩
  rw[e] at hj
  obtain⟨v,hv,rfl⟩:=List.mem_map.1 hj
  exact List.mem_map.2 ⟨v,List.mem_of_mem_eraseIdx hv,rfl⟩
 rw[if_neg c3] at he |-
 obtain⟨hk,Bw⟩:=KO c2
 rw[List.getElem?_eq_getElem hk] at he |-
 simp only at he |-
 by_cases c4:s.vers[(AL (fun v=>decide (v.id=id)) s.vers).toNat].base=0
 .rw[if_pos c4] at he;simp at he
 rw[if_neg c4] at he |-
 obtain⟨_,r| ⟨y,a,r1,r2,r3,r4⟩⟩:=I4 h hk c4
 .rw[r] at he;simp at he
 .rw[r1]
  simp only
  have hids:y.vers.map (fun v=>v.id)=s.vers.map fun v=>v.id:=by
   rw[r3]
   simp only[List.map_set]
   refine List.ext_getElem? fun j=>?_
   rw[List.getElem?_set]
   split
   .rename_i h;subst h;simp[hk]
   .rfl
  refine⟨r2,by rw[r3],by rw[r3],by rw[r3],fun j hj=>by rw[<-hids];exact hj,fun j _ hj=>?_⟩
  rcases r4 j with g|g
  .exact g
  .exact absurd ((Gt s j).2 (by rw[<-hids];exact hj)) g
theorem J4 {s:An} (h:(AB s).1≠0):(BJ s (AB s).1 (AB s).2).2=0:=by
 unfold AB at h |-
 cases e:(A4 s false).find? fun id=>decide ((BJ s (B2 s id).1 (B2 s id).2).2=0) with
 |none=>rw[e] at h;simp at h
 |some id=>simpa using List.find?_some e
theorem Rb:∀(n:Nat) (s:An),(B0 s n).length<=n
 |0,_=>by simp[B0]
 |n+1,s=>by
  rw[B0]
  split
  .simp
  .have:=Rb n (BJ s (AB s).1 (AB s).2).1
   simp;omega
theorem Vx (o:Obj) (id:Int):Aa pg 211 ([.agg (As o)]++[.rptr [.int .i64 id]]) [] (fun r _=>r= .bool (decide (o.id=id))):=by
 refine Aa.start (fn:=Tryz.f211) [.tmp 3] tk rfl rfl rfl (by kernel_rfl) (Nat.le_of_ble_eq_true rfl) rfl (by kernel_rfl) ?_
 simp only[List.cons_append,List.nil_append]
 rw[At]
 refine z1 ?_;intro K hK;refine zk ?_;clear hK K
 refine zs ?_
 exact zR
theorem XL (xs:List Obj) (a id:Int) (hx:En xs) (hl:xs.length<=1000) (hb:∀o∈xs,o.base=0\/∃q∈xs,q.id=o.base) (ha:a=0\/∃q∈xs,q.id=a):Aa pg 174 [.ro xs.length (Ac As xs),.int .i64 a,.int .i64 id] [] (fun r _=>r= .int .i64 (AL (fun o=>decide (o.id=id)) (AQ xs xs.length a))):=by
 have hw:=IF xs xs.length a
 have spW:=SU xs a xs.length hx hl hb ha
 obtain⟨w,hwd⟩:∃w,w=AQ xs xs.length a:=⟨_,rfl⟩
 rw[<-hwd] at hw spW |-
 refine Aa.start (fn:=Tryz.f174) [.tmp 6] tk rfl rfl rfl (by kernel_rfl) (Nat.le_of_ble_eq_true rfl) rfl (by kernel_rfl) ?_
 rw[Bl]
 refine z1 ?_;intro K hK;refine zk ?_;clear hK K
 refine z0 ?_;intro K hK
 refine Ab.eq spW (by simp) (by simp) ?_
 refine zx ?_
 refine Ab.eq (MP w 211 [.rptr [.int .i64 id]] (fun o=>decide (o.id=id)) (by omega) (fun o _=>Vx o id) (by simp)) (by simp) (by simp) ?_
 refine zx ?_
 refine zk ?_;clear hK K
 exact zR
theorem Vy (xs:List Obj) (hx:xs.length<1000000000):Aa pg 176 [.ro xs.length (Ac As xs)] [] (fun r _=>r= .own 4 xs.length (Ac As xs)):=by
 refine Aa.start (fn:=Tryz.f176) [.tmp 2] tk rfl rfl rfl (by kernel_rfl) (Nat.le_of_ble_eq_true rfl) rfl (by kernel_rfl) ?_
 rw[Ay]
 refine zs ?_
 refine z0 ?_;intro K hK
 refine⟨fun h=>?_,fun h=>⟨?_,?_⟩⟩
 .refine zk ?_;clear hK K
  refine zn ?_
  refine W.skip ?_
  refine z1 ?_;intro K hK
  refine⟨by omega,by omega,?_⟩
  refine zk ?_;clear hK K
  exact zR
 .refine zk ?_;clear hK K
  refine zn ?_
  refine W.skip ?_
  subst h
  refine z1 ?_;intro K hK;refine zk ?_;clear hK K
  exact zR
 .refine zk ?_;clear hK K
  refine zt ?_
  refine zs ?_
  refine zr ?_
  simp[h]
set_option maxHeartbeats 4000000 in
theorem TM (l:List Obj) (i:Nat) (q:Obj) (hx:En l) (hl:Ca l) (hall:∀o∈l,(AP l o.id).2=0) (hi:i<l.length) (hb:l[i].base≠0) (hq:A7 l l[i].base=some q):Aa pg 139 [.ro l.length (Ac As l),.int .i64 l[i].id,.int .i64 q.base] [] (fun r _=>r= .tup [.own 4 l.length (Ac As (l.set i (Ep l l[i] q.base))),.int .i64 0]):=by
 have hlen:l.length<=12:=hl.1
 have hm:=List.getElem_mem hi
 have hcl:∀o∈l,o.base=0\/∃r∈l,r.id=o.base:=hl.closed
 obtain⟨d1,d2,d3,d4⟩:=HU hl hall hi hb hq
 obtain⟨s1,s2⟩:=Sa hl hall hi hb hq l.length
 have hids:(l.map fun o=>o.id).Pairwise (·<·):=List.pairwise_map.2 hl.2.2
 have hidx:AL (fun o=>decide (o.id=l[i].id)) l=(i:Int):=by
  refine Ei hi (by simp) fun j hj hlt=>?_
  have:=List.pairwise_iff_getElem.1 hl.2.2 j i hj hi hlt
  simp;omega
 have spM:=UN l hx
 rw[decide_eq_true hl] at spM
 have spO:=SW l l[i].id hx hl
 rw[hall _ hm] at spO
 have hgm:=Dc l l[i].id
 have spB:=SW l q.base hx hl
 have hbm:=Dc l q.base
 have spF:=MQ l l[i].id (by omega)
 rw[hidx] at spF
 have spC:=Vy l (by omega)
 have spS:=fun a ha=>XL l a l[i].id hx (by omega) hcl ha
 have spD:=UO l q.base hx hcl
 obtain⟨o,ho⟩:∃o,o=l[i]:=⟨_,rfl⟩
 have oc0:(Ac As l)[i*4]?=some (.int .i64 l[i].id):=Bk (f:=As) (s:=4) (fun _=>rfl) hi (i:=0) (by omega)
 simp only[<-ho] at*
 obtain⟨b,hbd⟩:∃b,b=q.base:=⟨_,rfl⟩
 simp only[<-hbd] at*
 obtain⟨g,hg⟩:∃g,g=(AP l o.id).1:=⟨_,rfl⟩
 obtain⟨p,hp⟩:∃p,p=(AP l b).1:=⟨_,rfl⟩
 rw[<-hg] at hgm
 rw[<-hp] at hbm
 have hreb:Ep l o b=⟨o.id,b,GS l b g⟩:=by rw[Ep,hg]
 rw[hreb]
 have spG:=Vp g hgm
 have spY:=XD p g hbm hgm
 have hby:GS l b g=if b=0 then Ek (Cr g) else Ek (CE p g):=by unfold GS;rw[hp];split<;>rfl
 obtain⟨e1,he1⟩:∃e1,e1=Ek (Cr g):=⟨_,rfl⟩
 obtain⟨e2,he2⟩:∃e2,e2=Ek (CE p g):=⟨_,rfl⟩
 obtain⟨d,hd⟩:∃d,d=GS l b g:=⟨_,rfl⟩
 rw[<-he1] at spG hby
 rw[<-he2] at spY hby
 rw[<-hd] at hby |-
 have hOg:AP l o.id=(g,0):=Prod.ext hg.symm (hall _ hm)
 rw[hOg] at spO
 obtain⟨D,hD⟩:∃D:Int,D=if b=0 then 1 else(AE l b).1+1:=⟨_,rfl⟩
 rw[<-hD] at s2
 have hD2:1<=D/\D<=3:=by
  rw[hD];split
  .omega
  .rename_i h;have:=d4 h;omega
 have hput:(((Ac As l).set (i*4+1) (.int .i64 b)).set (i*4+1+1) (.str d.data)).set (i*4+1+1+1) (.int .i64 d.n)=Ac As (l.set i ⟨o.id,b,d⟩):=by
  rw[<-Q9 ⟨o.id,b,d⟩ l i hi]
  congr 3
  refine(List.ext_getElem? fun j=>?_)
  rw[List.getElem?_set]
  split
  .rename_i h;subst h;rw[oc0];simp;omega
  .rfl
 have hput2:(((Ac As l).set (i*4+1) (.int .i64 b)).set (i*4+2) (.str d.data)).set (i*4+2+1) (.int .i64 d.n)=Ac As (l.set i ⟨o.id,b,d⟩):=hput
 refine Aa.start (fn:=Tryz.f139) [.tmp 6,.tmp 7] tk rfl rfl rfl (by kernel_rfl) (Nat.le_of_ble_eq_true rfl) rfl (by kernel_rfl) ?_
 rw[Bl]
 refine zs ?_
 refine z0 ?_;intro K hK
 refine Ab.eq spM (by simp) (by simp) ?_
 refine zx ?_
 refine zk ?_;clear hK K
 refine zn ?_
 refine W.skip ?_
 refine z1 ?_;intro K hK
 refine Ab.eq spO (by simp) (by simp) ?_
 refine zx ?_
 refine zk ?_;clear hK K
 refine zs ?_
 refine zn ?_
 refine W.skip ?_
 refine z1 ?_;intro K hK
 refine Ab.eq spG (by simp) (by simp) ?_
 refine zx ?_
 refine zk ?_;clear hK K
 refine zs ?_
 refine W.midS (fun _:Unit=> [(0,.ro l.length (Ac As l)),(1,.int .i64 o.id),(2,.int .i64 b),(10,.ptr 2 0 0),(11,.int .i64 D)]) (fun _=> [.live 0 [.int .i64 g.n,.tok 1 0 1 0 g.out.length],.live 0 (AA true g.out),.live 0 [.str d.data,.int .i64 d.n]]) (fun _=>True) ?_ ?_
 .refine zc ?_ ?_<;>intro h
  .obtain⟨k1,k2,k3,k4⟩:=d4 h
   rw[if_neg h] at hby hD
   have hOb:AP l b=(p,0):=by
    obtain⟨r,rm,ri⟩:=k1
    exact Prod.ext hp.symm (by rw[<-ri];exact hall r rm)
   rw[hOb] at spB
   have hDb:AE l b=(D-1,0):=Prod.ext (by simp only;omega) k2
   rw[hDb] at spD
   have spSb:=spS b (.inr k1)
   obtain⟨z,hz⟩:∃z,z=AL (fun x=>decide (x.id=o.id)) (AQ l l.length b):=⟨_,rfl⟩
   have hzn:¬0<=z:=by have:=s1 h;omega
   rw[<-hz] at spSb
   have hDD:D-1+1=D:=by omega
   refine z1 ?_;intro K hK
   refine Ab.eq spB (by simp) (by simp) ?_
   refine zx ?_
   refine zk ?_;clear hK K
   refine zs ?_
   refine zn ?_
   refine W.skip ?_
   refine z0 ?_;intro K hK
   refine Ab.eq spSb (by simp) (by simp) ?_
   refine AX hzn ?_
   refine zk ?_;clear hK K
   refine zn ?_
   refine W.skip ?_
   refine z0 ?_;intro K hK
   refine Ab.eq spD (by simp) (by simp) ?_
   refine zx ?_
   refine zk ?_;clear hK K
   refine z0 ?_;intro K hK
   refine Ab.eq spY (by simp) (by simp) ?_
   refine zx ?_
   refine zk ?_;clear hK K
   exact⟨(),trivial,Wk.cutM (k:=3) (by simp[Ad,hDD]) (by simp[hby]) (by simp) (by simp) (by simp) (by simp)⟩
  .rw[if_pos h] at hby hD
   refine W.skip ?_
   exact⟨(),trivial,Wk.cutM (k:=3) (by simp[Ad,hD]) (by simp[hby]) (by simp) (by simp) (by simp) (by simp)⟩
 rintro _ _
 refine zs ?_
 (repeat refine W.seq ?_);refine W.block (W.loopS (fun k:Nat=> [(0,.ro l.length (Ac As l)),(1,.int .i64 o.id),(2,.int .i64 b),(10,.ptr 2 0 0),(11,.int .i64 D),(60,.ro l.length (Ac As l)),(61,.int .i64 l.length),(62,.int .i64 k)]) (fun _=> [.live 0 [.int .i64 g.n,.tok 1 0 1 0 g.out.length],.live 0 (AA true g.out),.live 0 [.str d.data,.int .i64 d.n]]) (fun k=>l.length-k) (fun k=>k<=l.length) 0 (Wk.fr (by simp[Ad])) (by simp) ?_)
 intro k hk
 by_cases c1:k<l.length
 rotate_left
 .refine Af c1 ?_;intro K hK
  refine zk ?_;clear hK K
  refine zn ?_
  refine W.exit ?_
  refine z0 ?_;intro K hK
  refine Ab.eq spC (by simp) (by simp) ?_
  refine zx ?_
  refine zk ?_;clear hK K
  refine z0 ?_;intro K hK
  refine Ab.eq spF (by simp) (by simp) ?_
  refine zx ?_
  refine zk ?_;clear hK K
  (repeat refine W.seq ?_);refine W.regdX 0 [(10,95),(10,92)] rfl true Cz (by kernel_rfl) fun K hK=>?_;simp -implicitDefEqProofs (maxSteps:=999999) (disch:=omega) [hi]
  refine⟨by omega,by omega,?_⟩
  (repeat refine⟨by first|assumption|omega,?_⟩);refine hK _ _ (by simp(disch:=omega)) ?_;clear hK K
  rw[hput2]
  refine zs ?_
  refine zr ?_
  rw[List.take_of_length_le (by simp)]
 have o0:(Ac As l)[k*4]?=some (.int .i64 l[k].id):=Bk (f:=As) (s:=4) (fun _=>rfl) c1 (i:=0) (by omega)
 have o1:(Ac As l)[k*4+1]?=some (.int .i64 l[k].base):=Bk (f:=As) (s:=4) (fun _=>rfl) c1 (i:=1) (by omega)
 have o2:(Ac As l)[k*4+1+1]?=some (.str l[k].data.data):=Bk (f:=As) (s:=4) (fun _=>rfl) c1 (i:=2) (by omega)
 have o3:(Ac As l)[k*4+1+1+1]?=some (.int .i64 l[k].data.n):=Bk (f:=As) (s:=4) (fun _=>rfl) c1 (i:=3) (by omega)
 have spSk:=spS l[k].id (.inr ⟨_,List.getElem_mem c1,rfl⟩)
 have hsk:=s2 _ (List.getElem_mem c1)
 have hgz:-1<=AL (fun x=>decide (x.id=o.id)) (AQ l l.length l[k].id)/\AL (fun x=>decide (x.id=o.id)) (AQ l l.length l[k].id)<=12:=by
  have hw:=IF l l.length l[k].id
  unfold AL
  cases e:(AQ l l.length l[k].id).findIdx? (fun x=>decide (x.id=o.id)) with
  |none=>simp
  |some j=>have:=(List.findIdx?_eq_some_iff_getElem.1 e).1;simp only;omega
 obtain⟨z,hz⟩:∃z,z=AL (fun x=>decide (x.id=o.id)) (AQ l l.length l[k].id):=⟨_,rfl⟩
 rw[<-hz] at spSk hsk hgz
 have hzn:¬3<z+D:=by omega
 refine Af c1 ?_;intro K hK
 refine zk ?_;clear hK K
 refine zt ?_
 refine W.skip ?_
 refine zb ?_
 refine MG (an c1 (an o0 (an o1 (an o2 o3)))) ?_;intro K hK
 refine zk ?_;clear hK K
 refine z0 ?_;intro K hK
 refine Ab.eq spSk (by simp) (by simp) ?_
 refine AX hzn ?_
 refine zk ?_;clear hK K
 refine zn ?_
 refine W.skip ?_
 refine zs ?_
 exact⟨k+1,by omega,by omega,Wk.cutM (k:=3) (by simp[Ad]) (by simp) (by simp) (by simp) (by simp) (by simp)⟩
@[simp] def Sb (a:Int×Int):List AV:=[.int .i64 a.1,.int .i64 a.2]
theorem Vz (s:An) (id:Int):AL (fun o=>decide (o.id=id)) (Ai s)=AL (fun v=>decide (v.id=id)) s.vers:=by
 unfold AL Ai
 rw[List.findIdx?_map]
 rfl
theorem TN {l:List Obj} {o:Obj} (b:Int):(Ep l o b).data.data.size<1000000000:=by
 have:=(TF (l:=l) b (Dc l o.id)).1
 simp only[Ep];omega
set_option maxHeartbeats 4000000 in
theorem TO (hR:BT) (s:An) (k id:Int) (hs:AS s) (hx:Br s) (hok:A2 s):Aa pg 99 [.agg (Ao false s),.agg [.int .i64 k,.int .i64 id]] [] (fun r _=>r= .tup [.agg (Ao true (BJ s k id).1),.int .i64 (BJ s k id).2]):=by
 have h1:=hs.1
 have hmy:=hok.1.1.2.2.2.2.2.2
 have hall:=hok.1.2.2.1
 have spP:=Hi s id hs
 have spT:=XI hR s id hs hx
 obtain⟨z,hz⟩:∃z,z=AL (fun v=>decide (v.id=id)) s.vers:=⟨_,rfl⟩
 have hz2:=hz
 rw[<-hz] at spP
 refine Aa.start (fn:=Tryz.f99) [.cell 4 38,.tmp 5] tk rfl rfl rfl (by kernel_rfl) (Nat.le_of_ble_eq_true rfl) rfl (by kernel_rfl) ?_
 rw[At]
 refine z3 ?_;intro K hK;refine zk ?_;clear hK K
 refine z0 ?_;intro K hK
 refine Ab.eq spP (by simp) (by simp) ?_
 refine zx ?_
 refine zk ?_;clear hK K
 refine zb ?_
 unfold BJ
 rw[<-hz]
 by_cases c1:k=1\/k=2
 rotate_left
 .have c1a:¬k=1:=fun h=>c1 (.inl h)
  have c1b:¬k=2:=fun h=>c1 (.inr h)
  rw[if_pos c1]
  refine Af (an c1a c1b) ?_;intro K hK
  refine zk ?_;clear hK K
  refine zt ?_
  refine z0 ?_;intro K hK
  refine zk ?_;clear hK K
  refine W.weak ((Wk.thaw (B:=2) (v:=0) (j:=2) (s:=8) (n:=0) (xs:=[]) rfl rfl).trans (Wk.thaw (B:=2) (v:=0) (j:=3) (s:=12) (n:=0) (xs:=[]) rfl rfl)) ?_
  refine zr ?_
  simp[A6]
 rw[if_neg (fun h=>h c1)]
 (repeat refine W.seq ?_);refine W.midS (fun _:Unit=> [(0,.agg (Ao false s)),(2,.ptr 0 0 0),(3,.ptr 1 0 0),(4,.ptr 2 0 0),(6,.int .i64 z),(14,.bool false)]) (fun _=> [.live 0 (Ao false s),.live 0 [.int .i64 k,.int .i64 id],.live 0 [.int .i64 0,.int .i64 0,.own 8 0 [],.own 12 0 []]]) (fun _=>True) ?_ ?_
 .rcases c1 with rfl|rfl
  .refine z0 ?_;intro K hK
   refine zk ?_;clear hK K
   exact⟨(),trivial,Wk.fr (by simp[Ad])⟩
  .refine z0 ?_;intro K hK
   refine zk ?_;clear hK K
   exact⟨(),trivial,Wk.fr (by simp[Ad])⟩
 rintro _ _
 refine zn ?_
 by_cases c2:z<0
 .rw[if_pos c2]
  refine Af c2 ?_;intro K hK
  refine zk ?_;clear hK K
  refine zt ?_
  refine z0 ?_;intro K hK
  refine zk ?_;clear hK K
  refine W.weak ((Wk.thaw (B:=2) (v:=0) (j:=2) (s:=8) (n:=0) (xs:=[]) rfl rfl).trans (Wk.thaw (B:=2) (v:=0) (j:=3) (s:=12) (n:=0) (xs:=[]) rfl rfl)) ?_
  refine zr ?_
  simp[A6]
 rw[if_neg c2]
 refine Af c2 ?_;intro K hK
 refine zk ?_;clear hK K
 refine zn ?_
 by_cases c3:k=1
 .rw[if_pos c3]
  refine Af c3 ?_;intro K hK
  refine zk ?_;clear hK K
  refine zt ?_
  refine z0 ?_;intro K hK
  refine Ab.eq spT (by simp) (by simp) ?_
  refine zx ?_
  refine zk ?_;clear hK K
  exact zR
 rw[if_neg c3]
 obtain⟨i,hi⟩:∃i:Nat,z=(i:Int):=⟨z.toNat,by omega⟩
 have hzt:z.toNat=i:=by omega
 obtain⟨hk,Bw⟩:∃hk:i<s.vers.length,s.vers[i].id=id:=by
  obtain⟨hk,Bw⟩:=KO (s:=s) (id:=id) (by rw[<-hz];exact c2)
  have e:(AL (fun v=>decide (v.id=id)) s.vers).toNat=i:=by rw[<-hz];exact hzt
  simp only[e] at hk Bw
  exact⟨hk,Bw⟩
 have hgv:s.vers[z.toNat]?=some s.vers[i]:=by rw[hzt];exact List.getElem?_eq_getElem hk
 simp only[hgv]
 clear hgv hzt hz2 hz
 subst hi
 have v2:(Ac Au s.vers)[i*8+2]?=some (.int .i64 s.vers[i].base):=Bk (f:=Au) (s:=8) (fun _=>rfl) hk (i:=2) (by omega)
 by_cases c4:s.vers[i].base=0
 .rw[if_pos c4]
  refine Af c3 ?_;intro K hK
  refine zk ?_;clear hK K
  refine zn ?_
  refine Af (an hk (an v2 c4)) ?_;intro K hK
  refine zk ?_;clear hK K
  refine zt ?_
  refine z0 ?_;intro K hK
  refine zk ?_;clear hK K
  refine W.weak ((Wk.thaw (B:=2) (v:=0) (j:=2) (s:=8) (n:=0) (xs:=[]) rfl rfl).trans (Wk.thaw (B:=2) (v:=0) (j:=3) (s:=12) (n:=0) (xs:=[]) rfl rfl)) ?_
  refine zr ?_
  simp[A6]
 rw[if_neg c4]
 have hio:i<(Ai s).length:=by simpa[Ai] using hk
 have eo:(Ai s)[i]=Bm s.vers[i]:=by simp[Ai]
 obtain⟨q,hq⟩:=BW.1 ((hmy.closed _ (List.getElem_mem hio)).resolve_left (by rw[eo];exact c4))
 have hq2:A7 (Ai s) s.vers[i].base=some q:=by rw[eo] at hq;exact hq
 have hqb:DS (Ai s) s.vers[i].base=q.base:=by unfold DS;rw[hq2]
 obtain⟨j,hj,j1,j2,j3⟩:=ED hq2
 rw[Vz] at j1
 have hjv:j<s.vers.length:=by simpa[Ai] using hj
 have j4:(Ac Au s.vers)[j*8+2]?=some (.int .i64 q.base):=by
  rw[<-j2]
  have:=Bk (f:=Au) (s:=8) (fun _=>rfl) hjv (i:=2) (by omega)
  rw[this];simp[Ai,Bm,Au]
 have hjb:s.vers[j].base=q.base:=by rw[<-j2];simp[Ai,Bm]
 have spP2:=Hi s s.vers[i].base hs
 rw[j1] at spP2
 have spL:=MU s hs
 have spR:=TM (Ai s) i q hs.objs hmy hall hio (by rw[eo];exact c4) hq
 rw[eo] at spR
 have hoid:(Bm s.vers[i]).id=id:=Bw
 rw[hoid] at spR
 have hrl:=(I4 hok hk c4).1
 rw[hqb] at hrl |-
 obtain⟨o,ho⟩:∃o,o=Ep (Ai s) (Bm s.vers[i]) q.base:=⟨_,rfl⟩
 have hos:o.data.data.size<1000000000:=by rw[ho];exact TN _
 rw[<-ho] at spR hrl |-
 have spY:=ZL hR s o 0 hs hx hos (by have:=hmy.1;simp[Ai] at this;omega)
 rw[hrl] at spY
 obtain⟨l,hl⟩:∃l,l=Ai s:=⟨_,rfl⟩
 rw[<-hl] at spL spR hio
 have o0:(Ac As (l.set i o))[i*4]?=some (.int .i64 o.id):=by
  have:=Bk (f:=As) (s:=4) (xs:=l.set i o) (fun _=>rfl) (show i<(l.set i o).length by simpa using hio) (i:=0) (by omega)
  rw[List.getElem_set_self] at this;exact this
 have o1:(Ac As (l.set i o))[i*4+1]?=some (.int .i64 o.base):=by
  have:=Bk (f:=As) (s:=4) (xs:=l.set i o) (fun _=>rfl) (show i<(l.set i o).length by simpa using hio) (i:=1) (by omega)
  rw[List.getElem_set_self] at this;exact this
 have o2:(Ac As (l.set i o))[i*4+1+1]?=some (.str o.data.data):=by
  have:=Bk (f:=As) (s:=4) (xs:=l.set i o) (fun _=>rfl) (show i<(l.set i o).length by simpa using hio) (i:=2) (by omega)
  rw[List.getElem_set_self] at this;exact this
 have o3:(Ac As (l.set i o))[i*4+1+1+1]?=some (.int .i64 o.data.n):=by
  have:=Bk (f:=As) (s:=4) (xs:=l.set i o) (fun _=>rfl) (show i<(l.set i o).length by simpa using hio) (i:=3) (by omega)
  rw[List.getElem_set_self] at this;exact this
 refine Af c3 ?_;intro K hK
 refine zk ?_;clear hK K
 refine zn ?_
 refine Af (an hk (an v2 c4)) ?_;intro K hK
 refine zk ?_;clear hK K
 refine zn ?_
 refine W.skip ?_
 refine Bx (an hk v2) ?_;intro K hK
 refine Ah.eq spP2 (by simp) (by simp) ?_
 refine AX (an hjv (an j4 hjb)) ?_
 refine zk ?_;clear hK K
 refine Cm ?_;intro K hK
 refine Ah.eq spL (by simp) (by simp) ?_
 refine zx ?_
 refine Ah.eq spR (by simp) (by simp) ?_
 refine zx ?_
 refine zk ?_;clear hK K
 refine zs ?_
 refine zn ?_
 refine W.skip ?_
 refine Bx (an hio (an o0 (an o1 (an o2 o3)))) ?_;intro K hK
 refine Ah.eq spY (by simp) (by simp) ?_
 refine zx ?_
 refine zk ?_;clear hK K
 exact zR
end Go.Abs
