/- References: a state with an object taken out. -/
import Derived.Test.YtoklapibcmnaeaaGreatP15
set_option linter.unusedVariables false
set_option linter.unusedSimpArgs false
set_option maxRecDepth 100000
namespace Go.Abs
open Go.Proofs
end Go.Abs
set_option maxRecDepth 100000
namespace Go.Abs
open Go.Proofs
def DY (s:Au) (o:Obj) (p:Int):Option (List Obj):=
 if AI (fun v=>decide (v.id=o.id)) s.vers<0 then(if¬(0≤p∧p≤o.id-1)∨o.id≤A9 s.vers then none else some (Aj s++[o]))
 else some ((Aj s).set (AI (fun v=>decide (v.id=o.id)) s.vers).toNat o)
def JC (s:Au) (o:Obj) (p:Int):Prop:=∃l,DY s o p=some l∧Cj l∧(∀i (h:i<l.length),(AR l l[i].id).2=0)∧∀x∈s.sess,AD s l x
theorem PB {s:Au} {o:Obj} {p:Int} (h:DY s o p=none):¬JC s o p:=by rintro⟨l,hl,_⟩;rw[h] at hl;simp at hl
theorem Qh (o:Obj):∀(l:List Obj) (k:Nat) (h:k<l.length),((((Ac Aq l).set (k*4) (.int .i64 o.id)).set (k*4+1) (.int .i64 o.base)).set (k*4+1+1) (.str o.data.data)).set (k*4+1+1+1) (.int .i64 o.data.n)=Ac Aq (l.set k o)
 | [],k,h=>by simp at h
 |x::l,0,_=>by simp[Az,Aq]
 |x::l,k+1,h=>by
  have ih:=Qh o l k (by simpa using h)
  have hv:(Aq x).length=4:=rfl
  have e:∀(F:List AV) (i:Nat) (z:AV),(Aq x++F).set (4+i) z=Aq x++F.set i z:=fun F i z=>by rw[List.set_append_right _ _ (by omega),hv,Nat.add_sub_cancel_left]
  rw[Az,List.set_cons_succ,Az,←ih,show(k+1)*4=4+k*4 by omega]
  rw[e,show 4+k*4+1=4+(k*4+1) by omega,e,show 4+(k*4+1)+1=4+(k*4+1+1) by omega,e,show 4+(k*4+1+1)+1=4+(k*4+1+1+1) by omega,e]
end Go.Abs
set_option maxRecDepth 100000
namespace Go.Abs
open Go.Proofs
def Gt (l:List (Int×Int)) (blocks m:Int):Int:=match (BU (Cv l blocks.toNat) 0 0).find? fun x=>decide (m≤x.2) with|some x=>x.1|none=>-1
def CE (s:Au) (o:Obj) (p:Int):List Bj×Nat:=if AI (fun v=>decide (v.id=o.id)) s.vers<0 then(s.vers++[Fm o.id p],s.vers.length) else(s.vers,(AI (fun v=>decide (v.id=o.id)) s.vers).toNat)
def FK (s:Au) (o:Obj) (p:Int):Au×Int:=
 if Gt (Ax s) s.blocks (CY o.data)<0 then(AQ,5)
 else({s with vers:=I7 (De (CE s o p).1 (CE s o p).2 o) (CE s o p).2 (Gt (Ax s) s.blocks (CY o.data))},0)
end Go.Abs
namespace Go.Abs
theorem JD (l m:List Bj) (h:l.map (fun v=>v.gone)=m.map fun v=>v.gone):Dg l=Dg m:=by
 have:=congrArg List.getLast? h
 rw[List.getLast?_map,List.getLast?_map] at this
 unfold Dg
 cases e1:l.getLast?<;>cases e2:m.getLast?<;>rw[e1,e2] at this<;>simp at this ⊢<;>exact this
theorem KV {β:Type} (g:Bj→β) {l:List Bj} {i:Nat} {o:Obj} (hg:∀v:Bj,g {v with base:=o.base,data:=o.data}=g v):(De l i o).map g=l.map g:=by
 unfold De
 cases e:l[i]? with
 |none=>rfl
 |some v=>
  simp only
  rw[List.map_set,hg]
  refine List.ext_getElem? fun j=>?_
  rw[List.getElem?_set]
  split
  .rename_i h;subst h
   simp only[List.length_map]
   split
   .rw[List.getElem?_map,e];rfl
   .rename_i h;rw[List.getElem?_eq_none (by simpa using h)]
  .rfl
theorem SD (s:Au) (o:Obj) (p:Int) (h:Bk s):(EE s o p=none∧DY s o p=none)∨
 (EE s o p=some (CE s o p)∧DY s o p=some ((De (CE s o p).1 (CE s o p).2 o).map B8)∧(∀v∈De (CE s o p).1 (CE s o p).2 o,FT v)∧Dg (De (CE s o p).1 (CE s o p).2 o)=false∧
   A9 s.vers≤A9 (De (CE s o p).1 (CE s o p).2 o)∧∀v∈s.vers,∃u∈De (CE s o p).1 (CE s o p).2 o,u.id=v.id):=by
 obtain⟨⟨⟨a1,a2,a3,a4,a5,a6,a7⟩,b,c,d⟩,e⟩:=h
 have put_ok:∀(l:List Bj) (i:Nat),(∀v∈l,FT v)→∀v∈De l i o,FT v:=by
  intro l i hl v hv
  unfold De at hv
  split at hv
  .rename_i w hw
   rcases List.mem_or_eq_of_mem_set hv with h|h
   .exact hl v h
   .subst h
    exact hl w (List.mem_of_getElem? hw)
  .exact hl v hv
 have put_id:∀(l:List Bj) (i:Nat),∀v∈l,∃u∈De l i o,u.id=v.id:=by
  intro l i v hv
  have hm:=KV (o:=o) (l:=l) (i:=i) (fun v=>v.id) (fun _=>rfl)
  have:v.id∈(De l i o).map fun v=>v.id:=by rw[hm];exact List.mem_map.2 ⟨v,hv,rfl⟩
  obtain⟨u,hu,e⟩:=List.mem_map.1 this
  exact⟨u,hu,e⟩
 by_cases c1:AI (fun v=>decide (v.id=o.id)) s.vers<0
 .by_cases c2:o.id≤A9 s.vers∨p<0∨o.id≤p
  .refine .inl ⟨?_,?_⟩
   .unfold EE;rw[if_pos c1,if_pos c2]
   .unfold DY;rw[if_pos c1,if_pos (by omega)]
  .have er:CE s o p=(s.vers++[Fm o.id p],s.vers.length):=by unfold CE;rw[if_pos c1]
   have ep:De (s.vers++[Fm o.id p]) s.vers.length o=s.vers++[{Fm o.id p with base:=o.base,data:=o.data}]:=by
    rw[Kg (by simp)]
    rw[List.set_append_right _ _ (Nat.le_refl _),Nat.sub_self];simp
   rw[er]
   refine .inr ⟨?_,?_,?_,?_,?_,?_⟩
   .unfold EE;rw[if_pos c1,if_neg c2]
   .unfold DY;rw[if_pos c1,if_neg (by omega),ep];simp[Aj,B8,Fm]
   .refine put_ok _ _ fun v hv=>?_
    rcases List.mem_append.1 hv with h|h
    .exact a5 v h
    .simp at h;subst h
     exact⟨by simp[Fm];omega,by simp[Fm];omega,by simp[Fm]⟩
   .rw[ep];simp[Dg,Fm]
   .rw[ep,QQ];simp[Fm];omega
   .intro v hv
    exact put_id _ _ v (List.mem_append_left _ hv)
 .have er:CE s o p=(s.vers,(AI (fun v=>decide (v.id=o.id)) s.vers).toNat):=by unfold CE;rw[if_neg c1]
  rw[er]
  obtain⟨k,hk⟩:∃k,k=(AI (fun v=>decide (v.id=o.id)) s.vers).toNat:=⟨_,rfl⟩
  have hlt:k<s.vers.length:=by rw[hk];exact Kf (by omega)
  have BK:s.vers[k].id=o.id:=by
   have:s.vers.findIdx? (fun v=>decide (v.id=o.id))=some k:=by
    unfold AI at hk c1
    cases e:s.vers.findIdx? (fun v=>decide (v.id=o.id)) with
    |none=>rw[e] at c1;simp at c1
    |some j=>rw[e] at hk;simp at hk;rw[hk]
   simpa using (List.findIdx?_eq_some_iff_getElem.1 this).2.1
  rw[←hk]
  refine .inr ⟨?_,?_,put_ok _ _ a5,?_,?_,put_id _ _⟩
  .unfold EE;rw[if_neg c1,hk]
  .unfold DY
   rw[if_neg c1,←hk,Kg hlt,List.map_set]
   simp[Aj,B8,BK]
  .rw[JD _ _ (KV (fun v=>v.gone) (fun _=>rfl))];exact a6
  .rw[Lr _ _ (KV (fun v=>v.id) (fun _=>rfl))];exact Int.le_refl _
theorem Oy {s y:Au} {l:List Obj} {x:CT} (hl:A9 s.vers≤A9 y.vers) (hi:∀v∈s.vers,∃u∈y.vers,u.id=v.id) (h:AD s (Aj s) x):AD y l x↔AD s l x:=by
 unfold AD at h ⊢
 by_cases c:x.opn=false
 .simp only[if_pos c]
 .simp only[if_neg c] at h ⊢
  obtain⟨h1,h2,_⟩:=h
  refine⟨fun⟨_,_,k⟩=>⟨h1,h2,k⟩,fun⟨_,_,k⟩=>⟨?_,?_,k⟩⟩
  .refine h1.imp id fun⟨v,hv,e⟩=>?_
   obtain⟨u,hu,e2⟩:=hi v hv
   exact⟨u,hu,by rw[e2,e]⟩
  .split at h2
   .rw[if_pos (by assumption)];exact⟨h2.1,by omega,h2.2.2⟩
   .rw[if_neg (by assumption)];exact h2
theorem M9 {s:Au} {n:Int} (h:CH (Ax s) s.blocks) (hn:1≤n∧n≤100):((DI (Ax s) s.blocks n).2=0↔¬Gt (Ax s) s.blocks n<0)∧(¬Gt (Ax s) s.blocks n<0→(DI (Ax s) s.blocks n).1=Gt (Ax s) s.blocks n):=by
 unfold DI Gt
 rw[if_pos ⟨h,hn⟩]
 cases e:(BU (Cv (Ax s) s.blocks.toNat) 0 0).find? fun x=>decide (n≤x.2) with
 |none=>simp
 |some x=>
  have:=(GC _ _ _ (Int.le_refl _) x (List.mem_of_find?_eq_some e)).2.1
  simp;omega
theorem Ue (s:Au) (o:Obj) (p:Int) (h:Bk s):(JC s o p→Ou s o p=FK s o p)∧(¬JC s o p→Ou s o p=(AQ,1)):=by
 have hb:=SD s o p h
 unfold Ou
 rw[if_pos h]
 obtain⟨⟨⟨a1,a2,a3,a4,a5,a6,a7⟩,b,c,d⟩,e⟩:=h
 rcases hb with⟨h1,h2⟩ | ⟨h1,h2,h3,h4,h5,h6⟩
 .exact⟨fun hm=>absurd hm (PB h2),fun _=>by unfold D5;rw[h1]⟩
 .unfold D5
  rw[h1]
  simp only
  obtain⟨l1,hl1⟩:∃l1,l1=De (CE s o p).1 (CE s o p).2 o:=⟨_,rfl⟩
  rw[←hl1] at h2 h3 h4 h5 h6 ⊢
  have key:JC s o p↔C2 o.data∧Eh {s with vers:=l1}:=by
   have ho:o∈l1.map B8:=by
    have:DY s o p=some (l1.map B8):=h2
    unfold DY at this
    split at this
    .split at this
     .simp at this
     .simp at this;rw[←this];simp
    .rename_i c1
     simp at this;rw[←this]
     have hlt:(AI (fun v=>decide (v.id=o.id)) s.vers).toNat<(Aj s).length:=by
      rw[show(Aj s).length=s.vers.length by simp[Aj]];exact Kf (by omega)
     exact List.mem_iff_getElem.2 ⟨_,by simpa using hlt,List.getElem_set_self _⟩
   constructor
   .rintro⟨m,hm,k1,k2,k3⟩
    rw[h2] at hm
    cases hm
    refine⟨(k1.2.1 o ho).2.2.1,⟨a1,a2,a3,a4,h3,h4,k1⟩,b,fun q hq=>?_,fun x hx=>(Oy h5 h6 (d x hx)).2 (k3 x hx)⟩
    obtain⟨i,hi,rfl⟩:=List.mem_iff_getElem.1 hq
    exact k2 i hi
   .rintro⟨_,⟨b1,b2,b3,b4,b5,b6,b7⟩,_,k2,k3⟩
    exact⟨_,h2,b7,fun i hi=>k2 _ (List.getElem_mem hi),fun x hx=>(Oy (l:=l1.map B8) h5 h6 (d x hx)).1 (k3 x hx)⟩
  refine⟨fun hm=>?_,fun hm=>by rw[if_neg (fun g=>hm (key.2 g))]⟩
  have hg:=key.1 hm
  rw[if_pos hg]
  have hn:1≤CY o.data∧CY o.data≤100:=by
   obtain⟨b1,b2,b3,_⟩:=hg.1
   unfold CY;omega
  obtain⟨r1,r2⟩:=M9 e hn
  unfold FK
  rw[←hl1]
  by_cases c1:Gt (Ax s) s.blocks (CY o.data)<0
  .rw[if_neg (fun g=>(r1.1 g) c1),if_pos c1]
  .rw[if_pos (r1.2 c1),if_neg c1,r2 c1]
end Go.Abs
namespace Go.Abs
theorem SE {l:List Obj} {g:Gr} (b:Int) (hg:A1 g):(G8 l b g).data.size≤751∧C2 (G8 l b g):=by
 unfold G8
 rw[ID]
 split
 .have:=I8 hg;exact⟨by omega,Qf this⟩
 .have:=I9 (DA l b) hg;exact⟨by omega,Qf this⟩
theorem E2:A5 AQ∧BM AQ:=⟨⟨by simp[AQ],by simp[AQ],by simp[AQ]⟩,fun x hx=>by simp[AQ] at hx⟩
theorem Wf {l:List Bj} {i:Nat} {a:Int} {v:Bj} (h:v∈I7 l i a):∃u∈l,v.data=u.data:=by
 unfold I7 at h
 split at h
 .rename_i w hw
  rcases List.mem_or_eq_of_mem_set h with h|h
  .exact⟨v,h,rfl⟩
  .subst h;exact⟨w,List.mem_of_getElem? hw,rfl⟩
 .exact⟨v,h,rfl⟩
theorem Uf {s:Au} {o:Obj} {p:Int} (hs:A5 s) (hx:BM s) (ho:o.data.data.size<1000000000) (hn:s.vers.length<999999999):A5 (D5 s o p).1∧BM (D5 s o p).1:=by
 unfold D5
 split
 .exact E2
 .rename_i l i e
  split
  .split
   .have hl:l.length<1000000000∧∀v∈l,v.data.data.size<1000000000:=by
     unfold EE at e
     split at e
     .split at e
      .simp at e
      .simp at e
       rw[←e.1]
       refine⟨by simp;omega,fun v hv=>?_⟩
       rcases List.mem_append.1 hv with h|h
       .exact hs.2.2 v h
       .simp at h;subst h;simp[Fm]
     .simp at e
      rw[←e.1]
      exact⟨by omega,hs.2.2⟩
    refine⟨⟨by simp only[Mm,Oq];exact hl.1,hs.2.1,fun v hv=>?_⟩,hx⟩
    obtain⟨u,hu,e2⟩:=Wf hv
    rw[e2]
    exact Ot hl.2 ho u hu
   .exact E2
  .exact E2
theorem SF {s:Au} {id:Int} (hs:A5 s) (hx:BM s):A5 (DF s id).1∧BM (DF s id).1:=by
 unfold DF
 split
 .exact E2
 .split
  .exact E2
  .refine⟨⟨?_,hs.2.1,fun v hv=>hs.2.2 v (List.mem_of_mem_eraseIdx hv)⟩,hx⟩
   have h1:=hs.1
   have h2:=List.length_eraseIdx_le s.vers (AI (fun v=>decide (v.id=id)) s.vers).toNat
   simp only;omega
end Go.Abs
namespace Go.Abs
theorem IE (l:List Obj):∀(k:Nat) (id:Int),AL l k id=(AL l (k+1) id).take k
 |0,_=>by simp[AL]
 |k+1,id=>by
  rw[AL,AL]
  by_cases h:id=0
  .simp[h]
  .rw[if_neg h,if_neg h]
   cases e:A7 l id with
   |none=>simp
   |some o=>simp only[List.take_succ_cons];rw[IE l k o.base]
theorem LG {l:List Obj} {id:Int} {o:Obj} (h:A7 l id=some o) (h0:id≠0) (k:Nat):AL l (k+1) id=o::AL l k o.base:=by
 rw[AL,if_neg h0,h]
theorem Vo (l:List Obj) (k:Nat):AL l k 0=[]:=by cases k<;>simp[AL]
theorem Hz {l:List Obj} {id:Int} {o:Obj} (h:A7 l id=some o) (h0:id≠0) (hb:o.base=0):AT l id=(1,0)∧AR l id=match BF (As o.data) with|some g=>(g,0) |none=>(AJ,9):=by
 have e:∀k,AL l (k+1) id=[o]:=fun k=>by rw[LG h h0,hb,Vo]
 have hd:AT l id=(1,0):=by unfold AT;rw[h];simp only[e];simp
 refine⟨hd,?_⟩
 unfold AR
 rw[hd,e,if_neg (by simp)]
 simp only[CU,if_pos hb]
 cases BF (As o.data)<;>rfl
theorem ER {l:List Obj} {id:Int} {o:Obj} (h:A7 l id=some o) (h0:id≠0) (hh:CA l o.base):((AT l id).2=0↔(AT l o.base).2=0∧(AT l o.base).1<3)∧((AT l id).2=0→(AT l id).1=(AT l o.base).1+1):=by
 obtain⟨q,hq⟩:=C0.1 hh
 have e3:(AL l 3 o.base).length=min 3 (AL l 4 o.base).length:=by rw[IE l 3];simp
 unfold AT
 rw[h,hq]
 simp only[LG h h0 3,List.length_cons]
 by_cases c1:3<(AL l 4 o.base).length
 .rw[if_pos c1,if_pos (by omega)];simp
 .rw[if_neg c1]
  by_cases c2:3<(AL l 3 o.base).length+1
  .rw[if_pos c2];simp;omega
  .rw[if_neg c2];simp;omega
theorem Fn {l:List Obj} {id:Int} (h:(AR l id).2=0):(AT l id).2=0:=by
 unfold AR at h
 by_cases c:(AT l id).2≠0
 .rw[if_pos c] at h;exact absurd h c
 .omega
theorem Oz {l:List Obj} {id:Int} {o:Obj} (h:A7 l id=some o) (h0:id≠0) (hb:o.base≠0) (hh:CA l o.base) (hd:(AT l id).2=0):AR l id=if (AR l o.base).2=0 then(match BO (AR l o.base).1 (As o.data) with|some g=>(g,(0:Int)) |none=>(AJ,(9:Int))) else(AJ,(9:Int)):=by
 obtain⟨q,hq⟩:=C0.1 hh
 have e3:(AL l 3 o.base).length=min 3 (AL l 4 o.base).length:=by rw[IE l 3];simp
 have hd2:=((ER h h0 hh).1.1 hd)
 have hlen:(AL l 4 o.base).length<3:=by
  have:=hd2.2
  have h2:=hd2.1
  unfold AT at this h2
  rw[hq] at this h2
  by_cases c:3<(AL l 4 o.base).length
  .simp only[if_pos c] at h2;simp at h2
  .simp only[if_neg c] at this;omega
 have e4:AL l 2 o.base=(AL l 3 o.base).take 2:=IE l 2 o.base
 have e2:AL l 2 o.base=AL l 3 o.base:=by rw[e4,List.take_of_length_le (by omega)]
 have e5:AR l o.base=match CU BF BO (AL l 3 o.base) with|some g=>(g,0) |none=>(AJ,9):=by unfold AR;rw[if_neg (fun g=>g hd2.1)];cases CU BF BO (AL l 3 o.base)<;>rfl
 have e6:AR l id=match CU BF BO (AL l 3 id) with|some g=>(g,0) |none=>(AJ,9):=by unfold AR;rw[if_neg (fun g=>g hd)];cases CU BF BO (AL l 3 id)<;>rfl
 rw[e5,e6,LG h h0 2,e2]
 simp only[CU,if_neg hb]
 cases CU BF BO (AL l 3 o.base) with
 |none=>rfl
 |some a=>rw[if_pos rfl]
theorem Kz {l:List Obj} {i:Nat} (hi:i<l.length) {id:Int} (h:l[i].id≠id):A7 (l.eraseIdx i) id=A7 l id:=by
 have e:l=l.take i++l[i]::l.drop (i+1):=by rw[←List.drop_eq_getElem_cons hi,List.take_append_drop]
 rw[List.eraseIdx_eq_take_drop_succ]
 conv=>rhs;rw[e]
 unfold A7
 rw[List.find?_append,List.find?_append,List.find?_cons]
 simp[h]
theorem QW {α:Type} {l:List α} {i:Nat} (hi:i+1<l.length):(l.eraseIdx i).getLast?=l.getLast?:=by
 rw[List.eraseIdx_eq_take_drop_succ]
 have e:l.drop (i+1)≠ []:=by simp;omega
 have e2:l=l.take (i+1)++l.drop (i+1):=(List.take_append_drop _ _).symm
 conv=>rhs;rw[e2]
 rw[List.getLast?_append,List.getLast?_append]
 cases h:(l.drop (i+1)).getLast? with
 |none=>exact absurd (List.getLast?_eq_none_iff.1 h) e
 |some x=>rfl
theorem Mo {s:Au} {id:Int} (h:¬AI (fun v=>decide (v.id=id)) s.vers<0):∃hk:(AI (fun v=>decide (v.id=id)) s.vers).toNat<s.vers.length,s.vers[(AI (fun v=>decide (v.id=id)) s.vers).toNat].id=id:=by
 cases e:s.vers.findIdx? (fun v=>decide (v.id=id)) with
 |none=>exact absurd (by unfold AI;rw[e];decide) h
 |some j=>
  obtain⟨hj,hp,_⟩:=List.findIdx?_eq_some_iff_getElem.1 e
  have hi:(AI (fun v=>decide (v.id=id)) s.vers).toNat=j:=by unfold AI;rw[e];simp
  exact⟨by rw[hi];exact hj,by simp only[hi];simpa using hp⟩
theorem Ug {s:Au} {id:Int} (h:Bk s) (he:(DF s id).2=0):Bk (DF s id).1∧∀i,i≠0→i∈(DF s id).1.vers.map (fun v=>v.id)→AR (Aj (DF s id).1) i=AR (Aj s) i:=by
 unfold DF at he ⊢
 by_cases c1:AI (fun v=>decide (v.id=id)) s.vers<0
 .rw[if_pos c1] at he;simp at he
 rw[if_neg c1] at he ⊢
 by_cases c2:id=A9 s.vers∨pinned s id=true∨LE s id=true
 .rw[if_pos c2] at he;simp at he
 rw[if_neg c2]
 obtain⟨hk,BK⟩:=Mo c1
 obtain⟨k,hkd⟩:∃k,k=(AI (fun v=>decide (v.id=id)) s.vers).toNat:=⟨_,rfl⟩
 simp only[←hkd] at hk BK ⊢
 have c3:id≠A9 s.vers:=fun g=>c2 (.inl g)
 have c4:∀x∈s.sess,x.pin≠id:=fun x hx g=>c2 (.inr (.inl (List.any_eq_true.2 ⟨x,hx,by simpa using g⟩)))
 have c5:∀v∈s.vers,v.base≠id:=fun v hv g=>c2 (.inr (.inr (List.any_eq_true.2 ⟨v,hv,by simpa using g⟩)))
 obtain⟨⟨⟨a1,a2,a3,a4,a5,a6,a7⟩,b,c,d⟩,e⟩:=h
 have hk1:k+1<s.vers.length:=by
  rcases Nat.lt_or_ge (k+1) s.vers.length with h|h
  .exact h
  .exfalso;apply c3
   unfold A9
   have:s.vers.getLast?=some s.vers[k]:=by rw[List.getLast?_eq_getElem?,show s.vers.length-1=k by omega,List.getElem?_eq_getElem]
   rw[this];exact BK.symm
 have hlast:=QW hk1
 have hl:A9 (s.vers.eraseIdx k)=A9 s.vers:=by unfold A9;rw[hlast]
 have hm:∀v∈s.vers.eraseIdx k,v∈s.vers:=fun v hv=>List.mem_of_mem_eraseIdx hv
 have hle:(s.vers.eraseIdx k).length≤s.vers.length:=List.length_eraseIdx_le ..
 have eo:Aj {s with vers:=s.vers.eraseIdx k}=(Aj s).eraseIdx k:=by simp[Aj,List.eraseIdx_eq_take_drop_succ,List.map_take,List.map_drop]
 have hko:k<(Aj s).length:=by simpa[Aj] using hk
 have hoi:(Aj s)[k].id=id:=by simpa[Aj,B8] using BK
 have hheld:∀i,i≠id→CA (Aj s) i→CA ((Aj s).eraseIdx k) i:=fun i hi hh=>by
  obtain⟨q,hq⟩:=C0.1 hh
  exact C0.2 ⟨q,by rw[Kz hko (by rw[hoi];exact fun g=>hi g.symm)];exact hq⟩
 have hof:∀i,i≠0→i≠id→CA (Aj s) i→AR ((Aj s).eraseIdx k) i=AR (Aj s) i:=fun i h0 hi hh=>
  (Sp (fun j=>j≠id) (fun j hj _=>(Kz hko (by rw[hoi];exact fun g=>hj g.symm)).symm) (fun j o hj _ ho=>by
    obtain⟨v,hv,rfl⟩:=List.mem_map.1 (EP ho).1
    exact c5 v hv) hi h0).symm
 have hup:(s.vers.map fun v=>v.id).Pairwise (·<·):=by rw[←G7,List.pairwise_map];exact a7.2.2
 have hne:∀v∈s.vers.eraseIdx k,v.id≠id:=fun v hv g=>by
  obtain⟨j,hj,rfl⟩:=List.mem_iff_getElem.1 hv
  rw[List.getElem_eraseIdx] at g
  have key:∀(j:Nat) (hj:j<s.vers.length),s.vers[j].id=id→j=k:=fun j hj g=>by
   have hp:=List.pairwise_iff_getElem.1 hup
   rcases Nat.lt_trichotomy j k with h|h|h
   .have:=hp j k (by simpa using hj) (by simpa using hk) h;simp at this;omega
   .exact h
   .have:=hp k j (by simpa using hk) (by simpa using hj) h;simp at this;omega
  split at g
  .have:=key j (by omega) g;omega
  .have:=key (j+1) (by rw[List.length_eraseIdx] at hj;split at hj<;>omega) g;omega
 have hids:∀i,i≠id→i∈s.vers.map (fun v=>v.id)→i∈(s.vers.eraseIdx k).map fun v=>v.id:=fun i hi hmem=>by
  have:=hheld i hi ((Gc s i).2 hmem)
  rw[←eo] at this
  exact(Gc _ i).1 this
 refine⟨⟨⟨⟨a1,a2,a3,a4,fun v hv=>a5 v (hm v hv),?_,?_⟩,b,?_,?_⟩,?_⟩,?_⟩
 .show Dg (s.vers.eraseIdx k)=false
  unfold Dg;rw[hlast];exact a6
 .rw[eo]
  refine⟨by have:=a7.1;have:=List.length_eraseIdx_le (Aj s) k;omega,fun o ho=>?_,a7.2.2.sublist (List.eraseIdx_sublist _ _)⟩
  have ho' :=List.mem_of_mem_eraseIdx ho
  obtain⟨k1,k2,k3,k4,k5⟩:=a7.2.1 o ho'
  refine⟨k1,k2,k3,k4,k5.imp _root_.id fun hh=>hheld _ ?_ hh⟩
  obtain⟨v,hv,rfl⟩:=List.mem_map.1 ho'
  exact c5 v hv
 .rw[eo]
  intro o ho
  have ho' :=List.mem_of_mem_eraseIdx ho
  have hoid:o.id≠id:=by
   rw[←eo] at ho
   obtain⟨v,hv,rfl⟩:=List.mem_map.1 ho
   exact hne v hv
  have:=(a7.2.1 o ho').1
  rw[hof o.id (by omega) hoid ⟨o,ho',rfl⟩]
  exact c o ho'
 .intro x hx
  have hd:=d x hx
  have hxp:=c4 x hx
  rw[eo]
  unfold AD at hd ⊢
  by_cases co:x.opn=false
  .rw[if_pos co] at hd ⊢;exact hd
  rw[if_neg co] at hd ⊢
  obtain⟨h1,h2,h3⟩:=hd
  refine⟨?_,?_,?_⟩
  .refine h1.imp _root_.id fun hh=>?_
   have:=hids x.pin hxp ((H5 _ _).1 hh)
   exact(H5 _ _).2 this
  .show if x.on=true then 0≤x.frm∧x.frm≤A9 (s.vers.eraseIdx k)∧A1 x.stage else x.frm=0∧x.stage=AJ
   rw[hl];exact h2
  .refine h3.imp _root_.id fun⟨g1,g2⟩=>?_
   have hh:CA (Aj s) x.pin:=(Gc s x.pin).2 ((H5 _ _).1 (h1.resolve_left g1))
   rw[hof x.pin g1 hxp hh];exact⟨g1,g2⟩
 .obtain⟨e1,e2,e3,e4,e5⟩:=e
  have ep:Ax {s with vers:=s.vers.eraseIdx k}=(Ax s).eraseIdx k:=by simp[Ax,List.eraseIdx_eq_take_drop_succ,List.map_take,List.map_drop]
  show CH (Ax {s with vers:=s.vers.eraseIdx k}) s.blocks
  rw[ep]
  exact⟨e1,e2,by have:=List.length_eraseIdx_le (Ax s) k;omega,fun x hx=>e4 x (List.mem_of_mem_eraseIdx hx),e5.sublist (List.eraseIdx_sublist _ _)⟩
 .intro i h0 hi
  rw[eo]
  obtain⟨v,hv,rfl⟩:=List.mem_map.1 hi
  exact hof _ h0 (hne v hv) ((Gc s _).2 (List.mem_map.2 ⟨v,hm v hv,rfl⟩))
end Go.Abs
namespace Go.Abs
theorem IF:∀(t:List Bool) (i a:Int),a≤i→∀x∈BU t i a,∀j:Nat,x.1≤i+j→i+j<x.1+x.2→t[j]?=some false
 | [],i,a,h,x,hx,j,h1,h2=>by
   simp only[BU] at hx
   split at hx
   .simp at hx;subst hx;simp at h1 h2;omega
   .simp at hx
 |true::t,i,a,h,x,hx,j,h1,h2=>by
  simp only[BU,List.mem_append] at hx
  rcases hx with hx|hx
  .split at hx
   .simp at hx;subst hx;simp at h1 h2;omega
   .simp at hx
  .have hp:=GC t (i+1) (i+1) (Int.le_refl _) x hx
   cases j with
   |zero=>omega
   |succ j=>simpa using IF t (i+1) (i+1) (Int.le_refl _) x hx j (by omega) (by omega)
 |false::t,i,a,h,x,hx,j,h1,h2=>by
  simp only[BU] at hx
  cases j with
  |zero=>rfl
  |succ j=>simpa using IF t (i+1) a (by omega) x hx j (by omega) (by omega)
theorem SG {l:List (Int×Int)} {b n a:Int} (h:DI l b n=(a,0)):1≤n∧0≤a∧a+n≤b∧∀i,a≤i→i<a+n→Ez l i=false:=by
 unfold DI at h
 split at h
 .rename_i hp
  split at h
  .rename_i x hx
   simp at h;subst h
   have hm:=List.mem_of_find?_eq_some hx
   have hn:=List.find?_some hx
   simp only[decide_eq_true_eq] at hn
   have hps:=GC _ _ _ (Int.le_refl _) x hm
   simp at hps
   have hb:=hp.1.1
   refine⟨hp.2.1,by omega,by omega,fun i h1 h2=>?_⟩
   have:=IF _ _ _ (Int.le_refl _) x hm i.toNat (by omega) (by omega)
   have hi:i.toNat<b.toNat:=by omega
   simp[Cv,hi] at this
   have e:i=max i 0:=by omega
   rw[e];exact this
  .simp at h
 .simp at h
theorem Wg {s:Au} (h:Cj (Aj s)):(s.vers.map fun v=>v.id).Pairwise (·<·):=by rw[←G7,List.pairwise_map];exact h.2.2
def dv (s:Au) (o:Obj) (p a:Int):Au:={s with vers:=s.vers++[⟨o.id,p,o.base,o.data,a,false,false⟩]}
end Go.Abs
namespace Go.Abs
theorem Na {l:List Obj} (hp:l.Pairwise fun a b=>a.id<b.id) {i:Nat} (hi:i<l.length) {o:Obj} (ho:o.id=l[i].id) (j:Int):A7 (l.set i o) j=if j=o.id then some o else A7 l j:=by
 have e:l=l.take i++l[i]::l.drop (i+1):=by rw[←List.drop_eq_getElem_cons hi,List.take_append_drop]
 have e2:l.set i o=l.take i++o::l.drop (i+1):=by rw[List.set_eq_take_append_cons_drop,if_pos hi]
 have hn:∀q∈l.take i,q.id≠o.id:=fun q hq g=>by
  obtain⟨k,hk,rfl⟩:=List.mem_iff_getElem.1 hq
  simp only[List.length_take] at hk
  have:=List.pairwise_iff_getElem.1 hp k i (by omega) hi (by omega)
  simp at g;omega
 by_cases h:j=o.id
 .rw[if_pos h,e2]
  unfold A7
  have h1:(l.take i).find? (fun q=>decide (q.id=j))=none:=List.find?_eq_none.2 fun q hq=>by simpa[h] using hn q hq
  rw[List.find?_append,h1,List.find?_cons,decide_eq_true h.symm];rfl
 .rw[if_neg h,e2]
  conv=>rhs;rw[e]
  unfold A7
  rw[List.find?_append,List.find?_append,List.find?_cons,List.find?_cons,decide_eq_false (fun g=>h g.symm),decide_eq_false (fun g=>h (by rw[ho];exact g.symm))]
theorem OA {l:List Obj} (hp:l.Pairwise fun a b=>a.id<b.id) {i:Nat} (hi:i<l.length):A7 l l[i].id=some l[i]:=by
 have:=Na hp hi (o:=l[i]) rfl l[i].id
 rwa [List.set_getElem_self,if_pos rfl] at this
theorem GD {l:List Obj} {j:Int} {o:Obj} (h:A7 l j=some o) (h0:j≠0) (hd:(AT l j).2=0):1≤(AT l j).1∧(AT l j).1≤3:=by
 unfold AT at hd ⊢
 rw[h] at hd ⊢
 simp only at hd ⊢
 by_cases c:3<(AL l 4 j).length
 .rw[if_pos c] at hd;simp at hd
 .rw[if_neg c]
  simp only
  rw[LG h h0 3] at c ⊢
  simp at c ⊢;omega
theorem IG {l:List Obj} (hl:Cj l) (hall:∀o∈l,(AR l o.id).2=0) (id:Int):∀(n:Nat) (j:Int),CA l j→0≤AI (fun o:Obj=>decide (o.id=id)) (AL l n j)→(AT l j).1=AI (fun o:Obj=>decide (o.id=id)) (AL l n j)+(AT l id).1
 |0,j,_,h=>by simp[AL,AI] at h
 |n+1,j,hj,h=>by
  obtain⟨o,ho⟩:=C0.1 hj
  obtain⟨hm,hi⟩:=EP ho
  have hpos:=(hl.2.1 o hm).1
  have h0:j≠0:=by omega
  rw[LG ho h0] at h ⊢
  unfold AI at h ⊢
  rw[List.findIdx?_cons] at h ⊢
  by_cases c:o.id=id
  .rw[decide_eq_true c];simp[←c,hi]
  .rw[decide_eq_false c] at h ⊢
   simp only[Bool.false_eq_true,if_false] at h ⊢
   by_cases hb:o.base=0
   .rw[hb,Vo] at h;simp at h
   .have hh:=(hl.closed o hm).resolve_left hb
    have hd:=Fn (hall o hm)
    rw[hi] at hd
    have h2:=(ER ho h0 hh).2 hd
    have ih:=IG hl hall id n o.base hh
    unfold AI at ih
    cases e:(AL l n o.base).findIdx? fun o=>decide (o.id=id) with
    |none=>rw[e] at h;simp at h
    |some k=>
     rw[e] at ih
     simp only[Option.map_some] at ih ⊢
     have:=ih (by omega)
     omega
section
variable {l:List Obj} {i:Nat} {q:Obj}
theorem JE (hl:Cj l) (hall:∀o∈l,(AR l o.id).2=0) (hi:i<l.length) (hb:l[i].base≠0) (hq:A7 l l[i].base=some q):(AT l l[i].id).2=0∧(AT l l[i].id).1≤3∧(q.base=0→(AT l l[i].id).1=2)∧(q.base≠0→CA l q.base∧(AT l q.base).2=0∧1≤(AT l q.base).1∧(AT l l[i].id).1=(AT l q.base).1+2):=by
 have hm:=List.getElem_mem hi
 have hpos:=(hl.2.1 _ hm).1
 obtain⟨qm,qi⟩:=EP hq
 have qpos:=(hl.2.1 q qm).1
 have hf:=OA hl.2.2 hi
 have hd:=Fn (hall _ hm)
 have hdq:=Fn (hall _ qm)
 have hp:=GD hf (by omega) hd
 have h1:=(ER hf (by omega) ⟨q,qm,qi⟩).2 hd
 refine⟨hd,hp.2,fun h=>?_,fun h=>?_⟩
 .have:=(Hz hq (by omega) h).1
  rw[this] at h1;simpa using h1
 .have hh:=(hl.closed q qm).resolve_left h
  rw[qi] at hdq
  have h2:=(ER hq (by omega) hh).2 hdq
  obtain⟨r,hr⟩:=C0.1 hh
  obtain⟨rm,ri⟩:=EP hr
  have rpos:=(hl.2.1 r rm).1
  have hdr:=Fn (hall _ rm)
  rw[ri] at hdr
  have:=GD hr h hdr
  exact⟨hh,hdr,this.1,by omega⟩
theorem QX (hl:Cj l) (hall:∀o∈l,(AR l o.id).2=0) (hi:i<l.length) (hb:l[i].base≠0) (hq:A7 l l[i].base=some q) (n:Nat):(q.base≠0→AI (fun o:Obj=>decide (o.id=l[i].id)) (AL l n q.base)<0)∧∀o∈l,AI (fun o:Obj=>decide (o.id=l[i].id)) (AL l n o.id)+(if q.base=0 then 1 else(AT l q.base).1+1)≤3:=by
 obtain⟨d1,d2,d3,d4⟩:=JE hl hall hi hb hq
 have hge:∀w:List Obj,-1≤AI (fun o:Obj=>decide (o.id=l[i].id)) w:=fun w=>by unfold AI;split<;>omega
 refine⟨fun h=>?_,fun o ho=>?_⟩
 .obtain⟨k1,k2,k3,k4⟩:=d4 h
  rcases Int.lt_or_le (AI (fun o:Obj=>decide (o.id=l[i].id)) (AL l n q.base)) 0 with g|g
  .exact g
  .have:=IG hl hall l[i].id n q.base k1 g;omega
 .have hpos:=(hl.2.1 o ho).1
  have hd:=Fn (hall o ho)
  obtain⟨o',ho'⟩:=C0.1 (show CA l o.id from ⟨o,ho,rfl⟩)
  have hp:=GD ho' (by omega) hd
  have:=hge (AL l n o.id)
  rcases Int.lt_or_le (AI (fun o:Obj=>decide (o.id=l[i].id)) (AL l n o.id)) 0 with g|g
  .split
   .omega
   .rename_i h;have:=d4 h;omega
  .have:=IG hl hall l[i].id n o.id ⟨o,ho,rfl⟩ g
   split
   .rename_i h;have:=d3 h;omega
   .rename_i h;have:=d4 h;omega
def Fo (l:List Obj) (o:Obj) (b:Int):Obj:=⟨o.id,b,G8 l b (AR l o.id).1⟩
theorem PC (hl:Cj l) (hall:∀o∈l,(AR l o.id).2=0) (hi:i<l.length) (hb:l[i].base≠0) (hq:A7 l l[i].base=some q):Cj (l.set i (Fo l l[i] q.base))∧∀j,CA l j→AR (l.set i (Fo l l[i] q.base)) j=AR l j:=by
 obtain⟨d1,d2,d3,d4⟩:=JE hl hall hi hb hq
 have hm:=List.getElem_mem hi
 have hme:=hl.2.1 _ hm
 have hf:=OA hl.2.2 hi
 obtain⟨o',ho'⟩:∃o',o' =Fo l l[i] q.base:=⟨_,rfl⟩
 have oi:o'.id=l[i].id:=by rw[ho'];rfl
 have ob:o'.base=q.base:=by rw[ho'];rfl
 have od:o'.data=G8 l q.base (AR l l[i].id).1:=by rw[ho'];rfl
 rw[←ho']
 obtain⟨x,hx⟩:∃x,x=l.set i o' :=⟨_,rfl⟩
 have hset:=Na hl.2.2 hi (o:=o') oi
 rw[←hx,oi] at hset
 rw[←hx]
 have hids:x.map (fun o=>o.id)=l.map fun o=>o.id:=by
  rw[hx,List.map_set]
  refine List.ext_getElem? fun j=>?_
  rw[List.getElem?_set]
  split
  .rename_i h;subst h;simp[hi,oi]
  .rfl
 have hheld:∀j,CA x j↔CA l j:=fun j=>by
  have:∀m:List Obj,CA m j↔j∈m.map fun o=>o.id:=fun m=>by simp[CA]
  rw[this,this,hids]
 have key:∀(n:Nat) (j:Int),CA l j→(AT l j).1≤n→AR x j=AR l j∧(AT x j).2=0∧(AT x j).1≤(AT l j).1:=by
  intro n
  induction n with
  |zero=>
   intro j hj hn
   obtain⟨p,hp⟩:=C0.1 hj
   obtain⟨pm,pi⟩:=EP hp
   have:=(hl.2.1 p pm).1
   have hd:=Fn (hall p pm)
   rw[pi] at hd
   have:=GD hp (by omega) hd
   omega
  |succ n ih=>
   intro j hj hn
   obtain⟨p,hp⟩:=C0.1 hj
   obtain⟨pm,pi⟩:=EP hp
   have ppos:=(hl.2.1 p pm).1
   have j0:j≠0:=by omega
   have hd:=Fn (hall p pm)
   have hok:=hall p pm
   rw[pi] at hd hok
   have hs:=hset j
   by_cases c:j=l[i].id
   .have hs:A7 x j=some o' :=by rw[hs,if_pos c]
    have hg:AR l j=((AR l l[i].id).1,0):=by rw[c];exact Prod.ext rfl (hall _ hm)
    by_cases hb0:q.base=0
    .obtain⟨e1,e2⟩:=Hz hs j0 (by rw[ob];exact hb0)
     rw[e1]
     refine⟨?_,rfl,by have:=GD hp j0 hd;simp only;omega⟩
     rw[e2,hg]
     rw[od]
     simp only[hb0,G8,if_true]
     rw[LB,QU (DA _ _)]
    .obtain⟨k1,k2,k3,k4⟩:=d4 hb0
     rw[←c] at k4
     obtain⟨g1,g2,g3⟩:=ih q.base k1 (by omega)
     have hd3:(AT l j).1≤3:=by rw[c];exact d2
     have hhx:CA x o'.base:=by rw[ob];exact(hheld q.base).2 k1
     have hdb:=ER hs j0 hhx
     have hdx:=hdb.1.2 (by rw[ob];exact⟨g2,by omega⟩)
     have hdy:=hdb.2 hdx
     rw[ob] at hdy
     refine⟨?_,hdx,by omega⟩
     rw[Oz hs j0 (by rw[ob];exact hb0) hhx hdx,ob,od]
     have hqok:(AR l q.base).2=0:=by
      obtain⟨r,rm,ri⟩:=k1
      rw[←ri];exact hall r rm
     rw[g1,if_pos hqok,hg]
     simp only[G8,if_neg hb0]
     rw[LB,QV (DA _ _) (DA _ _)]
   .have hs:A7 x j=some p:=by rw[hs,if_neg c];exact hp
    by_cases hb0:p.base=0
    .obtain⟨e1,e2⟩:=Hz hs j0 hb0
     obtain⟨e3,e4⟩:=Hz hp j0 hb0
     rw[e1,e2,e3,e4]
     exact⟨rfl,rfl,Int.le_refl _⟩
    .have hh:=(hl.closed p pm).resolve_left hb0
     have hdl:=(ER hp j0 hh).2 hd
     have hdl1:=(ER hp j0 hh).1.1 hd
     obtain⟨g1,g2,g3⟩:=ih p.base hh (by omega)
     have hhx:=(hheld p.base).2 hh
     have hdb:=ER hs j0 hhx
     have hdx:=hdb.1.2 ⟨g2,by omega⟩
     have hdy:=hdb.2 hdx
     refine⟨?_,hdx,by omega⟩
     rw[Oz hs j0 hb0 hhx hdx,Oz hp j0 hb0 hh hd,g1]
 refine⟨⟨by rw[hx];simp;exact hl.1,fun o ho=>?_,?_⟩,fun j hj=>(key (AT l j).1.toNat j hj (by omega)).1⟩
 .rw[hx] at ho
  have hcl:∀b,b=0∨CA l b→b=0∨∃r∈x,r.id=b:=fun b h=>h.imp id fun h=>(hheld b).2 h
  rcases List.mem_or_eq_of_mem_set ho with h|h
  .obtain⟨k1,k2,k3,k4,k5⟩:=hl.2.1 o h
   exact⟨k1,k2,k3,k4,hcl _ k5⟩
  .subst h
   rw[oi,ob,od]
   refine⟨hme.1,hme.2.1,(SE _ (DA _ _)).2,?_,hcl _ ?_⟩
   .intro e
    have hne:q.base≠0:=by omega
    have:=(d4 hne).2.2.2
    rw[e] at this;omega
   .by_cases h:q.base=0
    .exact .inl h
    .exact .inr (d4 h).1
 .have:(l.map fun o=>o.id).Pairwise (·<·):=List.pairwise_map.2 hl.2.2
  rw[←hids] at this
  exact List.pairwise_map.1 this
end
end Go.Abs
namespace Go.Abs
def ES (l:List Obj) (b:Int):Int:=match A7 l b with|some q=>q.base|none=>0
def Co (s:Au) (k id:Int):Au×Int:=
 if¬(k=1∨k=2) then(AQ,1) else if AI (fun v=>decide (v.id=id)) s.vers<0 then(AQ,3) else if k=1 then DF s id else
 match s.vers[(AI (fun v=>decide (v.id=id)) s.vers).toNat]? with
 |none=>(AQ,6)
 |some v=>if v.base=0 then(AQ,6) else FK s (Fo (Aj s) (B8 v) (ES (Aj s) v.base)) 0
def DL (s:Au) (id:Int):Int×Int:=match s.vers.find? fun v=>decide (v.base=id) with|some v=>(2,v.id) |none=>(1,id)
def Ba (s:Au):Int×Int:=match (DN s false).find? fun id=>decide ((Co s (DL s id).1 (DL s id).2).2=0) with|some id=>DL s id|none=>(0,0)
def BN (s:Au):Nat→List Au
 |0=> []
 |n+1=>if (Ba s).1=0 then [] else(Co s (Ba s).1 (Ba s).2).1::BN (Co s (Ba s).1 (Ba s).2).1 n
theorem SH {l:List (Int×Int)} {b n a:Int} {i:Nat} (h:DI l b n=(a,0)) (hp:CH l b):CH (l.set i (a,n)) b:=by
 obtain⟨h1,h2,h3,h4⟩:=SG h
 obtain⟨p1,p2,p3,p4,p5⟩:=hp
 have hap:=(I2 (l:=l) (x:=(a,n)) (fun y hy=>(p4 y hy).2.1) h1).2 ⟨p5,h4⟩
 rw[List.pairwise_append] at hap
 have hy:∀y∈l,apart y (a,n):=fun y hy=>hap.2.2 y hy _ (by simp)
 have hsy:∀x y:Int×Int,apart x y→apart y x:=fun x y h g=>h ⟨g.2,g.1⟩
 refine⟨p1,p2,by simpa using p3,fun x hx=>?_,List.pairwise_iff_getElem.2 fun j k hj hk hjk=>?_⟩
 .rcases List.mem_or_eq_of_mem_set hx with hx|hx
  .exact p4 x hx
  .subst hx;exact⟨h2,h1,h3⟩
 .simp only[List.length_set] at hj hk
  rw[List.getElem_set,List.getElem_set]
  split
  .split
   .omega
   .exact hsy _ _ (hy _ (List.getElem_mem hk))
  .split
   .exact hy _ (List.getElem_mem hj)
   .exact List.pairwise_iff_getElem.1 p5 j k hj hk hjk
theorem Wh {s:Au} (h:Cj (Aj s)) {i:Nat} (hi:i<s.vers.length):AI (fun v=>decide (v.id=s.vers[i].id)) s.vers=(i:Int):=by
 refine D4 hi (by simp) fun j hj hlt=>?_
 have:=List.pairwise_iff_getElem.1 (Wg h) j i (by simpa using hj) (by simpa using hi) hlt
 simp at this ⊢;omega
theorem KW {s:Au} (h:Bk s) {i:Nat} (hi:i<s.vers.length) (hb:s.vers[i].base≠0):
 D5 s (Fo (Aj s) (B8 s.vers[i]) (ES (Aj s) s.vers[i].base)) 0=FK s (Fo (Aj s) (B8 s.vers[i]) (ES (Aj s) s.vers[i].base)) 0∧
 (FK s (Fo (Aj s) (B8 s.vers[i]) (ES (Aj s) s.vers[i].base)) 0=(AQ,5)∨∃y a,FK s (Fo (Aj s) (B8 s.vers[i]) (ES (Aj s) s.vers[i].base)) 0=(y,0)∧Bk y∧
   y={s with vers:=s.vers.set i {s.vers[i] with base:=ES (Aj s) s.vers[i].base,data:=G8 (Aj s) (ES (Aj s) s.vers[i].base) (AR (Aj s) s.vers[i].id).1,at_:=a}}∧
   (∀j,AR (Aj y) j=AR (Aj s) j∨¬CA (Aj s) j)):=by
 have hmy:=h.1.1.2.2.2.2.2.2
 have hall:=h.1.2.2.1
 have hio:i<(Aj s).length:=by simpa[Aj] using hi
 have eo:(Aj s)[i]=B8 s.vers[i]:=by simp[Aj]
 have hbo:(Aj s)[i].base≠0:=by rw[eo];exact hb
 obtain⟨q,hq⟩:=C0.1 ((hmy.closed _ (List.getElem_mem hio)).resolve_left hbo)
 have hqb:ES (Aj s) s.vers[i].base=q.base:=by
  rw[eo] at hq;unfold ES
  have:A7 (Aj s) s.vers[i].base=some q:=hq
  rw[this]
 obtain⟨r1,r2⟩:=PC hmy hall hio hbo hq
 rw[eo] at r1 r2
 rw[hqb]
 obtain⟨o,ho⟩:∃o,o=Fo (Aj s) (B8 s.vers[i]) q.base:=⟨_,rfl⟩
 rw[←ho] at r1 r2 ⊢
 have oi:o.id=s.vers[i].id:=by rw[ho];rfl
 have hidx:AI (fun v=>decide (v.id=o.id)) s.vers=(i:Int):=by rw[oi];exact Wh hmy hi
 have hheld:∀j,CA ((Aj s).set i o) j↔CA (Aj s) j:=fun j=>by
  have e:((Aj s).set i o).map (fun o=>o.id)=(Aj s).map fun o=>o.id:=by
   rw[List.map_set]
   refine List.ext_getElem? fun j=>?_
   rw[List.getElem?_set]
   split
   .rename_i h;subst h;simp[hio,oi,eo,B8]
   .rfl
  have:∀m:List Obj,CA m j↔j∈m.map fun o=>o.id:=fun m=>by simp[CA]
  rw[this,this,e]
 have hml:JC s o 0:=by
  refine⟨(Aj s).set i o,by unfold DY;rw[hidx,if_neg (by omega)];simp,r1,fun k hk=>?_,fun x hx=>?_⟩
  .have hh:=(hheld ((Aj s).set i o)[k].id).1 ⟨_,List.getElem_mem hk,rfl⟩
   rw[r2 _ hh]
   obtain⟨p,pm,pi⟩:=hh
   rw[←pi];exact hall p pm
  .have hx2:=h.1.2.2.2 x hx
   unfold AD at hx2 ⊢
   by_cases co:x.opn=false
   .rw[if_pos co] at hx2 ⊢;exact hx2
   rw[if_neg co] at hx2 ⊢
   refine⟨hx2.1,hx2.2.1,hx2.2.2.imp id fun⟨g1,g2⟩=>⟨g1,?_⟩⟩
   rw[r2 _ ((Gc s x.pin).2 ((H5 _ _).1 (hx2.1.resolve_left g1)))];exact g2
 have hlp:=(Ue s o 0 h).1 hml
 have hls:Ou s o 0=D5 s o 0:=by unfold Ou;rw[if_pos h]
 rw[hls] at hlp
 refine⟨hlp,?_⟩
 have er:CE s o 0=(s.vers,i):=by unfold CE;rw[hidx,if_neg (by omega)];simp
 have elv:EE s o 0=some (s.vers,i):=by unfold EE;rw[hidx,if_neg (by omega)];simp
 have ep:De s.vers i o=s.vers.set i {s.vers[i] with base:=o.base,data:=o.data}:=Kg hi
 have ea:∀a,I7 (De s.vers i o) i a=s.vers.set i {s.vers[i] with base:=o.base,data:=o.data,at_:=a}:=fun a=>by
  rw[ep,Sn (by simpa using hi)];simp
 by_cases c:Gt (Ax s) s.blocks (CY o.data)<0
 .left;unfold FK;rw[if_pos c]
 .right
  have e1:FK s o 0=({s with vers:=s.vers.set i {s.vers[i] with base:=o.base,data:=o.data,at_:=Gt (Ax s) s.blocks (CY o.data)}},0):=by
   unfold FK;rw[if_neg c,er];simp only;rw[ea]
  rw[e1] at hlp ⊢
  obtain⟨a,haf⟩:∃a,a=Gt (Ax s) s.blocks (CY o.data):=⟨_,rfl⟩
  rw[←haf] at hlp ⊢
  have hmost:Eh {s with vers:=De s.vers i o}∧C2 o.data:=by
   unfold D5 at hlp
   rw[elv] at hlp
   simp only at hlp
   split at hlp
   .rename_i g;exact⟨g.2,g.1⟩
   .simp at hlp
  have hn:1≤CY o.data∧CY o.data≤100:=by
   obtain⟨b1,b2,b3,_⟩:=hmost.2
   unfold CY;omega
  obtain⟨f1,f2⟩:=M9 h.2 hn
  have hfind:DI (Ax s) s.blocks (CY o.data)=(a,0):=Prod.ext (by rw[f2 c,haf]) (f1.2 c)
  have eobj:Aj {s with vers:=s.vers.set i {s.vers[i] with base:=o.base,data:=o.data,at_:=a}}=(Aj s).set i o:=by
   unfold Aj
   simp only[List.map_set]
   congr 1
   cases o;simp[B8] at oi ⊢;exact oi.symm
  refine⟨_,a,rfl,⟨?_,?_⟩,?_,?_⟩
  .refine Sq (s:={s with vers:=De s.vers i o}) hmost.1 ?_ ?_ ?_ rfl rfl ⟨h.1.1.2.2.1,h.1.1.2.2.2.1⟩
   .simp only[ep,List.map_set];rfl
   .intro v hv
    simp only[ep] at hv ⊢
    rcases List.mem_or_eq_of_mem_set hv with g|g
    .obtain⟨k,hk,rfl⟩:=List.mem_iff_getElem.1 g
     by_cases e:i=k
     .subst e
      exact⟨_,List.mem_iff_getElem.2 ⟨i,by simpa using hi,List.getElem_set_self _⟩,rfl,rfl,rfl,rfl⟩
     .exact⟨_,List.mem_iff_getElem.2 ⟨k,by simpa using hk,List.getElem_set_ne e _⟩,rfl,rfl,rfl,rfl⟩
    .subst g
     exact⟨_,List.mem_iff_getElem.2 ⟨i,by simpa using hi,List.getElem_set_self _⟩,rfl,rfl,rfl,rfl⟩
   .have:=hmost.1.1.2.2.2.2.2.1
    rw[←this,ep]
    refine JD _ _ ?_
    simp only[List.map_set]
  .have e2:Ax {s with vers:=s.vers.set i {s.vers[i] with base:=o.base,data:=o.data,at_:=a}}=(Ax s).set i (a,CY o.data):=by simp[Ax,List.map_set]
   rw[e2]
   exact SH hfind h.2
  .rw[ho];rfl
  .intro j
   rw[eobj]
   by_cases hh:CA (Aj s) j
   .exact .inl (r2 j hh)
   .exact .inr hh
theorem OB {s:Au} {k id:Int} (h:Bk s) (he:(Co s k id).2=0):Bk (Co s k id).1∧(Co s k id).1.sess=s.sess∧(Co s k id).1.blocks=s.blocks∧(Co s k id).1.keep=s.keep∧
 (∀j,j∈(Co s k id).1.vers.map (fun v=>v.id)→j∈s.vers.map fun v=>v.id)∧∀j,j≠0→j∈(Co s k id).1.vers.map (fun v=>v.id)→AR (Aj (Co s k id).1) j=AR (Aj s) j:=by
 unfold Co at he ⊢
 by_cases c1:¬(k=1∨k=2)
 .rw[if_pos c1] at he;simp at he
 rw[if_neg c1] at he ⊢
 by_cases c2:AI (fun v=>decide (v.id=id)) s.vers<0
 .rw[if_pos c2] at he;simp at he
 rw[if_neg c2] at he ⊢
 by_cases c3:k=1
 .rw[if_pos c3] at he ⊢
  obtain⟨t1,t2⟩:=Ug h he
  refine⟨t1,?_⟩
  have e:DF s id=({s with vers:=s.vers.eraseIdx (AI (fun v=>decide (v.id=id)) s.vers).toNat},0):=by
   unfold DF at he ⊢
   rw[if_neg c2] at he ⊢
   split
   .rename_i g;rw[if_pos g] at he;simp at he
   .rfl
  refine⟨by rw[e],by rw[e],by rw[e],fun j hj=>?_,t2⟩
  rw[e] at hj
  obtain⟨v,hv,rfl⟩:=List.mem_map.1 hj
  exact List.mem_map.2 ⟨v,List.mem_of_mem_eraseIdx hv,rfl⟩
 rw[if_neg c3] at he ⊢
 obtain⟨hk,BK⟩:=Mo c2
 rw[List.getElem?_eq_getElem hk] at he ⊢
 simp only at he ⊢
 by_cases c4:s.vers[(AI (fun v=>decide (v.id=id)) s.vers).toNat].base=0
 .rw[if_pos c4] at he;simp at he
 rw[if_neg c4] at he ⊢
 obtain⟨_,r| ⟨y,a,r1,r2,r3,r4⟩⟩:=KW h hk c4
 .rw[r] at he;simp at he
 .rw[r1]
  simp only
  have hids:y.vers.map (fun v=>v.id)=s.vers.map fun v=>v.id:=by
   rw[r3]
   simp only[List.map_set]
   refine List.ext_getElem? fun j=>?_
   rw[List.getElem?_set]
   split
   .rename_i h;subst h;simp[hk]
   .rfl
  refine⟨r2,by rw[r3],by rw[r3],by rw[r3],fun j hj=>by rw[←hids];exact hj,fun j _ hj=>?_⟩
  rcases r4 j with g|g
  .exact g
  .exact absurd ((Gc s j).2 (by rw[←hids];exact hj)) g
theorem HA {s:Au} (h:(Ba s).1≠0):(Co s (Ba s).1 (Ba s).2).2=0:=by
 unfold Ba at h ⊢
 cases e:(DN s false).find? fun id=>decide ((Co s (DL s id).1 (DL s id).2).2=0) with
 |none=>rw[e] at h;simp at h
 |some id=>simpa using List.find?_some e
theorem SI:∀(n:Nat) (s:Au),Bk s→∀y∈BN s n,Bk y∧y.sess=s.sess
 |0,s,_,y,hy=>by simp[BN] at hy
 |n+1,s,h,y,hy=>by
  rw[BN] at hy
  split at hy
  .simp at hy
  .rename_i c
   have ha:=OB h (HA c)
   rw[List.mem_cons] at hy
   rcases hy with rfl|hy
   .exact⟨ha.1,ha.2.1⟩
   .have:=SI n _ ha.1 y hy
    exact⟨this.1,by rw[this.2,ha.2.1]⟩
theorem Mp:∀(n:Nat) (s:Au),(BN s n).length≤n
 |0,_=>by simp[BN]
 |n+1,s=>by
  rw[BN]
  split
  .simp
  .have:=Mp n (Co s (Ba s).1 (Ba s).2).1
   simp;omega
end Go.Abs
set_option maxRecDepth 100000
namespace Go.Abs
open Go.Proofs
theorem Uh (o:Obj) (id:Int):Aa pg 211 ([.agg (Aq o)]++[.rptr [.int .i64 id]]) [] (fun r _=>r= .bool (decide (o.id=id))):=by
 refine Aa.start (fn:=Tryz.f211) [.tmp 3] tk rfl rfl rfl (by kernel_rfl) (Nat.le_of_ble_eq_true rfl) rfl (by kernel_rfl) ?_
 simp only[List.cons_append,List.nil_append]
 rw[Ar]
 refine z1 ?_;intro K hK;refine zk ?_;clear hK K
 refine zs ?_
 exact zR
theorem Wi (xs:List Obj) (a id:Int) (hx:D9 xs) (hl:xs.length≤1000) (hb:∀o∈xs,o.base=0∨∃q∈xs,q.id=o.base) (ha:a=0∨∃q∈xs,q.id=a):Aa pg 174 [.ro xs.length (Ac Aq xs),.int .i64 a,.int .i64 id] [] (fun r _=>r= .int .i64 (AI (fun o=>decide (o.id=id)) (AL xs xs.length a))):=by
 have hw:=Ik xs xs.length a
 have spW:=RF xs a xs.length hx hl hb ha
 obtain⟨w,hwd⟩:∃w,w=AL xs xs.length a:=⟨_,rfl⟩
 rw[←hwd] at hw spW ⊢
 refine Aa.start (fn:=Tryz.f174) [.tmp 6] tk rfl rfl rfl (by kernel_rfl) (Nat.le_of_ble_eq_true rfl) rfl (by kernel_rfl) ?_
 rw[Bi]
 refine z1 ?_;intro K hK;refine zk ?_;clear hK K
 refine z0 ?_;intro K hK
 refine Ab.eq spW (by simp) (by simp) ?_
 refine zx ?_
 refine Ab.eq (L7 w 211 [.rptr [.int .i64 id]] (fun o=>decide (o.id=id)) (by omega) (fun o _=>Uh o id) (by simp)) (by simp) (by simp) ?_
 refine zx ?_
 refine zk ?_;clear hK K
 exact zR
theorem Ui (xs:List Obj) (hx:xs.length<1000000000):Aa pg 176 [.ro xs.length (Ac Aq xs)] [] (fun r _=>r= .own 4 xs.length (Ac Aq xs)):=by
 refine Aa.start (fn:=Tryz.f176) [.tmp 2] tk rfl rfl rfl (by kernel_rfl) (Nat.le_of_ble_eq_true rfl) rfl (by kernel_rfl) ?_
 rw[Av]
 refine zs ?_
 refine z0 ?_;intro K hK
 refine⟨fun h=>?_,fun h=>⟨?_,?_⟩⟩
 .refine zk ?_;clear hK K
  refine zn ?_
  refine W.skip ?_
  refine z1 ?_;intro K hK
  refine⟨by omega,by omega,?_⟩
  refine zk ?_;clear hK K
  exact zR
 .refine zk ?_;clear hK K
  refine zn ?_
  refine W.skip ?_
  subst h
  refine z1 ?_;intro K hK;refine zk ?_;clear hK K
  exact zR
 .refine zk ?_;clear hK K
  refine zt ?_
  refine zs ?_
  refine zr ?_
  simp[h]
set_option maxHeartbeats 4000000 in
theorem SJ (l:List Obj) (i:Nat) (q:Obj) (hx:D9 l) (hl:Cj l) (hall:∀o∈l,(AR l o.id).2=0) (hi:i<l.length) (hb:l[i].base≠0) (hq:A7 l l[i].base=some q):Aa pg 139 [.ro l.length (Ac Aq l),.int .i64 l[i].id,.int .i64 q.base] [] (fun r _=>r= .tup [.own 4 l.length (Ac Aq (l.set i (Fo l l[i] q.base))),.int .i64 0]):=by
 have hlen:l.length≤12:=hl.1
 have hm:=List.getElem_mem hi
 have hcl:∀o∈l,o.base=0∨∃r∈l,r.id=o.base:=hl.closed
 obtain⟨d1,d2,d3,d4⟩:=JE hl hall hi hb hq
 obtain⟨s1,s2⟩:=QX hl hall hi hb hq l.length
 have hids:(l.map fun o=>o.id).Pairwise (·<·):=List.pairwise_map.2 hl.2.2
 have hidx:AI (fun o=>decide (o.id=l[i].id)) l=(i:Int):=by
  refine D4 hi (by simp) fun j hj hlt=>?_
  have:=List.pairwise_iff_getElem.1 hl.2.2 j i hj hi hlt
  simp;omega
 have spM:=Tx l hx
 rw[decide_eq_true hl] at spM
 have spO:=RH l l[i].id hx hl
 rw[hall _ hm] at spO
 have hgm:=DA l l[i].id
 have spB:=RH l q.base hx hl
 have hbm:=DA l q.base
 have spF:=L8 l l[i].id (by omega)
 rw[hidx] at spF
 have spC:=Ui l (by omega)
 have spS:=fun a ha=>Wi l a l[i].id hx (by omega) hcl ha
 have spD:=Ty l q.base hx hcl
 obtain⟨o,ho⟩:∃o,o=l[i]:=⟨_,rfl⟩
 have oc0:(Ac Aq l)[i*4]?=some (.int .i64 l[i].id):=Bg (f:=Aq) (s:=4) (fun _=>rfl) hi (i:=0) (by omega)
 simp only[←ho] at*
 obtain⟨b,hbd⟩:∃b,b=q.base:=⟨_,rfl⟩
 simp only[←hbd] at*
 obtain⟨g,hg⟩:∃g,g=(AR l o.id).1:=⟨_,rfl⟩
 obtain⟨p,hp⟩:∃p,p=(AR l b).1:=⟨_,rfl⟩
 rw[←hg] at hgm
 rw[←hp] at hbm
 have hreb:Fo l o b=⟨o.id,b,G8 l b g⟩:=by rw[Fo,hg]
 rw[hreb]
 have spG:=Ua g hgm
 have spY:=V9 p g hbm hgm
 have hby:G8 l b g=if b=0 then D6 (CX g) else D6 (C8 p g):=by unfold G8;rw[hp];split<;>rfl
 obtain⟨e1,he1⟩:∃e1,e1=D6 (CX g):=⟨_,rfl⟩
 obtain⟨e2,he2⟩:∃e2,e2=D6 (C8 p g):=⟨_,rfl⟩
 obtain⟨d,hd⟩:∃d,d=G8 l b g:=⟨_,rfl⟩
 rw[←he1] at spG hby
 rw[←he2] at spY hby
 rw[←hd] at hby ⊢
 have hOg:AR l o.id=(g,0):=Prod.ext hg.symm (hall _ hm)
 rw[hOg] at spO
 obtain⟨D,hD⟩:∃D:Int,D=if b=0 then 1 else(AT l b).1+1:=⟨_,rfl⟩
 rw[←hD] at s2
 have hD2:1≤D∧D≤3:=by
  rw[hD];split
  .omega
  .rename_i h;have:=d4 h;omega
 have hput:(((Ac Aq l).set (i*4+1) (.int .i64 b)).set (i*4+1+1) (.str d.data)).set (i*4+1+1+1) (.int .i64 d.n)=Ac Aq (l.set i ⟨o.id,b,d⟩):=by
  rw[←Qh ⟨o.id,b,d⟩ l i hi]
  congr 3
  refine(List.ext_getElem? fun j=>?_)
  rw[List.getElem?_set]
  split
  .rename_i h;subst h;rw[oc0];simp;omega
  .rfl
 have hput2:(((Ac Aq l).set (i*4+1) (.int .i64 b)).set (i*4+2) (.str d.data)).set (i*4+2+1) (.int .i64 d.n)=Ac Aq (l.set i ⟨o.id,b,d⟩):=hput
 refine Aa.start (fn:=Tryz.f139) [.tmp 6,.tmp 7] tk rfl rfl rfl (by kernel_rfl) (Nat.le_of_ble_eq_true rfl) rfl (by kernel_rfl) ?_
 rw[Bi]
 refine zs ?_
 refine z0 ?_;intro K hK
 refine Ab.eq spM (by simp) (by simp) ?_
 refine zx ?_
 refine zk ?_;clear hK K
 refine zn ?_
 refine W.skip ?_
 refine z1 ?_;intro K hK
 refine Ab.eq spO (by simp) (by simp) ?_
 refine zx ?_
 refine zk ?_;clear hK K
 refine zs ?_
 refine zn ?_
 refine W.skip ?_
 refine z1 ?_;intro K hK
 refine Ab.eq spG (by simp) (by simp) ?_
 refine zx ?_
 refine zk ?_;clear hK K
 refine zs ?_
 refine W.midS (fun _:Unit=> [(0,.ro l.length (Ac Aq l)),(1,.int .i64 o.id),(2,.int .i64 b),(10,.ptr 2 0 0),(11,.int .i64 D)]) (fun _=> [.live 0 [.int .i64 g.n,.tok 1 0 1 0 g.out.length],.live 0 (AE true g.out),.live 0 [.str d.data,.int .i64 d.n]]) (fun _=>True) ?_ ?_
 .refine zc ?_ ?_<;>intro h
  .obtain⟨k1,k2,k3,k4⟩:=d4 h
   rw[if_neg h] at hby hD
   have hOb:AR l b=(p,0):=by
    obtain⟨r,rm,ri⟩:=k1
    exact Prod.ext hp.symm (by rw[←ri];exact hall r rm)
   rw[hOb] at spB
   have hDb:AT l b=(D-1,0):=Prod.ext (by simp only;omega) k2
   rw[hDb] at spD
   have spSb:=spS b (.inr k1)
   obtain⟨z,hz⟩:∃z,z=AI (fun x=>decide (x.id=o.id)) (AL l l.length b):=⟨_,rfl⟩
   have hzn:¬0≤z:=by have:=s1 h;omega
   rw[←hz] at spSb
   have hDD:D-1+1=D:=by omega
   refine z1 ?_;intro K hK
   refine Ab.eq spB (by simp) (by simp) ?_
   refine zx ?_
   refine zk ?_;clear hK K
   refine zs ?_
   refine zn ?_
   refine W.skip ?_
   refine z0 ?_;intro K hK
   refine Ab.eq spSb (by simp) (by simp) ?_
   refine AO hzn ?_
   refine zk ?_;clear hK K
   refine zn ?_
   refine W.skip ?_
   refine z0 ?_;intro K hK
   refine Ab.eq spD (by simp) (by simp) ?_
   refine zx ?_
   refine zk ?_;clear hK K
   refine z0 ?_;intro K hK
   refine Ab.eq spY (by simp) (by simp) ?_
   refine zx ?_
   refine zk ?_;clear hK K
   exact⟨(),trivial,Wk.cutM (k:=3) (by simp[Ad,hDD]) (by simp[hby]) (by simp) (by simp) (by simp) (by simp)⟩
  .rw[if_pos h] at hby hD
   refine W.skip ?_
   exact⟨(),trivial,Wk.cutM (k:=3) (by simp[Ad,hD]) (by simp[hby]) (by simp) (by simp) (by simp) (by simp)⟩
 rintro _ _
 refine zs ?_
 (repeat refine W.seq ?_);refine W.block (W.loopS (fun k:Nat=> [(0,.ro l.length (Ac Aq l)),(1,.int .i64 o.id),(2,.int .i64 b),(10,.ptr 2 0 0),(11,.int .i64 D),(60,.ro l.length (Ac Aq l)),(61,.int .i64 l.length),(62,.int .i64 k)]) (fun _=> [.live 0 [.int .i64 g.n,.tok 1 0 1 0 g.out.length],.live 0 (AE true g.out),.live 0 [.str d.data,.int .i64 d.n]]) (fun k=>l.length-k) (fun k=>k≤l.length) 0 (Wk.fr (by simp[Ad])) (by simp) ?_)
 intro k hk
 by_cases c1:k<l.length
 rotate_left
 .refine Af c1 ?_;intro K hK
  refine zk ?_;clear hK K
  refine zn ?_
  refine W.exit ?_
  refine z0 ?_;intro K hK
  refine Ab.eq spC (by simp) (by simp) ?_
  refine zx ?_
  refine zk ?_;clear hK K
  refine z0 ?_;intro K hK
  refine Ab.eq spF (by simp) (by simp) ?_
  refine zx ?_
  refine zk ?_;clear hK K
  (repeat refine W.seq ?_);refine W.regdX 0 [(10,95),(10,92)] rfl true Ck (by kernel_rfl) fun K hK=>?_;simp -implicitDefEqProofs (maxSteps:=999999) (disch:=omega) [hi]
  refine⟨by omega,by omega,?_⟩
  (repeat refine⟨by first|assumption|omega,?_⟩);refine hK _ _ (by simp(disch:=omega)) ?_;clear hK K
  rw[hput2]
  refine zs ?_
  refine zr ?_
  rw[List.take_of_length_le (by simp)]
 have o0:(Ac Aq l)[k*4]?=some (.int .i64 l[k].id):=Bg (f:=Aq) (s:=4) (fun _=>rfl) c1 (i:=0) (by omega)
 have o1:(Ac Aq l)[k*4+1]?=some (.int .i64 l[k].base):=Bg (f:=Aq) (s:=4) (fun _=>rfl) c1 (i:=1) (by omega)
 have o2:(Ac Aq l)[k*4+1+1]?=some (.str l[k].data.data):=Bg (f:=Aq) (s:=4) (fun _=>rfl) c1 (i:=2) (by omega)
 have o3:(Ac Aq l)[k*4+1+1+1]?=some (.int .i64 l[k].data.n):=Bg (f:=Aq) (s:=4) (fun _=>rfl) c1 (i:=3) (by omega)
 have spSk:=spS l[k].id (.inr ⟨_,List.getElem_mem c1,rfl⟩)
 have hsk:=s2 _ (List.getElem_mem c1)
 have hgz:-1≤AI (fun x=>decide (x.id=o.id)) (AL l l.length l[k].id)∧AI (fun x=>decide (x.id=o.id)) (AL l l.length l[k].id)≤12:=by
  have hw:=Ik l l.length l[k].id
  unfold AI
  cases e:(AL l l.length l[k].id).findIdx? (fun x=>decide (x.id=o.id)) with
  |none=>simp
  |some j=>have:=(List.findIdx?_eq_some_iff_getElem.1 e).1;simp only;omega
 obtain⟨z,hz⟩:∃z,z=AI (fun x=>decide (x.id=o.id)) (AL l l.length l[k].id):=⟨_,rfl⟩
 rw[←hz] at spSk hsk hgz
 have hzn:¬3<z+D:=by omega
 refine Af c1 ?_;intro K hK
 refine zk ?_;clear hK K
 refine zt ?_
 refine W.skip ?_
 refine zb ?_
 refine LZ (an c1 (an o0 (an o1 (an o2 o3)))) ?_;intro K hK
 refine zk ?_;clear hK K
 refine z0 ?_;intro K hK
 refine Ab.eq spSk (by simp) (by simp) ?_
 refine AO hzn ?_
 refine zk ?_;clear hK K
 refine zn ?_
 refine W.skip ?_
 refine zs ?_
 exact⟨k+1,by omega,by omega,Wk.cutM (k:=3) (by simp[Ad]) (by simp) (by simp) (by simp) (by simp) (by simp)⟩
end Go.Abs
set_option maxRecDepth 100000
namespace Go.Abs
open Go.Proofs
@[simp] def QY (a:Int×Int):List AV:=[.int .i64 a.1,.int .i64 a.2]
theorem Uj (s:Au) (id:Int):AI (fun o=>decide (o.id=id)) (Aj s)=AI (fun v=>decide (v.id=id)) s.vers:=by
 unfold AI Aj
 rw[List.findIdx?_map]
 rfl
theorem SK {l:List Obj} {o:Obj} (b:Int):(Fo l o b).data.data.size<1000000000:=by
 have:=(SE (l:=l) b (DA l o.id)).1
 simp only[Fo];omega
set_option maxHeartbeats 4000000 in
theorem OC (hR:BC) (s:Au) (k id:Int) (hs:A5 s) (hx:BM s) (hok:Bk s):Aa pg 99 [.agg (An false s),.agg [.int .i64 k,.int .i64 id]] [] (fun r _=>r= .tup [.agg (An true (Co s k id).1),.int .i64 (Co s k id).2]):=by
 have h1:=hs.1
 have hmy:=hok.1.1.2.2.2.2.2.2
 have hall:=hok.1.2.2.1
 have spP:=G0 s id hs
 have spT:=We hR s id hs hx
 obtain⟨z,hz⟩:∃z,z=AI (fun v=>decide (v.id=id)) s.vers:=⟨_,rfl⟩
 have hz2:=hz
 rw[←hz] at spP
 refine Aa.start (fn:=Tryz.f99) [.cell 4 38,.tmp 5] tk rfl rfl rfl (by kernel_rfl) (Nat.le_of_ble_eq_true rfl) rfl (by kernel_rfl) ?_
 rw[Ar]
 refine z3 ?_;intro K hK;refine zk ?_;clear hK K
 refine z0 ?_;intro K hK
 refine Ab.eq spP (by simp) (by simp) ?_
 refine zx ?_
 refine zk ?_;clear hK K
 refine zb ?_
 unfold Co
 rw[←hz]
 by_cases c1:k=1∨k=2
 rotate_left
 .have c1a:¬k=1:=fun h=>c1 (.inl h)
  have c1b:¬k=2:=fun h=>c1 (.inr h)
  rw[if_pos c1]
  refine Af (an c1a c1b) ?_;intro K hK
  refine zk ?_;clear hK K
  refine zt ?_
  refine z0 ?_;intro K hK
  refine zk ?_;clear hK K
  refine W.weak ((Wk.thaw (B:=2) (v:=0) (j:=2) (s:=8) (n:=0) (xs:=[]) rfl rfl).trans (Wk.thaw (B:=2) (v:=0) (j:=3) (s:=12) (n:=0) (xs:=[]) rfl rfl)) ?_
  refine zr ?_
  simp[AQ]
 rw[if_neg (fun h=>h c1)]
 (repeat refine W.seq ?_);refine W.midS (fun _:Unit=> [(0,.agg (An false s)),(2,.ptr 0 0 0),(3,.ptr 1 0 0),(4,.ptr 2 0 0),(6,.int .i64 z),(14,.bool false)]) (fun _=> [.live 0 (An false s),.live 0 [.int .i64 k,.int .i64 id],.live 0 [.int .i64 0,.int .i64 0,.own 8 0 [],.own 12 0 []]]) (fun _=>True) ?_ ?_
 .rcases c1 with rfl|rfl
  .refine z0 ?_;intro K hK
   refine zk ?_;clear hK K
   exact⟨(),trivial,Wk.fr (by simp[Ad])⟩
  .refine z0 ?_;intro K hK
   refine zk ?_;clear hK K
   exact⟨(),trivial,Wk.fr (by simp[Ad])⟩
 rintro _ _
 refine zn ?_
 by_cases c2:z<0
 .rw[if_pos c2]
  refine Af c2 ?_;intro K hK
  refine zk ?_;clear hK K
  refine zt ?_
  refine z0 ?_;intro K hK
  refine zk ?_;clear hK K
  refine W.weak ((Wk.thaw (B:=2) (v:=0) (j:=2) (s:=8) (n:=0) (xs:=[]) rfl rfl).trans (Wk.thaw (B:=2) (v:=0) (j:=3) (s:=12) (n:=0) (xs:=[]) rfl rfl)) ?_
  refine zr ?_
  simp[AQ]
 rw[if_neg c2]
 refine Af c2 ?_;intro K hK
 refine zk ?_;clear hK K
 refine zn ?_
 by_cases c3:k=1
 .rw[if_pos c3]
  refine Af c3 ?_;intro K hK
  refine zk ?_;clear hK K
  refine zt ?_
  refine z0 ?_;intro K hK
  refine Ab.eq spT (by simp) (by simp) ?_
  refine zx ?_
  refine zk ?_;clear hK K
  exact zR
 rw[if_neg c3]
 obtain⟨i,hi⟩:∃i:Nat,z=(i:Int):=⟨z.toNat,by omega⟩
 have hzt:z.toNat=i:=by omega
 obtain⟨hk,BK⟩:∃hk:i<s.vers.length,s.vers[i].id=id:=by
  obtain⟨hk,BK⟩:=Mo (s:=s) (id:=id) (by rw[←hz];exact c2)
  have e:(AI (fun v=>decide (v.id=id)) s.vers).toNat=i:=by rw[←hz];exact hzt
  simp only[e] at hk BK
  exact⟨hk,BK⟩
 have hgv:s.vers[z.toNat]?=some s.vers[i]:=by rw[hzt];exact List.getElem?_eq_getElem hk
 simp only[hgv]
 clear hgv hzt hz2 hz
 subst hi
 have v2:(Ac Ay s.vers)[i*8+2]?=some (.int .i64 s.vers[i].base):=Bg (f:=Ay) (s:=8) (fun _=>rfl) hk (i:=2) (by omega)
 by_cases c4:s.vers[i].base=0
 .rw[if_pos c4]
  refine Af c3 ?_;intro K hK
  refine zk ?_;clear hK K
  refine zn ?_
  refine Af (an hk (an v2 c4)) ?_;intro K hK
  refine zk ?_;clear hK K
  refine zt ?_
  refine z0 ?_;intro K hK
  refine zk ?_;clear hK K
  refine W.weak ((Wk.thaw (B:=2) (v:=0) (j:=2) (s:=8) (n:=0) (xs:=[]) rfl rfl).trans (Wk.thaw (B:=2) (v:=0) (j:=3) (s:=12) (n:=0) (xs:=[]) rfl rfl)) ?_
  refine zr ?_
  simp[AQ]
 rw[if_neg c4]
 have hio:i<(Aj s).length:=by simpa[Aj] using hk
 have eo:(Aj s)[i]=B8 s.vers[i]:=by simp[Aj]
 obtain⟨q,hq⟩:=C0.1 ((hmy.closed _ (List.getElem_mem hio)).resolve_left (by rw[eo];exact c4))
 have hq2:A7 (Aj s) s.vers[i].base=some q:=by rw[eo] at hq;exact hq
 have hqb:ES (Aj s) s.vers[i].base=q.base:=by unfold ES;rw[hq2]
 obtain⟨j,hj,j1,j2,j3⟩:=El hq2
 rw[Uj] at j1
 have hjv:j<s.vers.length:=by simpa[Aj] using hj
 have j4:(Ac Ay s.vers)[j*8+2]?=some (.int .i64 q.base):=by
  rw[←j2]
  have:=Bg (f:=Ay) (s:=8) (fun _=>rfl) hjv (i:=2) (by omega)
  rw[this];simp[Aj,B8,Ay]
 have hjb:s.vers[j].base=q.base:=by rw[←j2];simp[Aj,B8]
 have spP2:=G0 s s.vers[i].base hs
 rw[j1] at spP2
 have spL:=Mb s hs
 have spR:=SJ (Aj s) i q hs.objs hmy hall hio (by rw[eo];exact c4) hq
 rw[eo] at spR
 have hoid:(B8 s.vers[i]).id=id:=BK
 rw[hoid] at spR
 have hrl:=(KW hok hk c4).1
 rw[hqb] at hrl ⊢
 obtain⟨o,ho⟩:∃o,o=Fo (Aj s) (B8 s.vers[i]) q.base:=⟨_,rfl⟩
 have hos:o.data.data.size<1000000000:=by rw[ho];exact SK _
 rw[←ho] at spR hrl ⊢
 have spY:=Ym hR s o 0 hs hx hos (by have:=hmy.1;simp[Aj] at this;omega)
 rw[hrl] at spY
 obtain⟨l,hl⟩:∃l,l=Aj s:=⟨_,rfl⟩
 rw[←hl] at spL spR hio
 have o0:(Ac Aq (l.set i o))[i*4]?=some (.int .i64 o.id):=by
  have:=Bg (f:=Aq) (s:=4) (xs:=l.set i o) (fun _=>rfl) (show i<(l.set i o).length by simpa using hio) (i:=0) (by omega)
  rw[List.getElem_set_self] at this;exact this
 have o1:(Ac Aq (l.set i o))[i*4+1]?=some (.int .i64 o.base):=by
  have:=Bg (f:=Aq) (s:=4) (xs:=l.set i o) (fun _=>rfl) (show i<(l.set i o).length by simpa using hio) (i:=1) (by omega)
  rw[List.getElem_set_self] at this;exact this
 have o2:(Ac Aq (l.set i o))[i*4+1+1]?=some (.str o.data.data):=by
  have:=Bg (f:=Aq) (s:=4) (xs:=l.set i o) (fun _=>rfl) (show i<(l.set i o).length by simpa using hio) (i:=2) (by omega)
  rw[List.getElem_set_self] at this;exact this
 have o3:(Ac Aq (l.set i o))[i*4+1+1+1]?=some (.int .i64 o.data.n):=by
  have:=Bg (f:=Aq) (s:=4) (xs:=l.set i o) (fun _=>rfl) (show i<(l.set i o).length by simpa using hio) (i:=3) (by omega)
  rw[List.getElem_set_self] at this;exact this
 refine Af c3 ?_;intro K hK
 refine zk ?_;clear hK K
 refine zn ?_
 refine Af (an hk (an v2 c4)) ?_;intro K hK
 refine zk ?_;clear hK K
 refine zn ?_
 refine W.skip ?_
 refine Br (an hk v2) ?_;intro K hK
 refine Ah.eq spP2 (by simp) (by simp) ?_
 refine AO (an hjv (an j4 hjb)) ?_
 refine zk ?_;clear hK K
 refine B9 ?_;intro K hK
 refine Ah.eq spL (by simp) (by simp) ?_
 refine zx ?_
 refine Ah.eq spR (by simp) (by simp) ?_
 refine zx ?_
 refine zk ?_;clear hK K
 refine zs ?_
 refine zn ?_
 refine W.skip ?_
 refine Br (an hio (an o0 (an o1 (an o2 o3)))) ?_;intro K hK
 refine Ah.eq spY (by simp) (by simp) ?_
 refine zx ?_
 refine zk ?_;clear hK K
 exact zR
end Go.Abs
set_option maxRecDepth 100000
namespace Go.Abs
open Go.Proofs
theorem Mq {s:Au} {k id:Int} (hs:A5 s) (hx:BM s) (hok:Bk s):A5 (Co s k id).1∧BM (Co s k id).1:=by
 unfold Co
 split
 .exact E2
 split
 .exact E2
 split
 .exact SF hs hx
 split
 .exact E2
 .rename_i v hv
  split
  .exact E2
  .rename_i hb
   obtain⟨hi,e⟩:=List.getElem?_eq_some_iff.1 hv
   subst e
   rw[←(KW hok hi hb).1]
   exact Uf hs hx (SK _) (by have:=hok.1.1.2.2.2.2.2.2.1;simp[Aj] at this;omega)
theorem SL (v:Bj) (id:Int):Aa pg 171 ([.agg (Ay v)]++[.rptr [.int .i64 id]]) [] (fun r _=>r= .bool (decide (v.base=id))):=by
 refine Aa.start (fn:=Tryz.f171) [.tmp 3] tk rfl rfl rfl (by kernel_rfl) (Nat.le_of_ble_eq_true rfl) rfl (by kernel_rfl) ?_
 simp only[List.cons_append,List.nil_append]
 rw[Ar]
 refine z1 ?_;intro K hK;refine zk ?_;clear hK K
 refine zs ?_
 exact zR
def Qi (s:Au) (id:Int):Bool:=decide ((Co s (DL s id).1 (DL s id).2).2=0)
set_option maxHeartbeats 2000000 in
theorem Uk (hR:BC) (s:Au) (id:Int) (hs:A5 s) (hx:BM s) (hok:Bk s):Aa pg 138 [.agg (An false s),.int .i64 id] [] (fun r _=>r= .tup [.agg (QY (DL s id)),.bool (Qi s id)]):=by
 have h1:=hs.1
 have spI:=IZ s.vers 171 [.rptr [.int .i64 id]] (fun v=>decide (v.base=id)) (by omega) (fun v _=>SL v id) (by simp)
 obtain⟨z,hz⟩:∃z,z=AI (fun v=>decide (v.base=id)) s.vers:=⟨_,rfl⟩
 rw[←hz] at spI
 obtain⟨a,ha⟩:∃a,a=DL s id:=⟨_,rfl⟩
 have spD:=OC hR s a.1 a.2 hs hx hok
 have hin:=Mq (k:=a.1) (id:=a.2) hs hx hok
 unfold Qi
 rw[←ha]
 obtain⟨y,hy⟩:∃y,y=(Co s a.1 a.2).1:=⟨_,rfl⟩
 obtain⟨e,he⟩:∃e,e=(Co s a.1 a.2).2:=⟨_,rfl⟩
 rw[←hy,←he] at spD
 rw[←he]
 refine Aa.start (fn:=Tryz.f138) [.cell 4 103,.tmp 5] tk rfl rfl rfl (by kernel_rfl) (Nat.le_of_ble_eq_true rfl) rfl (by kernel_rfl) ?_
 rw[Ar]
 refine z3 ?_;intro K hK;refine zk ?_;clear hK K
 refine z0 ?_;intro K hK
 refine Ab.eq spI (by simp) (by simp) ?_
 refine zx ?_
 refine zk ?_;clear hK K
 refine z1 ?_;intro K hK
 refine zk ?_;clear hK K
 refine zs ?_
 refine W.midS (fun _:Unit=> [(2,.ptr 0 0 0),(4,.ptr 2 0 0),(7,.ptr 3 0 0)]) (fun _=> [.live 0 (An false s),.live 0 [.int .i64 id],.live 0 [.int .i64 0,.int .i64 0],.live 0 (QY a)]) (fun _=>True) ?_ ?_
 .refine zc ?_ ?_<;>intro h
  .obtain⟨k,hk⟩:=Int.eq_ofNat_of_zero_le h
   subst hk
   have hkk:∃hk:k<s.vers.length,a=(2,s.vers[k].id):=by
    unfold AI at hz
    cases e:s.vers.findIdx? (fun v=>decide (v.base=id)) with
    |none=>rw[e] at hz;simp at hz
    |some j=>
     rw[e] at hz
     have:j=k:=by simp at hz;omega
     subst this
     obtain⟨q1,q2,q3⟩:=List.findIdx?_eq_some_iff_getElem.1 e
     refine⟨q1,?_⟩
     have hf:s.vers.find? (fun v=>decide (v.base=id))=some s.vers[j]:=KS q1 (fun x hx=>by
      obtain⟨m,hm,rfl⟩:=List.mem_iff_getElem.1 hx
      simp only[List.length_take] at hm
      have:=q3 m (by omega)
      simpa using this) q2
     rw[ha,DL,hf]
   obtain⟨hk,hak⟩:=hkk
   have v0:(Ac Ay s.vers)[k*8]?=some (.int .i64 s.vers[k].id):=Bg (f:=Ay) (s:=8) (fun _=>rfl) hk (i:=0) (by omega)
   refine Af (an hk v0) ?_;intro K hK
   refine zk ?_;clear hK K
   subst hak
   exact⟨(),trivial,Wk.fr (by simp[Ad])⟩
  .have hak:a=(1,id):=by
    have hf:s.vers.find? (fun v=>decide (v.base=id))=none:=by
     rw[List.find?_eq_none]
     intro v hv c
     have:0≤z:=by rw[hz];exact Cw.2 ⟨v,hv,c⟩
     omega
    rw[ha,DL,hf]
   refine W.skip ?_
   subst hak
   exact⟨(),trivial,Wk.fr (by simp[Ad])⟩
 rintro _ _
 refine z1 ?_;intro K hK
 refine Ab.eq spD (by simp) (by simp) ?_
 refine zx ?_
 refine zk ?_;clear hK K
 refine z0 ?_;intro K hK
 refine zk ?_;clear hK K
 exact zR
set_option maxHeartbeats 2000000 in
theorem KA (hR:BC) (s:Au) (hs:A5 s) (hx:BM s) (hok:Bk s):Aa pg 98 [.agg (An false s)] [] (fun r _=>r= .agg (QY (Ba s))):=by
 have h1:=hs.1
 have hkp:0≤s.keep∧s.keep≤1000000:=⟨by have:=hok.1.1.1;omega,by have:=hok.1.1.2.1;omega⟩
 have spW:=Wb s hs hkp
 have hwl:(DN s false).length≤s.vers.length:=HZ ..
 obtain⟨a,ha⟩:∃a,a=Ba s:=⟨_,rfl⟩
 have hfo:a=match (DN s false).find? (Qi s) with|some id=>DL s id|none=>(0,0):=by rw[ha];rfl
 rw[←ha]
 obtain⟨w,hw⟩:∃w,w=DN s false:=⟨_,rfl⟩
 rw[←hw] at spW hwl hfo
 refine Aa.start (fn:=Tryz.f98) [.cell 2 103] tk rfl rfl rfl (by kernel_rfl) (Nat.le_of_ble_eq_true rfl) rfl (by kernel_rfl) ?_
 rw[Av]
 refine z2 ?_;intro K hK;refine zk ?_;clear hK K
 refine z0 ?_;intro K hK
 refine Ab.eq spW (by simp) (by simp) ?_
 refine zx ?_
 refine zk ?_;clear hK K
 (repeat refine W.seq ?_);refine W.block (W.loopS (fun k:Nat=> [(1,.ptr 0 0 0),(2,.ptr 1 0 0),(8,.tok 2 0 1 0 w.length),(9,.int .i64 w.length),(10,.int .i64 k)]) (fun _=> [.live 0 (An false s),.live 0 [.int .i64 0,.int .i64 0],.live 0 (Ae w)]) (fun k=>w.length-k) (fun k=>k≤w.length∧∀x∈w.take k,Qi s x=false) 0 (Wk.fr (by simp[Ad])) ⟨by omega,by simp⟩ ?_)
 rintro k ⟨hk,hno⟩
 by_cases c1:k<w.length
 rotate_left
 .have hke:k=w.length:=by omega
  have hf:w.find? (Qi s)=none:=by
   rw[List.find?_eq_none]
   intro x hx
   rw[List.take_of_length_le (by omega)] at hno
   simpa using hno x hx
  rw[hf] at hfo
  subst hfo
  refine Af c1 ?_;intro K hK
  refine zk ?_;clear hK K
  refine zn ?_
  refine W.exit ?_
  refine z0 ?_;intro K hK
  refine zk ?_;clear hK K
  exact zR
 have spA:=Uk hR s w[k] hs hx hok
 obtain⟨id,BK⟩:∃id,id=w[k]:=⟨_,rfl⟩
 rw[←BK] at spA
 have g1:(Ae w)[k]?=some (.int .i64 id):=by rw[BK];simp[c1,Ae]
 refine Af c1 ?_;intro K hK
 refine zk ?_;clear hK K
 refine zt ?_
 refine W.skip ?_
 refine zb ?_
 refine Af (an c1 g1) ?_;intro K hK
 refine zk ?_;clear hK K
 cases hoa:Qi s id
 .rw[hoa] at spA
  refine z1 ?_;intro K hK
  refine Ab.eq spA (by simp) (by simp) ?_
  refine zx ?_
  refine zk ?_;clear hK K
  refine zs ?_
  refine zn ?_
  refine W.skip ?_
  refine zs ?_
  exact⟨k+1,by omega,⟨by omega,MQ c1 hno (by rw[←BK];exact hoa)⟩,Wk.cutM (k:=3) (by simp[Ad]) (by simp) (by simp) (by simp) (by simp) (by simp)⟩
 .rw[hoa] at spA
  have hf:=KS c1 hno (by rw[←BK];exact hoa)
  rw[hf] at hfo
  simp only[←BK] at hfo
  subst hfo
  refine z1 ?_;intro K hK
  refine Ab.eq spA (by simp) (by simp) ?_
  refine zx ?_
  refine zk ?_;clear hK K
  refine zs ?_
  refine zt ?_
  refine z0 ?_;intro K hK
  refine zk ?_;clear hK K
  exact zR
end Go.Abs
