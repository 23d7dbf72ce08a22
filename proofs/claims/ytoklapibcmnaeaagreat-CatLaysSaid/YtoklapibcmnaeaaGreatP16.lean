/- What is written is read again: bits as bytes, lists, graphs. No program. -/
import Derived.Test.YtoklapibcmnaeaaGreatP15
set_option linter.unusedVariables false
set_option linter.unusedSimpArgs false
namespace Go.Abs
theorem ND:∀(ns:List Nat) (r:ByteArray),((BS ns).foldl (fun r c=>r.push (IN c)) r).data.toList=r.data.toList++ns.map UInt8.ofNat
 | [],r=>by simp[BS]
 |n::ns,r=>by
  have:=ND ns (r.push (UInt8.ofNat n))
  simp only[BS,List.map_cons,List.foldl_cons] at this ⊢
  have e:IN (Fk n)=UInt8.ofNat n:=by simp[Fk,IN]
  rw[e,this];simp[ByteArray.push]
theorem KZ (ns:List Nat):(DT (BS ns)).data.toList=ns.map UInt8.ofNat:=by
 have:=ND ns ByteArray.empty
 unfold DT
 rw[this];rfl
theorem K0 (ns:List Nat):(DT (BS ns)).size=ns.length:=by
 have e:(DT (BS ns)).size=(DT (BS ns)).data.toList.length:=(Array.length_toList).symm
 rw[e,KZ,List.length_map]
theorem PW (ns:List Nat) (i:Nat) (h:i<ns.length) (hb:ns[i]<256):CE (DT (BS ns)) i=ns[i]:=by
 have hs:=K0 ns
 unfold CE
 rw[dif_pos (by omega)]
 have h1:(DT (BS ns)).data.toList[i]?=some (UInt8.ofNat ns[i]):=by rw[KZ];simp[h]
 have h2:(DT (BS ns)).data.toList[i]?=some (DT (BS ns))[i]:=by
  have:i<(DT (BS ns)).data.size:=by have:(DT (BS ns)).size=(DT (BS ns)).data.size:=rfl;omega
  rw[Array.getElem?_toList,Array.getElem?_eq_getElem this];rfl
 rw[h1] at h2
 have h3:(DT (BS ns))[i]=UInt8.ofNat ns[i]:=by simpa using h2.symm
 rw[h3]
 simp[UInt8.toNat_ofNat'];omega
theorem Rb (k:Nat):Bq (List.replicate k false)=0:=by
 induction k with
 |zero=>rfl
 |succ k ih=>rw[List.replicate_succ,EE,ih];simp
theorem Rc {c:List Bool} (h:c.length≤8) {j:Nat} (hj:j<8):decide (Er c/2^(7-j)%2=1)=c.getD j false:=by
 have e:Er c=Bq (c++List.replicate (8-c.length) false):=by rw[Ob,Rb];simp[Er]
 have hl:(c++List.replicate (8-c.length) false).length=8:=by simp;omega
 have hb:=Hu (c++List.replicate (8-c.length) false)
 rw[hl] at hb
 have h1:(Bk (Er c) 8)[j]?=(c++List.replicate (8-c.length) false)[j]?:=by rw[e,hb]
 have h2:(Bk (Er c) 8)[j]?=some (decide (Er c/2^(7-j)%2=1)):=by simp[Bk,hj]
 rw[h2] at h1
 rw[List.getD_eq_getElem?_getD]
 by_cases hc:j<c.length
 .rw[List.getElem?_append_left hc] at h1;rw[←h1];rfl
 .rw[List.getElem?_append_right (by omega)] at h1
  have:(List.replicate (8-c.length) false)[j-c.length]?=some false:=by rw[List.getElem?_replicate,if_pos (by omega)]
  rw[this] at h1
  rw[List.getElem?_eq_none (by omega)];simpa using h1
theorem Re (l:List Bool) (i:Nat) (h:i/8<(l.length+7)/8):Ee (FY l).data i=l.getD i false:=by
 have hk:i/8<(pk l).length:=by simpa[pk] using h
 have hlt:(pk l)[i/8]<256:=Q9 h
 unfold Ee FY
 rw[PW (pk l) (i/8) hk hlt]
 simp only[pk,Ft,List.getElem_map,List.getElem_range]
 have:=Rc (c:=(l.drop (8*(i/8))).take 8) (by simp;omega) (j:=i%8) (Nat.mod_lt _ (by omega))
 rw[this]
 simp only[List.getD_eq_getElem?_getD,List.getElem?_take,List.getElem?_drop]
 rw[if_pos (Nat.mod_lt _ (by omega)),Nat.div_add_mod]
@[simp] theorem UV (l:List Bool):(FY l).n=l.length:=rfl
theorem H8 (l:List Bool):(FY l).data.size=(l.length+7)/8:=by simp[FY,K0,pk]
theorem Pm {l:List Bool} (h:l.length≤6000):CU (FY l):=by
 refine⟨by simp,by simp;omega,by rw[H8,UV];omega,fun i hi hn=>?_⟩
 rw[H8] at hi
 rw[Re _ _ (by omega),List.getD_eq_getElem?_getD,List.getElem?_eq_none (by simpa using hn)];rfl
def On (bs:List Bool) (p:Nat) (x:List Bool):Prop:=∃s,bs.drop p=x++s
theorem On.code {bs:List Bool} {p n:Nat} (h:On bs p (AG n)) (h1:1≤n) (h2:n≤1073741824):AR bs p=some (n,p+(AG n).length):=by
 obtain⟨s,h⟩:=h
 have hl:=DG n
 have hp:p≤bs.length:=by
  have:=congrArg List.length h
  simp at this;omega
 have:=OS (l:=bs) (pre:=bs.take p) (suf:=s) h1 h2 (by rw[List.append_assoc,←h,List.take_append_drop])
 rwa [List.length_take_of_le hp] at this
end Go.Abs
namespace Go.Abs
theorem NE (l m:List A8) (h:l.map (fun v=>v.gone)=m.map fun v=>v.gone):DR l=DR m:=by
 have:=congrArg List.getLast? h
 rw[List.getLast?_map,List.getLast?_map] at this
 unfold DR
 cases e1:l.getLast?<;>cases e2:m.getLast?<;>rw[e1,e2] at this<;>simp at this ⊢<;>exact this
theorem Kl {β:Type} (g:A8→β) {l:List A8} {i:Nat} {o:Obj} (hg:∀v:A8,g {v with base:=o.base,data:=o.data}=g v):(Dg l i o).map g=l.map g:=by
 unfold Dg
 cases e:l[i]? with
 |none=>rfl
 |some v=>
  simp only
  rw[List.map_set,hg]
  refine List.ext_getElem? fun j=>?_
  rw[List.getElem?_set]
  split
  .rename_i h;subst h
   simp only[List.length_map]
   split
   .rw[List.getElem?_map,e];rfl
   .rename_i h;rw[List.getElem?_eq_none (by simpa using h)]
  .rfl
theorem Rf (s:AM) (o:Obj) (p:Int) (h:CC s):(E2 s o p=none∧CD s o p=none)∨
 (E2 s o p=some (B1 s o p)∧CD s o p=some ((Dg (B1 s o p).1 (B1 s o p).2 o).map DF)∧(∀v∈Dg (B1 s o p).1 (B1 s o p).2 o,FA v)∧DR (Dg (B1 s o p).1 (B1 s o p).2 o)=false∧
   AN s.vers≤AN (Dg (B1 s o p).1 (B1 s o p).2 o)∧∀v∈s.vers,∃u∈Dg (B1 s o p).1 (B1 s o p).2 o,u.id=v.id):=by
 obtain⟨⟨⟨a1,a2,a3,a4,a5,a6,a7⟩,b,c,d⟩,e⟩:=h
 have put_ok:∀(l:List A8) (i:Nat),(∀v∈l,FA v)→∀v∈Dg l i o,FA v:=by
  intro l i hl v hv
  unfold Dg at hv
  split at hv
  .rename_i w hw
   rcases List.mem_or_eq_of_mem_set hv with h|h
   .exact hl v h
   .subst h
    exact hl w (List.mem_of_getElem? hw)
  .exact hl v hv
 have put_id:∀(l:List A8) (i:Nat),∀v∈l,∃u∈Dg l i o,u.id=v.id:=by
  intro l i v hv
  have hm:=Kl (o:=o) (l:=l) (i:=i) (fun v=>v.id) (fun _=>rfl)
  have:v.id∈(Dg l i o).map fun v=>v.id:=by rw[hm];exact List.mem_map.2 ⟨v,hv,rfl⟩
  obtain⟨u,hu,e⟩:=List.mem_map.1 this
  exact⟨u,hu,e⟩
 by_cases c1:Bf (fun v=>decide (v.id=o.id)) s.vers<0
 .by_cases c2:o.id≤AN s.vers∨p<0∨o.id≤p
  .refine .inl ⟨?_,?_⟩
   .unfold E2;rw[if_pos c1,if_pos c2]
   .unfold CD;rw[if_pos c1,if_pos (by omega)]
  .have er:B1 s o p=(s.vers++[Eo o.id p],s.vers.length):=by unfold B1;rw[if_pos c1]
   have ep:Dg (s.vers++[Eo o.id p]) s.vers.length o=s.vers++[{Eo o.id p with base:=o.base,data:=o.data}]:=by
    rw[JI (by simp)]
    rw[List.set_append_right _ _ (Nat.le_refl _),Nat.sub_self];simp
   rw[er]
   refine .inr ⟨?_,?_,?_,?_,?_,?_⟩
   .unfold E2;rw[if_pos c1,if_neg c2]
   .unfold CD;rw[if_pos c1,if_neg (by omega),ep];simp[Aq,DF,Eo]
   .refine put_ok _ _ fun v hv=>?_
    rcases List.mem_append.1 hv with h|h
    .exact a5 v h
    .simp at h;subst h
     exact⟨by simp[Eo];omega,by simp[Eo];omega,by simp[Eo]⟩
   .rw[ep];simp[DR,Eo]
   .rw[ep,PT];simp[Eo];omega
   .intro v hv
    exact put_id _ _ v (List.mem_append_left _ hv)
 .have er:B1 s o p=(s.vers,(Bf (fun v=>decide (v.id=o.id)) s.vers).toNat):=by unfold B1;rw[if_neg c1]
  rw[er]
  obtain⟨k,hk⟩:∃k,k=(Bf (fun v=>decide (v.id=o.id)) s.vers).toNat:=⟨_,rfl⟩
  have hlt:k<s.vers.length:=by rw[hk];exact FK (by omega)
  have BG:s.vers[k].id=o.id:=by
   have:s.vers.findIdx? (fun v=>decide (v.id=o.id))=some k:=by
    unfold Bf at hk c1
    cases e:s.vers.findIdx? (fun v=>decide (v.id=o.id)) with
    |none=>rw[e] at c1;simp at c1
    |some j=>rw[e] at hk;simp at hk;rw[hk]
   simpa using (List.findIdx?_eq_some_iff_getElem.1 this).2.1
  rw[←hk]
  refine .inr ⟨?_,?_,put_ok _ _ a5,?_,?_,put_id _ _⟩
  .unfold E2;rw[if_neg c1,hk]
  .unfold CD
   rw[if_neg c1,←hk,JI hlt,List.map_set]
   simp[Aq,DF,BG]
  .rw[NE _ _ (Kl (fun v=>v.gone) (fun _=>rfl))];exact a6
  .rw[PP _ _ (Kl (fun v=>v.id) (fun _=>rfl))];exact Int.le_refl _
theorem NF {s y:AM} {l:List Obj} {x:Cj} (hl:AN s.vers≤AN y.vers) (hi:∀v∈s.vers,∃u∈y.vers,u.id=v.id) (h:AE s (Aq s) x):AE y l x↔AE s l x:=by
 unfold AE at h ⊢
 by_cases c:x.opn=false
 .simp only[if_pos c]
 .simp only[if_neg c] at h ⊢
  obtain⟨h1,h2,_⟩:=h
  refine⟨fun⟨_,_,k⟩=>⟨h1,h2,k⟩,fun⟨_,_,k⟩=>⟨?_,?_,k⟩⟩
  .refine h1.imp id fun⟨v,hv,e⟩=>?_
   obtain⟨u,hu,e2⟩:=hi v hv
   exact⟨u,hu,by rw[e2,e]⟩
  .split at h2
   .rw[if_pos (by assumption)];exact⟨h2.1,by omega,h2.2.2⟩
   .rw[if_neg (by assumption)];exact h2
theorem Rg {s:AM} {n:Int} (h:Cl (AA s) s.blocks) (hn:1≤n∧n≤100):((Ep (AA s) s.blocks n).2=0↔¬Gu (AA s) s.blocks n<0)∧(¬Gu (AA s) s.blocks n<0→(Ep (AA s) s.blocks n).1=Gu (AA s) s.blocks n):=by
 unfold Ep Gu
 rw[if_pos ⟨h,hn⟩]
 cases e:(Bx (Bw (AA s) s.blocks.toNat) 0 0).find? fun x=>decide (n≤x.2) with
 |none=>simp
 |some x=>
  have:=(I2 _ _ _ (Int.le_refl _) x (List.mem_of_find?_eq_some e)).2.1
  simp;omega
theorem NG (s:AM) (o:Obj) (p:Int) (h:CC s):(HF s o p→Fs s o p=I5 s o p)∧(¬HF s o p→Fs s o p=(AP,1)):=by
 have hb:=Rf s o p h
 unfold Fs
 rw[if_pos h]
 obtain⟨⟨⟨a1,a2,a3,a4,a5,a6,a7⟩,b,c,d⟩,e⟩:=h
 rcases hb with⟨h1,h2⟩ | ⟨h1,h2,h3,h4,h5,h6⟩
 .exact⟨fun hm=>absurd hm (EZ h2),fun _=>by unfold EM;rw[h1]⟩
 .unfold EM
  rw[h1]
  simp only
  obtain⟨l1,hl1⟩:∃l1,l1=Dg (B1 s o p).1 (B1 s o p).2 o:=⟨_,rfl⟩
  rw[←hl1] at h2 h3 h4 h5 h6 ⊢
  have key:HF s o p↔CU o.data∧ED {s with vers:=l1}:=by
   have ho:o∈l1.map DF:=by
    have:CD s o p=some (l1.map DF):=h2
    unfold CD at this
    split at this
    .split at this
     .simp at this
     .simp at this;rw[←this];simp
    .rename_i c1
     simp at this;rw[←this]
     have hlt:(Bf (fun v=>decide (v.id=o.id)) s.vers).toNat<(Aq s).length:=by
      rw[show(Aq s).length=s.vers.length by simp[Aq]];exact FK (by omega)
     exact List.mem_iff_getElem.2 ⟨_,by simpa using hlt,List.getElem_set_self _⟩
   constructor
   .rintro⟨m,hm,k1,k2,k3⟩
    rw[h2] at hm
    cases hm
    refine⟨(k1.2.1 o ho).2.2.1,⟨a1,a2,a3,a4,h3,h4,k1⟩,b,fun q hq=>?_,fun x hx=>(NF h5 h6 (d x hx)).2 (k3 x hx)⟩
    obtain⟨i,hi,rfl⟩:=List.mem_iff_getElem.1 hq
    exact k2 i hi
   .rintro⟨_,⟨b1,b2,b3,b4,b5,b6,b7⟩,_,k2,k3⟩
    exact⟨_,h2,b7,fun i hi=>k2 _ (List.getElem_mem hi),fun x hx=>(NF (l:=l1.map DF) h5 h6 (d x hx)).1 (k3 x hx)⟩
  refine⟨fun hm=>?_,fun hm=>by rw[if_neg (fun g=>hm (key.2 g))]⟩
  have hg:=key.1 hm
  rw[if_pos hg]
  have hn:1≤C3 o.data∧C3 o.data≤100:=by
   obtain⟨b1,b2,b3,_⟩:=hg.1
   unfold C3;omega
  obtain⟨r1,r2⟩:=Rg e hn
  unfold I5
  rw[←hl1]
  by_cases c1:Gu (AA s) s.blocks (C3 o.data)<0
  .rw[if_neg (fun g=>(r1.1 g) c1),if_pos c1]
  .rw[if_pos (r1.2 c1),if_neg c1,r2 c1]
end Go.Abs
namespace Go.Abs
theorem Rh {l:List Obj} (h:Cy l):1≤DX l∧DX l≤1048577:=by
 unfold DX
 cases e:l.getLast? with
 |none=>simp
 |some o=>have:=h.2.1 o (List.mem_of_getLast? e);simp only;omega
theorem NH {l:List Obj} {g:Gr} (b:Int) (hg:AX g):(GL l b g).data.size≤751∧CU (GL l b g):=by
 unfold GL
 rw[H8]
 split
 .have:=IA hg;exact⟨by omega,Pm this⟩
 .have:=IB (EL l b) hg;exact⟨by omega,Pm this⟩
theorem SU {l:List Obj} {p:Int} {g:Gr} (hl:Cy l) (hg:AX g) (he:(Dv l p g).2=0):(Dv l p g).1.data.data.size≤751∧1≤(Dv l p g).1.id∧(Dv l p g).1.id≤1048576:=by
 have h1:=Rh hl
 unfold Dv at he ⊢
 by_cases c1:12≤l.length∨1048576<DX l
 .rw[if_pos c1] at he;simp at he
 rw[if_neg c1] at he ⊢
 by_cases c2:p=0
 .rw[if_pos c2];exact⟨(NH 0 hg).1,h1.1,by simp only;omega⟩
 rw[if_neg c2] at he ⊢
 by_cases c3:(Bi l p).2≠0
 .rw[if_pos c3] at he;exact absurd he c3
 rw[if_neg c3]
 split
 .exact⟨(NH _ hg).1,h1.1,by simp only;omega⟩
 .exact⟨(NH _ hg).1,h1.1,by simp only;omega⟩
theorem Ri {s:AM} (h:Cy (Aq s)):0≤AN s.vers∧AN s.vers≤1048576:=by
 unfold AN
 cases e:s.vers.getLast? with
 |none=>simp
 |some v=>
  have:=h.2.1 (DF v) (List.mem_map.2 ⟨v,List.mem_of_getLast? e,rfl⟩)
  simp only[DF] at this ⊢;omega
theorem FL:A2 AP∧BN AP:=⟨⟨by simp[AP],by simp[AP],by simp[AP]⟩,fun x hx=>by simp[AP] at hx⟩
theorem UW {l:List A8} {i:Nat} {a:Int} {v:A8} (h:v∈HC l i a):∃u∈l,v.data=u.data:=by
 unfold HC at h
 split at h
 .rename_i w hw
  rcases List.mem_or_eq_of_mem_set h with h|h
  .exact⟨v,h,rfl⟩
  .subst h;exact⟨w,List.mem_of_getElem? hw,rfl⟩
 .exact⟨v,h,rfl⟩
theorem SV {s:AM} {o:Obj} {p:Int} (hs:A2 s) (hx:BN s) (ho:o.data.data.size<1000000000) (hn:s.vers.length<999999999):A2 (EM s o p).1∧BN (EM s o p).1:=by
 unfold EM
 split
 .exact FL
 .rename_i l i e
  split
  .split
   .have hl:l.length<1000000000∧∀v∈l,v.data.data.size<1000000000:=by
     unfold E2 at e
     split at e
     .split at e
      .simp at e
      .simp at e
       rw[←e.1]
       refine⟨by simp;omega,fun v hv=>?_⟩
       rcases List.mem_append.1 hv with h|h
       .exact hs.2.2 v h
       .simp at h;subst h;simp[Eo]
     .simp at e
      rw[←e.1]
      exact⟨by omega,hs.2.2⟩
    refine⟨⟨by simp only[HD,Kk];exact hl.1,hs.2.1,fun v hv=>?_⟩,hx⟩
    obtain⟨u,hu,e2⟩:=UW hv
    rw[e2]
    exact Nz hl.2 ho u hu
   .exact FL
  .exact FL
theorem UX {s:AM} {o:Obj} {p:Int} (hs:A2 s) (hx:BN s) (ho:o.data.data.size<1000000000) (hn:s.vers.length<999999999):A2 (Fs s o p).1∧BN (Fs s o p).1:=by
 unfold Fs
 split
 .exact SV hs hx ho hn
 .exact FL
theorem Rj {s:AM} {id:Int} (hs:A2 s) (hx:BN s):A2 (Dd s id).1∧BN (Dd s id).1:=by
 unfold Dd
 split
 .exact FL
 .split
  .exact FL
  .refine⟨⟨?_,hs.2.1,fun v hv=>hs.2.2 v (List.mem_of_mem_eraseIdx hv)⟩,hx⟩
   have h1:=hs.1
   have h2:=List.length_eraseIdx_le s.vers (Bf (fun v=>decide (v.id=id)) s.vers).toNat
   simp only;omega
theorem SW {s:AM} {id:Int} (hs:A2 s) (hx:BN s):A2 (E3 s id).1∧BN (E3 s id).1:=by
 unfold E3
 split
 .exact Rj hs hx
 .exact FL
end Go.Abs
set_option maxRecDepth 100000
namespace Go.Abs
open Go.Proofs
def NI (o:Obj):Prop:=o.data.data.size<1000000000∧T2 o.id
set_option maxHeartbeats 8000000 in
theorem Rk (hR:BW) (S:List AM) (L:List (List Obj)) (G:List Gr) (na nn:Nat) (h0:S.length<Bc) (hS:∀s∈S,Ki s) (h1:G.length<Bc) (h2:∀g∈G,IY g) (h3:na<Bc) (h4:nn<Bc) (h5:L.length<Bc) (h6:∀l∈L,l.length<Bc∧∀o∈l,FI o):Aa pg 6 [.agg (LE S L G na nn)] [] (fun r _=>r= .bool true):=by
 have spH:=UE S L G na nn h0 hS h1 h2 h3 h4 h5 (fun l hl=>⟨(h6 l hl).1,fun o ho=>((h6 l hl).2 o ho).1⟩)
 have spW:=QU hR
 simp only[LE,H7,H6,List.cons_append,List.nil_append] at spH ⊢
 obtain⟨ask,hask⟩:∃ask:List AV,ask=[.ro S.length (Ac (Az false) S),.ro L.length (BY L),.ro G.length (Ac (AI false) G),.ro na [],.ro nn []]:=⟨_,rfl⟩
 refine Aa.start (fn:=Tryz.f6) [.tmp 2] tk rfl rfl rfl (by kernel_rfl) (Nat.le_of_ble_eq_true rfl) rfl (by kernel_rfl) ?_
 rw[Ax]
 refine z1 ?_;intro K hK;refine zk ?_;clear hK K
 refine z0 ?_;intro K hK
 refine Ab.bor spH (by simp) ?_
 rintro r ⟨b,rfl,hb⟩
 refine⟨by simp,?_⟩
 cases b
 rotate_left
 .refine zx ?_
  refine zk ?_;clear hK K
  refine zt ?_
  refine zs ?_
  exact zR
 obtain⟨⟨hS1,hS2⟩,⟨hL1,hL2⟩,hG1,hG2⟩:=hb rfl
 refine zx ?_
 refine zk ?_;clear hK K
 refine zn ?_
 refine W.skip ?_
 refine zs ?_
 (repeat refine W.seq ?_);refine W.block (W.loopS (fun i:Nat=> [(1,.ptr 0 0 0),(3,.int .i64 i)]) (fun _=> [.live 0 [.ro S.length (Ac (Az false) S),.ro L.length (BY L),.ro G.length (Ac (AI false) G),.ro na [],.ro nn []]]) (fun i=>S.length-i) (fun i=>i≤S.length) 0 (Wk.fr (by simp[Ad])) (by simp) ?_)
 intro i hi
 by_cases c:i<S.length∧i<4
 rotate_left
 . (repeat refine W.seq ?_);refine W.midS (fun _:Unit=> [(34,.bool false)]) (fun _=> []) (fun _=>True) ?_ ?_
   .by_cases d1:i<S.length
    .have d2:¬(i:Int)<4:=by omega
     refine Af (an d1 d2) ?_;intro K hK
     refine zk ?_;clear hK K
     exact⟨(),trivial,Wk.cutM (k:=0) (by simp[Ad]) (by simp) (by simp) (by simp) (by simp) (by simp)⟩
    .refine Af d1 ?_;intro K hK
     refine zk ?_;clear hK K
     exact⟨(),trivial,Wk.cutM (k:=0) (by simp[Ad]) (by simp) (by simp) (by simp) (by simp) (by simp)⟩
   rintro _ _
   refine zn ?_
   refine W.exit ?_
   refine z0 ?_;intro K hK
   refine Ab.eq spW (by simp) (by simp) ?_
   refine zx ?_
   refine zk ?_;clear hK K
   exact zR
 obtain⟨d1,d2⟩:=c
 have d2' :(i:Int)<4:=by omega
 have k0:(Ac (Az false) S)[i*4]?=some (.int .i64 S[i].keep):=AT (f:=Az false) (s:=4) (fun _=>rfl) d1 (i:=0) (by omega)
 have k1:(Ac (Az false) S)[i*4+1]?=some (.int .i64 S[i].blocks):=AT (f:=Az false) (s:=4) (fun _=>rfl) d1 (i:=1) (by omega)
 have k2:(Ac (Az false) S)[i*4+1+1]?=some (.ro S[i].vers.length (Ac Av S[i].vers)):=AT (f:=Az false) (s:=4) (fun _=>rfl) d1 (i:=2) (by omega)
 have k3:(Ac (Az false) S)[i*4+1+1+1]?=some (.ro S[i].sess.length (Ac (An false) S[i].sess)):=AT (f:=Az false) (s:=4) (fun _=>rfl) d1 (i:=3) (by omega)
 obtain⟨hsi,hsx⟩:=SB (hS2 _ (List.getElem_mem d1))
 have hsm:=hS2 _ (List.getElem_mem d1)
 obtain⟨s,hsd⟩:∃s,s=S[i]:=⟨_,rfl⟩
 rw[←hsd] at k0 k1 k2 k3 hsi hsx hsm
 have hvl:=hsm.1
 have spS:=Sy s hsi hsx
 have spC:=Hv s hsi hsx
 have spE:=JD s s (NC ⟨hsi,hsx⟩)
 rw[decide_eq_true rfl] at spE
 refine Af (an d1 d2') ?_;intro K hK
 refine zk ?_;clear hK K
 refine zt ?_
 refine W.skip ?_
 refine zb ?_
 refine IF (an d1 (an k0 (an k1 (an k2 k3)))) ?_;intro K hK
 refine Ab.eq spC (by simp) (by simp) ?_
 refine zx ?_
 refine zk ?_;clear hK K
 obtain⟨ok,hok⟩:∃ok:Bool,ok=decide (CC s):=⟨_,rfl⟩
 rw[←hok] at spS
 refine Af (an d1 (an k0 (an k1 (an k2 k3)))) ?_;intro K hK
 refine Ab.eq spS (by simp) (by simp) ?_
 refine zx ?_
 refine zk ?_;clear hK K
 refine zs ?_
 refine zs ?_
 refine W.midS (fun x:List Obj×Nat=> [(1,.ptr 0 0 0),(3,.int .i64 i),(4,.ptr 1 0 0),(5,.bool ok),(6,.tok 4 x.2 4 0 x.1.length)]) (fun x=> [.live 0 [.ro S.length (Ac (Az false) S),.ro L.length (BY L),.ro G.length (Ac (AI false) G),.ro na [],.ro nn []],.live 0 [.int .i64 s.keep,.int .i64 s.blocks,.tok 2 0 8 0 s.vers.length,.tok 3 0 12 0 s.sess.length],.live 0 (Ac Av s.vers),.live 0 (Ac (An true) s.sess),.live x.2 (Ac Al x.1)]) (fun x=>x.1.length≤2100∧∀o∈x.1,NI o) ?_ ?_
 . (repeat refine W.seq ?_);refine W.block (W.loopS (fun z:Nat×List Obj×Nat=> [(1,.ptr 0 0 0),(3,.int .i64 i),(4,.ptr 1 0 0),(5,.bool ok),(6,.tok 4 z.2.2 4 0 z.2.1.length),(7,.int .i64 (z.1:Nat))]) (fun z=> [.live 0 [.ro S.length (Ac (Az false) S),.ro L.length (BY L),.ro G.length (Ac (AI false) G),.ro na [],.ro nn []],.live 0 [.int .i64 s.keep,.int .i64 s.blocks,.tok 2 0 8 0 s.vers.length,.tok 3 0 12 0 s.sess.length],.live 0 (Ac Av s.vers),.live 0 (Ac (An true) s.sess),.live z.2.2 (Ac Al z.2.1)]) (fun z=>L.length-z.1) (fun z=>z.1≤L.length∧z.1≤3∧z.2.1.length≤700*z.1∧∀o∈z.2.1,NI o) (0,[],0) ((Wk.nil (t:=6) (s:=4) (by simp)).trans (Wk.fr (by simp[Ad]))) (by simp) ?_)
   rintro⟨j,O,u⟩ ⟨hj,hj3,hO,hOg⟩
   simp only at hj hj3 hO hOg ⊢
   by_cases c:j<L.length∧j<3
   rotate_left
   . (repeat refine W.seq ?_);refine W.midS (fun _:Unit=> [(1,.ptr 0 0 0),(3,.int .i64 i),(4,.ptr 1 0 0),(5,.bool ok),(6,.tok 4 u 4 0 O.length),(58,.bool false)]) (fun _=> [.live 0 [.ro S.length (Ac (Az false) S),.ro L.length (BY L),.ro G.length (Ac (AI false) G),.ro na [],.ro nn []],.live 0 [.int .i64 s.keep,.int .i64 s.blocks,.tok 2 0 8 0 s.vers.length,.tok 3 0 12 0 s.sess.length],.live 0 (Ac Av s.vers),.live 0 (Ac (An true) s.sess),.live u (Ac Al O)]) (fun _=>True) ?_ ?_
     .by_cases e1:j<L.length
      .have e2:¬(j:Int)<3:=by omega
       refine Af (an e1 e2) ?_;intro K hK
       refine zk ?_;clear hK K
       exact⟨(),trivial,Wk.fr (by simp[Ad])⟩
      .refine Af e1 ?_;intro K hK
       refine zk ?_;clear hK K
       exact⟨(),trivial,Wk.fr (by simp[Ad])⟩
     rintro _ _
     refine zn ?_
     refine W.exit ?_
     exact⟨(O,u),⟨by simp only;omega,hOg⟩,Wk.fr (by simp[Ad])⟩
   obtain⟨e1,e2⟩:=c
   have e2' :(j:Int)<3:=by omega
   have hlj:=hL2 _ (List.getElem_mem e1)
   have hlg:=(h6 _ (List.getElem_mem e1)).2
   have hljl:=hlj.1
   refine Af (an e1 e2') ?_;intro K hK
   refine zk ?_;clear hK K
   refine zt ?_
   refine W.skip ?_
   refine zb ?_
   (repeat refine W.seq ?_);refine W.reg 0 rfl fun K hK=>?_;simp -implicitDefEqProofs (maxSteps:=999999) (disch:=omega) [e1]
   refine⟨by omega,by omega,?_⟩
   refine zk ?_;clear hK K
   refine zs ?_
   refine⟨(j+1,O++L[j],u+1),by simp only;omega,⟨by simp only;omega,by simp only;omega,by simp only[List.length_append];omega,fun o ho=>?_⟩,Wk.cutM (k:=5) (by simp[Ad]) (by simp[Bt]) (by simp) (by simp) (by simp) (by simp)⟩
   rcases List.mem_append.1 ho with h|h
   .exact hOg o h
   .have:=hlj.2 o h
    exact⟨by omega,(hlg o h).2⟩
 rintro⟨O,u⟩ ⟨hO,hOg⟩
 simp only at hO hOg ⊢
 refine zs ?_
 refine W.midS (fun x:List Obj×Nat=> [(1,.ptr 0 0 0),(3,.int .i64 i),(4,.ptr 1 0 0),(5,.bool ok),(6,.tok 4 x.2 4 0 x.1.length)]) (fun x=> [.live 0 [.ro S.length (Ac (Az false) S),.ro L.length (BY L),.ro G.length (Ac (AI false) G),.ro na [],.ro nn []],.live 0 [.int .i64 s.keep,.int .i64 s.blocks,.tok 2 0 8 0 s.vers.length,.tok 3 0 12 0 s.sess.length],.live 0 (Ac Av s.vers),.live 0 (Ac (An true) s.sess),.live x.2 (Ac Al x.1)]) (fun x=>x.1.length≤2114∧∀o∈x.1,NI o) ?_ ?_
 .cases ok
  .refine zn ?_
   refine W.skip ?_
   exact⟨(O,u),⟨by simp only;omega,hOg⟩,Wk.fr (by simp[Ad])⟩
  have hst:CC s:=of_decide_eq_true hok.symm
  have hmy:=hst.1.1.2.2.2.2.2.2
  have hol:=hmy.1
  have hob:=hsi.objs
  obtain⟨l,hl⟩:∃l,l=Aq s:=⟨_,rfl⟩
  have spO:=LC s hsi
  rw[←hl] at spO hol hmy hob
  have hlast:AN s.vers≤1048576:=(Ri (s:=s) hst.1.1.2.2.2.2.2.2).2
  refine zt ?_
  refine z0 ?_;intro K hK
  refine Ab.eq spO (by simp) (by simp) ?_
  refine zx ?_
  refine zk ?_;clear hK K
  refine z0 ?_;intro K hK
  refine⟨by omega,by omega,?_⟩
  refine zk ?_;clear hK K
  refine zs ?_
  (repeat refine W.seq ?_);refine W.block (W.loopS (fun z:Nat×List Obj×Nat=> [(1,.ptr 0 0 0),(3,.int .i64 i),(4,.ptr 1 0 0),(5,.bool true),(6,.tok 4 z.2.2 4 0 z.2.1.length),(8,.tok 5 0 4 0 l.length),(9,.int .i64 (z.1:Nat))]) (fun z=> [.live 0 [.ro S.length (Ac (Az false) S),.ro L.length (BY L),.ro G.length (Ac (AI false) G),.ro na [],.ro nn []],.live 0 [.int .i64 s.keep,.int .i64 s.blocks,.tok 2 0 8 0 s.vers.length,.tok 3 0 12 0 s.sess.length],.live 0 (Ac Av s.vers),.live 0 (Ac (An true) s.sess),.live z.2.2 (Ac Al z.2.1),.live 0 (Ac Al l)]) (fun z=>G.length-z.1) (fun z=>z.1≤G.length∧z.1≤2∧z.2.1.length≤2112+z.1∧∀o∈z.2.1,NI o) (0,O++l,u+1) (Wk.cutM (k:=6) (by simp[Ad]) (by simp[Bt]) (by simp) (by simp) (by simp) (by simp)) ?_ ?_)
  .refine⟨by simp,by simp,by simp only[List.length_append];omega,fun o ho=>?_⟩
   rcases List.mem_append.1 ho with h|h
   .exact hOg o h
   .have h7:=hmy.2.1 o h
    exact⟨hob.2 o h,⟨by omega,by omega⟩⟩
  clear hO hOg
  rintro⟨q,O,u⟩ ⟨hj,hj3,hO,hOg⟩
  simp only at hj hj3 hO hOg ⊢
  by_cases c:q<G.length∧q<2
  rotate_left
  . (repeat refine W.seq ?_);refine W.midS (fun _:Unit=> [(1,.ptr 0 0 0),(3,.int .i64 i),(4,.ptr 1 0 0),(5,.bool true),(6,.tok 4 u 4 0 O.length),(85,.bool false)]) (fun _=> [.live 0 [.ro S.length (Ac (Az false) S),.ro L.length (BY L),.ro G.length (Ac (AI false) G),.ro na [],.ro nn []],.live 0 [.int .i64 s.keep,.int .i64 s.blocks,.tok 2 0 8 0 s.vers.length,.tok 3 0 12 0 s.sess.length],.live 0 (Ac Av s.vers),.live 0 (Ac (An true) s.sess),.live u (Ac Al O)]) (fun _=>True) ?_ ?_
    .by_cases e1:q<G.length
     .have e2:¬(q:Int)<2:=by omega
      refine Af (an e1 e2) ?_;intro K hK
      refine zk ?_;clear hK K
      exact⟨(),trivial,Wk.cutM (k:=5) (by simp[Ad]) (by simp) (by simp) (by simp) (by simp) (by simp)⟩
     .refine Af e1 ?_;intro K hK
      refine zk ?_;clear hK K
      exact⟨(),trivial,Wk.cutM (k:=5) (by simp[Ad]) (by simp) (by simp) (by simp) (by simp) (by simp)⟩
    rintro _ _
    refine zn ?_
    refine W.exit ?_
    exact⟨(O,u),⟨by simp only;omega,hOg⟩,Wk.fr (by simp[Ad])⟩
  obtain⟨e1,e2⟩:=c
  have e2' :(q:Int)<2:=by omega
  have hsg:=hG2 _ (List.getElem_mem e1)
  have hgi:EG G[q]:=⟨by have:=hsg.1;omega,fun l hl=>by have:=hsg.2 l hl;omega⟩
  have spG:=HB G[q] hgi
  have g0:(Ac (AI false) G)[q*2]?=some (.int .i64 G[q].n):=AT (f:=AI false) (s:=2) (fun _=>rfl) e1 (i:=0) (by omega)
  have g1:(Ac (AI false) G)[q*2+1]?=some (.ro G[q].out.length (Aw false G[q].out)):=AT (f:=AI false) (s:=2) (fun _=>rfl) e1 (i:=1) (by omega)
  refine Af (an e1 e2') ?_;intro K hK
  refine zk ?_;clear hK K
  refine zt ?_
  refine W.skip ?_
  refine zb ?_
  by_cases hg:AX G[q]
  rotate_left
  .rw[decide_eq_false hg] at spG
   refine Af (an e1 (an g0 g1)) ?_;intro K hK
   refine Ab.eq spG (by simp) (by simp) ?_
   refine zx ?_
   refine zk ?_;clear hK K
   refine zn ?_
   refine W.skip ?_
   refine zs ?_
   exact⟨(q+1,O,u),by simp only;omega,⟨by simp only;omega,by simp only;omega,by simp only;omega,hOg⟩,Wk.fr (by simp[Ad])⟩
  rw[decide_eq_true hg] at spG
  have spL:=GG s hsi
  have spM:=W7 l (AN s.vers) G[q] hob (by omega) hmy hg
  refine Af (an e1 (an g0 g1)) ?_;intro K hK
  refine Ab.eq spG (by simp) (by simp) ?_
  refine zx ?_
  refine zk ?_;clear hK K
  refine zt ?_
  obtain⟨o,ho⟩:∃o,o=(Dv l (AN s.vers) G[q]).1:=⟨_,rfl⟩
  obtain⟨e,he⟩:∃e,e=(Dv l (AN s.vers) G[q]).2:=⟨_,rfl⟩
  rw[←ho,←he] at spM
  have hgo:e=0→NI o:=fun h=>by
   have:=SU (p:=AN s.vers) hmy hg (by rw[←he];exact h)
   rw[←ho] at this
   exact⟨by omega,⟨by omega,by omega⟩⟩
  (repeat refine W.seq ?_);refine W.regd 1 rfl true BZ (by kernel_rfl) fun K hK=>?_;simp -implicitDefEqProofs (maxSteps:=999999) (disch:=omega) [e1,g0,g1]
  refine Ag.eq spL (by simp) (by simp) ?_
  refine AJ (an e1 (an g0 g1)) ?_
  refine Ag.eq spM (by simp) (by simp) ?_
  refine zx ?_
  refine zk ?_;clear hK K
  by_cases he0:e=0
  .refine Af he0 ?_;intro K hK
   refine zk ?_;clear hK K
   refine zt ?_
   refine z1 ?_;intro K hK
   refine⟨by omega,by omega,?_⟩
   refine zk ?_;clear hK K
   refine zs ?_
   refine⟨(q+1,O++[o],u+1),by simp only;omega,⟨by simp only;omega,by simp only;omega,by simp only[List.length_append,List.length_cons,List.length_nil];omega,fun x hx=>?_⟩,Wk.cutM (k:=6) (by simp[Ad]) (by simp[Bt,Ay,Al]) (by simp) (by simp) (by simp) (by simp)⟩
   rcases List.mem_append.1 hx with h|h
   .exact hOg x h
   .simp at h;subst h;exact hgo he0
  .refine Af he0 ?_;intro K hK
   refine zk ?_;clear hK K
   refine zn ?_
   refine W.skip ?_
   refine zs ?_
   exact⟨(q+1,O,u),by simp only;omega,⟨by simp only;omega,by simp only;omega,by simp only;omega,hOg⟩,Wk.cutM (k:=6) (by simp[Ad]) (by simp) (by simp) (by simp) (by simp) (by simp)⟩
 rintro⟨O,u⟩ ⟨hO,hOg⟩
 simp only at hO hOg ⊢
 refine zs ?_
 refine W.midS (fun _:Unit=> [(1,.ptr 0 0 0),(3,.int .i64 i),(4,.ptr 1 0 0),(5,.bool ok)]) (fun _=> [.live 0 [.ro S.length (Ac (Az false) S),.ro L.length (BY L),.ro G.length (Ac (AI false) G),.ro na [],.ro nn []],.live 0 [.int .i64 s.keep,.int .i64 s.blocks,.tok 2 0 8 0 s.vers.length,.tok 3 0 12 0 s.sess.length],.live 0 (Ac Av s.vers),.live 0 (Ac (An true) s.sess)]) (fun _=>True) ?_ ?_
 . (repeat refine W.seq ?_);refine W.block (W.loopS (fun k:Nat=> [(1,.ptr 0 0 0),(3,.int .i64 i),(4,.ptr 1 0 0),(5,.bool ok),(6,.tok 4 u 4 0 O.length),(12,.int .i64 ((O.length:Int)-1-k))]) (fun _=> [.live 0 [.ro S.length (Ac (Az false) S),.ro L.length (BY L),.ro G.length (Ac (AI false) G),.ro na [],.ro nn []],.live 0 [.int .i64 s.keep,.int .i64 s.blocks,.tok 2 0 8 0 s.vers.length,.tok 3 0 12 0 s.sess.length],.live 0 (Ac Av s.vers),.live 0 (Ac (An true) s.sess),.live u (Ac Al O)]) (fun k=>O.length-k) (fun k=>k≤O.length) 0 (Wk.fr (by simp[Ad])) (by simp) ?_)
   intro k hk
   by_cases c:k<O.length∧k<9
   rotate_left
   . (repeat refine W.seq ?_);refine W.midS (fun _:Unit=> [(1,.ptr 0 0 0),(3,.int .i64 i),(4,.ptr 1 0 0),(5,.bool ok),(127,.bool false)]) (fun _=> [.live 0 [.ro S.length (Ac (Az false) S),.ro L.length (BY L),.ro G.length (Ac (AI false) G),.ro na [],.ro nn []],.live 0 [.int .i64 s.keep,.int .i64 s.blocks,.tok 2 0 8 0 s.vers.length,.tok 3 0 12 0 s.sess.length],.live 0 (Ac Av s.vers),.live 0 (Ac (An true) s.sess)]) (fun _=>True) ?_ ?_
     .by_cases e1:k<O.length
      .have e0:(0:Int)≤(O.length:Int)-1-k:=by omega
       have e2:¬((O.length:Int)-10<(O.length:Int)-1-k):=by omega
       refine Af (an e0 e2) ?_;intro K hK
       refine zk ?_;clear hK K
       exact⟨(),trivial,Wk.cutM (k:=4) (by simp[Ad]) (by simp) (by simp) (by simp) (by simp) (by simp)⟩
      .have e0:¬(0:Int)≤(O.length:Int)-1-k:=by omega
       refine Af e0 ?_;intro K hK
       refine zk ?_;clear hK K
       exact⟨(),trivial,Wk.cutM (k:=4) (by simp[Ad]) (by simp) (by simp) (by simp) (by simp) (by simp)⟩
     rintro _ _
     refine zn ?_
     refine W.exit ?_
     exact⟨(),trivial,Wk.fr (by simp[Ad])⟩
   obtain⟨e1,e2⟩:=c
   have e0:(0:Int)≤(O.length:Int)-1-k:=by omega
   have e2' :(O.length:Int)-10<(O.length:Int)-1-k:=by omega
   refine Af (an e0 e2') ?_;intro K hK
   refine zk ?_;clear hK K
   refine zt ?_
   refine W.skip ?_
   refine zb ?_
   obtain⟨t,htk⟩:∃t:Nat,(O.length:Int)-1-k=(t:Int):=⟨O.length-1-k,by omega⟩
   have htl:t<O.length:=by omega
   have hLo:=hOg _ (List.getElem_mem htl)
   rw[htk]
   refine zs ?_
   (repeat refine W.seq ?_);refine W.block (W.loopS (fun p:Nat=> [(1,.ptr 0 0 0),(3,.int .i64 i),(4,.ptr 1 0 0),(5,.bool ok),(6,.tok 4 u 4 0 O.length),(12,.int .i64 t),(13,.int .i64 p)]) (fun _=> [.live 0 [.ro S.length (Ac (Az false) S),.ro L.length (BY L),.ro G.length (Ac (AI false) G),.ro na [],.ro nn []],.live 0 [.int .i64 s.keep,.int .i64 s.blocks,.tok 2 0 8 0 s.vers.length,.tok 3 0 12 0 s.sess.length],.live 0 (Ac Av s.vers),.live 0 (Ac (An true) s.sess),.live u (Ac Al O)]) (fun p=>2-p) (fun p=>p≤2) 0 (Wk.fr (by simp[Ad])) (by simp) ?_)
   intro p hp
   by_cases c2:p<2
   rotate_left
   .have c2' :¬(p:Int)<2:=by omega
    refine Af c2' ?_;intro K hK
    refine zk ?_;clear hK K
    refine zn ?_
    refine W.exit ?_
    refine zs ?_
    exact⟨k+1,by omega,by omega,Wk.fr (by simp[Ad];omega)⟩
   have c2' :(p:Int)<2:=by omega
   obtain⟨m,hm⟩:∃m:Nat,m=nn+t:=⟨_,rfl⟩
   have hadd:(nn:Int)+(t:Int)=(m:Int):=by omega
   have hmb:m<4611686018427387904:=by simp only[Bc] at h4;omega
   have hmw:IntKind.i64.wrap (m:Int)=(m:Int):=by unfold IntKind.wrap;simp;omega
   have spI:=SP m 9 hmb (by omega)
   obtain⟨w9,hw9⟩:∃w9:Nat,w9=m%9:=⟨_,rfl⟩
   have hw9l:w9<9:=by omega
   rw[←hw9] at spI
   refine Af c2' ?_;intro K hK
   refine zk ?_;clear hK K
   refine zt ?_
   refine W.skip ?_
   refine zb ?_
   (repeat refine W.seq ?_);refine W.midS (fun par:Int=> [(1,.ptr 0 0 0),(3,.int .i64 i),(4,.ptr 1 0 0),(5,.bool ok),(6,.tok 4 u 4 0 O.length),(12,.int .i64 t),(13,.int .i64 p),(14,.int .i64 par)]) (fun _=> [.live 0 [.ro S.length (Ac (Az false) S),.ro L.length (BY L),.ro G.length (Ac (AI false) G),.ro na [],.ro nn []],.live 0 [.int .i64 s.keep,.int .i64 s.blocks,.tok 2 0 8 0 s.vers.length,.tok 3 0 12 0 s.sess.length],.live 0 (Ac Av s.vers),.live 0 (Ac (An true) s.sess),.live u (Ac Al O)]) (fun _=>True) ?_ ?_
   .have hp01:p=0∨p=1:=by omega
    rcases hp01 with rfl|rfl
    .refine IF (an hadd hmw) ?_;intro K hK
     refine Ab.eq spI (by simp) (by simp) ?_
     refine zx ?_
     refine zk ?_;clear hK K
     exact⟨_,trivial,Wk.cutM (k:=5) (by simp[Ad];rfl) (by simp) (by simp) (by simp) (by simp) (by simp)⟩
    .refine IF (an hadd hmw) ?_;intro K hK
     refine Ab.eq spI (by simp) (by simp) ?_
     refine zx ?_
     refine zk ?_;clear hK K
     exact⟨_,trivial,Wk.cutM (k:=5) (by simp[Ad];rfl) (by simp) (by simp) (by simp) (by simp) (by simp)⟩
   rintro par _
   obtain⟨o,ho⟩:∃o,o=O[t]:=⟨_,rfl⟩
   rw[←ho] at hLo
   have o0:(Ac Al O)[t*4]?=some (.int .i64 o.id):=by rw[ho];exact AT (f:=Al) (s:=4) (fun _=>rfl) htl (i:=0) (by omega)
   have o1:(Ac Al O)[t*4+1]?=some (.int .i64 o.base):=by rw[ho];exact AT (f:=Al) (s:=4) (fun _=>rfl) htl (i:=1) (by omega)
   have o2:(Ac Al O)[t*4+1+1]?=some (.str o.data.data):=by rw[ho];exact AT (f:=Al) (s:=4) (fun _=>rfl) htl (i:=2) (by omega)
   have o3:(Ac Al O)[t*4+1+1+1]?=some (.int .i64 o.data.n):=by rw[ho];exact AT (f:=Al) (s:=4) (fun _=>rfl) htl (i:=3) (by omega)
   have spY:=X2 hR s o par hsi hsx hLo.1 (by omega)
   obtain⟨y,hy⟩:∃y,y=(Fs s o par).1:=⟨_,rfl⟩
   obtain⟨e,he⟩:∃e,e=(Fs s o par).2:=⟨_,rfl⟩
   rw[←hy,←he] at spY
   (repeat refine W.seq ?_);refine W.regd 1 rfl true BZ (by kernel_rfl) fun K hK=>?_;simp -implicitDefEqProofs (maxSteps:=999999) (disch:=omega) [htl,o0,o1,o2,o3]
   refine Ag.eq spY (by simp) (by simp) ?_
   refine AJ (an htl (an o0 (an o1 (an o2 o3)))) ?_
   refine zk ?_;clear hK K
   refine zs ?_
   refine z1 ?_;intro K hK
   refine zk ?_;clear hK K
   (repeat refine W.seq ?_);refine W.midS (fun b:Bool=> [(1,.ptr 0 0 0),(3,.int .i64 i),(4,.ptr 1 0 0),(5,.bool ok),(6,.tok 4 u 4 0 O.length),(12,.int .i64 t),(13,.int .i64 p),(14,.int .i64 par),(15,.ptr 5 0 0),(16,.int .i64 e),(17,.int .i64 1),(18,.ptr 8 0 0),(169,.bool b)]) (fun _=> [.live 0 [.ro S.length (Ac (Az false) S),.ro L.length (BY L),.ro G.length (Ac (AI false) G),.ro na [],.ro nn []],.live 0 [.int .i64 s.keep,.int .i64 s.blocks,.tok 2 0 8 0 s.vers.length,.tok 3 0 12 0 s.sess.length],.live 0 (Ac Av s.vers),.live 0 (Ac (An true) s.sess),.live u (Ac Al O),.live 0 [.int .i64 y.keep,.int .i64 y.blocks,.tok 6 0 8 0 y.vers.length,.tok 7 0 12 0 y.sess.length],.live 0 (Ac Av y.vers),.live 0 (Ac (An true) y.sess),.live 0 [.int .i64 0,.int .i64 0,.own 8 0 [],.own 12 0 []]]) (fun b=>b=true↔ok=true∧HF s o par) ?_ ?_
   .cases ok
    .refine BH ?_;intro K hK
     refine zk ?_;clear hK K
     exact⟨false,by simp,Wk.fr (by simp[Ad])⟩
    .have hst:CC s:=of_decide_eq_true hok.symm
     have spA:=SO s o par hsi hsx hLo.1 (by omega) hLo.2 (Q8 hst.1)
     refine A6 (an d1 (an k0 (an k1 (an k2 (an k3 (an htl (an o0 (an o1 (an o2 o3))))))))) ?_;intro K hK
     refine⟨_,_,spA,.inl ⟨rfl,⟨[],by simp[BG]⟩,?_⟩⟩
     rintro r ⟨b,rfl,hb⟩
     refine⟨by simp,?_⟩
     refine zx ?_
     refine zk ?_;clear hK K
     exact⟨b,by simp[hb],Wk.fr (by simp[Ad])⟩
   rintro b hbm
   refine W.midS (fun _:Unit=> [(1,.ptr 0 0 0),(3,.int .i64 i),(4,.ptr 1 0 0),(5,.bool ok),(6,.tok 4 u 4 0 O.length),(12,.int .i64 t),(13,.int .i64 p),(14,.int .i64 par),(15,.ptr 5 0 0),(16,.int .i64 e),(17,.int .i64 e),(18,.ptr 8 0 0)]) (fun _=> [.live 0 [.ro S.length (Ac (Az false) S),.ro L.length (BY L),.ro G.length (Ac (AI false) G),.ro na [],.ro nn []],.live 0 [.int .i64 s.keep,.int .i64 s.blocks,.tok 2 0 8 0 s.vers.length,.tok 3 0 12 0 s.sess.length],.live 0 (Ac Av s.vers),.live 0 (Ac (An true) s.sess),.live u (Ac Al O),.live 0 [.int .i64 y.keep,.int .i64 y.blocks,.tok 6 0 8 0 y.vers.length,.tok 7 0 12 0 y.sess.length],.live 0 (Ac Av y.vers),.live 0 (Ac (An true) y.sess),.live 0 [.int .i64 y.keep,.int .i64 y.blocks,.tok 9 0 8 0 y.vers.length,.tok 10 0 12 0 y.sess.length],.live 0 (Ac Av y.vers),.live 0 (Ac (An true) y.sess)]) (fun _=>True) ?_ ?_
   .cases b
    .have hye:y=AP∧e=1:=by
      have h0:Fs s o par=(AP,1):=by
       by_cases hst:CC s
       .exact(NG s o par hst).2 (fun h=>by have:=hbm.2 ⟨by rw[hok];simp[hst],h⟩;simp at this)
       .unfold Fs;rw[if_neg hst]
      rw[hy,he,h0];exact⟨rfl,rfl⟩
     obtain⟨hy0,he0⟩:=hye
     rw[hy0,he0]
     refine W.weak ((Wk.thaw (B:=8) (v:=0) (j:=2) (s:=8) (n:=0) (xs:=[]) (by rfl) (by rfl)).trans (Wk.thaw (B:=8) (v:=0) (j:=3) (s:=12) (n:=0) (xs:=[]) (by rfl) (by rfl))) ?_
     refine zn ?_
     refine W.skip ?_
     exact⟨(),trivial,Wk.fr (by simp[Ad])⟩
    .obtain⟨hk1,hml⟩:=hbm.1 rfl
     have hst:CC s:=of_decide_eq_true (hok.symm.trans hk1)
     have spZ:=WX s o par hsi hsx hLo.1 (by omega) hst.2
     rw[←(NG s o par hst).1 hml,←hy,←he] at spZ
     refine zt ?_
     refine A6 (an d1 (an k0 (an k1 (an k2 (an k3 (an htl (an o0 (an o1 (an o2 o3))))))))) ?_;intro K hK
     refine Ag.eq spZ (by simp) (by simp) ?_
     refine AJ (an d1 (an k0 (an k1 (an k2 (an k3 (an htl (an o0 (an o1 (an o2 o3))))))))) ?_
     refine zk ?_;clear hK K
     exact⟨(),trivial,Wk.fr (by simp[Ad])⟩
   rintro _ _
   have hyin:A2 y∧BN y:=by rw[hy];exact UX hsi hsx hLo.1 (by omega)
   have spQ:=JD y y (NC hyin)
   rw[decide_eq_true rfl] at spQ
   have spO:=SQ y 0 0 hyin.1 hyin.2
   refine A6 (an d1 (an k0 (an k1 (an k2 k3)))) ?_;intro K hK
   refine Ag.eq (JH e) (by simp) (by simp) ?_
   refine AJ (an d1 (an k0 (an k1 (an k2 k3)))) ?_
   refine Ag.eq spQ (by simp) (by simp) ?_
   refine AJ (an d1 (an k0 (an k1 (an k2 k3)))) ?_
   refine Ag.eq spE (by simp) (by simp) ?_
   refine zx ?_
   refine zk ?_;clear hK K
   refine zn ?_
   refine W.skip ?_
   refine z0 ?_;intro K hK
   refine Ab.pass [6,7] spO (by simp) (by simp) (by simp) (by simp) ?_
   rintro r M ⟨rfl,rfl⟩ _
   refine zx ?_
   refine zk ?_;clear hK K
   refine A6 (an d1 (an k0 (an k1 (an k2 k3)))) ?_;intro K hK
   refine Ag.eq spE (by simp) (by simp) ?_
   refine zx ?_
   refine zk ?_;clear hK K
   refine zn ?_
   refine W.skip ?_
   refine zs ?_
   exact⟨p+1,by omega,by omega,Wk.cutM (k:=5) (by simp[Ad]) (by simp) (by simp) (by simp) (by simp) (by simp)⟩
 rintro _ _
 refine zs ?_
 (repeat refine W.seq ?_);refine W.block (W.loopS (fun k:Nat=> [(1,.ptr 0 0 0),(3,.int .i64 i),(4,.ptr 1 0 0),(5,.bool ok),(19,.int .i64 ((k:Int)-1))]) (fun _=> [.live 0 [.ro S.length (Ac (Az false) S),.ro L.length (BY L),.ro G.length (Ac (AI false) G),.ro na [],.ro nn []],.live 0 [.int .i64 s.keep,.int .i64 s.blocks,.tok 2 0 8 0 s.vers.length,.tok 3 0 12 0 s.sess.length],.live 0 (Ac Av s.vers),.live 0 (Ac (An true) s.sess)]) (fun k=>20-k) (fun k=>k≤10) 0 (Wk.fr (by simp[Ad])) (by simp) ?_)
 intro k hk
 by_cases e1:k<10
 rotate_left
 .have e1' :¬((k:Int)-1<9):=by omega
  refine Af e1' ?_;intro K hK
  refine zk ?_;clear hK K
  refine zn ?_
  refine W.exit ?_
  refine zs ?_
  exact⟨i+1,by omega,by omega,Wk.cutM (k:=1) (by simp[Ad]) (by simp) (by simp) (by simp) (by simp) (by simp)⟩
 have e1' :(k:Int)-1<9:=by omega
 obtain⟨id,BG⟩:∃id:Int,id=(k:Int)-1:=⟨_,rfl⟩
 rw[←BG] at e1' ⊢
 have spT:=WW hR s id hsi hsx
 have hyin:=SW (id:=id) hsi hsx
 have hyt:ok=true→Dd s id=E3 s id:=fun h=>by
  rw[h] at hok
  unfold E3;rw[if_pos (of_decide_eq_true hok.symm)]
 have hyf:ok=false→E3 s id=(AP,1):=fun h=>by
  rw[h] at hok
  unfold E3;rw[if_neg (of_decide_eq_false hok.symm)]
 have spR:=UP s id hsi hsx
 obtain⟨y,hy⟩:∃y,y=(E3 s id).1:=⟨_,rfl⟩
 obtain⟨e,he⟩:∃e,e=(E3 s id).2:=⟨_,rfl⟩
 rw[←hy,←he] at spT
 rw[←hy] at hyin
 have spQ:=JD y y (NC hyin)
 rw[decide_eq_true rfl] at spQ
 refine Af e1' ?_;intro K hK
 refine zk ?_;clear hK K
 refine zt ?_
 refine W.skip ?_
 refine zb ?_
 refine z1 ?_;intro K hK
 refine Ab.eq spT (by simp) (by simp) ?_
 refine zx ?_
 refine zk ?_;clear hK K
 refine zs ?_
 refine z1 ?_;intro K hK
 refine zk ?_;clear hK K
 refine zs ?_
 (repeat refine W.seq ?_);refine W.midS (fun _:Unit=> [(1,.ptr 0 0 0),(3,.int .i64 i),(4,.ptr 1 0 0),(5,.bool ok),(19,.int .i64 id),(20,.ptr 4 0 0),(21,.int .i64 e),(22,.int .i64 e),(23,.ptr 7 0 0)]) (fun _=> [.live 0 [.ro S.length (Ac (Az false) S),.ro L.length (BY L),.ro G.length (Ac (AI false) G),.ro na [],.ro nn []],.live 0 [.int .i64 s.keep,.int .i64 s.blocks,.tok 2 0 8 0 s.vers.length,.tok 3 0 12 0 s.sess.length],.live 0 (Ac Av s.vers),.live 0 (Ac (An true) s.sess),.live 0 [.int .i64 y.keep,.int .i64 y.blocks,.tok 5 0 8 0 y.vers.length,.tok 6 0 12 0 y.sess.length],.live 0 (Ac Av y.vers),.live 0 (Ac (An true) y.sess),.live 0 [.int .i64 y.keep,.int .i64 y.blocks,.tok 8 0 8 0 y.vers.length,.tok 9 0 12 0 y.sess.length],.live 0 (Ac Av y.vers),.live 0 (Ac (An true) y.sess)]) (fun _=>True) ?_ ?_
 .cases ok
  .have h0:=hyf rfl
   rw[h0] at hy he
   simp only at hy he
   rw[hy,he]
   refine W.weak ((Wk.thaw (B:=7) (v:=0) (j:=2) (s:=8) (n:=0) (xs:=[]) (by rfl) (by rfl)).trans (Wk.thaw (B:=7) (v:=0) (j:=3) (s:=12) (n:=0) (xs:=[]) (by rfl) (by rfl))) ?_
   refine zn ?_
   refine W.skip ?_
   exact⟨(),trivial,Wk.fr (by simp[Ad])⟩
  .rw[hyt rfl,←hy,←he] at spR
   refine zt ?_
   refine Af (an d1 (an k0 (an k1 (an k2 k3)))) ?_;intro K hK
   refine Ab.eq spR (by simp) (by simp) ?_
   refine zx ?_
   refine zk ?_;clear hK K
   exact⟨(),trivial,Wk.fr (by simp[Ad])⟩
 rintro _ _
 refine A6 (an d1 (an k0 (an k1 (an k2 k3)))) ?_;intro K hK
 refine Ag.eq (JH e) (by simp) (by simp) ?_
 refine AJ (an d1 (an k0 (an k1 (an k2 k3)))) ?_
 refine Ag.eq spQ (by simp) (by simp) ?_
 refine AJ (an d1 (an k0 (an k1 (an k2 k3)))) ?_
 refine Ag.eq spE (by simp) (by simp) ?_
 refine zx ?_
 refine zk ?_;clear hK K
 refine zn ?_
 refine W.skip ?_
 refine zs ?_
 exact⟨k+1,by omega,by omega,Wk.cutM (k:=4) (by simp[Ad];omega) (by simp) (by simp) (by simp) (by simp) (by simp)⟩
end Go.Abs
set_option maxRecDepth 100000
namespace Go.Abs
open Go.Proofs Go.ChangeShapes Go.WideShapes Go.ChangeAt Go.RowKit
def I9 (P:Program) (fn:Func) (s:ChangeSpec) (c:OpenClaim):Bool:=
 c.wf (OpenSpec.ofChange s)&&laidOutB P&&mapsRowed P&&
 fn.params.all (fun t=>P.readableRec t)&&namedTie P c.named s.vars&&
 (c.stops==[])&&(P.stops==[])&&(c.knobs==[])&&(P.stopKnobs==[])&&
 (c.maps==(fn.params.toList++s.plain.varTypes P).any (fun t=>P.mapsRec t))&&(c.ifaces==(fn.params.toList++s.plain.varTypes P).any (fun t=>P.ifacesRec t))&&(c.mapsOut==P.mapsAmong fn.resultTypes.toList)&&
 (c.loops==(fn.params.toList++s.plain.varTypes P).any (fun t=>P.loopsFrom t))&&(c.wideKeys==(fn.params.toList++s.plain.varTypes P++fn.resultTypes.toList).any (fun t=>P.wideKeysFrom t))&&
 s.vars.all (fun t=>P.varReadable t)&&fn.resultTypes.all (fun t=>P.readableRec t&&decide (t<P.types.size))&&(c.ifacesOut==fn.resultTypes.toList.any (fun t=>P.ifacesRec t))&&(c.loopsOut==fn.resultTypes.toList.any (fun t=>P.loopsFrom t))&&(c.plainKeys==P.plainKeys)&&c.shortTexts.isNone&&(c.kinds==(if c.domain.isEmpty then [] else fn.params.toList.map fun t=>match P.underlying t with|some (.int k)=>some k|_=>none))&&(c.pinned==c.pinnedBy)&&
 (c.veiled==(fn.params.toList++s.plain.varTypes P++fn.resultTypes.toList).any (fun t=>P.veiledRec t))&&c.veiledFits P fn.params.toList (fn.params.toList++s.plain.varTypes P++fn.resultTypes.toList)
theorem Rl {P:Program} {f:FuncId} {fn:Func} {s:ChangeSpec} {c:OpenClaim} (h1:(c.inPlace==P.inPlace f)=true) (h2:(c.unfollowed==P.unfollowed f)=true) (h3:(c.recurses==P.recurses f)=true) (h4:(c.named==P.varsNamed f)=true)
 (h5:P.stopsHeard=true) (h6:P.mayEnter=true) (h7:(c.lifted==P.liftsFinal)=true) (h8:(P.make==some c.make)=true) (h:I9 P fn s c=true):joinedFacts P f fn s c=true:=by
 simp only[I9,Bool.and_eq_true] at h
 obtain⟨⟨⟨⟨⟨⟨⟨⟨⟨⟨⟨⟨⟨⟨⟨⟨⟨⟨⟨⟨⟨⟨⟨k1,k2⟩,k3⟩,k4⟩,k5⟩,k6⟩,k7⟩,k8⟩,k9⟩,k10⟩,k11⟩,k12⟩,k13⟩,k14⟩,k15⟩,k16⟩,k17⟩,k18⟩,k19⟩,k20⟩,k21⟩,k22⟩,k23⟩,k24⟩:=h
 simp only[joinedFacts,Bool.and_eq_true]
 exact⟨⟨⟨⟨⟨⟨⟨⟨⟨⟨⟨⟨⟨⟨⟨⟨⟨⟨⟨⟨⟨⟨⟨⟨⟨⟨⟨⟨⟨⟨⟨k1,k2⟩,k3⟩,k4⟩,k5⟩,k6⟩,k7⟩,k8⟩,k9⟩,h1⟩,h2⟩,h3⟩,h4⟩,k10⟩,k11⟩,k12⟩,k13⟩,k14⟩,k15⟩,k16⟩,k17⟩,k18⟩,k19⟩,k20⟩,h5⟩,h6⟩,h7⟩,h8⟩,k21⟩,k22⟩,k23⟩,k24⟩
end Go.Abs
