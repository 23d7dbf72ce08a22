/- Laws of layer 14: what wakes. -/
import Derived.Test.YtoklapibcmnaeaaGreatP12
import Derived.Test.YtoklapibcmnaeaaGreatRows
import Derived.JoinedOf
set_option linter.unusedVariables false
set_option linter.unusedSimpArgs false
set_option maxRecDepth 100000
namespace Go.Abs
open Go.Proofs
theorem Uo:Dj []=F0:=by funext t;simp[Dj,F0]
theorem N2:Bm (AR 9 2):=by
 rw[Ia]
 refine⟨by simp[AR],by simp[AR],by simp[AR],by simp[AR],⟨by simp[AR,Ar],by simp[AR,Ar],by simp[AR,Ar]⟩,⟨by simp[AR],by simp[AR],by simp[AR,AE],by simp[AR,AE],by simp[AR,AE]⟩,fun i h=>by simp[AR] at h,fun x hx=>?_⟩
 have:x=Cm:=by simpa[AR] using hx
 subst this
 simp[AA,Cm]
theorem O9 (hR:Bh):Aa pg 19 [] [] (fun r _=>r= .bool true):=by
 have spN:=RG hR 9 2 N2
 have hs:AZ (AR 9 2):=⟨by simp[AR],by simp[AR],by simp[AR]⟩
 have hx:CO (AR 9 2):=by
  intro x hx
  have:x=Cm:=by simpa[AR] using hx
  subst this
  simp[Db,Et,HH,Cm,Au,B5]
 have spH:=Ns hR (AR 9 2) hs hx
 rw[if_pos N2,if_pos N2] at spH
 have hl:Ct (AR 9 2).vers=0:=rfl
 have hb:(AR 9 2).blocks=9:=rfl
 have hsl:(AR 9 2).sess.length=3:=rfl
 rw[hl] at spH
 obtain⟨s,hsd⟩:∃s,s=AR 9 2:=⟨_,rfl⟩
 rw[←hsd] at spN spH hb hsl
 refine Aa.start (fn:=Tryz.f19) [.tmp 0] tk rfl rfl rfl (by kernel_rfl) (Nat.le_of_ble_eq_true rfl) rfl (by kernel_rfl) ?_
 rw[Uo]
 refine zs ?_
 refine z1 ?_;intro K hK
 refine Ab.eq spN (by simp) (by simp) ?_
 refine zx ?_
 refine zk ?_;clear hK K
 refine z0 ?_;intro K hK
 refine Ab.eq spH (by simp) (by simp) ?_
 refine zx ?_
 refine zk ?_;clear hK K
 have hb' :(s.blocks=9)=True:=eq_true hb
 have hsl' :((s.sess.length:Int)=3)=True:=eq_true (by omega)
 refine z0 ?_;intro K hK
 refine Ab.eq (EM 0) (by simp) (by simp) ?_
 refine zx ?_
 refine Ab.eq (EM 0) (by simp) (by simp) ?_
 refine AM (an hb' hsl') ?_
 refine zk ?_;clear hK K
 exact zR
end Go.Abs
namespace Go.Abs
def Zs (s:AP) (keep:Int) (k:Nat) (tag gone:Bool):AP:={s with keep:=keep,vers:=match s.vers[k]? with|some v=>s.vers.set k {v with tag:=tag,gone:=gone} |none=>s.vers}
end Go.Abs
set_option maxRecDepth 100000
namespace Go.Abs
open Go.Proofs
theorem Qm {s:AP} (h:D8 1500 s):AZ s∧CO s:=by
 obtain⟨h1,h2,h3,h4⟩:=h
 refine⟨⟨by omega,by omega,fun v hv=>by have:=h3 v hv;omega⟩,fun x hx=>?_⟩
 obtain⟨k1,k2,k3,k4⟩:=h4 x hx
 exact⟨⟨by omega,fun l hl=>by have:=k2 l hl;omega⟩,by omega,by omega⟩
end Go.Abs
namespace Go.Abs
open Go.Proofs
theorem c3:pg.cellsOf 3=1:=by kernel_rfl
theorem c4:pg.cellsOf 4=1:=by kernel_rfl
theorem c9:pg.cellsOf 9=1:=by kernel_rfl
theorem Zt:pg.cellsOf 22=1:=by kernel_rfl
theorem Zu:pg.cellsOf 23=1:=by kernel_rfl
theorem Zv:pg.cellsOf 24=1:=by kernel_rfl
theorem Zw:pg.cellsOf 25=1:=by kernel_rfl
theorem Zx:pg.cellsOf 27=2:=by kernel_rfl
theorem Up:pg.cellsOf 28=1:=by kernel_rfl
theorem Zy:pg.cellsOf 30=4:=by kernel_rfl
theorem Zz:pg.cellsOf 35=1:=by kernel_rfl
theorem ZA:pg.cellsOf 36=1:=by kernel_rfl
theorem V8:pg.cellsOf 40=2:=by kernel_rfl
theorem ZB:pg.cellsOf 49=1:=by kernel_rfl
theorem ZC:pg.cellsOf 51=2:=by kernel_rfl
theorem ZD:pg.cellsOf 53=6:=by kernel_rfl
section
variable {H:Type} {enc:TypeId×Value→H} {w:World}
theorem FF:AT enc pg w 3 (fun n:Int=> [.int .i64 n]) fun _=>True:=AT.int Tryz.underlying3
theorem Pa:AT enc pg w 4 (fun b:Bool=> [.bool b]) fun _=>True:=AT.bool Tryz.underlying4
theorem ZE:AT enc pg w 9 (fun s:ByteArray=> [.str s]) fun s=>s.size≤reachBytes:=AT.str Tryz.underlying9
theorem Uq:AT enc pg w 40 Ch fun b=>b.data.size≤reachBytes:=
 AT.map (AT.struct Tryz.underlying40 (.cons ZE c9 rfl (.cons FF c3 rfl .nil)) (by kernel_rfl)) (fun x=>⟨x.1,x.2.1⟩) (fun _=>rfl) fun _ h=>h.1
theorem WT:AT enc pg w 42 A8 fun v=>v.data.data.size≤reachBytes:=
 AT.map (AT.struct Tryz.underlying42 (.cons FF c3 rfl (.cons FF c3 rfl (.cons FF c3 rfl (.cons Uq V8 rfl (.cons FF c3 rfl (.cons Pa c4 rfl (.cons Pa c4 rfl .nil))))))) (by kernel_rfl)) (fun x=>⟨x.1,x.2.1,x.2.2.1,x.2.2.2.1,x.2.2.2.2.1,x.2.2.2.2.2.1,x.2.2.2.2.2.2.1⟩) (fun _=>rfl) fun _ h=>h.2.2.2.1
theorem Pb (xs:List Int):Af (fun n:Int=> [AV.int .i64 n]) xs=Ad xs:=by
 induction xs with
 |nil=>rfl
 |cons x xs ih=>simp only[AL,ih];rfl
theorem Qn:AT enc pg w 28 (fun l:List Int=> [E2 false l]) fun l=>l.length≤reachBytes:=
 AT.map (AT.slice FF Tryz.underlying28 (Nat.le_of_ble_eq_true (by kernel_rfl))) id (fun l=>by rw[Pb];rfl) fun _ h=>h.1
theorem N3 (xs:List (List Int)):Af (fun l:List Int=> [E2 false l]) xs=Aw false xs:=by
 induction xs with
 |nil=>rfl
 |cons x xs ih=>simp only[AL,ih];rfl
theorem WU:AT enc pg w 49 (fun l:List (List Int)=> [DX false l]) fun l=>l.length≤reachBytes∧∀x∈l,x.length≤reachBytes:=
 AT.map (AT.slice Qn Tryz.underlying49 (Nat.le_of_ble_eq_true (by kernel_rfl))) id (fun l=>by rw[N3];rfl) fun _ h=>h
theorem Ur:AT enc pg w 51 (AQ false) fun g=>g.out.length≤reachBytes∧∀x∈g.out,x.length≤reachBytes:=
 AT.map (AT.struct Tryz.underlying51 (.cons FF c3 rfl (.cons WU ZB rfl .nil)) (by kernel_rfl)) (fun x=>⟨x.1,x.2.1⟩) (fun _=>rfl) fun _ h=>h.2.1
theorem WV:AT enc pg w 53 (BI false) fun j=>j.list.length≤reachBytes∧j.out.length≤reachBytes:=
 AT.map (AT.struct Tryz.underlying53 (.cons FF c3 rfl (.cons FF c3 rfl (.cons FF c3 rfl (.cons Pa c4 rfl (.cons Qn Up rfl (.cons Qn Up rfl .nil)))))) (by kernel_rfl)) (fun x=>⟨x.1,x.2.1,x.2.2.1,x.2.2.2.1,x.2.2.2.2.1,x.2.2.2.2.2.1⟩) (fun _=>rfl) fun _ h=>⟨h.2.2.2.2.1,h.2.2.2.2.2.1⟩
theorem WW:AT enc pg w 55 (AG false) fun s=>(s.stage.out.length≤reachBytes∧∀x∈s.stage.out,x.length≤reachBytes)∧s.job.list.length≤reachBytes∧s.job.out.length≤reachBytes:=
 AT.map (AT.struct Tryz.underlying55 (.cons Pa c4 rfl (.cons FF c3 rfl (.cons Pa c4 rfl (.cons FF c3 rfl (.cons Ur ZC rfl (.cons WV ZD rfl .nil)))))) (by kernel_rfl)) (fun x=>⟨x.1,x.2.1,x.2.2.1,x.2.2.2.1,x.2.2.2.2.1,x.2.2.2.2.2.1⟩) (fun _=>rfl) fun _ h=>⟨h.2.2.2.2.1,h.2.2.2.2.2.1⟩
theorem WX:AT enc pg w 35 (fun l:List Cv=> [FL false l]) fun l=>l.length≤reachBytes∧∀v∈l,v.data.data.size≤reachBytes:=
 AT.map (AT.slice WT Tryz.underlying35 (Nat.le_of_ble_eq_true (by kernel_rfl))) id (fun _=>rfl) fun _ h=>h
theorem WY:AT enc pg w 36 (fun l:List C1=> [OE false l]) fun l=>l.length≤reachBytes∧∀s∈l,(s.stage.out.length≤reachBytes∧∀x∈s.stage.out,x.length≤reachBytes)∧s.job.list.length≤reachBytes∧s.job.out.length≤reachBytes:=
 AT.map (AT.slice WW Tryz.underlying36 (Nat.le_of_ble_eq_true (by kernel_rfl))) id (fun _=>rfl) fun _ h=>h
theorem BS {n:Nat} (h:n≤reachBytes):n<AX:=by
 have:=reachBytes_lt;simp only[AX];omega
theorem WZ:AT enc pg w 38 (Ay false) I9:=
 AT.map (AT.struct Tryz.underlying38 (.cons FF c3 rfl (.cons FF c3 rfl (.cons WX Zz rfl (.cons WY ZA rfl .nil)))) (by kernel_rfl)) (fun x=>⟨x.1,x.2.1,x.2.2.1,x.2.2.2.1⟩) (fun _=>rfl) fun _ h=>
  ⟨BS h.2.2.1.1,BS h.2.2.2.1.1,fun v hv=>BS (h.2.2.1.2 v hv),fun x hx=>⟨⟨BS (h.2.2.2.1.2 x hx).1.1,fun l hl=>BS ((h.2.2.2.1.2 x hx).1.2 l hl)⟩,BS (h.2.2.2.1.2 x hx).2.1,BS (h.2.2.2.1.2 x hx).2.2⟩⟩
theorem W0:AT enc pg w 22 (fun l:List AP=> [.ro l.length (Af (Ay false) l)]) fun l=>l.length<AX∧∀s∈l,I9 s:=
 AT.map (AT.slice WZ Tryz.underlying22 (Nat.le_of_ble_eq_true (by kernel_rfl))) id (fun _=>rfl) fun _ h=>⟨BS h.1,h.2⟩
theorem W6:AT enc pg w 60 Av fun o=>o.data.data.size<AX:=
 AT.map (AT.struct Tryz.underlying60 (.cons FF c3 rfl (.cons FF c3 rfl (.cons Uq V8 rfl .nil))) (by kernel_rfl)) (fun x=>⟨x.1,x.2.1,x.2.2.1⟩) (fun _=>rfl) fun _ h=>BS h.2.2.1
theorem W7:AT enc pg w 65 (fun l:List Obj=> [AV.ro l.length (Af Av l)]) fun l=>l.length<AX∧∀o∈l,o.data.data.size<AX:=
 AT.map (AT.slice W6 Tryz.underlying65 (Nat.le_of_ble_eq_true (by kernel_rfl))) id (fun _=>rfl) fun _ h=>⟨BS h.1,h.2⟩
theorem N4 (xs:List (List Obj)):Af (fun l:List Obj=> [AV.ro l.length (Af Av l)]) xs=C3 xs:=by
 induction xs with
 |nil=>rfl
 |cons x xs ih=>simp only[AL,ih];rfl
theorem W8:AT enc pg w 23 (fun l:List (List Obj)=> [AV.ro l.length (C3 l)]) fun l=>l.length<AX∧∀x∈l,x.length<AX∧∀o∈x,o.data.data.size<AX:=
 AT.map (AT.slice W7 Tryz.underlying23 (Nat.le_of_ble_eq_true (by kernel_rfl))) id (fun l=>by rw[N4];rfl) fun _ h=>⟨BS h.1,h.2⟩
theorem W9:AT enc pg w 24 (fun l:List Gr=> [AV.ro l.length (Af (AQ false) l)]) fun l=>l.length<AX∧∀g∈l,Ib g:=
 AT.map (AT.slice Ur Tryz.underlying24 (Nat.le_of_ble_eq_true (by kernel_rfl))) id (fun _=>rfl) fun _ h=>⟨BS h.1,fun g hg=>⟨BS (h.2 g hg).1,fun l hl=>BS ((h.2 g hg).2 l hl)⟩⟩
theorem Xa:AT enc pg w 25 (fun n:Nat=> [AV.ro n []]) fun n=>n<AX:=
 AT.map (AT.len Tryz.underlying25 (Nat.le_of_ble_eq_true (by kernel_rfl))) id (fun _=>rfl) fun _ h=>BS h
theorem Vo:AT enc pg w 28 (fun n:Nat=> [AV.ro n []]) fun n=>n<AX:=
 AT.map (AT.len Tryz.underlying28 (Nat.le_of_ble_eq_true (by kernel_rfl))) id (fun _=>rfl) fun _ h=>BS h
theorem Xb:AT enc pg w 27 (fun x:List Gr×Nat=>Hc x.1 x.2) fun x=>(x.1.length<AX∧∀g∈x.1,Ib g)∧x.2<AX:=
 AT.map (AT.struct Tryz.underlying27 (.cons W9 Zv rfl (.cons Xa Zw rfl .nil)) (by kernel_rfl)) (fun x=>⟨x.1,x.2.1⟩) (fun _=>rfl) fun _ h=>⟨h.1,h.2.1⟩
theorem Xc:AT enc pg w 30 (fun x:List (List Obj)×(List Gr×Nat)×Nat=>Hd x.1 x.2.1.1 x.2.1.2 x.2.2) fun x=>(x.1.length<AX∧∀l∈x.1,l.length<AX∧∀o∈l,o.data.data.size<AX)∧((x.2.1.1.length<AX∧∀g∈x.2.1.1,Ib g)∧x.2.1.2<AX)∧x.2.2<AX:=
 AT.map (AT.struct Tryz.underlying30 (.cons W8 Zu rfl (.cons Xb Zx rfl (.cons Vo Up rfl .nil))) (by kernel_rfl)) (fun x=>⟨x.1,x.2.1,x.2.2.1⟩) (fun _=>rfl) fun _ h=>⟨h.1,h.2.1,h.2.2.1⟩
theorem Xd:AT enc pg w 32 (fun x:List AP×List (List Obj)×(List Gr×Nat)×Nat=>Kl x.1 x.2.1 x.2.2.1.1 x.2.2.1.2 x.2.2.2) fun x=>(x.1.length<AX∧∀s∈x.1,I9 s)∧(x.2.1.length<AX∧∀l∈x.2.1,l.length<AX∧∀o∈l,o.data.data.size<AX)∧((x.2.2.1.1.length<AX∧∀g∈x.2.2.1.1,Ib g)∧x.2.2.1.2<AX)∧x.2.2.2<AX:=
 AT.map (AT.struct Tryz.underlying32 (.cons W0 Zt rfl (.cons Xc Zy rfl .nil)) (by kernel_rfl)) (fun x=>⟨x.1,x.2.1⟩) (fun _=>rfl) fun _ h=>⟨h.1,h.2.1⟩
end
end Go.Abs
set_option maxRecDepth 100000
namespace Go.Abs
open Go.Proofs Go.ChangeShapes Go.WideShapes Go.ChangeAt Go.RowKit
theorem own0:ownKnob pg.godebug=none:=by kernel_rfl
theorem Vp:laidOutB pg=true:=by kernel_rfl
theorem Us:mapsRowed pg=true:=by kernel_rfl
theorem Vq:Kids pg (·<pg.types.size):=kids_rows Vp Us
theorem Vr:∀t e,t<pg.types.size→pg.underlying t=some (.slice e)→0<pg.cellsOf e:=slices_full_of pg (by kernel_rfl)
theorem Vs (w:World):BC w (PO w) σ0 (fun _=>none) []:=⟨fun T B h=>by simp at h,fun _ _ _=>rfl⟩
theorem Eu.kept {w w' :World} {own' :Nat→Option Nat} (h:Eu w w' (fun _=>none) own'):w.keptBut w' (fun _=>False):=by
 have hb:∀i,i<w.heap.size→w'.heap[i]?=w.heap[i]?:=fun i hi=>h.block i hi rfl
 refine⟨h.os,h.output,fun i hi=>?_⟩
 rw[hb i hi]
 cases hw:w.heap[i]? with
 |none=>trivial
 |some o=>cases o<;>simp
section
variable {H:Type} {enc:TypeId×Value→H}
theorem HP {P:Program} {w w' :World} {base:Nat} {spare:Nat→Bool} {held:Bool}:∀{ts:List TypeId} {vs:List Value} {ds:List (DataW H)} {ps:List MemPlace},DataW.TrodAll enc P w base spare held ts vs ds ps→(∀p∈ps,w.sameAt w' p)→DataW.TrodAll enc P w' base spare held ts vs ds ps
 | [],[],[],_,h,_=>h
 |_::_,_::_,_::_,_,⟨p,q,⟨n,h1⟩,h2,e⟩,hs=>⟨p,q,⟨n,DataW.trod_carry n _ _ _ h1 fun x hx=>hs x (by rw[e];exact List.mem_append_left _ hx)⟩,HP h2 (fun x hx=>hs x (by rw[e];exact List.mem_append_right _ hx)),e⟩
theorem Pc {f:Func} {s:ChangeSpec} {fresh handsOn again:Bool} {W W' :World} {args:Array Value} {v:Value} {ds gs:List (DataW H)} {before:List MemPlace} {own' :Nat→Option Nat}
 (hW:DataW.Whole enc pg f.params.toList s.vars false W args.toList ds gs before) (hT:∀t∈f.params.toList,t<pg.types.size) (hv:s.vars=[]) (hE:Eu W W' (fun _=>none) own') (hs:s.fn H (ds++gs)={results:=[.lit (.bool true)],args:=ds})
 (hr:f.resultTypes= #[4]) (he:v= .bool true):s.post enc pg f false fresh handsOn again W args v W' :=by
 have hold:∀p∈before,(fun b=>decide (b<W.heap.size)) p.block=true:=fun p hp=>by simpa using hW.lt p hp
 have hlt:=fun p hp=>hW.lt p hp
 have hW0:=hW
 obtain⟨p,q,hA,hV,rfl,hz,hn⟩:=hW
 rw[hv] at hV
 obtain⟨rfl,rfl⟩:=trodVars_none hV
 simp only[List.append_nil] at*
 have hargs:∀sp:Nat→Bool,(∀x∈p,sp x.block=true)→DataW.TrodAll enc pg W' 0 sp true f.params.toList args.toList ds p:=fun sp hsp=>by
  refine DataW.TrodAll.respare Vq Vr hT ?_ hsp
  refine HP hA fun x hx=>?_
  have hb:=hE.block _ (hlt x hx) rfl
  cases x with
  |cell b off=>exact World.cell?_of_block hb
  |map b=>exact hb
 have hres:∀(b:Nat) (sp:Nat→Bool) (hd:Bool),DataW.TrodAll enc pg W' b sp hd f.resultTypes.toList (v.resultList f.resultTypes.size) [.lit (.bool true)] []:=fun b sp hd=>by
  subst he;rw[hr]
  exact trodAll_mk1 (shut_bool Tryz.underlying4 true)
 have hvars:∀sp:Nat→Bool,DataW.TrodVars enc pg W' sp s.vars [] []:=fun sp=>by rw[hv];rfl
 refine⟨ds,[],p,[],p,[],by simpa using hW0,?_,?_,?_,World.keptBut_mono (fun x hx=>hx.elim) hE.kept,fun _=>?_⟩
 .simp only[List.append_nil,hs];exact hres _ _ _
 .simp only[List.append_nil,hs];exact hargs _ hold
 .simp only[List.append_nil,hs];exact hvars _
 .refine⟨ok_one (P:=pg) (f:=f) (t:=4) hr (by subst he;rfl) (by subst he;exact okWide_bool_mk Tryz.underlying4 true),?_⟩
  refine⟨[.lit (.bool true)]++ds,[],[]++p,⟨[]++p,[],?_,hvars _,by simp,fun b off hp=>?_,fun h=>by cases h⟩,fun x hx _=>by simpa using hx⟩
  .exact trodAll_append (hargs (fun _=>true) (fun _ _=>rfl)) (hres 0 (fun _=>true) true)
  .have hp' :MemPlace.cell b off∈p:=by simpa using hp
   have:=hz b off hp'
   rw[World.frozen?_of_block (w:=W) (hE.block _ (hlt _ hp') rfl)]
   exact this
theorem LP {f:Nat} {fn:Func} {s:ChangeSpec} {fresh handsOn again:Bool} (hp:fn.params= #[32]) (hr:fn.resultTypes= #[4]) (hv:s.vars=[]) (hs:∀(H:Type) (d:DataW H),s.fn H [d]={results:=[.lit (.bool true)],args:=[d]})
 (hc:∀(S:List AP) (L:List (List Obj)) (G:List Gr) (na nn:Nat),S.length<AX→(∀s∈S,I9 s)→G.length<AX→(∀g∈G,Ib g)→na<AX→nn<AX→L.length<AX→(∀l∈L,l.length<AX∧∀o∈l,o.data.data.size<AX)→Aa pg f [.agg (Kl S L G na nn)] [] fun r _=>r= .bool true)
 (W:World) (base:Nat) (args:Array Value) (ds gs:List (DataW H)) (before:List MemPlace) (hval:∀(j:Nat) t v,fn.params[j]?=some t→args[j]?=some v→Value.okWide pg W .any base t v)
 (hW:DataW.Whole enc pg fn.params.toList s.vars false W args.toList ds gs before) (hsz:(DataW.weightsEach pg (fn.params.toList++s.plain.varTypes pg) (ds++gs)).all (·≤reachBytes)=true):
 Calls pg f args W fun e W' =>∃v,e= .returned v∧s.post enc pg fn false fresh handsOn again W args v W' :=by
 have hW0:=hW
 obtain⟨p,q,hA,hV,rfl,hz,hn⟩:=hW
 rw[hv] at hV
 obtain⟨rfl,rfl⟩:=trodVars_none hV
 rw[hp] at hA hval hsz
 obtain⟨v0,d0,ha,rfl,fuel,h0⟩:=trodAll_one hA
 obtain rfl:args= #[v0]:=by cases args;simp_all
 have hok:=hval 0 32 v0 rfl rfl
 unfold Value.okWide at hok
 rw[Tryz.underlying32] at hok
 obtain⟨cs,rfl,_,_⟩:=hok
 obtain⟨⟨S,L,⟨G,na⟩,nn⟩,hvr,⟨g1,g2⟩,⟨g3,g4⟩,⟨⟨g5,g6⟩,g7⟩,g8⟩:=Xd fuel cs.toList _ h0 (fun n hn' =>by
  have:=List.all_eq_true.1 hsz n (DataW.weights_mem_each (j:=0) (t:=32) (d:=d0) rfl rfl n hn')
  simpa using this)
 refine((hc S L G na nn g1 g2 g5 g6 g7 g8 g3 g4).2 W (PO W) σ0 (fun _=>none) #[.agg cs] (KX ⟨cs,rfl,hvr⟩) (Vs W) (fun g hg=>⟨rfl,hg⟩)).mono ?_
 rintro e W' ⟨r,v,M',σ',own',fpr,rfl,rfl,_,hvv,_,_,_,hE,_⟩
 have hvt:v= .bool true:=hvv.1
 exact⟨v,rfl,Pc hW0 (by rw[hp];intro t ht;simp at ht;subst ht;exact of_decide_eq_true (by kernel_rfl)) hv hE (by simpa using hs H d0) hr hvt⟩
end
end Go.Abs
set_option maxRecDepth 100000
namespace Go.Abs
open Go.Proofs
theorem Pd (s:AP) (hs:AZ s):Aa pg 27 [.agg (Ay false s)] [] (fun r _=>r= .own 1 (BY s.vers).length (Ad (BY s.vers))):=by
 have h1:=hs.1
 refine Aa.start (fn:=Tryz.f27) [.tmp 2] tk rfl rfl rfl (by kernel_rfl) (Nat.le_of_ble_eq_true rfl) rfl (by kernel_rfl) ?_
 rw[At]
 refine z1 ?_;intro K hK;refine zk ?_;clear hK K
 refine zs ?_
 refine zs ?_
 (repeat refine W.seq ?_);refine W.block (W.loopS (fun x:Nat×List Int=> [(1,.ptr 0 0 0),(3,.tok 1 x.2.length 1 0 x.2.length),(4,.int .i64 x.1)]) (fun x=> [.live 0 (Ay false s),.live x.2.length (Ad x.2)]) (fun x=>s.vers.length-x.1) (fun x=>x.1≤s.vers.length∧x.2=BY (s.vers.take x.1)) (0,[]) ((Wk.nil (t:=3) (s:=1) (by simp)).trans (Wk.fr (by simp[Ac]))) (by simp[BY]) ?_)
 rintro⟨k,acc⟩ ⟨hk,hacc⟩
 simp only at hk hacc
 have hal:acc.length≤k:=by rw[hacc];exact Nat.le_trans (FB _) (by simp;omega)
 by_cases c1:k<s.vers.length
 .have hst:=J6 c1
  refine Ae c1 ?_;intro K hK
  refine zk ?_;clear hK K
  refine zt ?_
  refine W.skip ?_
  refine zb ?_
  cases hg:s.vers[k].gone
  .refine Ae (an c1 hg) ?_;intro K hK
   refine zk ?_;clear hK K
   refine zt ?_
   (repeat refine W.seq ?_);refine W.reg 1 rfl fun K hK=>?_;simp -implicitDefEqProofs (maxSteps:=999999) (disch:=omega) [c1]
   refine⟨by omega,by omega,?_⟩
   refine zk ?_;clear hK K
   refine zs ?_
   refine⟨(k+1,acc++[s.vers[k].id]),by simp;omega,⟨by simp;omega,?_⟩,Wk.cutM (k:=2) (by simp[Ac]) ?_ (by simp) (by simp) (by simp) (by simp)⟩
   .simp only;rw[hst,hacc,hg];simp
   .simp[BE,Ad]
  .refine Ae (an c1 hg) ?_;intro K hK
   refine zk ?_;clear hK K
   refine zn ?_
   refine W.skip ?_
   refine zs ?_
   refine⟨(k+1,acc),by simp;omega,⟨by simp;omega,?_⟩,Wk.cutM (k:=2) (by simp[Ac]) (by simp) (by simp) (by simp) (by simp) (by simp)⟩
   simp only;rw[hst,hacc,hg];simp
 .have:k=s.vers.length:=by omega
  subst this
  rw[List.take_length] at hacc
  subst hacc
  refine Ae c1 ?_;intro K hK
  refine zk ?_;clear hK K
  refine zn ?_
  refine W.exit ?_
  refine zs ?_
  exact zR
theorem Qo (s:AP) (id:Int) (hs:AZ s) (hm:CQ (Ar s)):Aa pg 37 [.agg (Ay false s),.int .i64 id] [] (fun r _=>r= .agg (AQ true (if id=0 then Au else(By (Ar s) id).1))):=by
 have spO:=Ki s hs
 have spR:=Gl (Ar s) id hs.objs hm
 refine Aa.start (fn:=Tryz.f37) [.cell 4 51] tk rfl rfl rfl (by kernel_rfl) (Nat.le_of_ble_eq_true rfl) rfl (by kernel_rfl) ?_
 rw[Am]
 refine z2 ?_;intro K hK;refine zk ?_;clear hK K
 by_cases h:id=0
 .refine Ae h ?_;intro K hK
  refine zk ?_;clear hK K
  refine zt ?_
  refine zs ?_
  refine W.weak (Wk.thaw (B:=1) (v:=0) (j:=1) (s:=1) (n:=0) (xs:=[]) rfl rfl) ?_
  refine zr ?_
  simp[h,Au]
 .refine Ae h ?_;intro K hK
  refine zk ?_;clear hK K
  refine zn ?_
  refine W.skip ?_
  refine z1 ?_;intro K hK
  refine Ab.eq spO (by simp) (by simp) ?_
  refine zx ?_
  refine Ab.eq spR (by simp) (by simp) ?_
  refine zx ?_
  refine zk ?_;clear hK K
  refine zs ?_
  refine zr ?_
  simp[h]
theorem Ut (b k:Int):Aa pg 43 [.int .i64 b,.int .i64 k] [] (fun r _=>r= .agg (Ay true (AR b k))):=by
 refine Aa.start (fn:=Tryz.f43) [.cell 4 38] tk rfl rfl rfl (by kernel_rfl) (Nat.le_of_ble_eq_true rfl) rfl (by kernel_rfl) ?_
 rw[Am]
 refine z1 ?_;intro K hK;refine zk ?_;clear hK K
 refine z1 ?_;intro K hK
 refine⟨by show(3:Int)≤9223372036854775807;decide,?_⟩
 have e:Dn 3 [AV.bool false,AV.int .i64 0,AV.bool false,AV.int .i64 0,AV.int .i64 0,AV.own 1 0 [],AV.int .i64 0,AV.int .i64 0,AV.int .i64 0,AV.bool false,AV.own 1 0 [],AV.own 1 0 []]=Af (AG true) [Cm,Cm,Cm]:=rfl
 rw[e]
 refine zk ?_;clear hK K
 refine W.weak (Wk.thaw (B:=0) (v:=0) (j:=2) (s:=8) (n:=0) (xs:=[]) (by rfl) (by rfl)) ?_
 refine zr ?_
 exact(rfl:AV.agg (Ay true (AR b k))=_)
theorem Qp {α:Type} (p:α→Bool) (l:List α) (k:Nat) (h:k<l.length):(l.take (k+1)).any p=((l.take k).any p||p l[k]):=by
 rw[List.take_succ_eq_append_getElem h,List.any_append];simp
theorem Nw (s:AP) (old:Bool) (hs:AZ s) (hk0:0≤s.keep∧s.keep≤1000000):Aa pg 28 [.agg (Ay false s),.bool old] [] (fun r _=>r= .own 1 (BZ s (!old)).length (Ad (BZ s (!old)))):=by
 have h1:=hs.1
 have h2:=hs.2.1
 have hsl:=FB s.vers
 obtain⟨m,hm⟩:∃m:Nat,max 0 (((BY s.vers).length:Int)-s.keep)=(m:Int):=⟨_,(Int.toNat_of_nonneg (by omega)).symm⟩
 have hml:m≤(BY s.vers).length:=by omega
 have hla:J7 s=(BY s.vers).drop m:=by rw[J7,hm];rfl
 refine Aa.start (fn:=Tryz.f28) [.tmp 4] tk rfl rfl rfl (by kernel_rfl) (Nat.le_of_ble_eq_true rfl) rfl (by kernel_rfl) ?_
 rw[Am]
 refine z1 ?_;intro K hK;refine zk ?_;clear hK K
 refine z0 ?_;intro K hK
 refine Ab.eq (Pd s hs) (by simp) (by simp) ?_
 refine zx ?_
 refine zk ?_;clear hK K
 generalize BY s.vers=seen at*
 refine zs ?_
 (repeat refine W.seq ?_);refine W.midS (fun _:Unit=> [(1,.bool old),(2,.ptr 0 0 0),(5,.tok 1 0 1 m (seen.length-m))]) (fun _=> [.live 0 (Ay false s),.live 0 (Ad seen)]) (fun _=>True) ?_ ?_
 .by_cases hlk:s.keep<(seen.length:Int)
  .have em:(seen.length:Int)-s.keep=m:=by omega
   rw[decide_eq_true hlk]
   refine zt ?_
   refine Ae em ?_;intro K hK
   refine zk ?_;clear hK K
   exact⟨(),trivial,Wk.fr (by simp[Ac])⟩
  .have em:m=0:=by omega
   rw[decide_eq_false hlk]
   refine zn ?_
   refine W.skip ?_
   exact⟨(),trivial,Wk.fr (by simp[Ac,em])⟩
 rintro _ _
 refine zs ?_
 refine zs ?_
 have hdl:(seen.drop m).length=seen.length-m:=by simp
 (repeat refine W.seq ?_);refine W.block (W.loopS (fun x:Nat×List Int=> [(1,.bool old),(2,.ptr 0 0 0),(5,.tok 1 0 1 m (seen.length-m)),(6,.tok 2 x.2.length 1 0 x.2.length),(7,.int .i64 x.1)]) (fun x=> [.live 0 (Ay false s),.live 0 (Ad seen),.live x.2.length (Ad x.2)]) (fun x=>s.vers.length-x.1) (fun x=>x.1≤s.vers.length∧x.2=Dh s (!old) (s.vers.take x.1)) (0,[]) ((Wk.nil (t:=6) (s:=1) (by simp)).trans (Wk.fr (by simp[Ac]))) (by simp[Dh]) ?_)
 rintro⟨k,acc⟩ ⟨hk,hacc⟩
 simp only at hk hacc
 have hal:acc.length≤k:=by rw[hacc];exact Nat.le_trans (EB _ _ _) (by simp;omega)
 by_cases c1:k<s.vers.length
 rotate_left
 .have:k=s.vers.length:=by omega
  subst this
  rw[List.take_length] at hacc
  subst hacc
  refine Ae c1 ?_;intro K hK
  refine zk ?_;clear hK K
  refine zn ?_
  refine W.exit ?_
  refine zs ?_
  refine zr ?_
  exact⟨rfl,rfl⟩
 have hst:=Gg (s:=s) (want:= !old) c1
 refine Ae c1 ?_;intro K hK
 refine zk ?_;clear hK K
 refine zt ?_
 refine W.skip ?_
 refine zb ?_
 (repeat refine W.seq ?_);refine W.reg 1 rfl fun K hK=>?_;simp -implicitDefEqProofs (maxSteps:=999999) (disch:=omega) [c1]
 refine zk ?_;clear hK K
 obtain⟨v,hv⟩:∃v,v=s.vers[k]:=⟨_,rfl⟩
 rw[←hv] at hst ⊢
 have hkb:E6 s v=(v.tag|| (seen.drop m).contains v.id||pinned s v.id):=by rw[E6,hla]
 (repeat refine W.seq ?_);refine W.midS (fun _:Unit=> [(1,.bool old),(2,.ptr 0 0 0),(5,.tok 1 0 1 m (seen.length-m)),(6,.tok 2 acc.length 1 0 acc.length),(7,.int .i64 k),(8,.ptr 3 0 0),(9,.bool (v.tag|| (seen.drop m).contains v.id))]) (fun _=> [.live 0 (Ay false s),.live 0 (Ad seen),.live acc.length (Ad acc),.live 0 (A8 v)]) (fun _=>True) ?_ ?_
 .cases ht:v.tag
  .have spI:=OO (seen.drop m) v.id (by simp;omega)
   have hc:=Ha (seen.drop m) v.id
   refine Ae ht ?_;intro K hK
   refine Ab.eq spI (by simp(disch:=omega);rw[List.take_of_length_le (by simp)]) (by simp) ?_
   cases e:(seen.drop m).contains v.id
   .rw[e] at hc
    have hn:¬0≤BM (fun y=>decide (y=v.id)) (seen.drop m):=by rw[hc];simp
    refine AM hn ?_
    refine zk ?_;clear hK K
    have e2:¬v.id∈seen.drop m:=by simpa using e
    exact⟨(),trivial,Wk.cutM (k:=4) (by simp[Ac,e2]) (by simp[ht]) (by simp) (by simp) (by simp) (by simp)⟩
   .rw[e] at hc
    have hn:0≤BM (fun y=>decide (y=v.id)) (seen.drop m):=by rw[hc]
    refine AM hn ?_
    refine zk ?_;clear hK K
    have e2:v.id∈seen.drop m:=by simpa using e
    exact⟨(),trivial,Wk.cutM (k:=4) (by simp[Ac,e2]) (by simp[ht]) (by simp) (by simp) (by simp) (by simp)⟩
  .refine Ae ht ?_;intro K hK
   refine zk ?_;clear hK K
   exact⟨(),trivial,Wk.cutM (k:=4) (by simp[Ac]) (by simp[ht]) (by simp) (by simp) (by simp) (by simp)⟩
 rintro _ _
 obtain⟨b,hb⟩:∃b,b=(v.tag|| (seen.drop m).contains v.id):=⟨_,rfl⟩
 rw[←hb] at hkb ⊢
 refine zs ?_
 (repeat refine W.seq ?_);refine W.block (W.loopS (fun x:Nat=> [(1,.bool old),(2,.ptr 0 0 0),(5,.tok 1 0 1 m (seen.length-m)),(6,.tok 2 acc.length 1 0 acc.length),(7,.int .i64 k),(8,.ptr 3 0 0),(9,.bool (b|| (s.sess.take x).any fun y=>decide (y.pin=v.id))),(10,.int .i64 x)]) (fun _=> [.live 0 (Ay false s),.live 0 (Ad seen),.live acc.length (Ad acc),.live 0 (A8 v)]) (fun x=>s.sess.length-x) (fun x=>x≤s.sess.length) 0 (Wk.fr (by simp[Ac])) (by simp) ?_)
 intro x hx
 by_cases g1:x<s.sess.length
 .have hany:=Qp (fun y:C1=>decide (y.pin=v.id)) s.sess x g1
  refine Ae g1 ?_;intro K hK
  refine zk ?_;clear hK K
  refine zt ?_
  refine W.skip ?_
  obtain⟨c,hc⟩:∃c,c=(b|| (s.sess.take x).any fun y=>decide (y.pin=v.id)):=⟨_,rfl⟩
  have hn:(b|| (s.sess.take (x+1)).any fun y=>decide (y.pin=v.id))=(c||decide (s.sess[x].pin=v.id)):=by rw[hany,hc,Bool.or_assoc]
  rw[←hc]
  have l1:(Af (AG false) s.sess)[x*12+1]?=some (.int .i64 s.sess[x].pin):=Bg (f:=AG false) (s:=12) (fun _=>rfl) g1 (i:=1) (by omega)
  refine zb ?_
  cases c
  .refine A5 (an g1 l1) ?_;intro K hK
   refine zk ?_;clear hK K
   refine zs ?_
   exact⟨x+1,by omega,by omega,Wk.fr (by simp[Ac,hn])⟩
  .refine A5 (an g1 l1) ?_;intro K hK
   refine zk ?_;clear hK K
   refine zs ?_
   exact⟨x+1,by omega,by omega,Wk.fr (by simp[Ac,hn])⟩
 have hxe:x=s.sess.length:=by omega
 subst hxe
 have hp:(b|| (List.take s.sess.length s.sess).any fun y=>decide (y.pin=v.id))=E6 s v:=by rw[List.take_length,hkb];rfl
 rw[hp]
 refine Ae g1 ?_;intro K hK
 refine zk ?_;clear hK K
 refine zn ?_
 refine W.exit ?_
 obtain⟨kb,hkb'⟩:∃kb,kb=E6 s v:=⟨_,rfl⟩
 rw[←hkb'] at hst ⊢
 by_cases e:kb=old
 .have e' :(kb== !old)=false:=by rw[e];cases old<;>rfl
  rw[e'] at hst
  refine Ae e ?_;intro K hK
  refine zk ?_;clear hK K
  refine zn ?_
  refine W.skip ?_
  refine zs ?_
  refine⟨(k+1,acc),by simp;omega,⟨by simp;omega,?_⟩,Wk.cutM (k:=3) (by simp[Ac]) (by simp) (by simp) (by simp) (by simp) (by simp)⟩
  simp only;rw[hst,hacc];simp
 .have e' :(kb== !old)=true:=by cases kb<;>cases old<;>simp at e ⊢
  rw[e'] at hst
  refine Ae e ?_;intro K hK
  refine zk ?_;clear hK K
  refine zt ?_
  refine z1 ?_;intro K hK
  refine⟨by omega,by omega,?_⟩
  refine zk ?_;clear hK K
  refine zs ?_
  refine⟨(k+1,acc++[v.id]),by simp;omega,⟨by simp;omega,?_⟩,Wk.cutM (k:=3) (by simp[Ac]) ?_ (by simp) (by simp) (by simp) (by simp)⟩
  .simp only;rw[hst,hacc];simp
  .simp[BE,Ad]
end Go.Abs
set_option maxRecDepth 100000
namespace Go.Abs
open Go.Proofs
def Bz:List Bool→Int→Int→List (Int×Int)
 | [],i,a=>if a<i then [(a,i-a)] else []
 |false::t,i,a=>Bz t (i+1) a
 |true::t,i,a=>(if a<i then [(a,i-a)] else [])++Bz t (i+1) (i+1)
theorem EN:∀(t:List Bool) (i a:Int),(Bz t i a).length≤t.length+1
 | [],i,a=>by unfold Bz;split<;>simp
 |false::t,i,a=>by have:=EN t (i+1) a;unfold Bz;simp;omega
 |true::t,i,a=>by
  have:=EN t (i+1) (i+1)
  unfold Bz
  split<;>simp<;>omega
theorem KI {t:List Bool} {i:Nat} (h:i<t.length) (b:t[i]=true) (a:Int):Bz (t.drop i) i a=(if a<i then [(a,(i:Int)-a)] else [])++Bz (t.drop (i+1)) ((i:Int)+1) ((i:Int)+1):=by
 rw[List.drop_eq_getElem_cons h,b,Bz]
theorem Jy {t:List Bool} {i:Nat} (h:i<t.length) (b:t[i]=false) (a:Int):Bz (t.drop i) i a=Bz (t.drop (i+1)) ((i:Int)+1) a:=by
 rw[List.drop_eq_getElem_cons h,b,Bz]
theorem Ic {t:List Bool} {i:Nat} (h:t.length≤i) (i' a:Int):Bz (t.drop i) i' a=if a<i' then [(a,i' -a)] else []:=by
 rw[List.drop_eq_nil_of_le h,Bz]
theorem Uu (t:List Bool) (ht:t.length<1000000000):Aa pg 122 [.ro t.length (Az t)] [] (fun r _=>r= .own 2 (Bz t 0 0).length (Af Al (Bz t 0 0))):=by
 refine Aa.start (fn:=Tryz.f122) [.tmp 2] tk rfl rfl rfl (by kernel_rfl) (Nat.le_of_ble_eq_true rfl) rfl (by kernel_rfl) ?_
 rw[At]
 refine zs ?_
 refine zs ?_
 obtain⟨g,hg⟩:∃g,g=Bz t 0 0:=⟨_,rfl⟩
 have hgl:g.length≤t.length+1:=by rw[hg];exact EN ..
 rw[←hg]
 (repeat refine W.seq ?_);refine W.block (W.loopS (fun x:Nat×Nat=> [(0,.ro t.length (Az t)),(2,.tok 0 x.2 2 0 x.2),(3,.int .i64 x.1)]) (fun x=> [.live x.2 (Af Al (g.take x.2))]) (fun x=>t.length+1-x.1) (fun x=>x.1≤t.length+1∧x.2≤x.1∧x.2≤g.length∧g.drop x.2=Bz (t.drop x.1) x.1 x.1) (0,0) ((Wk.nil (t:=2) (s:=2) (by simp)).trans (Wk.fr (by simp[Ac]))) ⟨by omega,by omega,by omega,by simp[hg]⟩ ?_)
 rintro⟨i,k⟩ ⟨hi,hki,hkg,hk⟩
 simp only at hi hki hkg hk ⊢
 by_cases c1:i<t.length
 rotate_left
 .refine Ae c1 ?_;intro K hK
  refine zk ?_;clear hK K
  refine zn ?_
  refine W.exit ?_
  have:k=g.length:=by
   rw[Ic (by omega),if_neg (by omega)] at hk
   have:=congrArg List.length hk
   simp at this;omega
  subst this
  rw[List.take_length]
  refine zs ?_
  exact zR
 refine Ae c1 ?_;intro K hK
 refine zk ?_;clear hK K
 refine zt ?_
 refine W.skip ?_
 refine zb ?_
 refine zs ?_
 (repeat refine W.seq ?_);refine W.block (W.loopS (fun j:Nat=> [(0,.ro t.length (Az t)),(2,.tok 0 k 2 0 k),(3,.int .i64 j),(4,.int .i64 i)]) (fun _=> [.live k (Af Al (g.take k))]) (fun j=>t.length-j) (fun j=>i≤j∧j≤t.length∧g.drop k=Bz (t.drop j) j i) i (Wk.fr (by simp[Ac])) ⟨by omega,by omega,hk⟩ ?_)
 rintro j ⟨hij,hjl,hj⟩
 by_cases c2:∃h:j<t.length,t[j]=false
 .obtain⟨c2,c3⟩:=c2
  refine Ae (an c2 c3) ?_;intro K hK
  refine zk ?_;clear hK K
  refine zt ?_
  refine W.skip ?_
  refine zb ?_
  refine zs ?_
  exact⟨j+1,by omega,⟨by omega,by omega,by rw[hj,Jy c2 c3];simp⟩,Wk.fr (by simp[Ac])⟩
 have hrest:∃l,g.drop k=(if i<j then [((i:Int),(j:Int)-i)] else [])++l∧l=Bz (t.drop (j+1)) ((j:Int)+1) ((j:Int)+1):=by
  refine⟨_,?_,rfl⟩
  rw[hj]
  by_cases c3:j<t.length
  .have c4:t[j]=true:=by
    cases e:t[j]
    .exact absurd ⟨c3,e⟩ c2
    .rfl
   rw[KI c3 c4]
   by_cases e:i<j<;>simp[e]
  .rw[Ic (by omega),Ic (by omega),if_neg (show¬((j:Int)+1<(j:Int)+1) by omega),List.append_nil]
   by_cases e:i<j<;>simp[e]
 obtain⟨l,hl,hle⟩:=hrest
 (repeat refine W.seq ?_);refine W.midS (fun _:Unit=> [(0,.ro t.length (Az t)),(2,.tok 0 k 2 0 k),(3,.int .i64 j),(4,.int .i64 i),(22,.bool false)]) (fun _=> [.live k (Af Al (g.take k))]) (fun _=>True) ?_ ?_
 .by_cases c3:j<t.length
  .have c4:t[j]=true:=by
    cases e:t[j]
    .exact absurd ⟨c3,e⟩ c2
    .rfl
   refine Ae (an c3 c4) ?_;intro K hK
   refine zk ?_;clear hK K
   exact⟨(),trivial,Wk.fr (by simp[Ac])⟩
  .refine Ae c3 ?_;intro K hK
   refine zk ?_;clear hK K
   exact⟨(),trivial,Wk.fr (by simp[Ac])⟩
 rintro _ _
 refine zn ?_
 refine W.exit ?_
 by_cases c5:i<j
 .have c5' :(i:Int)<(j:Int):=by omega
  rw[if_pos c5] at hl
  have hkl:k<g.length:=by
   have:=congrArg List.length hl
   simp at this;omega
  have hgk:g[k]=((i:Int),(j:Int)-i):=by
   have:=List.drop_eq_getElem_cons hkl
   rw[hl] at this
   simpa using (List.cons.inj this).1.symm
  have hdl:g.drop (k+1)=l:=by
   have:=List.drop_eq_getElem_cons hkl
   rw[hl] at this
   simpa using (List.cons.inj this).2.symm
  have hto:g.take (k+1)=g.take k++[((i:Int),(j:Int)-i)]:=by
   rw[List.take_add_one];simp[hkl,hgk]
  refine Ae c5' ?_;intro K hK
  refine zk ?_;clear hK K
  refine zt ?_
  refine Mk hkl ?_;intro K hK
  refine⟨by omega,by omega,?_⟩
  refine zk ?_;clear hK K
  refine zs ?_
  refine⟨(j+1,k+1),by simp only;omega,⟨by simp only;omega,by simp only;omega,by simp only;omega,by simp only;rw[hdl,hle];simp⟩,Wk.cutM (k:=1) (by simp[Ac]) ?_ (by simp) (by simp) (by simp) (by simp)⟩
  rw[hto]
  simp[Cz,AL,Al]
 .have c5' :¬(i:Int)<(j:Int):=by omega
  rw[if_neg c5,List.nil_append] at hl
  refine Ae c5' ?_;intro K hK
  refine zk ?_;clear hK K
  refine zn ?_
  refine W.skip ?_
  refine zs ?_
  refine⟨(j+1,k),by simp only;omega,⟨by simp only;omega,by simp only;omega,hkg,by simp only;rw[hl,hle];simp⟩,Wk.fr (by simp[Ac])⟩
def RH (l:List (Int×Int)) (blocks n:Int):Int×Int:=
 if CB l blocks∧(1≤n∧n≤100) then match (Bz (BF l blocks.toNat) 0 0).find? fun x=>decide (n≤x.2) with
  |some x=>(x.1,0)
  |none=>(0,5)
 else(0,1)
def EE (l:List (Int×Int)) (blocks:Int):Int×Int:=
 if CB l blocks then(((Bz (BF l blocks.toNat) 0 0).map fun x=>x.2).sum,0) else(0,1)
end Go.Abs
set_option maxRecDepth 100000
namespace Go.Abs
open Go.Proofs
def dH (k:Nat) (xs:List (List Int)):List AV:=Aw true (xs.take k)++Aw false (xs.drop k)
end Go.Abs
set_option maxRecDepth 100000
namespace Go.Abs
open Go.Proofs
def bN (k:Nat) (xs:List C1):List AV:=Af (AG true) (xs.take k)++Af (AG false) (xs.drop k)
end Go.Abs
set_option maxRecDepth 100000
namespace Go.Abs
open Go.Proofs
def Do:AP:=⟨0,0,[],[]⟩
def Xe (id parent:Int):Cv:=⟨id,parent,0,⟨ByteArray.empty,0⟩,0,false,false⟩
def Uv (l:List Cv) (i:Nat) (o:Obj):List Cv:=match l[i]? with|some v=>l.set i {v with base:=o.base,data:=o.data} |none=>l
def ZF (l:List Cv) (i:Nat) (a:Int):List Cv:=match l[i]? with|some v=>l.set i {v with at_:=a} |none=>l
def Vt (s:AP) (o:Obj) (parent:Int):Option (List Cv×Nat):=
 if BM (fun v=>decide (v.id=o.id)) s.vers<0 then(if o.id≤Ct s.vers∨parent<0∨o.id≤parent then none else some (s.vers++[Xe o.id parent],s.vers.length))
 else some (s.vers,(BM (fun v=>decide (v.id=o.id)) s.vers).toNat)
def Vu (s:AP) (o:Obj) (parent:Int):AP×Int:=match Vt s o parent with
 |none=>(Do,1)
 |some (l,i)=>
  if DI o.data∧Gd {s with vers:=Uv l i o} then
   (if (RH (AE s) s.blocks (HA o.data)).2=0 then({s with vers:=ZF (Uv l i o) i (RH (AE s) s.blocks (HA o.data)).1},0) else(Do,5))
  else(Do,1)
def bO (s:AP) (o:Obj) (parent:Int):AP×Int:=if Bm s then Vu s o parent else(Do,1)
end Go.Abs
set_option maxRecDepth 100000
namespace Go.Abs
open Go.Proofs
theorem Sq (s:AP) (hs:AZ s) (hk0:0≤s.keep∧s.keep≤1000000):Aa pg 77 [.agg (Ay false s)] [] (fun r _=>r= .own 1 (BZ s false).length (Ad (BZ s false))):=by
 refine Aa.start (fn:=Tryz.f77) [.tmp 2] tk rfl rfl rfl (by kernel_rfl) (Nat.le_of_ble_eq_true rfl) rfl (by kernel_rfl) ?_
 rw[At]
 refine z1 ?_;intro K hK;refine zk ?_;clear hK K
 refine z0 ?_;intro K hK
 refine Ab.eq (MG s false hs hk0) (by simp) (by simp) ?_
 refine zx ?_
 refine zk ?_;clear hK K
 exact zR
theorem Vv (hR:Bh) (s:AP) (hs:AZ s) (hx:CO s):Aa pg 24 [.agg (Ay false s)] [] (fun r _=>r= .tup [if Bm s then .own 1 (BZ s false).length (Ad (BZ s false)) else .own 1 0 [],.int .i64 (if Bm s then 0 else 1)]):=by
 refine Aa.start (fn:=Tryz.f24) [.tmp 2,.tmp 3] tk rfl rfl rfl (by kernel_rfl) (Nat.le_of_ble_eq_true rfl) rfl (by kernel_rfl) ?_
 rw[At]
 refine z1 ?_;intro K hK;refine zk ?_;clear hK K
 by_cases h:Bm s
 .have hk:=h.1.1
  refine z0 ?_;intro K hK
  refine Ab.eq (BW hR s hs hx) (by simp) (by simp) ?_
  rw[decide_eq_true h]
  refine zx ?_
  refine zk ?_;clear hK K
  refine zn ?_
  refine W.skip ?_
  refine z0 ?_;intro K hK
  refine Ab.eq (Sq s hs ⟨by have:=hk.1;omega,by have:=hk.2.1;omega⟩) (by simp) (by simp) ?_
  refine zx ?_
  refine zk ?_;clear hK K
  refine zr ?_
  simp[h]
 .refine z0 ?_;intro K hK
  refine Ab.eq (BW hR s hs hx) (by simp) (by simp) ?_
  rw[decide_eq_false h]
  refine zx ?_
  refine zk ?_;clear hK K
  refine zt ?_
  refine zs ?_
  refine zr ?_
  simp[h]
theorem Sr (hR:Bh) (s:AP) (hs:AZ s) (hx:CO s):Aa pg 26 [.agg (Ay false s)] [] (fun r _=>r= .tup [if Bm s then .own 4 (Ar s).length (Af Av (Ar s)) else .own 4 0 [],.int .i64 (if Bm s then 0 else 1)]):=by
 refine Aa.start (fn:=Tryz.f26) [.tmp 2,.tmp 3] tk rfl rfl rfl (by kernel_rfl) (Nat.le_of_ble_eq_true rfl) rfl (by kernel_rfl) ?_
 rw[At]
 refine z1 ?_;intro K hK;refine zk ?_;clear hK K
 by_cases h:Bm s
 .refine z0 ?_;intro K hK
  refine Ab.eq (BW hR s hs hx) (by simp) (by simp) ?_
  rw[decide_eq_true h]
  refine zx ?_
  refine zk ?_;clear hK K
  refine zn ?_
  refine W.skip ?_
  refine z0 ?_;intro K hK
  refine Ab.eq (J2 s hs) (by simp) (by simp) ?_
  refine zx ?_
  refine zk ?_;clear hK K
  refine zr ?_
  simp[h]
 .refine z0 ?_;intro K hK
  refine Ab.eq (BW hR s hs hx) (by simp) (by simp) ?_
  rw[decide_eq_false h]
  refine zx ?_
  refine zk ?_;clear hK K
  refine zt ?_
  refine zs ?_
  refine zr ?_
  simp[h]
theorem Qq (hR:Bh) (s:AP) (hs:AZ s) (hx:CO s):Aa pg 32 [.agg (Ay false s)] [] (fun r _=>r= .int .i64 (if Bm s then 0 else 1)):=by
 refine Aa.start (fn:=Tryz.f32) [.tmp 2] tk rfl rfl rfl (by kernel_rfl) (Nat.le_of_ble_eq_true rfl) rfl (by kernel_rfl) ?_
 rw[At]
 refine z1 ?_;intro K hK;refine zk ?_;clear hK K
 by_cases h:Bm s
 .refine z0 ?_;intro K hK
  refine Ab.eq (BW hR s hs hx) (by simp) (by simp) ?_
  rw[decide_eq_true h]
  refine zx ?_
  refine zk ?_;clear hK K
  refine zn ?_
  refine W.skip ?_
  refine zs ?_
  refine zr ?_
  simp[h]
 .refine z0 ?_;intro K hK
  refine Ab.eq (BW hR s hs hx) (by simp) (by simp) ?_
  rw[decide_eq_false h]
  refine zx ?_
  refine zk ?_;clear hK K
  refine zt ?_
  refine zs ?_
  refine zr ?_
  simp[h]
theorem LQ {l:List (Int×Int)} {k:Nat} (h:k<l.length):((l.take (k+1)).map fun x=>x.2).sum=((l.take k).map fun x=>x.2).sum+l[k].2:=by
 rw[List.take_succ_eq_append_getElem h,List.map_append,List.sum_append];simp
theorem Gm:∀(t:List Bool) (i a:Int),a≤i→∀x∈Bz t i a,1≤x.2∧a≤x.1∧x.1+x.2≤i+t.length
 | [],i,a,h,x,hx=>by
   simp only[Bz] at hx
   split at hx
   .simp at hx;subst hx;simp;omega
   .simp at hx
 |true::t,i,a,h,x,hx=>by
  simp only[Bz,List.mem_append] at hx
  rcases hx with hx|hx
  .split at hx
   .simp at hx;subst hx;simp;omega
   .simp at hx
  .have:=Gm t (i+1) (i+1) (Int.le_refl _) x hx
   simp;omega
 |false::t,i,a,h,x,hx=>by
  simp only[Bz] at hx
  have:=Gm t (i+1) a (by omega) x hx
  simp;omega
theorem Ss (l:List (Int×Int)) (blocks:Int) (hl:l.length<1000000000):Aa pg 78 [.ro l.length (Af Al l),.int .i64 blocks] [] (fun r _=>r= .tup [.int .i64 (EE l blocks).1,.int .i64 (EE l blocks).2]):=by
 have sp:=NS l blocks hl
 refine Aa.start (fn:=Tryz.f78) [.tmp 4,.tmp 5] tk rfl rfl rfl (by kernel_rfl) (Nat.le_of_ble_eq_true rfl) rfl (by kernel_rfl) ?_
 rw[Am]
 refine zs ?_
 by_cases c1:CB l blocks
 rotate_left
 .rw[Gf,if_neg c1] at sp
  refine z0 ?_;intro K hK
  refine Ab.eq sp (by simp) (by simp) ?_
  refine zx ?_
  refine zk ?_;clear hK K
  refine zs ?_
  refine zt ?_
  refine zs ?_
  refine zr ?_
  simp[EE,c1]
 rw[Gf,if_pos c1] at sp
 have hn:blocks.toNat≤100:=by have:=c1.2.1;omega
 refine z0 ?_;intro K hK
 refine Ab.eq sp (by simp) (by simp) ?_
 refine zx ?_
 refine zk ?_;clear hK K
 refine zs ?_
 refine zn ?_
 refine W.skip ?_
 refine zs ?_
 have spg:=Uu (BF l blocks.toNat) (by simp;omega)
 rw[J4] at spg
 obtain⟨g,hg⟩:∃g,g=Bz (BF l blocks.toNat) 0 0:=⟨_,rfl⟩
 have hgl:g.length≤blocks.toNat+1:=by have:=EN (BF l blocks.toNat) 0 0;rw[hg];simpa using this
 have hfs:EE l blocks=((g.map fun x=>x.2).sum,0):=by
  unfold EE;rw[if_pos c1,hg]
 have hgp:∀x∈g,1≤x.2∧x.2≤100:=fun x hx=>by
  rw[hg] at hx
  have:=Gm _ 0 0 (Int.le_refl _) x hx
  simp at this;omega
 rw[hfs]
 rw[←hg] at spg
 refine z0 ?_;intro K hK
 refine Ab.eq spg (by simp) (by simp) ?_
 refine zx ?_
 refine zk ?_;clear hK K
 (repeat refine W.seq ?_);refine W.block (W.loopS (fun k:Nat=> [(8,.int .i64 ((g.take k).map fun x=>x.2).sum),(20,.tok 1 0 2 0 g.length),(21,.int .i64 g.length),(22,.int .i64 k)]) (fun _=> [.live 0 (Az (BF l blocks.toNat)),.live 0 (Af Al g)]) (fun k=>g.length-k) (fun k=>k≤g.length∧0≤((g.take k).map fun x=>x.2).sum∧((g.take k).map fun x=>x.2).sum≤100*k) 0 (Wk.fr (by simp[Ac])) (by simp) ?_)
 rintro k ⟨hk,hs0,hs1⟩
 by_cases c3:k<g.length
 .have hst:=LQ c3
  have hb:=hgp _ (List.getElem_mem c3)
  obtain⟨z,hz⟩:∃z,z=((g.take k).map fun x=>x.2).sum:=⟨_,rfl⟩
  rw[←hz] at hst hs0 hs1 ⊢
  refine Ae c3 ?_;intro K hK
  refine zk ?_;clear hK K
  refine zt ?_
  refine W.skip ?_
  refine zb ?_
  have g0:(Af Al g)[k*2]?=some (.int .i64 g[k].1):=Bg (f:=Al) (s:=2) (fun _=>rfl) c3 (i:=0) (by omega)
  have g1:(Af Al g)[k*2+1]?=some (.int .i64 g[k].2):=Bg (f:=Al) (s:=2) (fun _=>rfl) c3 (i:=1) (by omega)
  refine Mk (an c3 (an g0 g1)) ?_;intro K hK
  refine zk ?_;clear hK K
  refine zs ?_
  refine zs ?_
  rw[List.map_take] at hst
  exact⟨k+1,by omega,⟨by omega,by rw[List.map_take];omega,by rw[List.map_take];omega⟩,Wk.cutM (k:=2) (by simp[Ac,hst]) (by simp) (by simp) (by simp) (by simp) (by simp)⟩
 .have:k=g.length:=by omega
  subst this
  refine Ae c3 ?_;intro K hK
  refine zk ?_;clear hK K
  refine zn ?_
  refine W.exit ?_
  refine zs ?_
  exact zR
theorem Su (hR:Bh) (s:AP) (hs:AZ s) (hx:CO s):Aa pg 25 [.agg (Ay false s)] [] (fun r _=>r= .tup [.int .i64 (if Bm s then(EE (AE s) s.blocks).1 else 0),.int .i64 (if Bm s then 0 else 1)]):=by
 have spF:=Ss (AE s) s.blocks (by simp[AE];exact hs.1)
 refine Aa.start (fn:=Tryz.f25) [.tmp 2,.tmp 3] tk rfl rfl rfl (by kernel_rfl) (Nat.le_of_ble_eq_true rfl) rfl (by kernel_rfl) ?_
 rw[At]
 refine z1 ?_;intro K hK;refine zk ?_;clear hK K
 by_cases h:Bm s
 .have he:(EE (AE s) s.blocks).2=0:=by unfold EE;rw[if_pos h.2]
  refine z0 ?_;intro K hK
  refine Ab.eq (BW hR s hs hx) (by simp) (by simp) ?_
  rw[decide_eq_true h]
  refine zx ?_
  refine zk ?_;clear hK K
  refine zn ?_
  refine W.skip ?_
  refine B8 ?_;intro K hK
  refine Ah.eq (ME s hs) (by simp) (by simp) ?_
  refine zx ?_
  refine Ah.eq spF (by simp) (by simp) ?_
  refine zx ?_
  refine zk ?_;clear hK K
  refine zr ?_
  simp[h,he]
 .refine z0 ?_;intro K hK
  refine Ab.eq (BW hR s hs hx) (by simp) (by simp) ?_
  rw[decide_eq_false h]
  refine zx ?_
  refine zk ?_;clear hK K
  refine zt ?_
  refine zs ?_
  refine zr ?_
  simp[h]
def Dr (s:AP) (id:Int):Gr×Int:=
 if Bm s then(if id=0 then(Au,0) else if BM (fun v=>decide (v.id=id)) s.vers<0 then(Au,3) else((By (Ar s) id).1,0)) else(Au,1)
theorem Qr (hR:Bh) (s:AP) (id:Int) (hs:AZ s) (hx:CO s):Aa pg 35 [.agg (Ay false s),.int .i64 id] [] (fun r _=>r= .tup [.agg (AQ true (Dr s id).1),.int .i64 (Dr s id).2]):=by
 refine Aa.start (fn:=Tryz.f35) [.cell 4 51,.tmp 5] tk rfl rfl rfl (by kernel_rfl) (Nat.le_of_ble_eq_true rfl) rfl (by kernel_rfl) ?_
 rw[Am]
 refine z2 ?_;intro K hK;refine zk ?_;clear hK K
 refine zb ?_
 by_cases h:Bm s
 rotate_left
 .refine z0 ?_;intro K hK
  refine Ab.eq (BW hR s hs hx) (by simp) (by simp) ?_
  rw[decide_eq_false h]
  refine zx ?_
  refine zk ?_;clear hK K
  refine zt ?_
  refine zs ?_
  refine W.weak (Wk.thaw (B:=1) (v:=0) (j:=1) (s:=1) (n:=0) (xs:=[]) rfl rfl) ?_
  refine zr ?_
  simp[Dr,h,Au]
 refine z0 ?_;intro K hK
 refine Ab.eq (BW hR s hs hx) (by simp) (by simp) ?_
 rw[decide_eq_true h]
 refine zx ?_
 refine zk ?_;clear hK K
 refine zn ?_
 have spP:=Kz s id hs
 obtain⟨k,hk⟩:∃k,k=BM (fun v=>decide (v.id=id)) s.vers:=⟨_,rfl⟩
 rw[←hk] at spP
 by_cases c1:id=0
 .refine Ae c1 ?_;intro K hK
  refine zk ?_;clear hK K
  refine zn ?_
  refine W.skip ?_
  subst c1
  refine z0 ?_;intro K hK
  refine Ab.eq (TX s) (by simp) (by simp) ?_
  refine zx ?_
  refine zk ?_;clear hK K
  refine zr ?_
  simp[Dr,h]
 by_cases c2:k<0
 .refine Ae c1 ?_;intro K hK
  refine Ab.eq spP (by simp) (by simp) ?_
  refine AM c2 ?_
  refine zk ?_;clear hK K
  refine zt ?_
  refine zs ?_
  refine W.weak (Wk.thaw (B:=1) (v:=0) (j:=1) (s:=1) (n:=0) (xs:=[]) rfl rfl) ?_
  refine zr ?_
  simp[Dr,h,c1,←hk,c2,Au]
 .refine Ae c1 ?_;intro K hK
  refine Ab.eq spP (by simp) (by simp) ?_
  refine AM c2 ?_
  refine zk ?_;clear hK K
  refine zn ?_
  refine W.skip ?_
  refine z0 ?_;intro K hK
  refine Ab.eq (MD s id hs h.1.1.2.2.2.2.2.2 c1) (by simp) (by simp) ?_
  refine zx ?_
  refine zk ?_;clear hK K
  refine zr ?_
  simp[Dr,h,c1,←hk,c2]
end Go.Abs
