/- Laws of layer 14: what wakes. -/
import Derived.Test.YtoklapibcmnaeaaGreatP12
import Derived.Test.YtoklapibcmnaeaaGreatRows
import Derived.JoinedOf
set_option linter.unusedVariables false
set_option linter.unusedSimpArgs false
set_option maxRecDepth 100000
namespace Go.Abs
open Go.Proofs
theorem U8:Df []=F0:=by funext t;simp[Df,F0]
theorem OB:C9 (BM 9 2):=by
 rw[K6]
 refine⟨by simp[BM],by simp[BM],by simp[BM],by simp[BM],⟨by simp[BM,Al],by simp[BM,Al],by simp[BM,Al]⟩,⟨by simp[BM],by simp[BM],by simp[BM,AM],by simp[BM,AM],by simp[BM,AM]⟩,fun i h=>by simp[BM] at h,fun x hx=>?_⟩
 have:x=DG:=by simpa[BM] using hx
 subst this
 simp[Az,DG]
theorem PI (hR:B1):Aa pg 19 [] [] (fun r _=>r= .bool true):=by
 have spN:=Wb hR 9 2 OB
 have hs:Bp (BM 9 2):=⟨by simp[BM],by simp[BM],by simp[BM]⟩
 have hx:Dn (BM 9 2):=by
  intro x hx
  have:x=DG:=by simpa[BM] using hx
  subst this
  simp[DZ,Ex,IZ,DG,AG,Cc]
 have spH:=SZ hR (BM 9 2) hs hx
 rw[if_pos OB,if_pos OB] at spH
 have hl:AP (BM 9 2).vers=0:=rfl
 have hb:(BM 9 2).blocks=9:=rfl
 have hsl:(BM 9 2).sess.length=3:=rfl
 rw[hl] at spH
 obtain⟨s,hsd⟩:∃s,s=BM 9 2:=⟨_,rfl⟩
 rw[←hsd] at spN spH hb hsl
 refine Aa.start (fn:=Tryz.f19) [.tmp 0] tk rfl rfl rfl (by kernel_rfl) (Nat.le_of_ble_eq_true rfl) rfl (by kernel_rfl) ?_
 rw[U8]
 refine zs ?_
 refine z1 ?_;intro K hK
 refine Ab.eq spN (by simp) (by simp) ?_
 refine zx ?_
 refine zk ?_;clear hK K
 refine z0 ?_;intro K hK
 refine Ab.eq spH (by simp) (by simp) ?_
 refine zx ?_
 refine zk ?_;clear hK K
 have hb' :(s.blocks=9)=True:=eq_true hb
 have hsl' :((s.sess.length:Int)=3)=True:=eq_true (by omega)
 refine z0 ?_;intro K hK
 refine Ab.eq (IV 0) (by simp) (by simp) ?_
 refine zx ?_
 refine Ab.eq (IV 0) (by simp) (by simp) ?_
 refine AI (an hb' hsl') ?_
 refine zk ?_;clear hK K
 exact zR
end Go.Abs
namespace Go.Abs
def aa (s:AT) (keep:Int) (k:Nat) (tag gone:Bool):AT:={s with keep:=keep,vers:=match s.vers[k]? with|some v=>s.vers.set k {v with tag:=tag,gone:=gone} |none=>s.vers}
theorem Ho (l m:List AS) (h:l.map (fun v=>v.id)=m.map fun v=>v.id):AP l=AP m:=by
 have:=congrArg List.getLast? h
 rw[List.getLast?_map,List.getLast?_map] at this
 unfold AP
 cases hl:l.getLast?<;>cases hm:m.getLast?<;>simp_all
theorem PJ (l:List AS) (i:Int):(∃v∈l,v.id=i)↔i∈l.map fun v=>v.id:=by simp
end Go.Abs
set_option maxRecDepth 100000
namespace Go.Abs
open Go.Proofs
theorem Q3 {s:AT} (h:Ea 1500 s):Bp s∧Dn s:=by
 obtain⟨h1,h2,h3,h4⟩:=h
 refine⟨⟨by omega,by omega,fun v hv=>by have:=h3 v hv;omega⟩,fun x hx=>?_⟩
 obtain⟨k1,k2,k3,k4⟩:=h4 x hx
 exact⟨⟨by omega,fun l hl=>by have:=k2 l hl;omega⟩,by omega,by omega⟩
end Go.Abs
namespace Go.Abs
open Go.Proofs
theorem c3:pg.cellsOf 3=1:=by kernel_rfl
theorem c4:pg.cellsOf 4=1:=by kernel_rfl
theorem c9:pg.cellsOf 9=1:=by kernel_rfl
theorem ab:pg.cellsOf 22=1:=by kernel_rfl
theorem ac:pg.cellsOf 23=1:=by kernel_rfl
theorem ae:pg.cellsOf 24=1:=by kernel_rfl
theorem ag:pg.cellsOf 25=1:=by kernel_rfl
theorem ah:pg.cellsOf 27=2:=by kernel_rfl
theorem U9:pg.cellsOf 28=1:=by kernel_rfl
theorem ai:pg.cellsOf 30=4:=by kernel_rfl
theorem aj:pg.cellsOf 35=1:=by kernel_rfl
theorem ak:pg.cellsOf 36=1:=by kernel_rfl
theorem WY:pg.cellsOf 40=2:=by kernel_rfl
theorem al:pg.cellsOf 49=1:=by kernel_rfl
theorem am:pg.cellsOf 51=2:=by kernel_rfl
theorem ar:pg.cellsOf 53=6:=by kernel_rfl
section
variable {H:Type} {enc:TypeId×Value→H} {w:World}
theorem FK:AY enc pg w 3 (fun n:Int=> [.int .i64 n]) fun _=>True:=AY.int Tryz.underlying3
theorem PK:AY enc pg w 4 (fun b:Bool=> [.bool b]) fun _=>True:=AY.bool Tryz.underlying4
theorem au:AY enc pg w 9 (fun s:ByteArray=> [.str s]) fun s=>s.size≤reachBytes:=AY.str Tryz.underlying9
theorem Va:AY enc pg w 40 Ch fun b=>b.data.size≤reachBytes:=
 AY.map (AY.struct Tryz.underlying40 (.cons au c9 rfl (.cons FK c3 rfl .nil)) (by kernel_rfl)) (fun x=>⟨x.1,x.2.1⟩) (fun _=>rfl) fun _ h=>h.1
theorem XM:AY enc pg w 42 AE fun v=>v.data.data.size≤reachBytes:=
 AY.map (AY.struct Tryz.underlying42 (.cons FK c3 rfl (.cons FK c3 rfl (.cons FK c3 rfl (.cons Va WY rfl (.cons FK c3 rfl (.cons PK c4 rfl (.cons PK c4 rfl .nil))))))) (by kernel_rfl)) (fun x=>⟨x.1,x.2.1,x.2.2.1,x.2.2.2.1,x.2.2.2.2.1,x.2.2.2.2.2.1,x.2.2.2.2.2.2.1⟩) (fun _=>rfl) fun _ h=>h.2.2.2.1
theorem PL (xs:List Int):Af (fun n:Int=> [AV.int .i64 n]) xs=Ac xs:=by
 induction xs with
 |nil=>rfl
 |cons x xs ih=>simp only[AD,ih];rfl
theorem Q4:AY enc pg w 28 (fun l:List Int=> [E7 false l]) fun l=>l.length≤reachBytes:=
 AY.map (AY.slice FK Tryz.underlying28 (Nat.le_of_ble_eq_true (by kernel_rfl))) id (fun l=>by rw[PL];rfl) fun _ h=>h.1
theorem OC (xs:List (List Int)):Af (fun l:List Int=> [E7 false l]) xs=Au false xs:=by
 induction xs with
 |nil=>rfl
 |cons x xs ih=>simp only[AD,ih];rfl
theorem XN:AY enc pg w 49 (fun l:List (List Int)=> [DM false l]) fun l=>l.length≤reachBytes∧∀x∈l,x.length≤reachBytes:=
 AY.map (AY.slice Q4 Tryz.underlying49 (Nat.le_of_ble_eq_true (by kernel_rfl))) id (fun l=>by rw[OC];rfl) fun _ h=>h
theorem Vb:AY enc pg w 51 (AX false) fun g=>g.out.length≤reachBytes∧∀x∈g.out,x.length≤reachBytes:=
 AY.map (AY.struct Tryz.underlying51 (.cons FK c3 rfl (.cons XN al rfl .nil)) (by kernel_rfl)) (fun x=>⟨x.1,x.2.1⟩) (fun _=>rfl) fun _ h=>h.2.1
theorem XO:AY enc pg w 53 (BA false) fun j=>j.list.length≤reachBytes∧j.out.length≤reachBytes:=
 AY.map (AY.struct Tryz.underlying53 (.cons FK c3 rfl (.cons FK c3 rfl (.cons FK c3 rfl (.cons PK c4 rfl (.cons Q4 U9 rfl (.cons Q4 U9 rfl .nil)))))) (by kernel_rfl)) (fun x=>⟨x.1,x.2.1,x.2.2.1,x.2.2.2.1,x.2.2.2.2.1,x.2.2.2.2.2.1⟩) (fun _=>rfl) fun _ h=>⟨h.2.2.2.2.1,h.2.2.2.2.2.1⟩
theorem XP:AY enc pg w 55 (Ay false) fun s=>(s.stage.out.length≤reachBytes∧∀x∈s.stage.out,x.length≤reachBytes)∧s.job.list.length≤reachBytes∧s.job.out.length≤reachBytes:=
 AY.map (AY.struct Tryz.underlying55 (.cons PK c4 rfl (.cons FK c3 rfl (.cons PK c4 rfl (.cons FK c3 rfl (.cons Vb am rfl (.cons XO ar rfl .nil)))))) (by kernel_rfl)) (fun x=>⟨x.1,x.2.1,x.2.2.1,x.2.2.2.1,x.2.2.2.2.1,x.2.2.2.2.2.1⟩) (fun _=>rfl) fun _ h=>⟨h.2.2.2.2.1,h.2.2.2.2.2.1⟩
theorem XQ:AY enc pg w 35 (fun l:List AS=> [IX false l]) fun l=>l.length≤reachBytes∧∀v∈l,v.data.data.size≤reachBytes:=
 AY.map (AY.slice XM Tryz.underlying35 (Nat.le_of_ble_eq_true (by kernel_rfl))) id (fun _=>rfl) fun _ h=>h
theorem XR:AY enc pg w 36 (fun l:List CD=> [Pd false l]) fun l=>l.length≤reachBytes∧∀s∈l,(s.stage.out.length≤reachBytes∧∀x∈s.stage.out,x.length≤reachBytes)∧s.job.list.length≤reachBytes∧s.job.out.length≤reachBytes:=
 AY.map (AY.slice XP Tryz.underlying36 (Nat.le_of_ble_eq_true (by kernel_rfl))) id (fun _=>rfl) fun _ h=>h
theorem BV {n:Nat} (h:n≤reachBytes):n<A0:=by
 have:=reachBytes_lt;simp only[A0];omega
theorem XS:AY enc pg w 38 (AJ false) Jr:=
 AY.map (AY.struct Tryz.underlying38 (.cons FK c3 rfl (.cons FK c3 rfl (.cons XQ aj rfl (.cons XR ak rfl .nil)))) (by kernel_rfl)) (fun x=>⟨x.1,x.2.1,x.2.2.1,x.2.2.2.1⟩) (fun _=>rfl) fun _ h=>
  ⟨BV h.2.2.1.1,BV h.2.2.2.1.1,fun v hv=>BV (h.2.2.1.2 v hv),fun x hx=>⟨⟨BV (h.2.2.2.1.2 x hx).1.1,fun l hl=>BV ((h.2.2.2.1.2 x hx).1.2 l hl)⟩,BV (h.2.2.2.1.2 x hx).2.1,BV (h.2.2.2.1.2 x hx).2.2⟩⟩
theorem XT:AY enc pg w 22 (fun l:List AT=> [.ro l.length (Af (AJ false) l)]) fun l=>l.length<A0∧∀s∈l,Jr s:=
 AY.map (AY.slice XS Tryz.underlying22 (Nat.le_of_ble_eq_true (by kernel_rfl))) id (fun _=>rfl) fun _ h=>⟨BV h.1,h.2⟩
theorem XU:AY enc pg w 60 Av fun o=>o.data.data.size<A0:=
 AY.map (AY.struct Tryz.underlying60 (.cons FK c3 rfl (.cons FK c3 rfl (.cons Va WY rfl .nil))) (by kernel_rfl)) (fun x=>⟨x.1,x.2.1,x.2.2.1⟩) (fun _=>rfl) fun _ h=>BV h.2.2.1
theorem XV:AY enc pg w 65 (fun l:List Obj=> [AV.ro l.length (Af Av l)]) fun l=>l.length<A0∧∀o∈l,o.data.data.size<A0:=
 AY.map (AY.slice XU Tryz.underlying65 (Nat.le_of_ble_eq_true (by kernel_rfl))) id (fun _=>rfl) fun _ h=>⟨BV h.1,h.2⟩
theorem OD (xs:List (List Obj)):Af (fun l:List Obj=> [AV.ro l.length (Af Av l)]) xs=DE xs:=by
 induction xs with
 |nil=>rfl
 |cons x xs ih=>simp only[AD,ih];rfl
theorem XW:AY enc pg w 23 (fun l:List (List Obj)=> [AV.ro l.length (DE l)]) fun l=>l.length<A0∧∀x∈l,x.length<A0∧∀o∈x,o.data.data.size<A0:=
 AY.map (AY.slice XV Tryz.underlying23 (Nat.le_of_ble_eq_true (by kernel_rfl))) id (fun l=>by rw[OD];rfl) fun _ h=>⟨BV h.1,h.2⟩
theorem XX:AY enc pg w 24 (fun l:List Gr=> [AV.ro l.length (Af (AX false) l)]) fun l=>l.length<A0∧∀g∈l,Ii g:=
 AY.map (AY.slice Vb Tryz.underlying24 (Nat.le_of_ble_eq_true (by kernel_rfl))) id (fun _=>rfl) fun _ h=>⟨BV h.1,fun g hg=>⟨BV (h.2 g hg).1,fun l hl=>BV ((h.2 g hg).2 l hl)⟩⟩
theorem XY:AY enc pg w 25 (fun n:Nat=> [AV.ro n []]) fun n=>n<A0:=
 AY.map (AY.len Tryz.underlying25 (Nat.le_of_ble_eq_true (by kernel_rfl))) id (fun _=>rfl) fun _ h=>BV h
theorem Wd:AY enc pg w 28 (fun n:Nat=> [AV.ro n []]) fun n=>n<A0:=
 AY.map (AY.len Tryz.underlying28 (Nat.le_of_ble_eq_true (by kernel_rfl))) id (fun _=>rfl) fun _ h=>BV h
theorem XZ:AY enc pg w 27 (fun x:List Gr×Nat=>Hm x.1 x.2) fun x=>(x.1.length<A0∧∀g∈x.1,Ii g)∧x.2<A0:=
 AY.map (AY.struct Tryz.underlying27 (.cons XX ae rfl (.cons XY ag rfl .nil)) (by kernel_rfl)) (fun x=>⟨x.1,x.2.1⟩) (fun _=>rfl) fun _ h=>⟨h.1,h.2.1⟩
theorem X0:AY enc pg w 30 (fun x:List (List Obj)×(List Gr×Nat)×Nat=>Hn x.1 x.2.1.1 x.2.1.2 x.2.2) fun x=>(x.1.length<A0∧∀l∈x.1,l.length<A0∧∀o∈l,o.data.data.size<A0)∧((x.2.1.1.length<A0∧∀g∈x.2.1.1,Ii g)∧x.2.1.2<A0)∧x.2.2<A0:=
 AY.map (AY.struct Tryz.underlying30 (.cons XW ac rfl (.cons XZ ah rfl (.cons Wd U9 rfl .nil))) (by kernel_rfl)) (fun x=>⟨x.1,x.2.1,x.2.2.1⟩) (fun _=>rfl) fun _ h=>⟨h.1,h.2.1,h.2.2.1⟩
theorem X1:AY enc pg w 32 (fun x:List AT×List (List Obj)×(List Gr×Nat)×Nat=>KC x.1 x.2.1 x.2.2.1.1 x.2.2.1.2 x.2.2.2) fun x=>(x.1.length<A0∧∀s∈x.1,Jr s)∧(x.2.1.length<A0∧∀l∈x.2.1,l.length<A0∧∀o∈l,o.data.data.size<A0)∧((x.2.2.1.1.length<A0∧∀g∈x.2.2.1.1,Ii g)∧x.2.2.1.2<A0)∧x.2.2.2<A0:=
 AY.map (AY.struct Tryz.underlying32 (.cons XT ab rfl (.cons X0 ai rfl .nil)) (by kernel_rfl)) (fun x=>⟨x.1,x.2.1⟩) (fun _=>rfl) fun _ h=>⟨h.1,h.2.1⟩
end
end Go.Abs
set_option maxRecDepth 100000
namespace Go.Abs
open Go.Proofs Go.ChangeShapes Go.WideShapes Go.ChangeAt Go.RowKit
theorem own0:ownKnob pg.godebug=none:=by kernel_rfl
theorem We:laidOutB pg=true:=by kernel_rfl
theorem Vc:mapsRowed pg=true:=by kernel_rfl
theorem Wf:Kids pg (·<pg.types.size):=kids_rows We Vc
theorem Wg:∀t e,t<pg.types.size→pg.underlying t=some (.slice e)→0<pg.cellsOf e:=slices_full_of pg (by kernel_rfl)
theorem Wh (w:World):BE w (Qu w) σ0 (fun _=>none) []:=⟨fun T B h=>by simp at h,fun _ _ _=>rfl⟩
theorem Ey.kept {w w' :World} {own' :Nat→Option Nat} (h:Ey w w' (fun _=>none) own'):w.keptBut w' (fun _=>False):=by
 have hb:∀i,i<w.heap.size→w'.heap[i]?=w.heap[i]?:=fun i hi=>h.block i hi rfl
 refine⟨h.os,h.output,fun i hi=>?_⟩
 rw[hb i hi]
 cases hw:w.heap[i]? with
 |none=>trivial
 |some o=>cases o<;>simp
section
variable {H:Type} {enc:TypeId×Value→H}
theorem HX {P:Program} {w w' :World} {base:Nat} {spare:Nat→Bool} {held:Bool}:∀{ts:List TypeId} {vs:List Value} {ds:List (DataW H)} {ps:List MemPlace},DataW.TrodAll enc P w base spare held ts vs ds ps→(∀p∈ps,w.sameAt w' p)→DataW.TrodAll enc P w' base spare held ts vs ds ps
 | [],[],[],_,h,_=>h
 |_::_,_::_,_::_,_,⟨p,q,⟨n,h1⟩,h2,e⟩,hs=>⟨p,q,⟨n,DataW.trod_carry n _ _ _ h1 fun x hx=>hs x (by rw[e];exact List.mem_append_left _ hx)⟩,HX h2 (fun x hx=>hs x (by rw[e];exact List.mem_append_right _ hx)),e⟩
theorem PM {f:Func} {s:ChangeSpec} {fresh handsOn again:Bool} {W W' :World} {args:Array Value} {v:Value} {ds gs:List (DataW H)} {before:List MemPlace} {own' :Nat→Option Nat}
 (hW:DataW.Whole enc pg f.params.toList s.vars false W args.toList ds gs before) (hT:∀t∈f.params.toList,t<pg.types.size) (hv:s.vars=[]) (hE:Ey W W' (fun _=>none) own') (hs:s.fn H (ds++gs)={results:=[.lit (.bool true)],args:=ds})
 (hr:f.resultTypes= #[4]) (he:v= .bool true):s.post enc pg f false fresh handsOn again W args v W' :=by
 have hold:∀p∈before,(fun b=>decide (b<W.heap.size)) p.block=true:=fun p hp=>by simpa using hW.lt p hp
 have hlt:=fun p hp=>hW.lt p hp
 have hW0:=hW
 obtain⟨p,q,hA,hV,rfl,hz,hn⟩:=hW
 rw[hv] at hV
 obtain⟨rfl,rfl⟩:=trodVars_none hV
 simp only[List.append_nil] at*
 have hargs:∀sp:Nat→Bool,(∀x∈p,sp x.block=true)→DataW.TrodAll enc pg W' 0 sp true f.params.toList args.toList ds p:=fun sp hsp=>by
  refine DataW.TrodAll.respare Wf Wg hT ?_ hsp
  refine HX hA fun x hx=>?_
  have hb:=hE.block _ (hlt x hx) rfl
  cases x with
  |cell b off=>exact World.cell?_of_block hb
  |map b=>exact hb
 have hres:∀(b:Nat) (sp:Nat→Bool) (hd:Bool),DataW.TrodAll enc pg W' b sp hd f.resultTypes.toList (v.resultList f.resultTypes.size) [.lit (.bool true)] []:=fun b sp hd=>by
  subst he;rw[hr]
  exact trodAll_mk1 (shut_bool Tryz.underlying4 true)
 have hvars:∀sp:Nat→Bool,DataW.TrodVars enc pg W' sp s.vars [] []:=fun sp=>by rw[hv];rfl
 refine⟨ds,[],p,[],p,[],by simpa using hW0,?_,?_,?_,World.keptBut_mono (fun x hx=>hx.elim) hE.kept,fun _=>?_⟩
 .simp only[List.append_nil,hs];exact hres _ _ _
 .simp only[List.append_nil,hs];exact hargs _ hold
 .simp only[List.append_nil,hs];exact hvars _
 .refine⟨ok_one (P:=pg) (f:=f) (t:=4) hr (by subst he;rfl) (by subst he;exact okWide_bool_mk Tryz.underlying4 true),?_⟩
  refine⟨[.lit (.bool true)]++ds,[],[]++p,⟨[]++p,[],?_,hvars _,by simp,fun b off hp=>?_,fun h=>by cases h⟩,fun x hx _=>by simpa using hx⟩
  .exact trodAll_append (hargs (fun _=>true) (fun _ _=>rfl)) (hres 0 (fun _=>true) true)
  .have hp' :MemPlace.cell b off∈p:=by simpa using hp
   have:=hz b off hp'
   rw[World.frozen?_of_block (w:=W) (hE.block _ (hlt _ hp') rfl)]
   exact this
theorem Mj {f:Nat} {fn:Func} {s:ChangeSpec} {fresh handsOn again:Bool} (hp:fn.params= #[32]) (hr:fn.resultTypes= #[4]) (hv:s.vars=[]) (hs:∀(H:Type) (d:DataW H),s.fn H [d]={results:=[.lit (.bool true)],args:=[d]})
 (hc:∀(S:List AT) (L:List (List Obj)) (G:List Gr) (na nn:Nat),S.length<A0→(∀s∈S,Jr s)→G.length<A0→(∀g∈G,Ii g)→na<A0→nn<A0→L.length<A0→(∀l∈L,l.length<A0∧∀o∈l,o.data.data.size<A0)→Aa pg f [.agg (KC S L G na nn)] [] fun r _=>r= .bool true)
 (W:World) (base:Nat) (args:Array Value) (ds gs:List (DataW H)) (before:List MemPlace) (hval:∀(j:Nat) t v,fn.params[j]?=some t→args[j]?=some v→Value.okWide pg W .any base t v)
 (hW:DataW.Whole enc pg fn.params.toList s.vars false W args.toList ds gs before) (hsz:(DataW.weightsEach pg (fn.params.toList++s.plain.varTypes pg) (ds++gs)).all (·≤reachBytes)=true):
 Calls pg f args W fun e W' =>∃v,e= .returned v∧s.post enc pg fn false fresh handsOn again W args v W' :=by
 have hW0:=hW
 obtain⟨p,q,hA,hV,rfl,hz,hn⟩:=hW
 rw[hv] at hV
 obtain⟨rfl,rfl⟩:=trodVars_none hV
 rw[hp] at hA hval hsz
 obtain⟨v0,d0,ha,rfl,fuel,h0⟩:=trodAll_one hA
 obtain rfl:args= #[v0]:=by cases args;simp_all
 have hok:=hval 0 32 v0 rfl rfl
 unfold Value.okWide at hok
 rw[Tryz.underlying32] at hok
 obtain⟨cs,rfl,_,_⟩:=hok
 obtain⟨⟨S,L,⟨G,na⟩,nn⟩,hvr,⟨g1,g2⟩,⟨g3,g4⟩,⟨⟨g5,g6⟩,g7⟩,g8⟩:=X1 fuel cs.toList _ h0 (fun n hn' =>by
  have:=List.all_eq_true.1 hsz n (DataW.weights_mem_each (j:=0) (t:=32) (d:=d0) rfl rfl n hn')
  simpa using this)
 refine((hc S L G na nn g1 g2 g5 g6 g7 g8 g3 g4).2 W (Qu W) σ0 (fun _=>none) #[.agg cs] (Ls ⟨cs,rfl,hvr⟩) (Wh W) (fun g hg=>⟨rfl,hg⟩)).mono ?_
 rintro e W' ⟨r,v,M',σ',own',fpr,rfl,rfl,_,hvv,_,_,_,hE,_⟩
 have hvt:v= .bool true:=hvv.1
 exact⟨v,rfl,PM hW0 (by rw[hp];intro t ht;simp at ht;subst ht;exact of_decide_eq_true (by kernel_rfl)) hv hE (by simpa using hs H d0) hr hvt⟩
end
end Go.Abs
set_option maxRecDepth 100000
namespace Go.Abs
open Go.Proofs
def BO:List Bool→Int→Int→List (Int×Int)
 | [],i,a=>if a<i then [(a,i-a)] else []
 |false::t,i,a=>BO t (i+1) a
 |true::t,i,a=>(if a<i then [(a,i-a)] else [])++BO t (i+1) (i+1)
theorem Gq:∀(t:List Bool) (i a:Int),(BO t i a).length≤t.length+1
 | [],i,a=>by unfold BO;split<;>simp
 |false::t,i,a=>by have:=Gq t (i+1) a;unfold BO;simp;omega
 |true::t,i,a=>by
  have:=Gq t (i+1) (i+1)
  unfold BO
  split<;>simp<;>omega
theorem PN {t:List Bool} {i:Nat} (h:i<t.length) (b:t[i]=true) (a:Int):BO (t.drop i) i a=(if a<i then [(a,(i:Int)-a)] else [])++BO (t.drop (i+1)) ((i:Int)+1) ((i:Int)+1):=by
 rw[List.drop_eq_getElem_cons h,b,BO]
theorem OE {t:List Bool} {i:Nat} (h:i<t.length) (b:t[i]=false) (a:Int):BO (t.drop i) i a=BO (t.drop (i+1)) ((i:Int)+1) a:=by
 rw[List.drop_eq_getElem_cons h,b,BO]
theorem Ij {t:List Bool} {i:Nat} (h:t.length≤i) (i' a:Int):BO (t.drop i) i' a=if a<i' then [(a,i' -a)] else []:=by
 rw[List.drop_eq_nil_of_le h,BO]
theorem Vd (t:List Bool) (ht:t.length<1000000000):Aa pg 122 [.ro t.length (AA t)] [] (fun r _=>r= .own 2 (BO t 0 0).length (Af At (BO t 0 0))):=by
 refine Aa.start (fn:=Tryz.f122) [.tmp 2] tk rfl rfl rfl (by kernel_rfl) (Nat.le_of_ble_eq_true rfl) rfl (by kernel_rfl) ?_
 rw[As]
 refine zs ?_
 refine zs ?_
 obtain⟨g,hg⟩:∃g,g=BO t 0 0:=⟨_,rfl⟩
 have hgl:g.length≤t.length+1:=by rw[hg];exact Gq ..
 rw[←hg]
 (repeat refine W.seq ?_);refine W.block (W.loopS (fun x:Nat×Nat=> [(0,.ro t.length (AA t)),(2,.tok 0 x.2 2 0 x.2),(3,.int .i64 x.1)]) (fun x=> [.live x.2 (Af At (g.take x.2))]) (fun x=>t.length+1-x.1) (fun x=>x.1≤t.length+1∧x.2≤x.1∧x.2≤g.length∧g.drop x.2=BO (t.drop x.1) x.1 x.1) (0,0) ((Wk.nil (t:=2) (s:=2) (by simp)).trans (Wk.fr (by simp[Ad]))) ⟨by omega,by omega,by omega,by simp[hg]⟩ ?_)
 rintro⟨i,k⟩ ⟨hi,hki,hkg,hk⟩
 simp only at hi hki hkg hk ⊢
 by_cases c1:i<t.length
 rotate_left
 .refine Ag c1 ?_;intro K hK
  refine zk ?_;clear hK K
  refine zn ?_
  refine W.exit ?_
  have:k=g.length:=by
   rw[Ij (by omega),if_neg (by omega)] at hk
   have:=congrArg List.length hk
   simp at this;omega
  subst this
  rw[List.take_length]
  refine zs ?_
  exact zR
 refine Ag c1 ?_;intro K hK
 refine zk ?_;clear hK K
 refine zt ?_
 refine W.skip ?_
 refine zb ?_
 refine zs ?_
 (repeat refine W.seq ?_);refine W.block (W.loopS (fun j:Nat=> [(0,.ro t.length (AA t)),(2,.tok 0 k 2 0 k),(3,.int .i64 j),(4,.int .i64 i)]) (fun _=> [.live k (Af At (g.take k))]) (fun j=>t.length-j) (fun j=>i≤j∧j≤t.length∧g.drop k=BO (t.drop j) j i) i (Wk.fr (by simp[Ad])) ⟨by omega,by omega,hk⟩ ?_)
 rintro j ⟨hij,hjl,hj⟩
 by_cases c2:∃h:j<t.length,t[j]=false
 .obtain⟨c2,c3⟩:=c2
  refine Ag (an c2 c3) ?_;intro K hK
  refine zk ?_;clear hK K
  refine zt ?_
  refine W.skip ?_
  refine zb ?_
  refine zs ?_
  exact⟨j+1,by omega,⟨by omega,by omega,by rw[hj,OE c2 c3];simp⟩,Wk.fr (by simp[Ad])⟩
 have hrest:∃l,g.drop k=(if i<j then [((i:Int),(j:Int)-i)] else [])++l∧l=BO (t.drop (j+1)) ((j:Int)+1) ((j:Int)+1):=by
  refine⟨_,?_,rfl⟩
  rw[hj]
  by_cases c3:j<t.length
  .have c4:t[j]=true:=by
    cases e:t[j]
    .exact absurd ⟨c3,e⟩ c2
    .rfl
   rw[PN c3 c4]
   by_cases e:i<j<;>simp[e]
  .rw[Ij (by omega),Ij (by omega),if_neg (show¬((j:Int)+1<(j:Int)+1) by omega),List.append_nil]
   by_cases e:i<j<;>simp[e]
 obtain⟨l,hl,hle⟩:=hrest
 (repeat refine W.seq ?_);refine W.midS (fun _:Unit=> [(0,.ro t.length (AA t)),(2,.tok 0 k 2 0 k),(3,.int .i64 j),(4,.int .i64 i),(22,.bool false)]) (fun _=> [.live k (Af At (g.take k))]) (fun _=>True) ?_ ?_
 .by_cases c3:j<t.length
  .have c4:t[j]=true:=by
    cases e:t[j]
    .exact absurd ⟨c3,e⟩ c2
    .rfl
   refine Ag (an c3 c4) ?_;intro K hK
   refine zk ?_;clear hK K
   exact⟨(),trivial,Wk.fr (by simp[Ad])⟩
  .refine Ag c3 ?_;intro K hK
   refine zk ?_;clear hK K
   exact⟨(),trivial,Wk.fr (by simp[Ad])⟩
 rintro _ _
 refine zn ?_
 refine W.exit ?_
 by_cases c5:i<j
 .have c5' :(i:Int)<(j:Int):=by omega
  rw[if_pos c5] at hl
  have hkl:k<g.length:=by
   have:=congrArg List.length hl
   simp at this;omega
  have hgk:g[k]=((i:Int),(j:Int)-i):=by
   have:=List.drop_eq_getElem_cons hkl
   rw[hl] at this
   simpa using (List.cons.inj this).1.symm
  have hdl:g.drop (k+1)=l:=by
   have:=List.drop_eq_getElem_cons hkl
   rw[hl] at this
   simpa using (List.cons.inj this).2.symm
  have hto:g.take (k+1)=g.take k++[((i:Int),(j:Int)-i)]:=by
   rw[List.take_add_one];simp[hkl,hgk]
  refine Ag c5' ?_;intro K hK
  refine zk ?_;clear hK K
  refine zt ?_
  refine MU hkl ?_;intro K hK
  refine⟨by omega,by omega,?_⟩
  refine zk ?_;clear hK K
  refine zs ?_
  refine⟨(j+1,k+1),by simp only;omega,⟨by simp only;omega,by simp only;omega,by simp only;omega,by simp only;rw[hdl,hle];simp⟩,Wk.cutM (k:=1) (by simp[Ad]) ?_ (by simp) (by simp) (by simp) (by simp)⟩
  rw[hto]
  simp[Co,AD,At]
 .have c5' :¬(i:Int)<(j:Int):=by omega
  rw[if_neg c5,List.nil_append] at hl
  refine Ag c5' ?_;intro K hK
  refine zk ?_;clear hK K
  refine zn ?_
  refine W.skip ?_
  refine zs ?_
  refine⟨(j+1,k),by simp only;omega,⟨by simp only;omega,by simp only;omega,hkg,by simp only;rw[hl,hle];simp⟩,Wk.fr (by simp[Ad])⟩
def Do (l:List (Int×Int)) (blocks n:Int):Int×Int:=
 if CL l blocks∧(1≤n∧n≤100) then match (BO (B3 l blocks.toNat) 0 0).find? fun x=>decide (n≤x.2) with
  |some x=>(x.1,0)
  |none=>(0,5)
 else(0,1)
theorem Q5 {α:Type} {p:α→Bool} {g:List α} {k:Nat} (hk:k<g.length) (h:∀x∈g.take k,p x=false) (hp:p g[k]=true):g.find? p=some g[k]:=by
 have e:g=g.take k++g[k]::g.drop (k+1):=by rw[←List.drop_eq_getElem_cons hk,List.take_append_drop]
 have e2:(g.take k++g[k]::g.drop (k+1)).find? p=some g[k]:=by
  rw[List.find?_append,List.find?_eq_none.2 (by intro x hx;simpa using h x hx)]
  simp only[Option.none_or,List.find?_cons,hp]
 exact(congrArg (List.find? p) e).trans e2
theorem PO {α:Type} {p:α→Bool} {g:List α} {k:Nat} (hk:k<g.length) (h:∀x∈g.take k,p x=false) (hp:p g[k]=false):∀x∈g.take (k+1),p x=false:=by
 intro x hx
 rw[List.take_succ_eq_append_getElem hk,List.mem_append] at hx
 rcases hx with hx|hx
 .exact h x hx
 .simp at hx;subst hx;exact hp
theorem Ve (l:List (Int×Int)) (blocks n:Int) (hl:l.length<1000000000):Aa pg 119 [.ro l.length (Af At l),.int .i64 blocks,.int .i64 n] [] (fun r _=>r= .tup [.int .i64 (Do l blocks n).1,.int .i64 (Do l blocks n).2]):=by
 have sp:=Oo l blocks hl
 refine Aa.start (fn:=Tryz.f119) [.tmp 6,.tmp 7] tk rfl rfl rfl (by kernel_rfl) (Nat.le_of_ble_eq_true rfl) rfl (by kernel_rfl) ?_
 rw[Bg]
 refine zs ?_
 by_cases c1:CL l blocks
 rotate_left
 .rw[Gk,if_neg c1] at sp
  refine z0 ?_;intro K hK
  refine Ab.eq sp (by simp) (by simp) ?_
  refine zx ?_
  refine zk ?_;clear hK K
  refine zs ?_
  refine zt ?_
  refine zs ?_
  refine zr ?_
  simp[Do,c1]
 rw[Gk,if_pos c1] at sp
 have hn:blocks.toNat≤100:=by have:=c1.2.1;omega
 refine z0 ?_;intro K hK
 refine Ab.eq sp (by simp) (by simp) ?_
 refine zx ?_
 refine zk ?_;clear hK K
 refine z0 ?_;intro K hK
 refine Ab.eq (Nk n) (by simp) (by simp) ?_
 by_cases c2:1≤n∧n≤100
 rotate_left
 .rw[decide_eq_false c2]
  refine zx ?_
  refine zk ?_;clear hK K
  refine zt ?_
  refine zs ?_
  refine zr ?_
  simp[Do,c2]
 rw[decide_eq_true c2]
 refine zx ?_
 refine zk ?_;clear hK K
 refine zn ?_
 refine W.skip ?_
 have spg:=Vd (B3 l blocks.toNat) (by simp;omega)
 rw[Po] at spg
 obtain⟨g,hg⟩:∃g,g=BO (B3 l blocks.toNat) 0 0:=⟨_,rfl⟩
 have hgl:g.length≤blocks.toNat+1:=by have:=Gq (B3 l blocks.toNat) 0 0;rw[hg];simpa using this
 have hfs:Do l blocks n=match g.find? fun x=>decide (n≤x.2) with|some x=>(x.1,0) |none=>(0,5):=by
  unfold Do;rw[if_pos ⟨c1,c2⟩,hg]
 rw[←hg] at spg
 refine z0 ?_;intro K hK
 refine Ab.eq spg (by simp) (by simp) ?_
 refine zx ?_
 refine zk ?_;clear hK K
 (repeat refine W.seq ?_);refine W.block (W.loopS (fun k:Nat=> [(2,.int .i64 n),(26,.tok 1 0 2 0 g.length),(27,.int .i64 g.length),(28,.int .i64 k)]) (fun _=> [.live 0 (AA (B3 l blocks.toNat)),.live 0 (Af At g)]) (fun k=>g.length-k) (fun k=>k≤g.length∧∀x∈g.take k,decide (n≤x.2)=false) 0 (Wk.fr (by simp[Ad])) ⟨by omega,by simp⟩ ?_)
 rintro k ⟨hk,hm⟩
 by_cases c3:k<g.length
 rotate_left
 .have c3' :¬(k:Int)<(g.length:Int):=by omega
  refine Ag c3' ?_;intro K hK
  refine zk ?_;clear hK K
  refine zn ?_
  refine W.exit ?_
  rw[List.take_of_length_le (by omega)] at hm
  rw[List.find?_eq_none.2 (by intro x hx;simpa using hm x hx)] at hfs
  refine zs ?_
  refine zr ?_
  simp[hfs]
 have c3' :(k:Int)<(g.length:Int):=by omega
 refine Ag c3' ?_;intro K hK
 refine zk ?_;clear hK K
 refine zt ?_
 refine W.skip ?_
 refine zb ?_
 have k0:(Af At g)[k*2]?=some (.int .i64 g[k].1):=Bt (f:=At) (s:=2) (fun _=>rfl) c3 (i:=0) (by omega)
 have k1:(Af At g)[k*2+1]?=some (.int .i64 g[k].2):=Bt (f:=At) (s:=2) (fun _=>rfl) c3 (i:=1) (by omega)
 refine MU (an c3 (an k0 k1)) ?_;intro K hK
 refine zk ?_;clear hK K
 by_cases c4:n≤g[k].2
 .rw[Q5 (p:=fun x=>decide (n≤x.2)) c3 hm (by simpa using c4)] at hfs
  refine Ag c4 ?_;intro K hK
  refine zk ?_;clear hK K
  refine zt ?_
  refine z0 ?_;intro K hK
  refine zk ?_;clear hK K
  refine zr ?_
  simp[hfs]
 .refine Ag c4 ?_;intro K hK
  refine zk ?_;clear hK K
  refine zn ?_
  refine W.skip ?_
  refine zs ?_
  refine⟨k+1,by omega,⟨by omega,PO c3 hm (by simpa using c4)⟩,Wk.cutM (k:=2) (by simp[Ad]) (by simp) (by simp) (by simp) (by simp) (by simp)⟩
def aZ (l:List (Int×Int)) (blocks:Int):Int×Int:=
 if CL l blocks then(((BO (B3 l blocks.toNat) 0 0).map fun x=>x.2).sum,0) else(0,1)
end Go.Abs
set_option maxRecDepth 100000
namespace Go.Abs
open Go.Proofs
theorem Q6 (xs:List AS) (hx:xs.length<1000000000):Aa pg 134 [.ro xs.length (Af AE xs)] [] (fun r _=>r= .own 8 xs.length (Af AE xs)):=by
 refine Aa.start (fn:=Tryz.f134) [.tmp 2] tk rfl rfl rfl (by kernel_rfl) (Nat.le_of_ble_eq_true rfl) rfl (by kernel_rfl) ?_
 rw[As]
 refine zs ?_
 refine z0 ?_;intro K hK
 refine⟨fun h=>?_,fun h=>⟨?_,?_⟩⟩
 .refine zk ?_;clear hK K
  refine zn ?_
  refine W.skip ?_
  refine z1 ?_;intro K hK
  refine⟨by omega,by omega,?_⟩
  refine zk ?_;clear hK K
  exact zR
 .refine zk ?_;clear hK K
  refine zn ?_
  refine W.skip ?_
  subst h
  refine z1 ?_;intro K hK;refine zk ?_;clear hK K
  exact zR
 .refine zk ?_;clear hK K
  refine zt ?_
  refine zs ?_
  refine zr ?_
  simp[h]
theorem Q7 (xs:List CD) (hx:xs.length<1000000000):Aa pg 135 [.ro xs.length (Af (Ay false) xs)] [] (fun r _=>r= .own 12 xs.length (Af (Ay false) xs)):=by
 refine Aa.start (fn:=Tryz.f135) [.tmp 2] tk rfl rfl rfl (by kernel_rfl) (Nat.le_of_ble_eq_true rfl) rfl (by kernel_rfl) ?_
 rw[As]
 refine zs ?_
 refine z0 ?_;intro K hK
 refine⟨fun h=>?_,fun h=>⟨?_,?_⟩⟩
 .refine zk ?_;clear hK K
  refine zn ?_
  refine W.skip ?_
  refine z1 ?_;intro K hK
  refine⟨by omega,by omega,?_⟩
  refine zk ?_;clear hK K
  exact zR
 .refine zk ?_;clear hK K
  refine zn ?_
  refine W.skip ?_
  subst h
  refine z1 ?_;intro K hK;refine zk ?_;clear hK K
  exact zR
 .refine zk ?_;clear hK K
  refine zt ?_
  refine zs ?_
  refine zr ?_
  simp[h]
theorem Q8 (xs:List (List Int)) (hx:xs.length<1000000000):Aa pg 169 [.ro xs.length (Au false xs)] [] (fun r _=>r= .own 1 xs.length (Au false xs)):=by
 refine Aa.start (fn:=Tryz.f169) [.tmp 2] tk rfl rfl rfl (by kernel_rfl) (Nat.le_of_ble_eq_true rfl) rfl (by kernel_rfl) ?_
 rw[As]
 refine zs ?_
 refine z0 ?_;intro K hK
 refine⟨fun h=>?_,fun h=>⟨?_,?_⟩⟩
 .refine zk ?_;clear hK K
  refine zn ?_
  refine W.skip ?_
  refine z1 ?_;intro K hK
  refine⟨by omega,by omega,?_⟩
  refine zk ?_;clear hK K
  exact zR
 .refine zk ?_;clear hK K
  refine zn ?_
  refine W.skip ?_
  subst h
  refine z1 ?_;intro K hK;refine zk ?_;clear hK K
  exact zR
 .refine zk ?_;clear hK K
  refine zt ?_
  refine zs ?_
  refine zr ?_
  simp[h]
def FL (k:Nat) (xs:List (List Int)):List AV:=Au true (xs.take k)++Au false (xs.drop k)
theorem Tc (k:Nat) (xs:List (List Int)):(FL k xs).length=xs.length:=by simp[FL];omega
theorem I7 (m:Bool) {k:Nat} {xs:List (List Int)} (h:k≤xs.length):(Au m (xs.take k)).length=k:=by simp[Au];omega
theorem Td {k:Nat} {xs:List (List Int)} (h:k<xs.length):(FL k xs)[k]?=some (.ro xs[k].length (Ac xs[k])):=by
 have hl:=I7 true (Nat.le_of_lt h)
 unfold FL
 rw[List.getElem?_append_right (by omega),hl,Nat.sub_self,List.drop_eq_getElem_cons h]
 rfl
theorem Te {k:Nat} {xs:List (List Int)} (h:k<xs.length):(FL k xs).set k (.own 1 xs[k].length (Ac xs[k]))=FL (k+1) xs:=by
 have hl:=I7 true (Nat.le_of_lt h)
 have e:Au true (xs.take (k+1))=Au true (xs.take k)++[.own 1 xs[k].length (Ac xs[k])]:=by
  rw[List.take_succ_eq_append_getElem h];simp only[Au,List.map_append];rfl
 unfold FL
 rw[List.set_append_right _ _ (by omega),hl,Nat.sub_self,List.drop_eq_getElem_cons h,e,List.append_assoc]
 rfl
theorem Ik (k n:Nat) (xs:List (List Int)):Db n (FL k xs)=true:=by simp[FL]
theorem Wi (xs:List (List Int)):Au false xs=FL 0 xs:=by simp[FL]
theorem Tf {k:Nat} {xs:List (List Int)} (h:xs.length≤k):FL k xs=Au true xs:=by
 unfold FL
 rw[List.take_of_length_le h,List.drop_eq_nil_of_le h];simp
theorem Vf (g:Gr) (hg:Ex g):Aa pg 136 [.agg (AX false g)] [] (fun r _=>r= .agg (AX true g)):=by
 have h1:=hg.1
 refine Aa.start (fn:=Tryz.f136) [.cell 2 51] tk rfl rfl rfl (by kernel_rfl) (Nat.le_of_ble_eq_true rfl) rfl (by kernel_rfl) ?_
 rw[As]
 refine z2 ?_;intro K hK;refine zk ?_;clear hK K
 refine z0 ?_;intro K hK
 refine Ab.eqr (Q8 g.out (by omega)) (by simp) ?_
 refine zx ?_
 refine zk ?_;clear hK K
 refine z0 ?_;intro K hK
 refine zk ?_;clear hK K
 rw[Wi g.out]
 (repeat refine W.seq ?_);refine W.block (W.loopS (fun k:Nat=> [(1,.ptr 0 0 0),(2,.ptr 1 0 0),(10,.int .i64 g.out.length),(11,.int .i64 k)]) (fun k=> [.live 0 [.int .i64 g.n,.tok 2 0 1 0 g.out.length],.live 0 [.int .i64 0,.own 1 0 []],.live 0 (FL k g.out)]) (fun k=>g.out.length-k) (fun k=>k≤g.out.length) 0 (Wk.fr (by simp[Ad])) (by simp) ?_)
 intro k hk
 by_cases c1:k<g.out.length
 rotate_left
 .have c1' :¬(k:Int)<(g.out.length:Int):=by omega
  refine Ag c1' ?_;intro K hK
  refine zk ?_;clear hK K
  refine zn ?_
  refine W.exit ?_
  rw[Tf (by omega)]
  refine z0 ?_;intro K hK
  refine zk ?_;clear hK K
  exact zR
 have c1' :(k:Int)<(g.out.length:Int):=by omega
 refine Ag c1' ?_;intro K hK
 refine zk ?_;clear hK K
 refine zt ?_
 refine W.skip ?_
 refine zb ?_
 refine zs ?_
 have hg0:=Td c1
 have hml:=Tc k g.out
 have hg1:(FL k g.out)[k]'(by omega)= .ro g.out[k].length (Ac g.out[k]):=by
  rw[List.getElem?_eq_getElem (by omega)] at hg0;simpa using hg0
 refine Bj (an c1 (an hg1 hml)) ?_;intro K hK
 refine Ah.eqr (FY g.out[k] (by have:=hg.2 _ (List.getElem_mem c1);omega)) (by simp) ?_
 refine AI (an c1 hml) ?_
 refine zk ?_;clear hK K
 have hnm:=Ik k 3 g.out
 refine zs ?_
 refine⟨k+1,by omega,by omega,(Wk.intern (B:=2) (v:=0) (j:=k) (T:=3) (u:=0) (s:=1) (off:=0) (n:=g.out[k].length) (cs:=(FL k g.out).set k (AV.tok 3 0 1 0 g.out[k].length)) (xs:=Ac g.out[k]) (by simp) (by rw[List.getElem?_set_self (by omega)]) (by simp) (by simp) (by simp) (by simp)).trans (Wk.cutM (k:=3) (by simp[Ad]) ?_ (by simp[Ik]) (by simp[Ik]) (by simp[Ik]) (by simp[Ik]))⟩
 rw[←Te c1]
 simp
end Go.Abs
set_option maxRecDepth 100000
namespace Go.Abs
open Go.Proofs
theorem Vg (j:BW) (h:j.list.length<1000000000∧j.out.length<1000000000):Aa pg 137 [.agg (BA false j)] [] (fun r _=>r= .agg (BA true j)):=by
 obtain⟨h1,h2⟩:=h
 refine Aa.start (fn:=Tryz.f137) [.cell 2 53] tk rfl rfl rfl (by kernel_rfl) (Nat.le_of_ble_eq_true rfl) rfl (by kernel_rfl) ?_
 rw[As]
 refine z2 ?_;intro K hK;refine zk ?_;clear hK K
 refine B4 ?_;intro K hK
 refine Ah.eqr (FY j.list (by omega)) (by simp) ?_
 refine zx ?_
 refine Ah.eqr (FY j.out (by omega)) (by simp) ?_
 refine zx ?_
 refine zk ?_;clear hK K
 refine z0 ?_;intro K hK
 refine zk ?_;clear hK K
 exact zR
def Ff (k:Nat) (xs:List CD):List AV:=Af (Ay true) (xs.take k)++Af (Ay false) (xs.drop k)
theorem Mk (k:Nat) (xs:List CD):(Ff k xs).length=xs.length*12:=by
 unfold Ff;rw[List.length_append,MT,MT,←Nat.add_mul,List.length_take,List.length_drop];congr 1;omega
theorem ER {k i:Nat} {xs:List CD} (h:k<xs.length) (hi:i<12):(Ff k xs)[k*12+i]?=(Ay false xs[k])[i]?:=by
 have hl:(Af (Ay true) (xs.take k)).length=k*12:=by simp;omega
 unfold Ff
 rw[List.getElem?_append_right (by omega),hl,Nat.add_sub_cancel_left,List.drop_eq_getElem_cons h,AD,List.getElem?_append_left (by simpa[Ay] using hi)]
theorem DH {A X B:List AV} {a j:Nat} {v:AV} (hA:A.length=a) (hj:j<X.length):(A++(X++B)).set (a+j) v=A++(X.set j v++B):=by
 rw[List.set_append_right _ _ (by omega),hA,Nat.add_sub_cancel_left,List.set_append_left _ _ hj]
theorem KD {A X B:List AV} {a j:Nat} (hA:A.length=a) (hj:j<X.length):(A++(X++B))[a+j]?=X[j]?:=by
 rw[List.getElem?_append_right (by omega),hA,Nat.add_sub_cancel_left,List.getElem?_append_left hj]
theorem Tg {k:Nat} {xs:List CD} (h:k<xs.length):Ff k xs=Af (Ay true) (xs.take k)++(Ay false xs[k]++Af (Ay false) (xs.drop (k+1))):=by
 unfold Ff;rw[List.drop_eq_getElem_cons h,AD]
theorem PP {k:Nat} {xs:List CD} (h:k<xs.length):Ff (k+1) xs=Af (Ay true) (xs.take k)++(Ay true xs[k]++Af (Ay false) (xs.drop (k+1))):=by
 unfold Ff;rw[List.take_succ_eq_append_getElem h,Co,AD];simp[Af]
theorem Vh (xs:List CD):Af (Ay false) xs=Ff 0 xs:=by simp[Ff,Af]
theorem Q9 {k:Nat} {xs:List CD} (h:xs.length≤k):Ff k xs=Af (Ay true) xs:=by
 unfold Ff
 rw[List.take_of_length_le h,List.drop_eq_nil_of_le h];simp[Af]
theorem Vi (s:AT) (hs:Bp s) (hx:Dn s):Aa pg 95 [.agg (AJ false s)] [] (fun r _=>r= .agg (AJ true s)):=by
 have h1:=hs.1
 have h2:=hs.2.1
 refine Aa.start (fn:=Tryz.f95) [.cell 2 38] tk rfl rfl rfl (by kernel_rfl) (Nat.le_of_ble_eq_true rfl) rfl (by kernel_rfl) ?_
 rw[As]
 refine z2 ?_;intro K hK;refine zk ?_;clear hK K
 refine B4 ?_;intro K hK
 refine Ah.eqr (Q6 s.vers (by omega)) (by simp) ?_
 refine zx ?_
 refine Ah.eqr (Q7 s.sess (by omega)) (by simp) ?_
 refine zx ?_
 refine zk ?_;clear hK K
 refine z0 ?_;intro K hK
 refine zk ?_;clear hK K
 rw[Vh s.sess]
 (repeat refine W.seq ?_);refine W.block (W.loopS (fun k:Nat=> [(1,.ptr 0 0 0),(2,.ptr 1 0 0),(15,.int .i64 s.sess.length),(16,.int .i64 k)]) (fun k=> [.live 0 [.int .i64 s.keep,.int .i64 s.blocks,.tok 2 0 8 0 s.vers.length,.tok 3 0 12 0 s.sess.length],.live 0 [.int .i64 0,.int .i64 0,.own 8 0 [],.own 12 0 []],.live 0 (Af AE s.vers),.live 0 (Ff k s.sess)]) (fun k=>s.sess.length-k) (fun k=>k≤s.sess.length) 0 (Wk.fr (by simp[Ad])) (by simp) ?_)
 intro k hk
 by_cases c1:k<s.sess.length
 rotate_left
 .have c1' :¬(k:Int)<(s.sess.length:Int):=by omega
  refine Ag c1' ?_;intro K hK
  refine zk ?_;clear hK K
  refine zn ?_
  refine W.exit ?_
  rw[Q9 (by omega)]
  refine z0 ?_;intro K hK
  refine zk ?_;clear hK K
  exact zR
 have c1' :(k:Int)<(s.sess.length:Int):=by omega
 refine Ag c1' ?_;intro K hK
 refine zk ?_;clear hK K
 refine zt ?_
 refine W.skip ?_
 refine zb ?_
 refine zs ?_
 refine Ag c1 ?_;intro K hK
 refine zk ?_;clear hK K
 obtain⟨hsg,hsj⟩:=hx _ (List.getElem_mem c1)
 have m4:=ER c1 (i:=4) (by omega)
 have m5:=ER c1 (i:=5) (by omega)
 have m6:=ER c1 (i:=6) (by omega)
 have m7:=ER c1 (i:=7) (by omega)
 have m8:=ER c1 (i:=8) (by omega)
 have m9:=ER c1 (i:=9) (by omega)
 have m10:=ER c1 (i:=10) (by omega)
 have m11:=ER c1 (i:=11) (by omega)
 simp only[Ay,List.getElem?_cons_succ,List.getElem?_cons_zero] at m4 m5 m6 m7 m8 m9 m10 m11
 refine Bj (an c1 (an m4 (an m5 (an m6 (an m7 (an m8 (an m9 (an m10 m11)))))))) ?_;intro K hK
 refine Ah.eqr (Vf s.sess[k].stage hsg) (by simp) ?_
 refine AI (an m6 (an m7 (an m8 (an m9 (an m10 m11))))) ?_
 refine Ah.eqr (Vg s.sess[k].job hsj) (by simp) ?_
 refine zx ?_
 refine⟨by rw[Mk];omega,by rw[Mk];omega,?_⟩
 refine zk ?_;clear hK K
 refine zs ?_
 refine⟨k+1,by omega,by omega,?_⟩
 have hA:(Af (Ay true) (s.sess.take k)).length=k*12:=by simp;omega
 have hAn:∀n,Db n (Af (Ay true) (s.sess.take k))=true:=fun n=>by simp
 have hBn:∀n,Db n (Af (Ay false) (s.sess.drop (k+1)))=true:=fun n=>by simp
 rw[Tg c1,PP c1]
 generalize Af (Ay true) (s.sess.take k)=A at*
 generalize Af (Ay false) (s.sess.drop (k+1))=B at*
 generalize s.sess[k]=x at*
 simp only[Nat.add_assoc,Nat.reduceAdd]
 rw[DH hA (by simp[Ay]),DH hA (by simp[Ay]),DH hA (by simp[Ay]),DH hA (by simp[Ay]),DH hA (by simp[Ay]),DH hA (by simp[Ay]),DH hA (by simp[Ay]),DH hA (by simp[Ay])]
 simp only[Ay,List.set_cons_succ,List.set_cons_zero]
 refine Wk.trans (Wk.fr (S:=[(1,.ptr 0 0 0),(2,.ptr 1 0 0),(15,.int .i64 s.sess.length),(16,.int .i64 ((k+1:Nat):Int))]) (by simp[Ad])) ?_
 refine Wk.trans (Wk.intern (B:=3) (v:=0) (j:=k*12+5) (T:=4) (u:=0) (s:=1) (off:=0) (n:=x.stage.out.length) (xs:=Au true x.stage.out) rfl (by rw[KD hA (by simp)];rfl) rfl (by decide) (by simp) (by simp)) ?_
 rw[DH hA (by simp)]
 simp only[List.set_cons_succ,List.set_cons_zero]
 refine Wk.trans (Wk.intern (B:=3) (v:=0) (j:=k*12+10) (T:=5) (u:=0) (s:=1) (off:=0) (n:=x.job.list.length) (xs:=Ac x.job.list) rfl (by rw[KD hA (by simp)];rfl) rfl (by decide) (by simp) (by simp)) ?_
 rw[DH hA (by simp)]
 simp only[List.set_cons_succ,List.set_cons_zero]
 refine Wk.trans (Wk.intern (B:=3) (v:=0) (j:=k*12+11) (T:=6) (u:=0) (s:=1) (off:=0) (n:=x.job.out.length) (xs:=Ac x.job.out) rfl (by rw[KD hA (by simp)];rfl) rfl (by decide) (by simp) (by simp)) ?_
 rw[DH hA (by simp)]
 simp only[List.set_cons_succ,List.set_cons_zero]
 exact Wk.cutM (k:=4) (by simp[Ad]) (by simp[DM,E7]) (by simp[hAn,hBn]) (by simp[hAn,hBn]) (by simp[hAn,hBn]) (by simp[hAn,hBn])
end Go.Abs
set_option maxRecDepth 100000
namespace Go.Abs
open Go.Proofs
def CI:AT:=⟨0,0,[],[]⟩
def GQ (id parent:Int):AS:=⟨id,parent,0,⟨ByteArray.empty,0⟩,0,false,false⟩
def FJ (l:List AS) (i:Nat) (o:Obj):List AS:=match l[i]? with|some v=>l.set i {v with base:=o.base,data:=o.data} |none=>l
def K7 (l:List AS) (i:Nat) (a:Int):List AS:=match l[i]? with|some v=>l.set i {v with at_:=a} |none=>l
def Gs (s:AT) (o:Obj) (parent:Int):Option (List AS×Nat):=
 if BN (fun v=>decide (v.id=o.id)) s.vers<0 then(if o.id≤AP s.vers∨parent<0∨o.id≤parent then none else some (s.vers++[GQ o.id parent],s.vers.length))
 else some (s.vers,(BN (fun v=>decide (v.id=o.id)) s.vers).toNat)
def Fp (s:AT) (o:Obj) (parent:Int):AT×Int:=match Gs s o parent with
 |none=>(CI,1)
 |some (l,i)=>
  if C2 o.data∧Cs {s with vers:=FJ l i o} then
   (if (Do (AM s) s.blocks (Ba o.data)).2=0 then({s with vers:=K7 (FJ l i o) i (Do (AM s) s.blocks (Ba o.data)).1},0) else(CI,5))
  else(CI,1)
theorem Th {α:Type} {f:α→Bool} {l:List α} (h:0≤BN f l):(BN f l).toNat<l.length:=by
 unfold BN at h ⊢
 cases e:l.findIdx? f with
 |none=>rw[e] at h;simp at h
 |some i=>simpa using (List.findIdx?_eq_some_iff_getElem.1 e).1
theorem N4 (o:Obj):∀(l:List AS) (k:Nat) (h:k<l.length),(((Af AE l).set (k*8+2) (.int .i64 o.base)).set (k*8+3) (.str o.data.data)).set (k*8+3+1) (.int .i64 o.data.n)=Af AE (l.set k {l[k] with base:=o.base,data:=o.data})
 | [],k,h=>by simp at h
 |v::t,0,h=>by simp[AD,AE]
 |v::t,k+1,h=>by
  have ih:=N4 o t k (by simpa using h)
  have hl:(AE v).length=8:=rfl
  rw[AD,List.set_append_right _ _ (by omega),List.set_append_right _ _ (by omega),List.set_append_right _ _ (by omega)]
  rw[show(k+1)*8+2-(AE v).length=k*8+2 by omega,show(k+1)*8+3-(AE v).length=k*8+3 by omega,show(k+1)*8+3+1-(AE v).length=k*8+3+1 by omega,ih]
  simp[AD]
theorem Ml (a:Int):∀(l:List AS) (k:Nat) (h:k<l.length),(Af AE l).set (k*8+5) (.int .i64 a)=Af AE (l.set k {l[k] with at_:=a})
 | [],k,h=>by simp at h
 |v::t,0,h=>by simp[AD,AE]
 |v::t,k+1,h=>by
  have ih:=Ml a t k (by simpa using h)
  have hl:(AE v).length=8:=rfl
  rw[AD,List.set_append_right _ _ (by omega),show(k+1)*8+5-(AE v).length=k*8+5 by omega,ih]
  simp[AD]
theorem N5 {l:List AS} {i:Nat} {o:Obj} (h:i<l.length):FJ l i o=l.set i {l[i] with base:=o.base,data:=o.data}:=by
 simp[FJ,List.getElem?_eq_getElem h]
theorem Js (l:List AS) (i:Nat) (o:Obj):(FJ l i o).length=l.length:=by
 unfold FJ;split<;>simp
theorem PQ {l:List AS} {i:Nat} {a:Int} (h:i<l.length):K7 l i a=l.set i {l[i] with at_:=a}:=by
 simp[K7,List.getElem?_eq_getElem h]
theorem KE (l:List AS) (i:Nat) (a:Int):(K7 l i a).length=l.length:=by
 unfold K7;split<;>simp
theorem Ra {l:List AS} {i:Nat} {o:Obj} {n:Nat} (h:∀v∈l,v.data.data.size<n) (ho:o.data.data.size<n):∀v∈FJ l i o,v.data.data.size<n:=by
 intro v hv
 unfold FJ at hv
 split at hv
 .rcases List.mem_or_eq_of_mem_set hv with hv|hv
  .exact h v hv
  .subst hv;exact ho
 .exact h v hv
theorem Vj (hR:B1) (s:AT) (o:Obj) (parent:Int) (hs:Bp s) (hx:Dn s) (ho:o.data.data.size<1000000000) (hn:s.vers.length<999999999):Aa pg 75 [.agg (AJ false s),.agg (Av o),.int .i64 parent] [] (fun r _=>r= .tup [.agg (AJ true (Fp s o parent).1),.int .i64 (Fp s o parent).2]):=by
 have h1:=hs.1
 have h2:=hs.2.1
 refine Aa.start (fn:=Tryz.f75) [.cell 6 38,.tmp 7] tk rfl rfl rfl (by kernel_rfl) (Nat.le_of_ble_eq_true rfl) rfl (by kernel_rfl) ?_
 rw[Bg]
 refine z3 ?_;intro K hK;refine zk ?_;clear hK K
 refine z1 ?_;intro K hK
 refine Ab.eqr (Vi s hs hx) (by simp) ?_
 refine zx ?_
 refine zk ?_;clear hK K
 refine z0 ?_;intro K hK
 refine Ab.eq (KV s o.id hs) (by simp) (by simp) ?_
 refine zx ?_
 refine zk ?_;clear hK K
 obtain⟨q,hq⟩:∃q,q=BN (fun v=>decide (v.id=o.id)) s.vers:=⟨_,rfl⟩
 rw[←hq]
 have hqi:q<0∨∃h:q.toNat<s.vers.length,q=(q.toNat:Int):=by
  rcases(show q<0∨0≤q by omega) with h|h
  .exact .inl h
  .exact .inr ⟨by rw[hq] at h ⊢;exact Th h,by omega⟩
 refine zs ?_
 refine W.midS (fun x:Nat×List AS×Nat=> [(2,.int .i64 parent),(3,.ptr 0 0 0),(4,.ptr 1 0 0),(6,.ptr 2 0 0),(7,.int .i64 0),(8,.ptr 3 0 0),(9,.int .i64 x.2.2)]) (fun x=> [.live 0 (AJ false s),.live 0 (Av o),.live 0 [.int .i64 0,.int .i64 0,.own 8 0 [],.own 12 0 []],.live 0 [.int .i64 s.keep,.int .i64 s.blocks,.tok 4 x.1 8 0 x.2.1.length,.tok 5 0 12 0 s.sess.length],.live x.1 (Af AE x.2.1),.live 0 (Af (Ay true) s.sess)]) (fun x=>Gs s o parent=some (x.2.1,x.2.2)∧x.2.2<x.2.1.length∧x.2.1.length<1000000000∧∀v∈x.2.1,v.data.data.size<1000000000) ?_ ?_
 .by_cases c1:q<0
  .have eV:Gs s o parent=if o.id≤AP s.vers∨parent<0∨o.id≤parent then none else some (s.vers++[GQ o.id parent],s.vers.length):=by unfold Gs;rw[←hq,if_pos c1]
   rw[decide_eq_true c1]
   refine zt ?_
   by_cases d1:o.id≤AP s.vers
   .rw[if_pos (.inl d1)] at eV
    refine B4 ?_;intro K hK
    refine Ah.eq (Fa s hs) (by simp) (by simp) ?_
    refine AI d1 ?_
    refine zk ?_;clear hK K
    refine zt ?_
    refine z0 ?_;intro K hK
    refine zk ?_;clear hK K
    refine W.weak ((Wk.thaw (B:=2) (v:=0) (j:=2) (s:=8) (n:=0) (xs:=[]) rfl rfl).trans (Wk.thaw (B:=2) (v:=0) (j:=3) (s:=12) (n:=0) (xs:=[]) rfl rfl)) ?_
    refine zr ?_
    simp[Fp,eV,CI]
   by_cases d2:parent<0
   .rw[if_pos (.inr (.inl d2))] at eV
    refine B4 ?_;intro K hK
    refine Ah.eq (Fa s hs) (by simp) (by simp) ?_
    refine AI (an d1 d2) ?_
    refine zk ?_;clear hK K
    refine zt ?_
    refine z0 ?_;intro K hK
    refine zk ?_;clear hK K
    refine W.weak ((Wk.thaw (B:=2) (v:=0) (j:=2) (s:=8) (n:=0) (xs:=[]) rfl rfl).trans (Wk.thaw (B:=2) (v:=0) (j:=3) (s:=12) (n:=0) (xs:=[]) rfl rfl)) ?_
    refine zr ?_
    simp[Fp,eV,CI]
   by_cases d3:o.id≤parent
   .rw[if_pos (.inr (.inr d3))] at eV
    refine B4 ?_;intro K hK
    refine Ah.eq (Fa s hs) (by simp) (by simp) ?_
    refine AI (an d1 (an d2 d3)) ?_
    refine zk ?_;clear hK K
    refine zt ?_
    refine z0 ?_;intro K hK
    refine zk ?_;clear hK K
    refine W.weak ((Wk.thaw (B:=2) (v:=0) (j:=2) (s:=8) (n:=0) (xs:=[]) rfl rfl).trans (Wk.thaw (B:=2) (v:=0) (j:=3) (s:=12) (n:=0) (xs:=[]) rfl rfl)) ?_
    refine zr ?_
    simp[Fp,eV,CI]
   rw[if_neg (by omega)] at eV
   refine B4 ?_;intro K hK
   refine Ah.eq (Fa s hs) (by simp) (by simp) ?_
   refine AI (an d1 (an d2 d3)) ?_
   refine zk ?_;clear hK K
   refine zn ?_
   refine W.skip ?_
   refine zs ?_
   refine z1 ?_;intro K hK
   refine⟨by omega,by omega,?_⟩
   refine zk ?_;clear hK K
   exact⟨(1,s.vers++[GQ o.id parent],s.vers.length),⟨eV,by simp,by simp;omega,fun v hv=>by
    rcases List.mem_append.1 hv with h|h
    .exact hs.2.2 v h
    .simp at h;subst h;exact Nat.zero_lt_succ _⟩,Wk.cutM (k:=6) (by simp[Ad]) (by simp[Co,AD,AE,GQ]) (by simp) (by simp) (by simp) (by simp)⟩
  .obtain⟨h,hqn⟩:=hqi.resolve_left c1
   have eV:Gs s o parent=some (s.vers,q.toNat):=by unfold Gs;rw[←hq,if_neg c1]
   rw[decide_eq_false c1]
   refine zn ?_
   refine W.skip ?_
   exact⟨(0,s.vers,q.toNat),⟨eV,h,h1,hs.2.2⟩,Wk.fr (by simp[Ad];omega)⟩
 rintro⟨u,l,i⟩ ⟨eV,hil,hl,hld⟩
 simp only at eV hil hl hld ⊢
 refine Ag hil ?_;intro K hK
 refine zk ?_;clear hK K
 have b1:i*8+2<(Af AE l).length:=by simp;omega
 have b2:i*8+3<(Af AE l).length:=by simp;omega
 (repeat refine W.seq ?_);refine W.regdX 0 [(57,60),(57,56)] rfl true Ci (by kernel_rfl) fun K hK=>?_;simp -implicitDefEqProofs (maxSteps:=999999) (disch:=omega) [hil]
 refine⟨by omega,by omega,?_⟩
 (repeat refine⟨by first|assumption|omega,?_⟩);refine hK _ _ (by simp(disch:=omega)) ?_;clear hK K
 rw[N4 o l i hil,←N5 hil]
 obtain⟨l1,hl1⟩:∃l1,l1=FJ l i o:=⟨_,rfl⟩
 have len1:l1.length=l.length:=by rw[hl1,Js]
 have hl1d:∀v∈l1,v.data.data.size<1000000000:=by rw[hl1];exact Ra hld ho
 obtain⟨y,hy⟩:∃y:AT,y={s with vers:=l1}:=⟨_,rfl⟩
 have eL:Fp s o parent=if C2 o.data∧Cs y then(if (Do (AM s) s.blocks (Ba o.data)).2=0 then({s with vers:=K7 l1 i (Do (AM s) s.blocks (Ba o.data)).1},0) else(CI,5)) else(CI,1):=by
  unfold Fp;rw[eV,hy,hl1]
 rw[←hl1]
 have spB:=QF o.data ho
 by_cases d4:C2 o.data
 rotate_left
 .rw[if_neg (fun h=>d4 h.1)] at eL
  rw[decide_eq_false d4] at spB
  refine z0 ?_;intro K hK
  refine Ab.eq spB (by simp) (by simp) ?_
  refine zx ?_
  refine zk ?_;clear hK K
  refine zt ?_
  refine z0 ?_;intro K hK
  refine zk ?_;clear hK K
  refine W.weak ((Wk.thaw (B:=2) (v:=0) (j:=2) (s:=8) (n:=0) (xs:=[]) rfl rfl).trans (Wk.thaw (B:=2) (v:=0) (j:=3) (s:=12) (n:=0) (xs:=[]) rfl rfl)) ?_
  refine zr ?_
  simp[eL,CI]
 rw[decide_eq_true d4] at spB
 have yv:y.vers=l1:=by rw[hy]
 have ys:y.sess=s.sess:=by rw[hy]
 have yk:y.keep=s.keep:=by rw[hy]
 have yb:y.blocks=s.blocks:=by rw[hy]
 have spM:=Mc hR y ⟨by rw[yv,len1];exact hl,by rw[ys];exact h2,by rw[yv];exact hl1d⟩ (by intro x hx';rw[ys] at hx';exact hx x hx')
 have tk1:List.take l.length l1=l1:=List.take_of_length_le (by omega)
 by_cases d5:Cs y
 rotate_left
 .rw[if_neg (fun h=>d5 h.2)] at eL
  rw[decide_eq_false d5] at spM
  refine z0 ?_;intro K hK
  refine Ab.eq spB (by simp) (by simp) ?_
  refine zx ?_
  refine Ab.eq spM (by simp[yv,ys,yk,yb,len1,tk1]) (by simp) ?_
  refine zx ?_
  refine zk ?_;clear hK K
  refine zt ?_
  refine z0 ?_;intro K hK
  refine zk ?_;clear hK K
  refine W.weak ((Wk.thaw (B:=2) (v:=0) (j:=2) (s:=8) (n:=0) (xs:=[]) rfl rfl).trans (Wk.thaw (B:=2) (v:=0) (j:=3) (s:=12) (n:=0) (xs:=[]) rfl rfl)) ?_
  refine zr ?_
  simp[eL,CI]
 rw[if_pos ⟨d4,d5⟩] at eL
 rw[decide_eq_true d5] at spM
 refine z0 ?_;intro K hK
 refine Ab.eq spB (by simp) (by simp) ?_
 refine zx ?_
 refine Ab.eq spM (by simp[yv,ys,yk,yb,len1,tk1]) (by simp) ?_
 refine zx ?_
 refine zk ?_;clear hK K
 refine zn ?_
 refine W.skip ?_
 have hpl:(AM s).length<1000000000:=by simp[AM];omega
 obtain⟨f,hf⟩:∃f,f=Do (AM s) s.blocks (Ba o.data):=⟨_,rfl⟩
 have spF:=Ve (AM s) s.blocks (Ba o.data) hpl
 rw[←hf] at spF eL
 refine B4 ?_;intro K hK
 refine Ah.eq (Nl s hs) (by simp) (by simp) ?_
 refine zx ?_
 refine Ah.eq (Nj o.data ho) (by simp) (by simp) ?_
 refine zx ?_
 refine Ah.eq spF (by simp) (by simp) ?_
 refine zx ?_
 refine zk ?_;clear hK K
 by_cases d6:f.2=0
 rotate_left
 .rw[if_neg d6] at eL
  refine Ag d6 ?_;intro K hK
  refine zk ?_;clear hK K
  refine zt ?_
  refine z0 ?_;intro K hK
  refine zk ?_;clear hK K
  refine W.weak ((Wk.thaw (B:=2) (v:=0) (j:=2) (s:=8) (n:=0) (xs:=[]) rfl rfl).trans (Wk.thaw (B:=2) (v:=0) (j:=3) (s:=12) (n:=0) (xs:=[]) rfl rfl)) ?_
  refine zr ?_
  simp[eL,CI]
 rw[if_pos d6] at eL
 have hil1:i<l1.length:=by omega
 refine Ag d6 ?_;intro K hK
 refine zk ?_;clear hK K
 refine zn ?_
 refine W.skip ?_
 refine Ag hil1 ?_;intro K hK
 refine⟨by omega,?_⟩
 refine zk ?_;clear hK K
 rw[Ml f.1 l1 i hil1,←PQ hil1]
 refine z0 ?_;intro K hK
 refine zk ?_;clear hK K
 refine zr ?_
 have tk2:List.take l.length (K7 l1 i f.1)=K7 l1 i f.1:=List.take_of_length_le (by rw[KE];omega)
 simp[eL,KE,len1,tk2]
def Il (s:AT) (o:Obj) (parent:Int):AT×Int:=if C9 s then Fp s o parent else(CI,1)
theorem SA (hR:B1) (s:AT) (o:Obj) (parent:Int) (hs:Bp s) (hx:Dn s) (ho:o.data.data.size<1000000000) (hn:s.vers.length<999999999):Aa pg 22 [.agg (AJ false s),.agg (Av o),.int .i64 parent] [] (fun r _=>r= .tup [.agg (AJ true (Il s o parent).1),.int .i64 (Il s o parent).2]):=by
 have spM:=Hi hR s hs hx
 refine Aa.start (fn:=Tryz.f22) [.cell 6 38,.tmp 7] tk rfl rfl rfl (by kernel_rfl) (Nat.le_of_ble_eq_true rfl) rfl (by kernel_rfl) ?_
 rw[Bg]
 refine z3 ?_;intro K hK;refine zk ?_;clear hK K
 by_cases h:C9 s
 .rw[decide_eq_true h] at spM
  refine z0 ?_;intro K hK
  refine Ab.eq spM (by simp) (by simp) ?_
  refine zx ?_
  refine zk ?_;clear hK K
  refine zn ?_
  refine W.skip ?_
  refine z0 ?_;intro K hK
  refine Ab.eq (Vj hR s o parent hs hx ho hn) (by simp) (by simp) ?_
  refine zx ?_
  refine zk ?_;clear hK K
  refine zr ?_
  simp[Il,h]
 .rw[decide_eq_false h] at spM
  refine z0 ?_;intro K hK
  refine Ab.eq spM (by simp) (by simp) ?_
  refine zx ?_
  refine zk ?_;clear hK K
  refine zt ?_
  refine z0 ?_;intro K hK
  refine zk ?_;clear hK K
  refine W.weak ((Wk.thaw (B:=2) (v:=0) (j:=2) (s:=8) (n:=0) (xs:=[]) rfl rfl).trans (Wk.thaw (B:=2) (v:=0) (j:=3) (s:=12) (n:=0) (xs:=[]) rfl rfl)) ?_
  refine zr ?_
  simp[Il,h,CI]
end Go.Abs
namespace Go.Abs
def BP:List AS→Int→List AS
 | [],_=> []
 |v::t,a=>{v with at_:=a}::BP t (a+Ba v.data)
def Ax:List AS→Int
 | []=>0
 |v::t=>Ba v.data+Ax t
theorem Eb (b:CM):1≤Ba b:=by unfold Ba;omega
theorem EJ:∀l:List AS,0≤Ax l
 | []=>by simp[Ax]
 |v::t=>by have:=Eb v.data;have:=EJ t;simp[Ax];omega
theorem Im {l:List AS} (h:0<l.length):1≤Ax l:=by
 cases l with
 |nil=>simp at h
 |cons v t=>have:=Eb v.data;have:=EJ t;simp[Ax];omega
@[simp] theorem K8:∀(l:List AS) (a:Int),(BP l a).length=l.length
  | [],a=>rfl
  |v::t,a=>by simp[BP,K8 t]
theorem Ec {β:Type} (f:AS→β) (hf:∀(v:AS) (a:Int),f {v with at_:=a}=f v):∀(l:List AS) (a:Int),(BP l a).map f=l.map f
 | [],a=>rfl
 |v::t,a=>by simp[BP,hf,Ec f hf t]
theorem Gt:∀{l:List AS} {a:Int} {v:AS},v∈BP l a→∃u∈l,∃c,v={u with at_:=c}
 | [],a,v,h=>by simp[BP] at h
 |u::t,a,v,h=>by
  rcases List.mem_cons.1 h with h|h
  .exact⟨u,by simp,a,h⟩
  .obtain⟨x,hx,c,e⟩:=Gt h
   exact⟨x,by simp[hx],c,e⟩
def EK (l:List AS) (a:Int):List (Int×Int):=(BP l a).map fun v=>(v.at_,Ba v.data)
theorem In (v:AS) (t:List AS) (a:Int):EK (v::t) a=(a,Ba v.data)::EK t (a+Ba v.data):=by simp[EK,BP]
theorem KF:∀(l:List AS) (a:Int),∀x∈EK l a,a≤x.1∧1≤x.2∧x.1+x.2≤a+Ax l
 | [],a,x,h=>by simp[EK,BP] at h
 |v::t,a,x,h=>by
  have hn:=Eb v.data
  have ht:=EJ t
  rw[In] at h
  rcases List.mem_cons.1 h with h|h
  .subst h;simp only[Ax];omega
  .have:=KF t _ x h
   simp only[Ax];omega
theorem JS:∀(l:List AS) (a:Int),(EK l a).Pairwise apart
 | [],a=>by simp[EK,BP]
 |v::t,a=>by
  rw[In,List.pairwise_cons]
  refine⟨fun y hy=>?_,JS t _⟩
  have:=KF t _ y hy
  unfold apart
  simp only;omega
theorem JT:∀(l:List AS) (a i:Int),Dy (EK l a) i=decide (a≤i∧i<a+Ax l)
 | [],a,i=>by simp[EK,BP,Dy,Ax]
 |v::t,a,i=>by
  have hn:=Eb v.data
  have ht:=EJ t
  have ih:=JT t (a+Ba v.data) i
  unfold Dy at ih ⊢
  rw[In,List.any_cons,ih]
  show(decide (a≤i∧i<a+Ba v.data) ||_)=_
  rw[show Ax (v::t)=Ba v.data+Ax t from rfl]
  by_cases x1:a≤i
  .by_cases x2:i<a+Ba v.data
   .rw[decide_eq_true (show a≤i∧i<a+Ba v.data from ⟨x1,x2⟩),decide_eq_true (show a≤i∧i<a+(Ba v.data+Ax t) by omega)];rfl
   .rw[decide_eq_false (show¬(a≤i∧i<a+Ba v.data) from fun h=>x2 h.2),Bool.false_or,decide_eq_decide];omega
  .rw[decide_eq_false (show¬(a≤i∧i<a+Ba v.data) from fun h=>x1 h.1),decide_eq_false (show¬(a+Ba v.data≤i∧i<a+Ba v.data+Ax t) by omega),decide_eq_false (show¬(a≤i∧i<a+(Ba v.data+Ax t)) from fun h=>x1 h.1)];rfl
theorem KG (l:List AS) (n:Int) (hl:l.length≤12) (h1:Ax l≤n) (h2:1≤n) (h3:n≤100):CL (EK l 0) n:=by
 refine⟨h2,h3,by simp[EK];omega,fun x hx=>?_,JS l 0⟩
 have:=KF l 0 x hx
 omega
theorem Ny (l:List AS) (n:Nat) (h:Ax l≤n):B3 (EK l 0) n=List.replicate (Ax l).toNat true++List.replicate (n-(Ax l).toNat) false:=by
 have ht:=EJ l
 refine List.ext_getElem (by simp;omega) fun j h1 h2=>?_
 simp only[B3,List.getElem_map,List.getElem_range,JT,List.getElem_append,List.length_replicate,List.getElem_replicate]
 split
 .simp;omega
 .simp;omega
theorem JU:∀(t:Nat) (r:List Bool) (i:Int),BO (List.replicate t true++r) i i=BO r (i+t) (i+t)
 |0,r,i=>by simp
 |t+1,r,i=>by
  rw[List.replicate_succ,List.cons_append,BO,if_neg (by omega),List.nil_append,JU t r (i+1)]
  congr 1<;>omega
theorem I8:∀(m:Nat) (i a:Int),BO (List.replicate m false) i a=if a<i+m then [(a,i+m-a)] else []
 |0,i,a=>by simp[BO]
 |m+1,i,a=>by
  rw[List.replicate_succ,BO,I8 m]
  have:i+1+(m:Int)=i+((m+1:Nat):Int):=by omega
  rw[this]
theorem JV (l:List AS) (n:Nat) (h:Ax l≤n):BO (B3 (EK l 0) n) 0 0=if Ax l<n then [(Ax l,n-Ax l)] else []:=by
 have ht:=EJ l
 rw[Ny l n h,JU,I8]
 have e1:(0:Int)+((Ax l).toNat:Int)=Ax l:=by omega
 have e2:Ax l+((n-(Ax l).toNat:Nat):Int)=n:=by omega
 rw[e1,e2]
theorem PR (l:List AS) (n:Int) (hl:l.length≤12) (h0:0<l.length) (h3:Ax l≤100) (hn:1≤n∧n≤100):Do (EK l 0) (Ax l) n=(0,5):=by
 have ht:=Im h0
 unfold Do
 rw[if_pos ⟨KG l _ hl (Int.le_refl _) ht h3,hn⟩,JV l (Ax l).toNat (by omega),if_neg (by omega)]
 rfl
theorem PS (l:List AS) (n:Int) (hl:l.length≤12) (h3:Ax l+n≤100) (hn:1≤n):Do (EK l 0) (Ax l+n) n=(Ax l,0):=by
 have ht:=EJ l
 unfold Do
 rw[if_pos ⟨KG l _ hl (by omega) (by omega) h3,by omega,by omega⟩,JV l (Ax l+n).toNat (by omega),if_pos (by omega)]
 simp only[List.find?_cons]
 rw[decide_eq_true (by omega)]
end Go.Abs
namespace Go.Abs
theorem Gu {l m:List Obj} (P:Int→Prop) (h:∀id,P id→id≠0→Bl l id=Bl m id) (hb:∀id o,P id→id≠0→Bl l id=some o→P o.base):∀(k:Nat) (id:Int),P id→A1 l k id=A1 m k id
 |0,_,_=>rfl
 |k+1,id,hp=>by
  simp only[A1]
  by_cases h0:id=0
  .simp[h0]
  .rw[if_neg h0,if_neg h0,←h id hp h0]
   cases e:Bl l id with
   |none=>rfl
   |some o=>simp only;rw[Gu P h hb k o.base (hb id o hp h0 e)]
theorem PT {l m:List Obj} (P:Int→Prop) (h:∀id,P id→id≠0→Bl l id=Bl m id) (hb:∀id o,P id→id≠0→Bl l id=some o→P o.base) {id:Int} (hp:P id) (h0:id≠0):Bi l id=Bi m id:=by
 unfold Bi Ct
 rw[Gu P h hb 4 id hp,Gu P h hb 3 id hp,h id hp h0]
def Dp (l:List Obj) (id:Int):Prop:=∃q∈l,q.id=id
theorem Gv {l:List Obj} {id:Int} {o:Obj} (h:Bl l id=some o):o∈l∧o.id=id:=⟨List.mem_of_find?_eq_some h,by simpa using List.find?_some h⟩
theorem OF {l:List Obj} {id:Int}:Dp l id↔∃o,Bl l id=some o:=by
 constructor
 .rintro⟨q,hq,e⟩
  cases h:Bl l id with
  |none=>have:=List.find?_eq_none.1 h q hq;simp[e] at this
  |some o=>exact⟨o,rfl⟩
 .rintro⟨o,h⟩
  exact⟨o,Gv h⟩
theorem K9 {l:List Obj} {id:Int} (o:Obj) (h:Dp l id):Bl (l++[o]) id=Bl l id:=by
 obtain⟨q,hq⟩:=OF.1 h
 unfold Bl at hq ⊢
 rw[List.find?_append,hq];rfl
theorem La {l:List Obj} {o:Obj} (h:¬Dp l o.id):Bl (l++[o]) o.id=some o:=by
 have:l.find? (fun q=>decide (q.id=o.id))=none:=List.find?_eq_none.2 fun q hq=>by simpa using fun e=>h ⟨q,hq,e⟩
 unfold Bl
 rw[List.find?_append,this];simp
def IW (l:List Obj):Prop:=∀o∈l,o.base=0∨Dp l o.base
theorem CK.closed {l:List Obj} (h:CK l):IW l:=fun o ho=>(h.2.1 o ho).2.2.2.2
theorem Ti {l:List Obj} (o:Obj) (hc:IW l) (k:Nat) {id:Int} (h:id=0∨Dp l id):A1 (l++[o]) k id=A1 l k id:=
 (Gu (fun id=>id=0∨Dp l id) (fun id hp h0=>(K9 o (hp.resolve_left h0)).symm) (fun id q hp h0 e=>hc q (Gv e).1) k id h).symm
theorem N6 {l:List Obj} (o:Obj) (hc:IW l) {id:Int} (h:Dp l id) (h0:id≠0):Bi (l++[o]) id=Bi l id:=
 (PT (fun id=>id=0∨Dp l id) (fun id hp h0=>(K9 o (hp.resolve_left h0)).symm) (fun id q hp h0 e=>hc q (Gv e).1) (.inr h) h0).symm
theorem Rb {l:List Obj} {o q:Obj} (hc:IW l) (hq:Bl l q.id=some q) (hq0:q.id≠0) (ho0:o.id≠0) (hn:¬Dp l o.id) (hb:o.base=q.base) (hd:o.data=q.data):Bi (l++[o]) o.id=Bi l q.id:=by
 have hcb:o.base=0∨Dp l o.base:=by rw[hb];exact hc q (Gv hq).1
 have e:∀k,A1 (l++[o]) (k+1) o.id=o::A1 l k q.base:=fun k=>by
  rw[A1,if_neg ho0,La hn]
  simp only
  rw[Ti o hc k hcb,hb]
 have e' :∀k,A1 l (k+1) q.id=q::A1 l k q.base:=fun k=>by rw[A1,if_neg hq0,hq]
 unfold Bi Ct
 rw[La hn,hq,e,e',e,e']
 simp only[List.length_cons,C0,hb,hd]
theorem Mm {s y:AT} {x:CD} (hi:∀id,id∈s.vers.map (fun v=>v.id)→id∈y.vers.map fun v=>v.id) (hl:AP s.vers≤AP y.vers)
 (hg:∀id,id≠0→id∈s.vers.map (fun v=>v.id)→Bi (Al y) id=Bi (Al s) id) (h:Az s (Al s) x):Az y (Al y) x:=by
 unfold Az at h ⊢
 split at h
 .rw[if_pos (by assumption)];exact h
 .rename_i ho
  rw[if_neg ho]
  obtain⟨h1,h2,h3⟩:=h
  rw[PJ] at h1
  rw[PJ]
  refine⟨h1.imp id (hi _),?_,?_⟩
  .split at h2
   .rw[if_pos (by assumption)];exact⟨h2.1,by omega,h2.2.2⟩
   .rw[if_neg (by assumption)];exact h2
  .rcases h3 with h3| ⟨h3,h4,h5⟩
   .exact .inl h3
   .rw[hg _ h3 (h1.resolve_left h3)];exact .inr ⟨h3,h4,h5⟩
theorem Fg (s:AT):(Al s).map (fun o=>o.id)=s.vers.map fun v=>v.id:=by simp[Al,Cd]
theorem Mn (s:AT) (id:Int):Dp (Al s) id↔id∈s.vers.map fun v=>v.id:=by
 rw[←Fg];simp[Dp]
theorem OG (l:List AS) (v:AS):AP (l++[v])=v.id:=by simp[AP]
theorem Io {l:List AS} (h:(l.map fun v=>v.id).Pairwise (·<·)):∀v∈l,v.id≤AP l:=by
 intro v hv
 obtain⟨i,hi,rfl⟩:=List.mem_iff_getElem.1 hv
 have hl:AP l=l[l.length-1].id:=by unfold AP;rw[List.getLast?_eq_getElem?,List.getElem?_eq_getElem (by omega)]
 rw[hl]
 by_cases e:i=l.length-1
 .subst e;exact Int.le_refl _
 .have:=List.pairwise_iff_getElem.1 h i (l.length-1) (by simpa using hi) (by simp;omega) (by omega)
  simp at this;omega
theorem Rc {s y:AT} {o:Obj} {v:AS} (h:Cs s) (hn:s.vers.length<12) (hv:y.vers=s.vers++[v]) (hvo:Cd v=o) (hs:y.sess=s.sess) (hk:y.keep=s.keep) (hb:1≤y.blocks∧y.blocks≤100)
 (hp:FS v) (hg:v.gone=false) (hi:AP s.vers<o.id∧1≤o.id∧o.id≤1048576) (hd:C2 o.data) (ho:o.base=0∨Dp (Al s) o.base) (hr:(Bi (Al s++[o]) o.id).2=0):Cs y:=by
 obtain⟨⟨a1,a2,a3,a4,a5,a6,a7⟩,b,c,d⟩:=h
 have ey:Al y=Al s++[o]:=by simp[Al,hv,←hvo]
 have up:(s.vers.map fun v=>v.id).Pairwise (·<·):=by
  rw[←Fg,List.pairwise_map];exact a7.2.2
 have lt:∀q∈Al s,q.id<o.id:=fun q hq=>by
  obtain⟨u,hu,rfl⟩:=List.mem_map.1 hq
  have:=Io up u hu
  show u.id<o.id
  omega
 have hnh:¬Dp (Al s) o.id:=fun⟨q,hq,e⟩=>by have:=lt q hq;omega
 have hvi:v.id=o.id:=by rw[←hvo];rfl
 have pos:∀id,Dp (Al s) id→id≠0:=fun id ⟨q,hq,e⟩=>by have:=(a7.2.1 q hq).1;omega
 refine⟨⟨by omega,by omega,hb.1,hb.2,?_,?_,?_⟩,by rw[hs];exact b,?_,?_⟩
 .intro u hu
  rw[hv,List.mem_append] at hu
  rcases hu with hu|hu
  .exact a5 u hu
  .simp at hu;subst hu;exact hp
 .rw[hv];simp[Di,hg]
 .rw[ey]
  refine⟨by simp[Al];omega,fun q hq=>?_,?_⟩
  .rw[List.mem_append] at hq
   rcases hq with hq|hq
   .obtain⟨k1,k2,k3,k4,k5⟩:=a7.2.1 q hq
    exact⟨k1,k2,k3,k4,k5.imp id fun⟨x,hx,e⟩=>⟨x,List.mem_append_left _ hx,e⟩⟩
   .simp at hq;subst hq
    refine⟨hi.2.1,hi.2.2,hd,fun e=>?_,ho.imp id fun⟨x,hx,e⟩=>⟨x,List.mem_append_left _ hx,e⟩⟩
    rcases ho with h0|h0
    .omega
    .rw[e] at h0;exact hnh h0
  .rw[List.pairwise_append]
   exact⟨a7.2.2,by simp,fun q hq x hx=>by simp at hx;subst hx;exact lt q hq⟩
 .rw[ey]
  intro q hq
  rw[List.mem_append] at hq
  rcases hq with hq|hq
  .have hh:Dp (Al s) q.id:=⟨q,hq,rfl⟩
   rw[N6 o a7.closed hh (pos _ hh)];exact c q hq
  .simp at hq;subst hq;exact hr
 .rw[hs]
  intro x hx
  refine Mm (fun id h=>by rw[hv];simp at h ⊢;exact .inl h) (by rw[hv,OG,hvi];omega) (fun id h0 h=>?_) (d x hx)
  rw[ey,N6 o a7.closed ((Mn s id).2 h) h0]
theorem PU {s y:AT} (h:Cs s) (hv:y.vers.map Cd=s.vers.map Cd) (hm:∀v∈y.vers,∃u∈s.vers,u.id=v.id∧u.parent=v.parent∧u.tag=v.tag∧u.gone=v.gone) (hl:Di y.vers=false) (hs:y.sess=s.sess) (hk:y.keep=s.keep) (hb:1≤y.blocks∧y.blocks≤100):Cs y:=by
 obtain⟨⟨a1,a2,a3,a4,a5,a6,a7⟩,b,c,d⟩:=h
 have ey:Al y=Al s:=hv
 have ei:y.vers.map (fun v=>v.id)=s.vers.map fun v=>v.id:=by rw[←Fg,ey,Fg]
 refine⟨⟨by omega,by omega,hb.1,hb.2,?_,hl,by rw[ey];exact a7⟩,by rw[hs];exact b,by rw[ey];exact c,?_⟩
 .intro v hv
  obtain⟨u,hu,e1,e2,e3,e4⟩:=hm v hv
  obtain⟨k1,k2,k3⟩:=a5 u hu
  exact⟨by omega,by omega,by rw[←e3,←e4];exact k3⟩
 .rw[hs]
  intro x hx
  exact Mm (fun id h=>by rw[ei];exact h) (by rw[Ho _ _ ei];exact Int.le_refl _) (fun id _ _=>by rw[ey]) (d x hx)
theorem JW (l:List AS) (a:Int):(BP l a).map Cd=l.map Cd:=Ec Cd (fun _ _=>rfl) l a
theorem OH (l:List AS) (a:Int):Di (BP l a)=Di l:=by
 have:=congrArg List.getLast? (Ec (fun v=>v.gone) (fun _ _=>rfl) l a)
 rw[List.getLast?_map,List.getLast?_map] at this
 unfold Di
 cases h1:(BP l a).getLast?<;>cases h2:l.getLast?<;>simp_all
def BG (s:AT) (n:Int):AT:={s with blocks:=n,vers:=BP s.vers 0}
theorem I9 {s:AT} {n:Int} (h:Cs s) (hb:1≤n∧n≤100):Cs (BG s n):=
 PU h (JW _ _) (fun v hv=>by
  obtain⟨u,hu,c,rfl⟩:=Gt hv
  exact⟨u,hu,rfl,rfl,rfl,rfl⟩) (by show Di (BP s.vers 0)=false;rw[OH];exact h.1.2.2.2.2.2.1) rfl rfl hb
theorem Lb {s:AT} {n:Int} (h:Cs s) (hb:1≤n∧n≤100) (ht:Ax s.vers≤n):C9 (BG s n):=
 ⟨I9 h hb,KG _ _ (by have:=h.1.2.2.2.2.2.2.1;simpa[Al] using this) ht hb.1 hb.2⟩
def C4 (s:AT) (v:AS):Obj:=⟨AP s.vers+1,v.base,v.data⟩
theorem Mo {s:AT} {n:Int} (h:Cs s) (v:AS):BN (fun u=>decide (u.id=(C4 s v).id)) (BG s n).vers<0:=by
 have up:(s.vers.map fun v=>v.id).Pairwise (·<·):=by
  rw[←Fg,List.pairwise_map];exact h.1.2.2.2.2.2.2.2.2
 unfold BN
 rw[List.findIdx?_eq_none_iff.2]
 .simp
 .intro x hx
  obtain⟨u,hu,c,rfl⟩:=Gt hx
  have:=Io up u hu
  have e:¬u.id=AP s.vers+1:=by omega
  exact decide_eq_false e
theorem GR (s:AT) (n:Int):AP (BG s n).vers=AP s.vers:=Ho _ _ (Ec (fun v=>v.id) (fun _ _=>rfl) _ _)
theorem Gw {s:AT} (h:Cs s):0≤AP s.vers:=by
 unfold AP
 cases e:s.vers.getLast? with
 |none=>simp
 |some v=>
  have:=(h.1.2.2.2.2.2.2.2.1 (Cd v) (List.mem_map.2 ⟨v,List.mem_of_getLast? e,rfl⟩)).1
  simp only[Cd] at this ⊢;omega
theorem Lc {s y:AT} {n:Int} (h:Cs s) (hn:s.vers.length<12) (hl:AP s.vers<1048576) (h0:0<s.vers.length) (hb:1≤n∧n≤100)
 (hy:y={BG s n with vers:=FJ ((BG s n).vers++[GQ (C4 s s.vers[0]).id 0]) (BG s n).vers.length (C4 s s.vers[0])}):Cs y:=by
 have hv0:=h.1.2.2.2.2.2.2.2.1 (Cd s.vers[0]) (List.mem_map.2 ⟨_,List.getElem_mem h0,rfl⟩)
 have hln:=Gw h
 have ep:Al (BG s n)=Al s:=JW _ _
 have hc:=h.1.2.2.2.2.2.2.closed
 have up:(Al s).Pairwise fun a b=>a.id<b.id:=h.1.2.2.2.2.2.2.2.2
 have hf:Bl (Al s) s.vers[0].id=some (Cd s.vers[0]):=by
  have hh:s.vers=s.vers[0]::s.vers.drop 1:=by
   have:=List.drop_eq_getElem_cons h0
   simpa using this
  have:Al s=Cd s.vers[0]::(s.vers.drop 1).map Cd:=by
   unfold Al
   exact(congrArg (List.map Cd) hh).trans (List.map_cons ..)
  rw[this]
  simp[Bl,Cd]
 have hnh:¬Dp (Al s) (C4 s s.vers[0]).id:=by
  rw[Mn]
  intro hm
  obtain⟨u,hu,e⟩:=List.mem_map.1 hm
  have hu2:(s.vers.map fun v=>v.id).Pairwise (·<·):=by rw[←Fg,List.pairwise_map];exact up
  have:=Io hu2 u hu
  simp only[C4] at e;omega
 have e1:y.vers=(BG s n).vers++[{GQ (C4 s s.vers[0]).id 0 with base:=s.vers[0].base,data:=s.vers[0].data}]:=by
  rw[hy]
  show FJ ((BG s n).vers++[_]) (BG s n).vers.length _=_
  rw[N5 (by simp)]
  simp[C4]
 refine Rc (v:={GQ (C4 s s.vers[0]).id 0 with base:=s.vers[0].base,data:=s.vers[0].data}) (o:=C4 s s.vers[0]) (I9 (n:=n) h hb) (by simp[BG];exact hn) e1 rfl (by rw[hy]) (by rw[hy]) (by rw[hy];exact hb) ⟨Int.le_refl _,by simp[GQ,C4];omega,by simp[GQ]⟩ rfl ⟨by rw[GR];simp[C4];omega,by simp[C4];omega,by simp[C4];omega⟩ hv0.2.2.1 ?_ ?_
 .rw[ep];exact hv0.2.2.2.2
 .rw[ep,Rb (q:=Cd s.vers[0]) hc hf (by have:=hv0.1;simp only[Cd] at this ⊢;omega) (by simp[C4];omega) hnh rfl rfl]
  exact h.2.2.1 _ (List.mem_map.2 ⟨_,List.getElem_mem h0,rfl⟩)
theorem PV {s:AT} (h:C9 s) (hn:s.vers.length<12) (hl:AP s.vers<1048576) (h0:0<s.vers.length) (ht:Ax s.vers+Ba s.vers[0].data≤100):Il (BG s (Ax s.vers)) (C4 s s.vers[0]) 0=(CI,5):=by
 have hp:=Im h0
 have hnp:=Eb s.vers[0].data
 have h12:s.vers.length≤12:=by omega
 have hln:=Gw h.1
 have hb:1≤Ax s.vers∧Ax s.vers≤100:=by omega
 unfold Il Fp Gs
 rw[if_pos (Lb h.1 hb (Int.le_refl _)),if_pos (Mo h.1 _),if_neg (by rw[GR];simp[C4];omega)]
 simp only
 rw[if_pos ⟨(h.1.1.2.2.2.2.2.2.2.1 (Cd s.vers[0]) (List.mem_map.2 ⟨_,List.getElem_mem h0,rfl⟩)).2.2.1,Lc h.1 hn hl h0 hb rfl⟩]
 have:Do (AM (BG s (Ax s.vers))) (BG s (Ax s.vers)).blocks (Ba (C4 s s.vers[0]).data)=(0,5):=PR s.vers _ h12 h0 hb.2 (by simp[C4];omega)
 rw[this,if_neg (by decide)]
theorem PW {s:AT} (h:C9 s) (hn:s.vers.length<12) (hl:AP s.vers<1048576) (h0:0<s.vers.length) (ht:Ax s.vers+Ba s.vers[0].data≤100):
 ∃y,Il (BG s (Ax s.vers+Ba s.vers[0].data)) (C4 s s.vers[0]) 0=(y,0)∧y.vers.length=s.vers.length+1∧(∃u,y.vers[s.vers.length]?=some u∧u.at_=Ax s.vers)∧y.sess=s.sess:=by
 have hp:=Im h0
 have hnp:=Eb s.vers[0].data
 have h12:s.vers.length≤12:=by omega
 have hln:=Gw h.1
 have hb:1≤Ax s.vers+Ba s.vers[0].data∧Ax s.vers+Ba s.vers[0].data≤100:=by omega
 unfold Il Fp Gs
 rw[if_pos (Lb h.1 hb (by omega)),if_pos (Mo h.1 _),if_neg (by rw[GR];simp[C4];omega)]
 simp only
 rw[if_pos ⟨(h.1.1.2.2.2.2.2.2.2.1 (Cd s.vers[0]) (List.mem_map.2 ⟨_,List.getElem_mem h0,rfl⟩)).2.2.1,Lc h.1 hn hl h0 hb rfl⟩]
 have:Do (AM (BG s (Ax s.vers+Ba s.vers[0].data))) (BG s (Ax s.vers+Ba s.vers[0].data)).blocks (Ba (C4 s s.vers[0]).data)=(Ax s.vers,0):=PS s.vers _ h12 ht hnp
 rw[this,if_pos rfl]
 refine⟨_,rfl,by simp[KE,Js,BG],?_,rfl⟩
 have e:(BG s (Ax s.vers+Ba s.vers[0].data)).vers.length=s.vers.length:=by simp[BG]
 rw[e]
 have hlen:s.vers.length<(FJ ((BG s (Ax s.vers+Ba s.vers[0].data)).vers++[GQ (C4 s s.vers[0]).id 0]) s.vers.length (C4 s s.vers[0])).length:=by rw[Js];simp[e]
 rw[PQ hlen]
 exact⟨_,List.getElem?_set_self hlen,rfl⟩
theorem Ld:∀(l m:List AS) (a:Int),BP (l++m) a=BP l a++BP m (a+Ax l)
 | [],m,a=>by simp[BP,Ax]
 |v::t,m,a=>by simp[BP,Ax,Ld t m,Int.add_assoc]
theorem Le:∀l m:List AS,Ax (l++m)=Ax l+Ax m
 | [],m=>by simp[Ax]
 |v::t,m=>by simp[Ax,Le t m,Int.add_assoc]
def Ew (l:List AS) (k:Nat):List AS:=BP (l.take k) 0++l.drop k
theorem Jt (l:List AS) (k:Nat):(Ew l k).length=l.length:=by simp[Ew];omega
theorem Vk (l:List AS):Ew l 0=l:=by simp[Ew,BP]
theorem Re (l:List AS):Ew l l.length=BP l 0:=by simp[Ew]
theorem Tj {l:List AS} {k:Nat} (h:k<l.length):(Ew l k)[k]'(by rw[Jt];exact h)=l[k]:=by
 simp only[Ew]
 rw[List.getElem_append_right (by simp;omega)]
 have:k-(BP (l.take k) 0).length=0:=by simp;omega
 simp[this]
 congr 1;omega
theorem PX {l:List AS} {k:Nat} (h:k<l.length):(Ew l k).set k {l[k] with at_:=Ax (l.take k)}=Ew l (k+1):=by
 have hlen:(BP (l.take k) 0).length=k:=by simp;omega
 have e1:Ew l k=BP (l.take k) 0++l[k]::l.drop (k+1):=by rw[Ew,List.drop_eq_getElem_cons h]
 rw[e1,List.set_append_right _ _ (by omega),hlen,Nat.sub_self,List.set_cons_zero,Ew,List.take_succ_eq_append_getElem h,Ld]
 simp[BP]
theorem OI {l:List AS} {k:Nat} (h:k<l.length):Ax (l.take (k+1))=Ax (l.take k)+Ba l[k].data:=by
 rw[List.take_succ_eq_append_getElem h,Le];simp[Ax]
end Go.Abs
