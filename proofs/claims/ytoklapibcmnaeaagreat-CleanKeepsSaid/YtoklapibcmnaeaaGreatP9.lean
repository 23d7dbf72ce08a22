/- An object's graph. -/
import Derived.Test.YtoklapibcmnaeaaGreatP8
set_option linter.unusedVariables false
set_option linter.unusedSimpArgs false
set_option maxRecDepth 100000
namespace Go.Abs
open Go.Proofs
theorem AW.seqW {C:Bn} {P:Program} {T:Nat->Option TI} {p:Nat} {x y:Code} {F:Fr} {M:List Ag} {Q:Cn} (tk:BI P T) (hC:C.P=P) (hp:C.p<=p) (hb:CY C.n x=true) (h:W P T p x F M (DN (fun F M=>AW C y F M Q) Q)):AW C (.seq x y) F M Q:=
 AW.seq (h tk C hC hp hb)
theorem H8:A3 AI:=by
 simp[A3,AI,C8]
theorem Qe (l:List Obj):∀(k:Nat) (id:Int) (i:Nat) (h:i+1<(AQ l k id).length),((AQ l k id)[i]'(by omega)).base≠0
 |0,id,i,h=>by simp[AQ] at h
 |k+1,id,i,h=>by
  by_cases h0:id=0
  .simp[AQ,h0] at h
  .cases hf:A7 l id with
   |none=>simp[AQ,h0,hf] at h
   |some o=>
    simp only[AQ,h0,hf,if_false] at h |-
    cases i with
    |zero=>
     simp only[List.getElem_cons_zero]
     intro e
     rw[e] at h
     have:(AQ l k 0).length=0:=by cases k<;>simp[AQ]
     simp[this] at h
    |succ i=>
     simp only[List.getElem_cons_succ]
     exact Qe l k o.base i (by simpa using h)
theorem RE (l:List Obj):∀(k:Nat) (id:Int),∀o∈AQ l k id,o∈l
 |0,id,o,h=>by simp[AQ] at h
 |k+1,id,o,h=>by
  by_cases h0:id=0
  .simp[AQ,h0] at h
  .cases hf:A7 l id with
   |none=>simp[AQ,h0,hf] at h
   |some q=>
    simp only[AQ,h0,hf,if_false] at h
    rcases List.mem_cons.1 h with rfl|h
    .exact D9 hf
    .exact RE l k q.base o h
theorem Ox {rf:List Bool->Option Gr} {rd:Gr->List Bool->Option Gr} {ws:List Obj} (hb:∀i (h:i+1<ws.length),(ws[i]'(by omega)).base≠0):∀i,i<ws.length->C9 rf rd (ws.drop i)=none->C9 rf rd ws=none
 |0,_,h=>by simpa using h
 |i+1,hi,h=>by
  refine Ox hb i (by omega) ?_
  rw[List.drop_eq_getElem_cons (by omega:i<ws.length)]
  simp only[C9,hb i hi,if_false,h]
theorem Hg {bs:List Bool} {rd:Rd} {g:Gr} (h:CK bs rd=some g):A3 g:=by
 unfold CK at h
 split at h
 .simp at h
 .split at h
  .split at h
   .simp at h
   .split at h
    .rename_i hm
     simp at h;subst h;exact hm.2
    .simp at h
  .simp at h
theorem UQ {b:Dh} (h:Di b) (hs:b.data.size<1000000000):DH b:=by
 have h1:=h.1;have h2:=h.2.1;have h3:=h.2.2.1
 refine⟨h1,?_,hs⟩
 omega
theorem WA {C:Bn} (hC:C.P=pg) {ops:Array Oper} {Q:Exit->Act->World->Prop} {a:Act} {w:World} {d t ty:Nat} {pos:String} {af:Array Edge} {ats:Array TypeId} {rest:List Oper} {x:Value} (h0:a.tmps.getD t undef=x)
 (h:wpListIn (FX C) 0 C.P ops Q rest (a.put (some d) (.func (.func 195) #[] #[.pointer (some ⟨w.heap.size,0,none⟩)])) (w.alloc (.cells x.cells 65))):
 wpListIn (FX C) 0 C.P ops Q ({dst:=some d,op:= .call {callee:= .value (.func 162),args:= #[.tmp t],argTypes:=ats},type:=ty,pos:=pos,after:=af,guard:=none}::rest) a w:=by
 simp only[wpListIn]
 rw[if_pos (by simp[Region.wanted])]
 refine⟨fun _ _=>trivial,?_⟩
 have e0:a.eval (.tmp t)=x:=h0
 have ef:a.eval (.func 162)= .func (.func 162) #[] #[]:=rfl
 have hfn:C.P.funcs[(162:Nat)]?=some Tryz.f162:=by rw[hC];rfl
 have hb:¬(Tryz.f162.body=none):=by intro e;cases e
 have hnm:¬(Tryz.f162.name= "runtime.NumGoroutine"):=by simp[Tryz.f162]
 have e:Sem.run C.P (execOp a.eval {dst:=some d,op:= .call {callee:= .value (.func 162),args:= #[.tmp t],argTypes:=ats},type:=ty,pos:=pos,after:=af,guard:=none}) w= .ok (.enter 162 #[x]) w:=by
  simp[execOp,resolve,ef,e0,Deferred.ofValue,invoke,callFunc,hfn,hb,hnm]
 rw[Oper.semAt_eq _ _ _ (by intro c h;cases h),e]
 refine⟨fun h=>absurd h (by simp[FX,Fence.wide]),(callsIn_wide (n:=0-1)).2 ?_⟩
 rw[hC]
 refine(SV w x).mono ?_
 rintro e w' ⟨rfl,rfl⟩
 rw[hC] at h
 exact h
theorem SW (xs:List Obj) (id:Int) (hx:En xs) (hm:Ca xs):Aa pg 126 [.ro xs.length (Ac As xs),.int .i64 id] [] (fun r _=>r= .tup [.agg (Ba true (AP xs id).1),.int .i64 (AP xs id).2]):=by
 have hx1:=hx.1
 have hb:∀o∈xs,o.base=0\/∃q∈xs,q.id=o.base:=fun o ho=>(hm.2.1 o ho).2.2.2.2
 refine Aa.enterA (fn:=Tryz.f126) tk rfl rfl rfl (Nat.le_of_ble_eq_true rfl) (by kernel_rfl) ?_
 intro C hC hp hn hrd hdf
 have hp0:C.p<=0:=Nat.le_of_eq hp
 have hn48:C.n=48:=hn
 show AW C _ _ _ (Hd tT [.cell 4 51,.cell 5 44] 0 _)
 rw[At]
 refine AW.seqW tk hC hp0 (by rw[hn48];kernel_rfl) ?_
 refine z2 ?_;intro K hK;refine zk ?_;clear hK K
 refine AW.seqW tk hC hp0 (by rw[hn48];kernel_rfl) ?_
 refine z0 ?_;intro K hK
 refine Ab.eq (UO xs id hx hb) (by simp) (by simp) ?_
 refine zx ?_
 refine zk ?_;clear hK K
 by_cases hd:(AE xs id).2=0
 .refine Af hd ?_;intro K hK
  refine zk ?_;clear hK K
  refine zn ?_
  refine W.skip ?_
  refine AW.seqW tk hC hp0 (by rw[hn48];kernel_rfl) ?_
  refine z1 ?_;intro K hK
  refine zk ?_;clear hK K
  have Bw:id=0\/∃q∈xs,q.id=id:=by
   right
   cases hf:A7 xs id with
   |none=>simp[AE,hf] at hd
   |some o=>obtain⟨k,hlt,_,hko,hoi⟩:=ED hf;exact⟨o,D9 hf,hoi⟩
  obtain⟨ws,hWay,hbase,hmem,hwl,hofO⟩:∃ws:List Obj,(Aa pg 163 [.ro xs.length (Ac As xs),.int .i64 id,.int .i64 3] [] (fun r _=>r= .own 4 ws.length (Ac As ws)))/\(∀i (h:i+1<ws.length),(ws[i]'(by omega)).base≠0)/\(∀o∈ws,o∈xs)/\ws.length<=3/\
   AP xs id=(match C9 BD BK ws with|some g=>(g,0) |none=>(AI,9)):=by
   refine⟨AQ xs 3 id,SU xs id 3 hx (by omega) hb Bw,Qe xs 3 id,RE xs 3 id,IF xs 3 id,?_⟩
   unfold AP
   rw[if_neg (by simpa using hd)]
   cases C9 BD BK (AQ xs 3 id)<;>rfl
  generalize hQ:(fun(r:AV) (x:List Ag)=>r=AV.tup [AV.agg (Ba true (AP xs id).1),AV.int .i64 (AP xs id).2])=Q
  show AW C _ _ _ _
  intro a w hr
  refine wpIn_seq (wpIn_seq (wpIn_region_lit ?_))
  obtain⟨S,hS⟩:∃S:List (Nat×AV),S=[(4,.ptr 0 0 0),(5,.ptr 1 0 0),(8,.ptr 2 0 0),(24,.tok 3 0 4 0 ws.length)]:=⟨_,rfl⟩
  let MM:Gr->List Ag:=fun g=> [.live 0 [.int .i64 0,.own 1 0 []],.live 0 [.int .i64 0],.live 0 [.int .i64 g.n,.tok 4 0 1 0 g.out.length],.live 0 (Ac As ws),.live 0 (AA true g.out)]
  refine(FI (hC ▸ tk) (K:=fun F' M' =>Wk 0 F' M' (fr S) (MM AI)) ?_ [_,_,_] 3 _ _ a w ?_ ?_ ?_ hr:wpListIn _ _ _ _ _ ([_,_,_]++[_]) a w)
  rotate_left
  .rw[hn48];kernel_rfl
  .rw[hn48];kernel_rfl
  .refine D4 (call:=Ab pg) (call' :=DG C) (fun f args M K K' hk hc=>(hc C hC).mono hk) (fun _ _ h=>h) _ _ _ _ ?_
   simp -implicitDefEqProofs (maxSteps:=999999) (disch:=omega)
   refine Ab.eq hWay (by simp) (by simp) ?_
   refine zx ?_
   refine Wk.trans (Wk.fr (S:=S) (by rw[hS];simp[Ad])) ?_
   refine Wk.trans (Wk.thaw (B:=2) (v:=0) (j:=1) (s:=1) (n:=0) (cs:=[.int .i64 0,.own 1 0 []]) (xs:=[]) rfl rfl) ?_
   exact fun C _=>CD.refl _ _ _
  clear hr a w
  intro F' M' a w hwk hr
  obtain⟨σ,own,R⟩:=hwk C hp0 a w hr
  clear hr hwk
  have e24:a.eval (.tmp 24)=a.tmps.getD 24 undef:=rfl
  generalize hx24:a.tmps.getD 24 undef=x at*
  have hvx:VR w C.sh σ (.tok 3 0 4 0 ws.length) x (fun _=>0):=by
   have:=R.tmp 24 (by omega)
   rw[hx24,hS] at this
   simpa using this
  have hxc:x.cells= #[x]:=by
   simp only[VR] at hvx
   obtain⟨_,⟨a,c,rfl⟩,_⟩:=hvx
   rfl
  refine WA hC hx24 (wpListIn_nil ?_)
  have R2:=(R.allocO (.cells x.cells 65)).put (some 25) (av:= .any) (v:= .func (.func 195) #[] #[.pointer (some ⟨w.heap.size,0,none⟩)]) (fun _=>rfl)
  have e25:(a.put (some 25) (.func (.func 195) #[] #[.pointer (some ⟨w.heap.size,0,none⟩)])).eval (.tmp 25)= .func (.func 195) #[] #[.pointer (some ⟨w.heap.size,0,none⟩)]:=EN (by rw[R.size,hn48];decide)
  have e24:(a.put (some 25) (.func (.func 195) #[] #[.pointer (some ⟨w.heap.size,0,none⟩)])).tmps.getD 24 undef=x:=by rw[BA (by decide)];exact hx24
  have eF:Al (fr S) (some 25) .any=fr S:=by
   funext t
   simp only[Wi]
   split
   .rename_i e;subst e;rw[hS];rfl
   .rfl
  rw[eF] at R2
  obtain⟨hh,hhe⟩:∃hh,hh=w.heap.size:=⟨_,rfl⟩
  rw[<-hhe] at R2 e25 e24 |-
  have hcell:(w.alloc (.cells x.cells 65)).heap[hh]?=some (.cells x.cells 65):=by rw[hhe];exact World.alloc_heap_new w _
  generalize hw2:w.alloc (.cells x.cells 65)=w2 at*
  generalize ha2:a.put (some 25) (.func (.func 195) #[] #[.pointer (some ⟨hh,0,none⟩)])=a2 at*
  have hcf:∀args w,(callFunc 195 args).run C.P w= .ok (.enter 195 args) w:=by
   intro args w
   have hfn:C.P.funcs[(195:Nat)]?=some Tryz.f195:=by rw[hC];rfl
   have hb:¬(Tryz.f195.body=none):=by intro e;cases e
   have hnm:¬(Tryz.f195.name= "runtime.NumGoroutine"):=by simp[Tryz.f195]
   simp[callFunc,hfn,hb,hnm]
  have hsz2:hh<w2.heap.size:=(Array.getElem?_eq_some_iff.1 hcell).1
  have hseq:=Wz hh ws (by omega)
  rw[<-hC] at hseq
  show Code.wpIn _ _ _ _ _ _ _
  refine Wm (T:=tT) (hC ▸ tk) hrd hdf R2 e25 hcf hseq (va:=fun k=> .int .i64 ((ws.length:Int)-1-k)) (vb:=fun k=> .agg (As (ws.getD (ws.length-1-k) ⟨0,0,⟨⟨#[]⟩,0⟩⟩))) (fun k=>⟨_,_,rfl,fun w σ=>⟨⟨rfl,fun _=>rfl⟩,Y8 w _ σ _⟩⟩) (h:=hh) ?_ hsz2 (by rw[hhe];exact R.ext.size)
   (fun k M' =>∃g,C9 BD BK (ws.drop (ws.length-k))=some g/\A3 g/\M' =MM g) ⟨AI,by simp[C9],H8,rfl⟩ ?_ ?_ ?_ ?_ ?_ ?_
  .rw[if_neg (by omega)]
  .
   rintro k W M' σ' own' R' hW ⟨g,_,_,rfl⟩
   rw[hcell,hxc] at hW
   have hltW:hh<W.heap.size:=(Array.getElem?_eq_some_iff.1 hW).1
   have hv:=R'.tmp 24 (by omega)
   rw[e24,hS] at hv
   have hv2:=Si (shB:=fun g=>C.sh g\/(own' g≠none/\g<W.heap.size)\/(g=hh/\g<W.heap.size)) R'.mem (fun g h=> .inl h) (fun g h1 h2=> .inr (.inl ⟨h1,h2⟩)) hv
   have ev:vw (MM g) ((fr [(4,AV.ptr 0 0 0),(5,AV.ptr 1 0 0),(8,AV.ptr 2 0 0),(24,AV.tok 3 0 4 0 ws.length)]) 24)= .ro ws.length (Ac As ws):=by simp[MM,vw]
   rw[ev] at hv2
   refine⟨_,fun g hg=>?_,fun _=>rfl,⟨hh,0,none⟩,[x],rfl,.inr ⟨.inr (.inr ⟨rfl,hltW⟩),?_,x,[],_,_,rfl,hv2,⟨rfl,fun _=>rfl⟩,fun _=>rfl⟩⟩
   .rcases hg with h|h|h
    .exact(R'.shr g h).2
    .exact h.2
    .exact h.2
   .intro i v hi
    rw[BG,DZ hW]
    cases i with
    |zero=>simpa using hi
    |succ i=>simp at hi
  .rw[hn48];kernel_rfl
  .rw[hn48];kernel_rfl
  .rw[hn48];kernel_rfl
  .
   rintro k M' hk ⟨g,hg,hmay,rfl⟩
   rw[hC]
   obtain⟨i,hi⟩:∃i,i=ws.length-1-k:=⟨_,rfl⟩
   have hlt:i<ws.length:=by omega
   have eo:ws.getD (ws.length-1-k) ⟨0,0,⟨⟨#[]⟩,0⟩⟩=ws[i]:=by rw[<-hi];simp[List.getD,hlt]
   simp only[eo]
   have hdr:ws.drop (ws.length-(k+1))=ws[i]::ws.drop (ws.length-k):=by
    rw[show ws.length-(k+1)=i by omega,show ws.length-k=i+1 by omega]
    exact List.drop_eq_getElem_cons hlt
   have hbits:=UQ (hm.2.1 _ (hmem _ (List.getElem_mem hlt))).2.2.1 (hx.2 _ (hmem _ (List.getElem_mem hlt)))
   have hwn:C9 BD BK (ws.drop (ws.length-(k+1)))=none->C9 BD BK ws=none:=Ox hbase _ (by omega)
   rw[hdr] at hwn |-
   generalize ws[i]=o at*
   subst hS
   show W pg tT 5 _ _ _ _
   simp only[MM]
   refine z1 ?_;intro K hK
   refine zk ?_;clear hK K
   refine⟨rfl,?_⟩
   show W pg tT 6 _ _ _ _
   refine zb ?_
   refine zs ?_
   by_cases hb0:o.base=0
   .refine Af hb0 ?_;intro K hK
    refine zk ?_;clear hK K
    refine zt ?_
    refine z0 ?_;intro K hK
    have sp:=Y5 o.data hbits
    cases hf:BD (Aq o.data) with
    |none=>
     simp only[hf,Ou] at sp
     refine Ab.bor sp (by simp) ?_
     rintro _ ⟨g0,rfl⟩
     refine⟨by simp,?_⟩
     refine zx ?_
     refine zk ?_;clear hK K
     refine zs ?_
     refine zt ?_
     refine zs ?_
     refine W.ret (.inr ⟨rfl,fr [(4,.ptr 0 0 0),(5,.ptr 1 0 0)],[.live 0 [.int .i64 0,.tok 2 0 1 0 0],.live 0 [.int .i64 9],.live 0 []],?_,?_⟩)
     .refine Wk.trans (Wk.cutM (k:=2) (S:=[(4,.ptr 0 0 0),(5,.ptr 1 0 0)]) (M:=[.live 0 [.int .i64 0,.own 1 0 []],.live 0 [.int .i64 9]]) (by simp[Ad]) (by simp) (by simp) (by simp) (by simp) (by omega)) ?_
      refine Wk.trans (Wk.thaw (B:=0) (v:=0) (j:=1) (s:=1) (n:=0) (cs:=[.int .i64 0,.own 1 0 []]) (xs:=[]) rfl rfl) ?_
      exact fun C _=>CD.refl _ _ _
     .simp only[C0]
      refine CR (d:=0) ?_
      rw[<-hQ,hofO,hwn (by simp[C9,hb0,hf])]
      simp -implicitDefEqProofs (maxSteps:=999999) (disch:=omega)
      exact⟨rfl,rfl,rfl⟩
    |some g' =>
     simp only[hf,Ou] at sp
     refine Ab.eq sp (by simp) (by simp) ?_
     refine zx ?_
     refine zk ?_;clear hK K
     refine zs ?_
     refine zn ?_
     refine W.skip ?_
     refine .inl ⟨rfl,MM g',?_,g',by simp[C9,hb0,hf],Hg hf,rfl⟩
     refine Wk.trans (Wk.intern (B:=2) (v:=0) (j:=1) (T:=6) (u:=0) (s:=1) (off:=0) (n:=g'.out.length) (cs:=[.int .i64 g'.n,.tok 6 0 1 0 g'.out.length]) (xs:=AA true g'.out) rfl rfl rfl (by decide) (by simp) (by simp)) ?_
     refine Wk.trans (Wk.cutM (k:=4) (S:=[(4,.ptr 0 0 0),(5,.ptr 1 0 0),(8,.ptr 2 0 0),(24,.tok 3 0 4 0 ws.length)]) (M:=[.live 0 [.int .i64 0,.own 1 0 []],.live 0 [.int .i64 0],.live 0 [.int .i64 g'.n,.own 1 g'.out.length (AA true g'.out)],.live 0 (Ac As ws)]) (by simp[Ad]) (by simp) (by simp) (by simp) (by simp) (by omega)) ?_
     refine Wk.trans (Wk.thaw (B:=2) (v:=0) (j:=1) (s:=1) (n:=g'.out.length) (cs:=[.int .i64 g'.n,.own 1 g'.out.length (AA true g'.out)]) (xs:=AA true g'.out) rfl rfl) ?_
     exact fun C _=>CD.refl _ _ _
   .refine Af hb0 ?_;intro K hK
    refine zk ?_;clear hK K
    refine zn ?_
    refine z0 ?_;intro K hK
    have sp:=Y6 o.data g hbits hmay
    cases hf:BK g (Aq o.data) with
    |none=>
     simp only[hf,Ou] at sp
     refine Ab.bor sp (by simp) ?_
     rintro _ ⟨g0,rfl⟩
     refine⟨by simp,?_⟩
     refine zx ?_
     refine zk ?_;clear hK K
     refine zs ?_
     refine zt ?_
     refine zs ?_
     refine W.ret (.inr ⟨rfl,fr [(4,.ptr 0 0 0),(5,.ptr 1 0 0)],[.live 0 [.int .i64 0,.tok 2 0 1 0 0],.live 0 [.int .i64 9],.live 0 []],?_,?_⟩)
     .refine Wk.trans (Wk.cutM (k:=2) (S:=[(4,.ptr 0 0 0),(5,.ptr 1 0 0)]) (M:=[.live 0 [.int .i64 0,.own 1 0 []],.live 0 [.int .i64 9]]) (by simp[Ad]) (by simp) (by simp) (by simp) (by simp) (by omega)) ?_
      refine Wk.trans (Wk.thaw (B:=0) (v:=0) (j:=1) (s:=1) (n:=0) (cs:=[.int .i64 0,.own 1 0 []]) (xs:=[]) rfl rfl) ?_
      exact fun C _=>CD.refl _ _ _
     .simp only[C0]
      refine CR (d:=0) ?_
      rw[<-hQ,hofO,hwn (by simp[C9,hb0,hg,hf])]
      simp -implicitDefEqProofs (maxSteps:=999999) (disch:=omega)
      exact⟨rfl,rfl,rfl⟩
    |some g' =>
     simp only[hf,Ou] at sp
     refine Ab.eq sp (by simp) (by simp) ?_
     refine zx ?_
     refine zk ?_;clear hK K
     refine zs ?_
     refine zn ?_
     refine W.skip ?_
     refine .inl ⟨rfl,MM g',?_,g',by simp[C9,hb0,hg,hf],Hg hf,rfl⟩
     refine Wk.trans (Wk.intern (B:=2) (v:=0) (j:=1) (T:=6) (u:=0) (s:=1) (off:=0) (n:=g'.out.length) (cs:=[.int .i64 g'.n,.tok 6 0 1 0 g'.out.length]) (xs:=AA true g'.out) rfl rfl rfl (by decide) (by simp) (by simp)) ?_
     refine Wk.trans (Wk.cutM (k:=4) (S:=[(4,.ptr 0 0 0),(5,.ptr 1 0 0),(8,.ptr 2 0 0),(24,.tok 3 0 4 0 ws.length)]) (M:=[.live 0 [.int .i64 0,.own 1 0 []],.live 0 [.int .i64 0],.live 0 [.int .i64 g'.n,.own 1 g'.out.length (AA true g'.out)],.live 0 (Ac As ws)]) (by simp[Ad]) (by simp) (by simp) (by simp) (by simp) (by omega)) ?_
     refine Wk.trans (Wk.thaw (B:=2) (v:=0) (j:=1) (s:=1) (n:=g'.out.length) (cs:=[.int .i64 g'.n,.own 1 g'.out.length (AA true g'.out)]) (xs:=AA true g'.out) rfl rfl) ?_
     exact fun C _=>CD.refl _ _ _
  .
   rintro M' ⟨g,hg,hmay,rfl⟩
   rw[hC]
   subst hS
   show W pg tT 5 _ _ _ _
   simp only[MM]
   refine z0 ?_;intro K hK
   refine zk ?_;clear hK K
   refine W.ret ⟨rfl,?_⟩
   simp only[C0]
   refine CR (d:=0) ?_
   have hg' :C9 BD BK ws=some g:=by simpa using hg
   rw[<-hQ,hofO,hg']
   simp -implicitDefEqProofs (maxSteps:=999999) (disch:=omega)
 .refine Af hd ?_;intro K hK
  refine zk ?_;clear hK K
  refine zt ?_
  refine zs ?_
  refine W.weak (Wk.thaw (B:=0) (v:=0) (j:=1) (s:=1) (n:=0) (cs:=[.int .i64 0,.own 1 0 []]) (xs:=[]) rfl rfl) ?_
  refine zr ?_
  simp[AP,hd,AI]
theorem RF (k:Int):Aa pg 249 [.int .i64 k] [] (fun r _=>r= .bool (named k)):=by
 refine Aa.start (fn:=Tryz.f249) [.tmp 2] tk rfl rfl rfl (by kernel_rfl) (Nat.le_of_ble_eq_true rfl) rfl (by kernel_rfl) ?_
 rw[Ay]
 refine zs ?_
 by_cases h1:k=1
 .refine Af h1 ?_;intro K hK
  refine zk ?_;clear hK K
  refine zr ?_
  simp[named,h1]
 .by_cases h2:k=2
  .refine Af (an h1 h2) ?_;intro K hK
   refine zk ?_;clear hK K
   refine zr ?_
   simp[named,h2]
  .refine Af (an h1 h2) ?_;intro K hK
   refine zk ?_;clear hK K
   refine zr ?_
   simp[named,h1,h2]
theorem Za (g:Gr) (k a:Int) (hg:FL g) (hm:A3 g):Aa pg 237 [.agg (Ba false g),.int .i64 k,.int .i64 a] [] (fun r _=>r= .int .i64 (DK g k a)):=by
 refine Aa.start (fn:=Tryz.f237) [.tmp 6] tk rfl rfl rfl (by kernel_rfl) (Nat.le_of_ble_eq_true rfl) rfl (by kernel_rfl) ?_
 rw[Bl]
 refine z1 ?_;intro K hK;refine zk ?_;clear hK K
 refine zb ?_
 have hM:=MN g hg
 rw[decide_eq_true hm] at hM
 by_cases h1:k<1
 .refine Af h1 ?_;intro K hK
  refine Ab.eq hM (by simp) (by simp) ?_
  refine AX h1 ?_
  refine zk ?_;clear hK K
  refine zt ?_
  refine zs ?_
  refine zr ?_
  rw[DK,if_pos (by omega)]
 .by_cases h2:k<=6
  .refine Af (an h1 h2) ?_;intro K hK
   refine Ab.eq hM (by simp) (by simp) ?_
   refine AX (an h1 h2) ?_
   refine zk ?_;clear hK K
   refine zn ?_
   refine z0 ?_;intro K hK
   refine Ab.eq (RF k) (by simp) (by simp) ?_
   cases hn:named k
   .refine zx ?_
    refine zk ?_;clear hK K
    refine zn ?_
    refine W.skip ?_
    refine zs ?_
    refine zr ?_
    rw[DK,if_neg (by omega),if_neg (by simp[hn])]
   .refine zx ?_
    refine Ab.eq (WW g a) (by simp) (by simp) ?_
    by_cases h3:0<=a/\a<g.n
    .rw[decide_eq_true h3]
     refine zx ?_
     refine zk ?_;clear hK K
     refine zn ?_
     refine W.skip ?_
     refine zs ?_
     refine zr ?_
     rw[DK,if_neg (by omega),if_neg (by simp[h3])]
    .rw[decide_eq_false h3]
     refine zx ?_
     refine zk ?_;clear hK K
     refine zt ?_
     refine zs ?_
     refine zr ?_
     rw[DK,if_neg (by omega),if_pos ⟨hn,h3⟩]
  .refine Af (an h1 h2) ?_;intro K hK
   refine Ab.eq hM (by simp) (by simp) ?_
   refine AX (an h1 h2) ?_
   refine zk ?_;clear hK K
   refine zt ?_
   refine zs ?_
   refine zr ?_
   rw[DK,if_pos (by omega)]
theorem Qf (g:Gr) (j:Cu) (hl:j.list.length<1000000000000):Aa pg 194 [.agg (Ba false g),.agg (B4 false j)] [] (fun r _=>r= .bool (BY g j)):=by
 refine Aa.start (fn:=Tryz.f194) [.tmp 4] tk rfl rfl rfl (by kernel_rfl) (Nat.le_of_ble_eq_true rfl) rfl (by kernel_rfl) ?_
 rw[At]
 refine z2 ?_;intro K hK;refine zk ?_;clear hK K
 refine zs ?_
 refine zb ?_
 refine zs ?_
 refine zc ?_ ?_<;>intro h
 .refine zs ?_
  refine zr ?_
  simp[BY,h]
 .have h1:=h;clear h
  refine zs ?_
  refine zc ?_ ?_<;>intro h
  .refine zs ?_
   refine zr ?_
   simp[BY,h]
  .refine W.skip ?_
   refine zs ?_
   refine zr ?_
   simp[BY, *]
theorem UR (a b:Cu) (ha:a.list.length<1000000000000/\a.out.length<1000000000000):Aa pg 218 [.agg (B4 false a),.agg (B4 false b)] [] (fun r _=>r= .bool (decide (a=b))):=by
 have e0:(a=b)↔a.kind=b.kind/\a.a=b.a/\a.at_=b.at_/\a.move=b.move/\a.list=b.list/\a.out=b.out:=Cu.ext_iff
 refine Aa.start (fn:=Tryz.f218) [.tmp 4] tk rfl rfl rfl (by kernel_rfl) (Nat.le_of_ble_eq_true rfl) rfl (by kernel_rfl) ?_
 rw[At]
 refine z2 ?_;intro K hK;refine zk ?_;clear hK K
 by_cases h1:a.kind=b.kind
 .by_cases h2:a.a=b.a
  .by_cases h3:a.at_=b.at_
   .by_cases h4:a.move=b.move
    .refine Af (an h1 (an h2 (an h3 h4))) ?_;intro K hK
     refine Ab.eq (IE a.list b.list (by omega)) (by simp) (by simp) ?_
     by_cases h5:a.list=b.list
     .rw[decide_eq_true h5]
      refine zx ?_
      refine Ab.eq (IE a.out b.out (by omega)) (by simp) (by simp) ?_
      refine zx ?_
      refine zk ?_;clear hK K
      refine zr ?_
      simp[e0,h1,h2,h3,h4,h5]
     .rw[decide_eq_false h5]
      refine zx ?_
      refine zk ?_;clear hK K
      refine zr ?_
      simp[e0,h5]
    .refine Af (an h1 (an h2 (an h3 h4))) ?_;intro K hK
     refine zk ?_;clear hK K
     refine zr ?_
     simp[e0,h4]
   .refine Af (an h1 (an h2 h3)) ?_;intro K hK
    refine zk ?_;clear hK K
    refine zr ?_
    simp[e0,h3]
  .refine Af (an h1 h2) ?_;intro K hK
   refine zk ?_;clear hK K
   refine zr ?_
   simp[e0,h2]
 .refine Af h1 ?_;intro K hK
  refine zk ?_;clear hK K
  refine zr ?_
  simp[e0,h1]
theorem Qg (g:Gr):Aa pg 190 [.agg (Ba false g)] [] (fun r _=>r= .bool (decide (g=AI))):=by
 have e0:(g=AI)↔g.n=0/\g.out=[]:=Gr.ext_iff
 refine Aa.start (fn:=Tryz.f190) [.tmp 2] tk rfl rfl rfl (by kernel_rfl) (Nat.le_of_ble_eq_true rfl) rfl (by kernel_rfl) ?_
 rw[Ay]
 refine z1 ?_;intro K hK;refine zk ?_;clear hK K
 by_cases h1:g.n=0
 .refine Af h1 ?_;intro K hK
  refine zk ?_;clear hK K
  refine zr ?_
  simp[e0,h1]
 .refine Af h1 ?_;intro K hK
  refine zk ?_;clear hK K
  refine zr ?_
  simp[e0,h1]
theorem Kz (j:Cu) (hj:j.list.length<1000000000000/\j.out.length<1000000000000):Aa pg 191 [.agg (B4 false j)] [] (fun r _=>r= .bool (decide (j=CS))):=by
 have e0:(j=CS)↔j.kind=0/\j.a=0/\j.at_=0/\j.move=false/\j.list=[]/\j.out=[]:=Cu.ext_iff
 refine Aa.start (fn:=Tryz.f191) [.tmp 2] tk rfl rfl rfl (by kernel_rfl) (Nat.le_of_ble_eq_true rfl) rfl (by kernel_rfl) ?_
 rw[Ay]
 refine z1 ?_;intro K hK;refine zk ?_;clear hK K
 by_cases h1:j.kind=0
 .by_cases h2:j.a=0
  .by_cases h3:j.at_=0
   .cases h4:j.move
    .refine Af (an h1 (an h2 (an h3 h4))) ?_;intro K hK
     refine zk ?_;clear hK K
     refine zr ?_
     simp[e0,h1,h2,h3,h4]
     rw[<-List.length_eq_zero_iff,<-List.length_eq_zero_iff]
     omega
    .refine Af (an h1 (an h2 (an h3 h4))) ?_;intro K hK
     refine zk ?_;clear hK K
     refine zr ?_
     simp[e0,h4]
   .refine Af (an h1 (an h2 h3)) ?_;intro K hK
    refine zk ?_;clear hK K
    refine zr ?_
    simp[e0,h3]
  .refine Af (an h1 h2) ?_;intro K hK
   refine zk ?_;clear hK K
   refine zr ?_
   simp[e0,h2]
 .refine Af h1 ?_;intro K hK
  refine zk ?_;clear hK K
  refine zr ?_
  simp[e0,h1]
def AS (s:An):Prop:=s.vers.length<1000000000/\s.sess.length<1000000000/\∀v∈s.vers,v.data.data.size<1000000000
theorem AS.objs {s:An} (h:AS s):En (Ai s):=by
 refine⟨by have:=h.1;simp[Ai];omega,fun o ho=>?_⟩
 simp only[Ai,List.mem_map] at ho
 obtain⟨v,hv,rfl⟩:=ho
 exact h.2.2 v hv
theorem MU (s:An) (hs:AS s):Aa pg 80 [.agg (Ao false s)] [] (fun r _=>r= .own 4 (Ai s).length (Ac As (Ai s))):=by
 have h1:=hs.1
 refine Aa.start (fn:=Tryz.f80) [.tmp 2] tk rfl rfl rfl (by kernel_rfl) (Nat.le_of_ble_eq_true rfl) rfl (by kernel_rfl) ?_
 rw[Ay]
 refine z1 ?_;intro K hK;refine zk ?_;clear hK K
 refine zs ?_
 (repeat refine W.seq ?_);refine W.block (W.loopS (fun k:Nat=> [(2,.tok 1 k 4 0 k),(6,FE false s.vers),(7,.int .i64 s.vers.length),(8,.int .i64 k)]) (fun k=> [.live 0 (Ao false s),.live k (Ac As ((Ai s).take k))]) (fun k=>s.vers.length-k) (fun k=>k<=s.vers.length) 0 ((Wk.nil (t:=2) (s:=4) ?_).trans (Wk.fr ?_)) (by simp) ?_)
 .simp
 .simp[Ad]
 .intro k hk
  refine zs ?_
  refine zc ?_ ?_<;>intro h
  .refine W.skip ?_
   have hlt:k<s.vers.length:=by omega
   have hto:(Ai s).take (k+1)=(Ai s).take k++[Bm s.vers[k]]:=by
    rw[List.take_add_one];simp[Ai,hlt]
   have hlo:k<=(Ai s).length:=by simp[Ai];omega
   refine zb ?_
   (repeat refine W.seq ?_);refine W.reg 1 rfl fun K hK=>?_;simp -implicitDefEqProofs (maxSteps:=999999) (disch:=omega) [hlt]
   refine zk ?_;clear hK K
   refine MG hlo ?_;intro K hK
   refine⟨by omega,by omega,?_⟩
   refine zk ?_;clear hK K
   refine zs ?_
   refine⟨k+1,by omega,by omega,Wk.cutM (k:=2) (by simp[Ad]) ?_ (by simp) (by simp) (by simp) (by simp)⟩
   rw[hto]
   simp[Ck,Ax,Bm]
  .refine W.exit ?_
   have hk' :k=s.vers.length:=by omega
   subst hk'
   have e:(Ai s).take s.vers.length=Ai s:=List.take_of_length_le (by simp[Ai])
   rw[e]
   refine zs ?_
   refine zr ?_
   rw[e]
   simp[Ai]
theorem ER (s:An) (hs:AS s):Aa pg 76 [.agg (Ao false s)] [] (fun r _=>r= .int .i64 (AN s.vers)):=by
 have h1:=hs.1
 refine Aa.start (fn:=Tryz.f76) [.tmp 2] tk rfl rfl rfl (by kernel_rfl) (Nat.le_of_ble_eq_true rfl) rfl (by kernel_rfl) ?_
 rw[Ay]
 refine z1 ?_;intro K hK;refine zk ?_;clear hK K
 refine zs ?_
 refine zc ?_ ?_<;>intro h
 .refine zs ?_
  refine zr ?_
  simp[AN,h]
 .refine W.skip ?_
  have hp:0<s.vers.length:=List.length_pos_iff.2 h
  have hlt:s.vers.length-1<s.vers.length:=by omega
  (repeat refine W.seq ?_);refine W.reg 0 rfl fun K hK=>?_;simp -implicitDefEqProofs (maxSteps:=999999) (disch:=omega) [hlt]
  refine⟨by omega,?_⟩
  refine zk ?_;clear hK K
  refine zr ?_
  rw[AN,List.getLast?_eq_getElem?,List.getElem?_eq_getElem hlt]
theorem WB (v:AM) (id:Int):Aa pg 124 ([.agg (Au v)]++[.rptr [.int .i64 id]]) [] (fun r _=>r= .bool (decide (v.id=id))):=by
 refine Aa.start (fn:=Tryz.f124) [.tmp 3] tk rfl rfl rfl (by kernel_rfl) (Nat.le_of_ble_eq_true rfl) rfl (by kernel_rfl) ?_
 simp only[List.cons_append,List.nil_append]
 rw[At]
 refine z1 ?_;intro K hK;refine zk ?_;clear hK K
 refine zs ?_
 exact zR
theorem Hi (s:An) (id:Int) (hs:AS s):Aa pg 82 [.agg (Ao false s),.int .i64 id] [] (fun r _=>r= .int .i64 (AL (fun v=>decide (v.id=id)) s.vers)):=by
 have h1:=hs.1
 refine Aa.start (fn:=Tryz.f82) [.tmp 4] tk rfl rfl rfl (by kernel_rfl) (Nat.le_of_ble_eq_true rfl) rfl (by kernel_rfl) ?_
 rw[At]
 refine z2 ?_;intro K hK;refine zk ?_;clear hK K
 refine z0 ?_;intro K hK
 refine Ab.eq (Jp s.vers 124 [.rptr [.int .i64 id]] (fun v=>decide (v.id=id)) (by omega) (fun v _=>WB v id) (by simp)) (by simp) (by simp) ?_
 refine zx ?_
 refine zk ?_;clear hK K
 exact zR
theorem Qh (b:Dh) (hb:b.data.size<1000000000):Aa pg 120 [.agg (CI b)] [] (fun r _=>r= .int .i64 (Cl b)):=by
 refine Aa.start (fn:=Tryz.f120) [.tmp 2] tk rfl rfl rfl (by kernel_rfl) (Nat.le_of_ble_eq_true rfl) rfl (by kernel_rfl) ?_
 rw[Ay]
 refine z1 ?_;intro K hK;refine zk ?_;clear hK K
 refine z0 ?_;intro K hK
 refine zk ?_;clear hK K
 refine zr ?_
 unfold Cl
 congr 1
 omega
theorem Qi (n:Int):Aa pg 160 [.int .i64 n] [] (fun r _=>r= .bool (decide (1<=n/\n<=100))):=by
 refine Aa.start (fn:=Tryz.f160) [.tmp 2] tk rfl rfl rfl (by kernel_rfl) (Nat.le_of_ble_eq_true rfl) rfl (by kernel_rfl) ?_
 rw[Ay]
 refine zs ?_
 by_cases h1:1<=n
 .refine Af h1 ?_;intro K hK
  refine zk ?_;clear hK K
  exact zR
 .refine Af h1 ?_;intro K hK
  refine zk ?_;clear hK K
  exact zR
theorem US (s:An) (id:Int) (hs:AS s) (hm:Ca (Ai s)) (Bw:id≠0):Aa pg 83 [.agg (Ao false s),.int .i64 id] [] (fun r _=>r= .agg (Ba true (AP (Ai s) id).1)):=by
 have h1:=hs.1
 refine Aa.start (fn:=Tryz.f83) [.cell 4 51] tk rfl rfl rfl (by kernel_rfl) (Nat.le_of_ble_eq_true rfl) rfl (by kernel_rfl) ?_
 rw[At]
 refine z2 ?_;intro K hK;refine zk ?_;clear hK K
 refine Af Bw ?_;intro K hK
 refine zk ?_;clear hK K
 refine zn ?_
 refine W.skip ?_
 refine z1 ?_;intro K hK
 refine Ab.eq (MU s hs) (by simp) (by simp) ?_
 refine zx ?_
 refine Ab.eq (SW (Ai s) id hs.objs hm) (by simp) (by simp) ?_
 refine zx ?_
 refine zk ?_;clear hK K
 refine zs ?_
 exact zR
def nh (x:Int×Int):List AV:=AC x
theorem Qj (s:An) (hs:AS s):Aa pg 79 [.agg (Ao false s)] [] (fun r _=>r= .own 2 (Av s).length (Ac AC (Av s))):=by
 have h1:=hs.1
 refine Aa.start (fn:=Tryz.f79) [.tmp 2] tk rfl rfl rfl (by kernel_rfl) (Nat.le_of_ble_eq_true rfl) rfl (by kernel_rfl) ?_
 rw[Ay]
 refine z1 ?_;intro K hK;refine zk ?_;clear hK K
 refine zs ?_
 (repeat refine W.seq ?_);refine W.block (W.loopS (fun k:Nat=> [(2,.tok 1 k 2 0 k),(6,FE false s.vers),(7,.int .i64 s.vers.length),(8,.int .i64 k)]) (fun k=> [.live 0 (Ao false s),.live k (Ac AC ((Av s).take k))]) (fun k=>s.vers.length-k) (fun k=>k<=s.vers.length) 0 ((Wk.nil (t:=2) (s:=2) ?_).trans (Wk.fr ?_)) (by simp) ?_)
 .simp
 .simp[Ad]
 .intro k hk
  refine zs ?_
  refine zc ?_ ?_<;>intro h
  .refine W.skip ?_
   have hlt:k<s.vers.length:=by omega
   have hto:(Av s).take (k+1)=(Av s).take k++[(s.vers[k].at_,Cl s.vers[k].data)]:=by
    rw[List.take_add_one];simp[Av,hlt]
   have hlo:k<=(Av s).length:=by simp[Av];omega
   have hB:=Qh s.vers[k].data (hs.2.2 _ (List.getElem_mem hlt))
   refine zb ?_
   (repeat refine W.seq ?_);refine W.reg 1 rfl fun K hK=>?_;simp -implicitDefEqProofs (maxSteps:=999999) (disch:=omega) [hlt]
   refine zk ?_;clear hK K
   (repeat refine W.seq ?_);refine W.regd 1 rfl true Cz (by kernel_rfl) fun K hK=>?_;simp -implicitDefEqProofs (maxSteps:=999999) (disch:=omega) [hlo]
   refine Ah.eq hB (by simp) (by simp) ?_
   refine AX hlo ?_
   refine⟨by omega,by omega,?_⟩
   refine zk ?_;clear hK K
   refine zs ?_
   refine⟨k+1,by omega,by omega,Wk.cutM (k:=2) (by simp[Ad]) ?_ (by simp) (by simp) (by simp) (by simp)⟩
   rw[hto]
   simp[Ck,Ax,AC]
  .refine W.exit ?_
   have hk' :k=s.vers.length:=by omega
   subst hk'
   have e:(Av s).take s.vers.length=Av s:=List.take_of_length_le (by simp[Av])
   rw[e]
   refine zs ?_
   refine zr ?_
   rw[e]
   simp[Av]
theorem KA (l:List AM):Cy l=false↔∀i (h:i<l.length),i=l.length-1->l[i].gone=false:=by
 rw[Cy,List.getLast?_eq_getElem?]
 by_cases h:0<l.length
 .rw[List.getElem?_eq_getElem (by omega)]
  constructor
  .intro g i hi e;subst e;exact g
  .intro g;exact g _ (by omega) rfl
 .rw[List.getElem?_eq_none (by omega)]
  simp
  intro i hi;omega
theorem Nq (s:An) (hs:AS s):Aa pg 154 [.agg (Ao false s)] [] (fun r _=>r= .bool (decide (GC s))):=by
 have h1:=hs.1
 refine Aa.start (fn:=Tryz.f154) [.tmp 2] tk rfl rfl rfl (by kernel_rfl) (Nat.le_of_ble_eq_true rfl) rfl (by kernel_rfl) ?_
 rw[Ay]
 refine z1 ?_;intro K hK;refine zk ?_;clear hK K
 by_cases c1:s.keep<1
 .refine Af c1 ?_;intro K hK
  refine zk ?_;clear hK K
  refine zt ?_
  refine zs ?_
  refine zr ?_
  intro g;have:=g.1;omega
 by_cases c2:s.keep<=8
 rotate_left
 .refine Af (an c1 c2) ?_;intro K hK
  refine zk ?_;clear hK K
  refine zt ?_
  refine zs ?_
  refine zr ?_
  intro g;have:=g.2.1;omega
 by_cases c3:s.blocks<1
 .refine Af (an c1 (an c2 c3)) ?_;intro K hK
  refine zk ?_;clear hK K
  refine zt ?_
  refine zs ?_
  refine zr ?_
  intro g;have:=g.2.2.1;omega
 by_cases c4:s.blocks<=100
 rotate_left
 .refine Af (an c1 (an c2 (an c3 c4))) ?_;intro K hK
  refine zk ?_;clear hK K
  refine zt ?_
  refine zs ?_
  refine zr ?_
  intro g;have:=g.2.2.2.1;omega
 refine Af (an c1 (an c2 (an c3 c4))) ?_;intro K hK
 refine zk ?_;clear hK K
 refine zn ?_
 refine W.skip ?_
 refine zs ?_
 (repeat refine W.seq ?_);refine W.block (W.loopS (fun k:Nat=> [(1,.ptr 0 0 0),(24,FE false s.vers),(25,.int .i64 s.vers.length),(26,.int .i64 k)]) (fun k=> [.live 0 (Ao false s)]) (fun k=>s.vers.length-k) (fun k=>k<=s.vers.length/\∀i (h:i<s.vers.length),i<k->Gh s.vers[i]/\(i=s.vers.length-1->s.vers[i].gone=false)) 0 (Wk.fr (by simp[Ad])) (by simp) ?_)
 rintro k ⟨hk,ht⟩
 refine zs ?_
 refine zc ?_ ?_<;>intro h
 .refine W.skip ?_
  have hlt:k<s.vers.length:=by omega
  have bad:¬(Gh s.vers[k]/\(k=s.vers.length-1->s.vers[k].gone=false))->¬GC s:=fun g w=>g ⟨w.2.2.2.2.1 _ (List.getElem_mem hlt),fun e=>(KA _).1 w.2.2.2.2.2.1 k hlt e⟩
  refine zb ?_
  (repeat refine W.seq ?_);refine W.reg 1 rfl fun K hK=>?_;simp -implicitDefEqProofs (maxSteps:=999999) (disch:=omega) [hlt]
  refine zk ?_;clear hK K
  have fail:¬(Gh s.vers[k]/\(k=s.vers.length-1->s.vers[k].gone=false))->¬GC s:=bad
  generalize hv:s.vers[k]=v at*
  by_cases d1:v.parent<0
  .refine Af d1 ?_;intro K hK
   refine zk ?_;clear hK K
   refine zt ?_
   refine zs ?_
   refine zr ?_
   exact bad fun g=>by have:=g.1.1;omega
  by_cases d2:v.parent<v.id
  rotate_left
  .refine Af (an d1 d2) ?_;intro K hK
   refine zk ?_;clear hK K
   refine zt ?_
   refine zs ?_
   refine zr ?_
   exact bad fun g=>d2 g.1.2.1
  cases d3:v.gone
  .cases d4:v.tag
   all_goals
    refine Af (an d1 (an d2 (an d3 d4))) ?_;intro K hK
    refine zk ?_;clear hK K
    refine zn ?_
    refine W.skip ?_
    refine zs ?_
    refine⟨k+1,by omega,⟨by omega,fun i hi hik=>?_⟩,Wk.cutM (k:=1) (by simp[Ad]) (by simp) (by simp) (by simp) (by simp) (by simp)⟩
    by_cases e:i=k
    .subst e;rw[hv];exact⟨⟨by omega,d2,by simp[d3]⟩,fun _=>d3⟩
    .exact ht i hi (by omega)
  .cases d4:v.tag
   .by_cases d5:k=s.vers.length-1
    .have d5' :(k:Int)=(s.vers.length:Int)-1:=by omega
     refine Af (an d1 (an d2 (an d3 (an d4 d5')))) ?_;intro K hK
     refine zk ?_;clear hK K
     refine zt ?_
     refine zs ?_
     refine zr ?_
     exact bad fun g=>by have:=g.2 d5;simp[d3] at this
    .have d5' :¬(k:Int)=(s.vers.length:Int)-1:=by omega
     refine Af (an d1 (an d2 (an d3 (an d4 d5')))) ?_;intro K hK
     refine zk ?_;clear hK K
     refine zn ?_
     refine W.skip ?_
     refine zs ?_
     refine⟨k+1,by omega,⟨by omega,fun i hi hik=>?_⟩,Wk.cutM (k:=1) (by simp[Ad]) (by simp) (by simp) (by simp) (by simp) (by simp)⟩
     by_cases e:i=k
     .subst e;rw[hv];exact⟨⟨by omega,d2,by simp[d4]⟩,fun e=>absurd e d5⟩
     .exact ht i hi (by omega)
   .refine Af (an d1 (an d2 (an d3 d4))) ?_;intro K hK
    refine zk ?_;clear hK K
    refine zt ?_
    refine zs ?_
    refine zr ?_
    exact bad fun g=>g.1.2.2 ⟨d4,d3⟩
 .refine W.exit ?_
  have hk' :k=s.vers.length:=by omega
  refine z0 ?_;intro K hK
  refine Ab.eq (MU s hs) (by simp) (by simp) ?_
  refine zx ?_
  refine Ab.eq (UN (Ai s) hs.objs) (by simp) (by simp) ?_
  refine zx ?_
  refine zk ?_;clear hK K
  refine zr ?_
  constructor
  .intro hm
   exact⟨by omega,c2,by omega,c4,fun v hv=>by
    obtain⟨i,hi,rfl⟩:=List.mem_iff_getElem.1 hv
    exact(ht i hi (by omega)).1,(KA _).2 fun i hi e=>(ht i hi (by omega)).2 e,hm⟩
  .intro w;exact w.2.2.2.2.2.2
def AO (xs:List Bool):List AV:=xs.map AV.bool
section
variable (xs ys:List Bool) (M:List Ag) (k:Nat)
@[simp] theorem cL (i:Nat):(AO xs)[i]?=(xs[i]?).map AV.bool:=by simp[AO]
@[simp] theorem cN:(AO xs).length=xs.length:=by simp[AO]
@[simp] theorem cO:AO []=[]:=rfl
@[simp] theorem bN:(AO xs).take k=AO (xs.take k):=by simp[AO,List.map_take]
@[simp] theorem bO:(AO xs).drop k=AO (xs.drop k):=by simp[AO,List.map_drop]
@[simp] theorem fi:EY (AO xs)=true:=by simp[AO,EY,-IB]
@[simp] theorem fj:EZ (AO xs)=true:=by simp[AO,EZ,-Km]
@[simp] theorem fm:DX (AO xs)=true:=by simp[AO,DX,-IC]
@[simp] theorem fo:Dg k (AO xs)=true:=by induction xs<;>simp_all[AO]
@[simp] theorem cP:C4 (AO xs)=true:=by induction xs<;>simp_all[AO]
@[simp] theorem cQ:EX (AO xs)=AO xs:=by induction xs<;>simp_all[AO]
@[simp] theorem cR:(AO xs).map Et=AO xs:=by simp[AO]
@[simp] theorem cS:(AO xs).map (CG M k)=AO xs:=by cases k<;>simp[AO]
theorem FY (i:Nat) (b:Bool):(AO xs).set i (.bool b)=AO (xs.set i b):=by simp[AO]
theorem SX (n:Nat) (b:Bool):CF n [.bool b]=AO (List.replicate n b):=by
 unfold CF AO
 induction n with
 |zero=>rfl
 |succ n ih=>simp[List.replicate_succ]
end
def C6 (l:List (Int×Int)) (i:Int):Bool:=l.any fun x=>decide (x.1<=i/\i<x.1+x.2)
def BE (l:List (Int×Int)) (n:Nat):List Bool:=(List.range n).map fun(j:Nat)=>C6 l (j:Int)
def CB (l:List (Int×Int)) (n:Nat) (a i:Int):List Bool:=(List.range n).map fun(j:Nat)=>C6 l (j:Int) ||decide (a<=(j:Int)/\(j:Int)<i)
@[simp] theorem MV (l:List (Int×Int)) (n:Nat):(BE l n).length=n:=by simp[BE]
@[simp] theorem aL (l:List (Int×Int)) (n:Nat):(BE l n).take n=BE l n:=List.take_of_length_le (by simp)
@[simp] theorem aM (l:List (Int×Int)) (n:Nat) (a i:Int):(CB l n a i).length=n:=by simp[CB]
theorem Ll {l:List (Int×Int)} {n i:Nat} {a:Int} (hi:i<n):(CB l n a i)[i]'(by simpa using hi)=C6 l i:=by simp[CB]
theorem Oy (l:List (Int×Int)) (n:Nat) (a:Int):CB l n a a=BE l n:=by
 unfold CB BE
 refine List.map_congr_left fun j _=>?_
 have:decide (a<=(j:Int)/\(j:Int)<a)=false:=by simp
 rw[this,Bool.or_false]
theorem Lm (l:List (Int×Int)) (n:Nat) (x:Int×Int):CB l n x.1 (x.1+x.2)=BE (l++[x]) n:=by
 unfold CB BE
 refine List.map_congr_left fun j _=>?_
 simp[C6]
theorem Ln (l:List (Int×Int)) (n i:Nat) (a:Int) (ha:a<=i) (hi:i<n):(CB l n a i).set i true=CB l n a ((i:Int)+1):=by
 refine List.ext_getElem (by simp[CB]) fun j h1 h2=>?_
 simp only[CB,List.length_map,List.length_range] at h2
 rw[List.getElem_set]
 by_cases e:i=j
 .subst e
  rw[if_pos rfl]
  simp[CB]
  right;omega
 .rw[if_neg e]
  simp only[CB,List.getElem_map,List.getElem_range]
  congr 1
  simp only[decide_eq_decide]
  omega
theorem Jr {l:List (Int×Int)} {x:Int×Int} (hl:∀y∈l,1<=y.2) (hx:1<=x.2):(l++[x]).Pairwise apart↔l.Pairwise apart/\∀i,x.1<=i->i<x.1+x.2->C6 l i=false:=by
 rw[List.pairwise_append]
 simp only[List.pairwise_singleton,true_and,List.mem_singleton,forall_eq,C6,List.any_eq_false,decide_eq_true_eq,apart]
 constructor
 .rintro⟨h1,h2⟩
  refine⟨h1,fun i a b y hy c=>?_⟩
  have:=h2 y hy
  omega
 .rintro⟨h1,h2⟩
  refine⟨h1,fun y hy c=>?_⟩
  have hy1:=hl y hy
  by_cases e:y.1<=x.1
  .exact h2 x.1 (by omega) (by omega) y hy (by omega)
  .exact h2 y.1 (by omega) (by omega) y hy (by omega)
def HH (l:List (Int×Int)) (n:Int):AV:=if CL l n then .tup [.own 1 n.toNat (AO (BE l n.toNat)),.bool true] else .tup [.own 1 0 [],.bool false]
def Js (l:List (Int×Int)) (n:Int):Prop:=(∀x∈l,0<=x.1/\1<=x.2/\x.1+x.2<=n)/\l.Pairwise apart
theorem KB {l:List (Int×Int)} {n:Int} {x:Int×Int}:Js (l++[x]) n↔Js l n/\(0<=x.1/\1<=x.2/\x.1+x.2<=n)/\∀i,x.1<=i->i<x.1+x.2->C6 l i=false:=by
 unfold Js
 constructor
 .rintro⟨h1,h2⟩
  have hx:=h1 x (by simp)
  have h3:=(Jr (fun y hy=>(h1 y (by simp[hy])).2.1) hx.2.1).1 h2
  exact⟨⟨fun y hy=>h1 y (by simp[hy]),h3.1⟩,hx,h3.2⟩
 .rintro⟨⟨h1,h2⟩,hx,h3⟩
  refine⟨fun y hy=>?_,(Jr (fun y hy=>(h1 y hy).2.1) hx.2.1).2 ⟨h2,h3⟩⟩
  rcases List.mem_append.1 hy with h|h
  .exact h1 y h
  .simp at h;subst h;exact hx
theorem UT {l:List (Int×Int)} {n:Int} (k:Nat) (h:Js l n):Js (l.take k) n:=⟨fun x hx=>h.1 x (List.mem_of_mem_take hx),h.2.sublist (List.take_sublist _ _)⟩
theorem RG (l:List (Int×Int)) (n:Int) (hl:l.length<1000000000):Aa pg 121 [.ro l.length (Ac AC l),.int .i64 n] [] (fun r _=>r=HH l n):=by
 refine Aa.start (fn:=Tryz.f121) [.tmp 4,.tmp 5] tk rfl rfl rfl (by kernel_rfl) (Nat.le_of_ble_eq_true rfl) rfl (by kernel_rfl) ?_
 rw[At]
 refine zs ?_
 refine z0 ?_;intro K hK
 refine Ab.eq (Qi n) (by simp) (by simp) ?_
 by_cases c1:1<=n/\n<=100
 rotate_left
 .rw[decide_eq_false c1]
  refine zx ?_
  refine zk ?_;clear hK K
  refine zt ?_
  refine zs ?_
  refine zr ?_
  rw[HH,if_neg (fun g=>c1 ⟨g.1,g.2.1⟩)]
 rw[decide_eq_true c1]
 by_cases c2:l.length<=13
 rotate_left
 .refine AX c2 ?_
  refine zk ?_;clear hK K
  refine zt ?_
  refine zs ?_
  refine zr ?_
  rw[HH,if_neg (fun g=>c2 g.2.2.1)]
 refine AX c2 ?_
 refine zk ?_;clear hK K
 refine zn ?_
 refine W.skip ?_
 refine z1 ?_;intro K hK
 refine⟨by omega,by omega,by show n<=(9223372036854775807:Int);omega,?_⟩
 refine zk ?_;clear hK K
 have e0:CF n.toNat [.bool false]=AO (BE (l.take 0) n.toNat):=by
  rw[SX];congr 1
  exact List.ext_getElem (by simp[BE]) fun j _ _=>by simp[BE,C6]
 rw[e0]
 refine zs ?_
 (repeat refine W.seq ?_);refine W.block (W.loopS (fun k:Nat=> [(0,.ro l.length (Ac AC l)),(1,.int .i64 n),(6,.tok 0 0 1 0 n.toNat),(20,.ro l.length (Ac AC l)),(21,.int .i64 l.length),(22,.int .i64 k)]) (fun k=> [.live 0 (AO (BE (l.take k) n.toNat))]) (fun k=>l.length-k) (fun k=>k<=l.length/\Js (l.take k) n) 0 (Wk.fr (by simp[Ad])) ⟨by omega,by simp[Js]⟩ ?_)
 rintro k ⟨hk,hok⟩
 refine zs ?_
 refine zc ?_ ?_<;>intro h
 .refine W.skip ?_
  have hlt:k<l.length:=by omega
  have hto:l.take (k+1)=l.take k++[l[k]]:=by rw[List.take_add_one];simp[hlt]
  have bad:¬Js (l.take k++[l[k]]) n->HH l n= .tup [.own 1 0 [],.bool false]:=fun g=>by
   rw[HH,if_neg]
   intro w
   rw[<-hto] at g
   exact g (UT (k+1) ⟨w.2.2.2.1,w.2.2.2.2⟩)
  rw[KB] at bad
  refine zb ?_
  (repeat refine W.seq ?_);refine W.reg 1 rfl fun K hK=>?_;simp -implicitDefEqProofs (maxSteps:=999999) (disch:=omega) [hlt]
  refine zk ?_;clear hK K
  generalize hv:l[k]=x at*
  obtain⟨x1,x2⟩:=x
  simp only at bad
  by_cases d1:x2<1
  .refine Af d1 ?_;intro K hK
   refine zk ?_;clear hK K
   refine zt ?_
   refine zs ?_
   refine zr ?_
   rw[bad (by omega)]
  by_cases d2:x1<0
  .refine Af (an d1 d2) ?_;intro K hK
   refine zk ?_;clear hK K
   refine zt ?_
   refine zs ?_
   refine zr ?_
   rw[bad (by omega)]
  by_cases d3:n<=x1
  .refine Af (an d1 (an d2 d3)) ?_;intro K hK
   refine zk ?_;clear hK K
   refine zt ?_
   refine zs ?_
   refine zr ?_
   rw[bad (by omega)]
  by_cases d4:x2<=n-x1
  rotate_left
  .refine Af (an d1 (an d2 (an d3 d4))) ?_;intro K hK
   refine zk ?_;clear hK K
   refine zt ?_
   refine zs ?_
   refine zr ?_
   rw[bad (by omega)]
  refine Af (an d1 (an d2 (an d3 d4))) ?_;intro K hK
  refine zk ?_;clear hK K
  refine zn ?_
  refine W.skip ?_
  refine zs ?_
  obtain⟨b,rfl⟩:=Int.eq_ofNat_of_zero_le (by omega:0<=x1)
  obtain⟨e,rfl⟩:=Int.eq_ofNat_of_zero_le (by omega:0<=x2)
  rw[<-Oy _ _ (b:Int)]
  (repeat refine W.seq ?_);refine W.block (W.loopS (fun i:Nat=> [(0,.ro l.length (Ac AC l)),(1,.int .i64 n),(6,.tok 0 0 1 0 n.toNat),(8,.ptr 1 0 0),(9,.int .i64 i),(20,.ro l.length (Ac AC l)),(21,.int .i64 l.length),(22,.int .i64 k)]) (fun i=> [.live 0 (AO (CB (l.take k) n.toNat b i)),.live 0 [.int .i64 b,.int .i64 e]]) (fun i=>b+e-i) (fun i=>b<=i/\i<=b+e/\∀j:Int,b<=j->j<i->C6 (l.take k) j=false) b (Wk.fr (by simp[Ad])) ⟨by omega,by omega,fun j h1 h2=>by omega⟩ ?_)
  rintro i ⟨hb,hi,hf⟩
  refine zs ?_
  refine zc ?_ ?_<;>intro h
  .refine W.skip ?_
   have hin:i<n.toNat:=by omega
   refine zb ?_
   have hget:(CB (List.take k l) n.toNat (b:Int) (i:Int))[i]?=some (C6 (l.take k) i):=by rw[List.getElem?_eq_getElem (by simpa using hin),Ll hin]
   cases ht:C6 (l.take k) i
   .rw[ht] at hget
    refine Af (an hin hget) ?_;intro K hK
    refine⟨by omega,?_⟩
    refine zk ?_;clear hK K
    refine zn ?_
    refine W.skip ?_
    refine Af (an hin FY) ?_;intro K hK
    refine⟨by omega,?_⟩
    refine zk ?_;clear hK K
    refine zs ?_
    refine⟨i+1,by omega,⟨by omega,by omega,fun j h1 h2=>?_⟩,?_⟩
    .by_cases e:j=i
     .subst e;exact ht
     .exact hf j h1 (by omega)
    .rw[Ln _ _ _ _ (by omega) hin]
     exact Wk.fr (by simp[Ad])
   .rw[ht] at hget
    refine Af (an hin hget) ?_;intro K hK
    refine⟨by omega,?_⟩
    refine zk ?_;clear hK K
    refine zt ?_
    refine zs ?_
    refine zr ?_
    rw[bad (fun g=>by have:=g.2.2 i (by omega) (by omega);rw[ht] at this;cases this)]
  .refine W.exit ?_
   have hie:i=b+e:=by omega
   subst hie
   refine zs ?_
   refine⟨k+1,by omega,⟨by omega,?_⟩,?_⟩
   .rw[hto,KB]
    exact⟨hok,⟨by omega,by omega,by omega⟩,fun j h1 h2=>hf j h1 (by simpa using h2)⟩
   .rw[hto]
    have e2:=Lm (l.take k) n.toNat ((b:Int),(e:Int))
    simp only at e2
    rw[e2]
    exact Wk.cutM (k:=1) (by simp[Ad]) (by simp) (by simp) (by simp) (by simp) (by simp)
 .refine W.exit ?_
  have hk' :k=l.length:=by omega
  subst hk'
  rw[List.take_length] at hok
  have e:HH l n= .tup [.own 1 n.toNat (AO (BE l n.toNat)),.bool true]:=by rw[HH,if_pos ⟨c1.1,c1.2,c2,hok.1,hok.2⟩]
  have e2:l.take l.length=l:=List.take_length
  rw[e2]
  refine zs ?_
  refine zr ?_
  rw[e]
theorem aD (l:List (Int×Int)) (n:Int) (hl:l.length<1000000000):Aa pg 115 [.ro l.length (Ac AC l),.int .i64 n] [] (fun r _=>r= .bool (decide (CL l n))):=by
 have sp:=RG l n hl
 refine Aa.start (fn:=Tryz.f115) [.tmp 4] tk rfl rfl rfl (by kernel_rfl) (Nat.le_of_ble_eq_true rfl) rfl (by kernel_rfl) ?_
 rw[At]
 refine zs ?_
 refine z0 ?_;intro K hK
 by_cases h:CL l n
 .rw[HH,if_pos h] at sp
  refine Ab.eq sp (by simp) (by simp) ?_
  refine zx ?_
  refine zk ?_;clear hK K
  refine zs ?_
  refine zr ?_
  simp[h]
 .rw[HH,if_neg h] at sp
  refine Ab.eq sp (by simp) (by simp) ?_
  refine zx ?_
  refine zk ?_;clear hK K
  refine zs ?_
  refine zr ?_
  simp[h]
theorem JF (xs:List CZ) (f:Nat) (caps:List AV) (p:CZ->Bool) (hx:xs.length<1000000000000) (hf:∀x∈xs,Aa pg f ([.agg ((Az false) x)]++caps) [] fun r _=>r= .bool (p x)) (hcv:∀M,caps.map (vw M)=caps) (hcc:∀M k,caps.map (CG M k)=caps):
 Aa pg 155 [.ro xs.length (Ac (Az false) xs),.fn f caps] [] (fun r _=>r= .bool (xs.any p)):=by
 refine Aa.start (fn:=Tryz.f155) [.tmp 4] tk rfl rfl rfl (by kernel_rfl) (Nat.le_of_ble_eq_true rfl) rfl (by kernel_rfl) ?_
 rw[At]
 refine zs ?_
 refine z0 ?_;intro K hK
 refine Ab.eq (ST xs f caps p hx hf hcv) (by simp[hcc]) (by simp) ?_
 refine zx ?_
 refine zk ?_;clear hK K
 refine zr ?_
 rw[Bool.eq_iff_iff]
 simp[CM]
theorem UU (x:CZ) (id:Int):Aa pg 159 ([.agg (Az false x)]++[.rptr [.int .i64 id]]) [] (fun r _=>r= .bool (decide (x.pin=id))):=by
 refine Aa.start (fn:=Tryz.f159) [.tmp 3] tk rfl rfl rfl (by kernel_rfl) (Nat.le_of_ble_eq_true rfl) rfl (by kernel_rfl) ?_
 simp only[List.cons_append,List.nil_append]
 rw[At]
 refine z1 ?_;intro K hK;refine zk ?_;clear hK K
 refine zs ?_
 exact zR
def pinned (s:An) (id:Int):Bool:=s.sess.any fun x=>decide (x.pin=id)
theorem LK (s:An) (id:Int) (hs:AS s):Aa pg 117 [.agg (Ao false s),.int .i64 id] [] (fun r _=>r= .bool (pinned s id)):=by
 have h1:=hs.2.1
 refine Aa.start (fn:=Tryz.f117) [.tmp 4] tk rfl rfl rfl (by kernel_rfl) (Nat.le_of_ble_eq_true rfl) rfl (by kernel_rfl) ?_
 rw[At]
 refine z2 ?_;intro K hK;refine zk ?_;clear hK K
 refine z0 ?_;intro K hK
 refine Ab.eq (JF s.sess 159 [.rptr [.int .i64 id]] (fun x=>decide (x.pin=id)) (by omega) (fun x _=>UU x id) (by simp) (by simp)) (by simp) (by simp) ?_
 refine zx ?_
 refine zk ?_;clear hK K
 refine zr ?_
 rfl
def CT (l:List AM):List Int:=(l.filter fun v=> !v.gone).map AM.id
theorem SY {l:List AM} {k:Nat} (hk:k<l.length):CT (l.take (k+1))=CT (l.take k)++if l[k].gone=true then [] else [l[k].id]:=by
 rw[List.take_add_one,CT,List.filter_append,List.map_append]
 simp only[List.getElem?_eq_getElem hk,Option.toList_some]
 cases h:l[k].gone<;>simp[CT,h]
theorem Oz (l:List AM):(CT l).length<=l.length:=by
 simp only[CT,List.length_map];exact List.length_filter_le _ _
theorem aE (s:An) (hs:AS s):Aa pg 74 [.agg (Ao false s)] [] (fun r _=>r= .own 1 (CT s.vers).length (Ae (CT s.vers))):=by
 have h1:=hs.1
 refine Aa.start (fn:=Tryz.f74) [.tmp 2] tk rfl rfl rfl (by kernel_rfl) (Nat.le_of_ble_eq_true rfl) rfl (by kernel_rfl) ?_
 rw[Ay]
 refine z1 ?_;intro K hK;refine zk ?_;clear hK K
 refine zs ?_
 (repeat refine W.seq ?_);refine W.block (W.loopS (fun s2:Nat×List Int=> [(2,.tok 1 s2.2.length 1 0 s2.2.length),(6,FE false s.vers),(7,.int .i64 s.vers.length),(8,.int .i64 s2.1)]) (fun s2=> [.live 0 (Ao false s),.live s2.2.length (Ae s2.2)]) (fun s2=>s.vers.length-s2.1) (fun s2=>s2.1<=s.vers.length/\s2.2=CT (s.vers.take s2.1)) (0,[]) ((Wk.nil (t:=2) (s:=1) ?_).trans (Wk.fr ?_)) (by simp[CT]) ?_)
 .simp
 .simp[Ad]
 .rintro⟨k,acc⟩ ⟨hk,hacc⟩
  simp only at hk hacc
  have hal:acc.length<=k:=by rw[hacc];exact Nat.le_trans (Oz _) (by simp;omega)
  refine zs ?_
  refine zc ?_ ?_<;>intro h
  .refine W.skip ?_
   have hlt:k<s.vers.length:=by omega
   have hst:=SY hlt
   refine zb ?_
   (repeat refine W.seq ?_);refine W.reg 1 rfl fun K hK=>?_;simp -implicitDefEqProofs (maxSteps:=999999) (disch:=omega) [hlt]
   refine zk ?_;clear hK K
   cases hg:s.vers[k].gone
   .rw[hg] at hst
    refine Af hg ?_;intro K hK
    refine zk ?_;clear hK K
    refine zt ?_
    refine z1 ?_;intro K hK
    refine⟨by omega,by omega,?_⟩
    refine zk ?_;clear hK K
    refine zs ?_
    refine⟨(k+1,acc++[s.vers[k].id]),by simp;omega,⟨by simp;omega,?_⟩,Wk.cutM (k:=2) (by simp[Ad]) ?_ (by simp) (by simp) (by simp) (by simp)⟩
    .simp only;rw[hst,hacc];simp
    .simp[Cj,Ae]
   .rw[hg] at hst
    refine Af hg ?_;intro K hK
    refine zk ?_;clear hK K
    refine zn ?_
    refine W.skip ?_
    refine zs ?_
    refine⟨(k+1,acc),by simp;omega,⟨by simp;omega,?_⟩,Wk.cutM (k:=2) (by simp[Ad]) (by simp) (by simp) (by simp) (by simp) (by simp)⟩
    simp only;rw[hst,hacc];simp
  .refine W.exit ?_
   have hk' :k=s.vers.length:=by omega
   subst hk'
   rw[List.take_length] at hacc
   subst hacc
   refine zs ?_
   exact zR
def Ea (s:An):List Int:=(CT s.vers).drop (max 0 (((CT s.vers).length:Int)-s.keep)).toNat
def Dp (s:An) (v:AM):Bool:=v.tag|| (Ea s).contains v.id||pinned s v.id
def CU (s:An) (want:Bool) (l:List AM):List Int:=(l.filter fun v=>Dp s v==want).map AM.id
def A4 (s:An) (want:Bool):List Int:=CU s want s.vers
theorem KC {s:An} {want:Bool} {l:List AM} {k:Nat} (hk:k<l.length):CU s want (l.take (k+1))=CU s want (l.take k)++if (Dp s l[k]==want)=true then [l[k].id] else []:=by
 rw[List.take_add_one,CU,List.filter_append,List.map_append]
 simp only[List.getElem?_eq_getElem hk,Option.toList_some]
 cases h:Dp s l[k]==want<;>simp[CU,h]
theorem Ij (s:An) (want:Bool) (l:List AM):(CU s want l).length<=l.length:=by
 simp only[CU,List.length_map];exact List.length_filter_le _ _
theorem WC (s:An) (want:Bool) (hs:AS s) (hk0:0<=s.keep/\s.keep<=1000000):Aa pg 73 [.agg (Ao false s),.bool want] [] (fun r _=>r= .own 1 (A4 s want).length (Ae (A4 s want))):=by
 have h1:=hs.1
 have hsl:=Oz s.vers
 obtain⟨m,hm⟩:∃m:Nat,max 0 (((CT s.vers).length:Int)-s.keep)=(m:Int):=⟨_,(Int.toNat_of_nonneg (by omega)).symm⟩
 have hml:m<=(CT s.vers).length:=by omega
 have hla:Ea s=(CT s.vers).drop m:=by rw[Ea,hm];rfl
 refine Aa.start (fn:=Tryz.f73) [.tmp 4] tk rfl rfl rfl (by kernel_rfl) (Nat.le_of_ble_eq_true rfl) rfl (by kernel_rfl) ?_
 rw[At]
 refine z1 ?_;intro K hK;refine zk ?_;clear hK K
 refine z0 ?_;intro K hK
 refine Ab.eq (aE s hs) (by simp) (by simp) ?_
 refine zx ?_
 refine zk ?_;clear hK K
 generalize CT s.vers=seen at*
 by_cases hlk:s.keep<(seen.length:Int)
 .have em:(seen.length:Int)-s.keep=m:=by omega
  have hm0:0<m:=by omega
  refine Af (an em (an hlk hm0)) ?_;intro K hK
  refine zk ?_;clear hK K
  refine zs ?_
  (repeat refine W.seq ?_);refine W.block (W.loopS (fun s2:Nat×List Int=> [(1,.bool want),(2,.ptr 0 0 0),(4,.tok 2 s2.2.length 1 0 s2.2.length),(5,.tok 1 0 1 m (seen.length-m)),(19,FE false s.vers),(20,.int .i64 s.vers.length),(21,.int .i64 s2.1)]) (fun s2=> [.live 0 (Ao false s),.live 0 (Ae seen),.live s2.2.length (Ae s2.2)]) (fun s2=>s.vers.length-s2.1) (fun s2=>s2.1<=s.vers.length/\s2.2=CU s want (s.vers.take s2.1)) (0,[]) ((Wk.nil (t:=4) (s:=1) (by simp)).trans (Wk.fr (by simp[Ad,em]))) (by simp[CU]) ?_)
  rintro⟨k,acc⟩ ⟨hk,hacc⟩
  simp only at hk hacc
  have hal:acc.length<=k:=by rw[hacc];exact Nat.le_trans (Ij _ _ _) (by simp;omega)
  refine zs ?_
  refine zc ?_ ?_<;>intro h
  .refine W.skip ?_
   have hlt:k<s.vers.length:=by omega
   have hst:=KC (s:=s) (want:=want) hlt
   refine zb ?_
   (repeat refine W.seq ?_);refine W.reg 1 rfl fun K hK=>?_;simp -implicitDefEqProofs (maxSteps:=999999) (disch:=omega) [hlt]
   refine zk ?_;clear hK K
   generalize hv:s.vers[k]=v at*
   have hkb:Dp s v=(v.tag|| (seen.drop m).contains v.id||pinned s v.id):=by rw[Dp,hla]
   cases ht:v.tag
   .refine Af ht ?_;intro K hK
    refine Ab.eq (Gj (seen.drop m) v.id (by simp;omega)) (by simp(disch:=omega);rw[List.take_of_length_le (by simp)]) (by simp) ?_
    cases hc:(seen.drop m).contains v.id
    .refine zx ?_
     refine Ab.eq (LK s v.id hs) (by simp) (by simp) ?_
     refine zx ?_
     refine zk ?_;clear hK K
     refine zc ?_ ?_<;>intro h
     .refine z1 ?_;intro K hK
      refine⟨by omega,by omega,?_⟩
      refine zk ?_;clear hK K
      refine zs ?_
      refine⟨(k+1,acc++[v.id]),by simp;omega,⟨by simp;omega,?_⟩,Wk.cutM (k:=3) (by simp[Ad]) ?_ (by simp) (by simp) (by simp) (by simp)⟩
      .simp only;rw[hst,hacc,hkb,ht,hc];simp[h]
      .simp[Cj,Ae]
     .refine W.skip ?_
      refine zs ?_
      refine⟨(k+1,acc),by simp;omega,⟨by simp;omega,?_⟩,Wk.cutM (k:=3) (by simp[Ad]) (by simp) (by simp) (by simp) (by simp) (by simp)⟩
      simp only;rw[hst,hacc,hkb,ht,hc];simp[h]
    .refine zx ?_
     refine zk ?_;clear hK K
     refine zc ?_ ?_<;>intro h
     .refine z1 ?_;intro K hK
      refine⟨by omega,by omega,?_⟩
      refine zk ?_;clear hK K
      refine zs ?_
      refine⟨(k+1,acc++[v.id]),by simp;omega,⟨by simp;omega,?_⟩,Wk.cutM (k:=3) (by simp[Ad]) ?_ (by simp) (by simp) (by simp) (by simp)⟩
      .simp only;rw[hst,hacc,hkb,ht,hc];simp[h]
      .simp[Cj,Ae]
     .refine W.skip ?_
      refine zs ?_
      refine⟨(k+1,acc),by simp;omega,⟨by simp;omega,?_⟩,Wk.cutM (k:=3) (by simp[Ad]) (by simp) (by simp) (by simp) (by simp) (by simp)⟩
      simp only;rw[hst,hacc,hkb,ht,hc];simp[h]
   .refine Af ht ?_;intro K hK
    refine zk ?_;clear hK K
    refine zc ?_ ?_<;>intro h
    .refine z1 ?_;intro K hK
     refine⟨by omega,by omega,?_⟩
     refine zk ?_;clear hK K
     refine zs ?_
     refine⟨(k+1,acc++[v.id]),by simp;omega,⟨by simp;omega,?_⟩,Wk.cutM (k:=3) (by simp[Ad]) ?_ (by simp) (by simp) (by simp) (by simp)⟩
     .simp only;rw[hst,hacc,hkb,ht];simp[h]
     .simp[Cj,Ae]
    .refine W.skip ?_
     refine zs ?_
     refine⟨(k+1,acc),by simp;omega,⟨by simp;omega,?_⟩,Wk.cutM (k:=3) (by simp[Ad]) (by simp) (by simp) (by simp) (by simp) (by simp)⟩
     simp only;rw[hst,hacc,hkb,ht];simp[h]
  .refine W.exit ?_
   have hk' :k=s.vers.length:=by omega
   subst hk'
   rw[List.take_length] at hacc
   have e:A4 s want=acc:=hacc.symm
   rw[e]
   refine zs ?_
   exact zR
 .have em:m=0:=by omega
  refine Af hlk ?_;intro K hK
  refine zk ?_;clear hK K
  refine zs ?_
  (repeat refine W.seq ?_);refine W.block (W.loopS (fun s2:Nat×List Int=> [(1,.bool want),(2,.ptr 0 0 0),(4,.tok 2 s2.2.length 1 0 s2.2.length),(5,.tok 1 0 1 m (seen.length-m)),(19,FE false s.vers),(20,.int .i64 s.vers.length),(21,.int .i64 s2.1)]) (fun s2=> [.live 0 (Ao false s),.live 0 (Ae seen),.live s2.2.length (Ae s2.2)]) (fun s2=>s.vers.length-s2.1) (fun s2=>s2.1<=s.vers.length/\s2.2=CU s want (s.vers.take s2.1)) (0,[]) ((Wk.nil (t:=4) (s:=1) (by simp)).trans (Wk.fr (by simp[Ad,em]))) (by simp[CU]) ?_)
  rintro⟨k,acc⟩ ⟨hk,hacc⟩
  simp only at hk hacc
  have hal:acc.length<=k:=by rw[hacc];exact Nat.le_trans (Ij _ _ _) (by simp;omega)
  refine zs ?_
  refine zc ?_ ?_<;>intro h
  .refine W.skip ?_
   have hlt:k<s.vers.length:=by omega
   have hst:=KC (s:=s) (want:=want) hlt
   refine zb ?_
   (repeat refine W.seq ?_);refine W.reg 1 rfl fun K hK=>?_;simp -implicitDefEqProofs (maxSteps:=999999) (disch:=omega) [hlt]
   refine zk ?_;clear hK K
   generalize hv:s.vers[k]=v at*
   have hkb:Dp s v=(v.tag|| (seen.drop m).contains v.id||pinned s v.id):=by rw[Dp,hla]
   cases ht:v.tag
   .refine Af ht ?_;intro K hK
    refine Ab.eq (Gj (seen.drop m) v.id (by simp;omega)) (by simp(disch:=omega);rw[List.take_of_length_le (by simp)]) (by simp) ?_
    cases hc:(seen.drop m).contains v.id
    .refine zx ?_
     refine Ab.eq (LK s v.id hs) (by simp) (by simp) ?_
     refine zx ?_
     refine zk ?_;clear hK K
     refine zc ?_ ?_<;>intro h
     .refine z1 ?_;intro K hK
      refine⟨by omega,by omega,?_⟩
      refine zk ?_;clear hK K
      refine zs ?_
      refine⟨(k+1,acc++[v.id]),by simp;omega,⟨by simp;omega,?_⟩,Wk.cutM (k:=3) (by simp[Ad]) ?_ (by simp) (by simp) (by simp) (by simp)⟩
      .simp only;rw[hst,hacc,hkb,ht,hc];simp[h]
      .simp[Cj,Ae]
     .refine W.skip ?_
      refine zs ?_
      refine⟨(k+1,acc),by simp;omega,⟨by simp;omega,?_⟩,Wk.cutM (k:=3) (by simp[Ad]) (by simp) (by simp) (by simp) (by simp) (by simp)⟩
      simp only;rw[hst,hacc,hkb,ht,hc];simp[h]
    .refine zx ?_
     refine zk ?_;clear hK K
     refine zc ?_ ?_<;>intro h
     .refine z1 ?_;intro K hK
      refine⟨by omega,by omega,?_⟩
      refine zk ?_;clear hK K
      refine zs ?_
      refine⟨(k+1,acc++[v.id]),by simp;omega,⟨by simp;omega,?_⟩,Wk.cutM (k:=3) (by simp[Ad]) ?_ (by simp) (by simp) (by simp) (by simp)⟩
      .simp only;rw[hst,hacc,hkb,ht,hc];simp[h]
      .simp[Cj,Ae]
     .refine W.skip ?_
      refine zs ?_
      refine⟨(k+1,acc),by simp;omega,⟨by simp;omega,?_⟩,Wk.cutM (k:=3) (by simp[Ad]) (by simp) (by simp) (by simp) (by simp) (by simp)⟩
      simp only;rw[hst,hacc,hkb,ht,hc];simp[h]
   .refine Af ht ?_;intro K hK
    refine zk ?_;clear hK K
    refine zc ?_ ?_<;>intro h
    .refine z1 ?_;intro K hK
     refine⟨by omega,by omega,?_⟩
     refine zk ?_;clear hK K
     refine zs ?_
     refine⟨(k+1,acc++[v.id]),by simp;omega,⟨by simp;omega,?_⟩,Wk.cutM (k:=3) (by simp[Ad]) ?_ (by simp) (by simp) (by simp) (by simp)⟩
     .simp only;rw[hst,hacc,hkb,ht];simp[h]
     .simp[Cj,Ae]
    .refine W.skip ?_
     refine zs ?_
     refine⟨(k+1,acc),by simp;omega,⟨by simp;omega,?_⟩,Wk.cutM (k:=3) (by simp[Ad]) (by simp) (by simp) (by simp) (by simp) (by simp)⟩
     simp only;rw[hst,hacc,hkb,ht];simp[h]
  .refine W.exit ?_
   have hk' :k=s.vers.length:=by omega
   subst hk'
   rw[List.take_length] at hacc
   have e:A4 s want=acc:=hacc.symm
   rw[e]
   refine zs ?_
   exact zR
theorem Jt (n m:Int):Aa pg 62 [.int .i64 n,.int .i64 m] [] (fun r _=>r= .bool (decide (0<=n/\n<=m))):=by
 refine Aa.start (fn:=Tryz.f62) [.tmp 4] tk rfl rfl rfl (by kernel_rfl) (Nat.le_of_ble_eq_true rfl) rfl (by kernel_rfl) ?_
 rw[At]
 refine zs ?_
 by_cases h1:0<=n
 .refine Af h1 ?_;intro K hK
  refine zk ?_;clear hK K
  exact zR
 .refine Af h1 ?_;intro K hK
  refine zk ?_;clear hK K
  exact zR
theorem Fh (n a b:Int):Aa pg 42 [.int .i64 n,.int .i64 a,.int .i64 b] [] (fun r _=>r= .bool (decide (a<=n/\n<=b))):=by
 refine Aa.start (fn:=Tryz.f42) [.tmp 6] tk rfl rfl rfl (by kernel_rfl) (Nat.le_of_ble_eq_true rfl) rfl (by kernel_rfl) ?_
 rw[Bl]
 refine zs ?_
 by_cases h1:a<=n
 . (repeat refine W.seq ?_);refine W.reg 0 rfl fun K hK=>?_;simp -implicitDefEqProofs (maxSteps:=999999) (disch:=omega) [h1]
   refine zk ?_;clear hK K
   refine W.ret ?_;simp only[CH,Ds,C0];refine CR (d:=0) ?_;simp -implicitDefEqProofs (maxSteps:=999999) (disch:=omega)
   try simp[h1]
 . (repeat refine W.seq ?_);refine W.reg 0 rfl fun K hK=>?_;simp -implicitDefEqProofs (maxSteps:=999999) (disch:=omega) [h1]
   refine zk ?_;clear hK K
   refine W.ret ?_;simp only[CH,Ds,C0];refine CR (d:=0) ?_;simp -implicitDefEqProofs (maxSteps:=999999) (disch:=omega)
   try simp[h1]
theorem WD (xs:List Int) (x:Int) (hx:xs.length<4611686018427387904):Aa pg 18 [.ro xs.length (Ae xs),.int .i64 x] [] (fun r _=>r= .int .i64 (AL (fun y=>decide (y=x)) xs)):=by
 refine Aa.start (fn:=Tryz.f18) [.tmp 4] tk rfl rfl rfl (by kernel_rfl) (Nat.le_of_ble_eq_true rfl) rfl (by kernel_rfl) ?_
 rw[At]
 refine zs ?_
 refine zs ?_
 (repeat refine W.seq ?_);refine W.block (W.loopS (fun k:Nat=> [(0,.ro xs.length (Ae xs)),(1,.int .i64 x),(5,.int .i64 k)]) (fun _=> []) (fun k=>xs.length-k) (fun k=>k<=xs.length/\∀i (h:i<xs.length),i<k->xs[i]≠x) 0 (Wk.fr ?_) (by simp) ?_)
 .simp[Ad]
 .rintro k ⟨hk,ht⟩
  refine zs ?_
  refine zc ?_ ?_<;>intro h
  .refine W.skip ?_
   refine zb ?_
   refine zs ?_
   refine zc ?_ ?_<;>intro h
   .refine zs ?_
    refine zr ?_
    exact(Ei (by omega) (by simp[h]) fun i hi hik=>by simpa using ht i hi hik).symm
   .refine W.skip ?_
    refine zs ?_
    refine⟨k+1,by omega,⟨by omega,?_⟩,Wk.fr (by simp[Ad])⟩
    intro i hi hik
    by_cases e:i=k
    .subst e;exact fun e=>h e
    .exact ht i hi (by omega)
  .refine W.exit ?_
   refine zs ?_
   refine zr ?_
   exact(EC fun i hi=>by simpa using ht i hi (by omega)).symm
theorem FZ (a b:Gr) (ha:FL a):Aa pg 38 [.agg (Ba false a),.agg (Ba false b)] [] (fun r _=>r= .bool (decide (a=b))):=by
 have e0:(a=b)↔a.n=b.n/\a.out=b.out:=Gr.ext_iff
 have h1:=ha.1
 refine Aa.start (fn:=Tryz.f38) [.tmp 4] tk rfl rfl rfl (by kernel_rfl) (Nat.le_of_ble_eq_true rfl) rfl (by kernel_rfl) ?_
 rw[At]
 refine z2 ?_;intro K hK;refine zk ?_;clear hK K
 by_cases h1:a.n=b.n
 .refine Af h1 ?_;intro K hK
  refine Ab.eq (Ks a.out b.out (by omega) (fun r hr=>by have:=ha.2 r hr;omega)) (by simp) (by simp) ?_
  refine zx ?_
  refine zk ?_;clear hK K
  refine zr ?_
  simp[e0,h1]
 .refine Af h1 ?_;intro K hK
  refine zk ?_;clear hK K
  refine zr ?_
  simp[e0,h1]
def MW (j:Cu):Prop:=j.list.length<1000000000/\j.out.length<1000000000
theorem Hj (a b:Cu) (ha:MW a):Aa pg 110 [.agg (B4 false a),.agg (B4 false b)] [] (fun r _=>r= .bool (decide (a=b))):=by
 have e0:(a=b)↔a.kind=b.kind/\a.a=b.a/\a.at_=b.at_/\a.move=b.move/\a.list=b.list/\a.out=b.out:=Cu.ext_iff
 have hl1:=ha.1
 have hl2:=ha.2
 refine Aa.start (fn:=Tryz.f110) [.tmp 4] tk rfl rfl rfl (by kernel_rfl) (Nat.le_of_ble_eq_true rfl) rfl (by kernel_rfl) ?_
 rw[At]
 refine z2 ?_;intro K hK;refine zk ?_;clear hK K
 by_cases h1:a.kind=b.kind
 .by_cases h2:a.a=b.a
  .by_cases h3:a.at_=b.at_
   .by_cases h4:a.move=b.move
    .refine Af (an h1 (an h2 (an h3 h4))) ?_;intro K hK
     refine Ab.eq (Ew a.list b.list (by omega)) (by simp) (by simp) ?_
     by_cases h5:a.list=b.list
     .rw[decide_eq_true h5]
      refine zx ?_
      refine Ab.eq (Ew a.out b.out (by omega)) (by simp) (by simp) ?_
      refine zx ?_
      refine zk ?_;clear hK K
      refine zr ?_
      simp[e0,h1,h2,h3,h4,h5]
     .rw[decide_eq_false h5]
      refine zx ?_
      refine zk ?_;clear hK K
      refine zr ?_
      simp[e0,h5]
    .refine Af (an h1 (an h2 (an h3 h4))) ?_;intro K hK
     refine zk ?_;clear hK K
     refine zr ?_
     simp[e0,h4]
   .refine Af (an h1 (an h2 h3)) ?_;intro K hK
    refine zk ?_;clear hK K
    refine zr ?_
    simp[e0,h3]
  .refine Af (an h1 h2) ?_;intro K hK
   refine zk ?_;clear hK K
   refine zr ?_
   simp[e0,h2]
 .refine Af h1 ?_;intro K hK
  refine zk ?_;clear hK K
  refine zr ?_
  simp[e0,h1]
def Eb (s:CZ):Prop:=FL s.stage/\MW s.job
theorem Lo (a b:CZ) (ha:Eb a):Aa pg 97 [.agg (Az false a),.agg (Az false b)] [] (fun r _=>r= .bool (decide (a=b))):=by
 have e0:(a=b)↔a.opn=b.opn/\a.pin=b.pin/\a.on=b.on/\a.frm=b.frm/\a.stage=b.stage/\a.job=b.job:=CZ.ext_iff
 refine Aa.start (fn:=Tryz.f97) [.tmp 4] tk rfl rfl rfl (by kernel_rfl) (Nat.le_of_ble_eq_true rfl) rfl (by kernel_rfl) ?_
 rw[At]
 refine z2 ?_;intro K hK;refine zk ?_;clear hK K
 by_cases h1:a.opn=b.opn
 .by_cases h2:a.pin=b.pin
  .by_cases h3:a.on=b.on
   .by_cases h4:a.frm=b.frm
    .refine Af (an h1 (an h2 (an h3 h4))) ?_;intro K hK
     refine Ab.eq (FZ a.stage b.stage ha.1) (by simp) (by simp) ?_
     by_cases h5:a.stage=b.stage
     .rw[decide_eq_true h5]
      refine zx ?_
      refine Ab.eq (Hj a.job b.job ha.2) (by simp) (by simp) ?_
      refine zx ?_
      refine zk ?_;clear hK K
      refine zr ?_
      simp[e0,h1,h2,h3,h4,h5]
     .rw[decide_eq_false h5]
      refine zx ?_
      refine zk ?_;clear hK K
      refine zr ?_
      simp[e0,h5]
    .refine Af (an h1 (an h2 (an h3 h4))) ?_;intro K hK
     refine zk ?_;clear hK K
     refine zr ?_
     simp[e0,h4]
   .refine Af (an h1 (an h2 h3)) ?_;intro K hK
    refine zk ?_;clear hK K
    refine zr ?_
    simp[e0,h3]
  .refine Af (an h1 h2) ?_;intro K hK
   refine zk ?_;clear hK K
   refine zr ?_
   simp[e0,h2]
 .refine Af h1 ?_;intro K hK
  refine zk ?_;clear hK K
  refine zr ?_
  simp[e0,h1]
theorem MX (xs ys:List AM) (hx:xs.length<1000000000000):Aa pg 86 [.ro xs.length (Ac Au xs),.ro ys.length (Ac Au ys)] [] (fun r _=>r= .bool (decide (xs=ys))):=by
 refine Aa.start (fn:=Tryz.f86) [.tmp 4] tk rfl rfl rfl (by kernel_rfl) (Nat.le_of_ble_eq_true rfl) rfl (by kernel_rfl) ?_
 rw[At]
 refine zs ?_
 refine zs ?_
 refine zc ?_ ?_<;>intro h
 .refine zs ?_
  refine zr ?_
  intro e;exact h (by rw[e])
 .refine W.skip ?_
  have hl:xs.length=ys.length:=by omega
  refine zs ?_
  (repeat refine W.seq ?_);refine W.block (W.loopS (fun k:Nat=> [(0,.ro xs.length (Ac Au xs)),(1,.ro ys.length (Ac Au ys)),(5,.int .i64 k)]) (fun _=> []) (fun k=>xs.length-k) (fun k=>k<=xs.length/\xs.take k=ys.take k) 0 (Wk.fr ?_) (by simp) ?_)
  .simp[Ad]
  .rintro k ⟨hk,ht⟩
   refine zs ?_
   refine zc ?_ ?_<;>intro h
   .refine W.skip ?_
    have hlt:k<xs.length:=by omega
    have hlt' :k<ys.length:=by omega
    refine zb ?_
    refine Cm ?_;intro K hK
    simp[hlt,hlt',Au]
    refine zk ?_;clear hK K
    refine zc ?_ ?_<;>intro h
    .refine zs ?_
     refine zr ?_
     intro e;subst e;simp at h
    .refine W.skip ?_
     have he:xs[k]=ys[k]:=AM.ext h.1 h.2.1 h.2.2.1 (Dh.ext h.2.2.2.1 h.2.2.2.2.1) h.2.2.2.2.2.1 h.2.2.2.2.2.2.1 h.2.2.2.2.2.2.2
     refine zs ?_
     refine⟨k+1,by omega,⟨by omega,?_⟩,Wk.fr ?_⟩
     .rw[List.take_add_one,List.take_add_one,ht];simp[hlt,hlt',he]
     .simp[Ad]
   .refine W.exit ?_
    have hk' :k=xs.length:=by omega
    subst hk'
    refine zs ?_
    refine zr ?_
    rw[List.take_length,hl,List.take_length] at ht
    simp[ht]
theorem Qk (xs ys:List CZ) (hx:xs.length<1000000000000) (hr:∀r∈xs,Eb r):Aa pg 57 [.ro xs.length (Ac (Az false) xs),.ro ys.length (Ac (Az false) ys)] [] (fun r _=>r= .bool (decide (xs=ys))):=by
 refine Aa.start (fn:=Tryz.f57) [.tmp 4] tk rfl rfl rfl (by kernel_rfl) (Nat.le_of_ble_eq_true rfl) rfl (by kernel_rfl) ?_
 rw[At]
 refine zs ?_
 refine zs ?_
 refine zc ?_ ?_<;>intro h
 .refine zs ?_
  refine zr ?_
  intro e;exact h (by rw[e])
 .refine W.skip ?_
  have hl:xs.length=ys.length:=by omega
  refine zs ?_
  (repeat refine W.seq ?_);refine W.block (W.loopS (fun k:Nat=> [(0,.ro xs.length (Ac (Az false) xs)),(1,.ro ys.length (Ac (Az false) ys)),(5,.int .i64 k)]) (fun _=> []) (fun k=>xs.length-k) (fun k=>k<=xs.length/\xs.take k=ys.take k) 0 (Wk.fr ?_) (by simp) ?_)
  .simp[Ad]
  .rintro k ⟨hk,ht⟩
   refine zs ?_
   refine zc ?_ ?_<;>intro h
   .refine W.skip ?_
    have hlt:k<xs.length:=by omega
    have hlt' :k<ys.length:=by omega
    have sp:=Lo xs[k] ys[k] (hr _ (List.getElem_mem hlt))
    refine zb ?_
    refine Bx (an hlt hlt') ?_;intro K hK
    refine Ah.eq sp (by simp) (by simp) ?_
    by_cases he:xs[k]=ys[k]
    .rw[decide_eq_true he]
     refine zx ?_
     refine zk ?_;clear hK K
     refine zn ?_
     refine W.skip ?_
     refine zs ?_
     refine⟨k+1,by omega,⟨by omega,?_⟩,Wk.fr ?_⟩
     .rw[List.take_add_one,List.take_add_one,ht];simp[hlt,hlt',he]
     .simp[Ad]
    .rw[decide_eq_false he]
     refine zx ?_
     refine zk ?_;clear hK K
     refine zt ?_
     refine zs ?_
     refine zr ?_
     intro e;subst e;simp at he
   .refine W.exit ?_
    have hk' :k=xs.length:=by omega
    subst hk'
    refine zs ?_
    refine zr ?_
    rw[List.take_length,hl,List.take_length] at ht
    simp[ht]
theorem UV (a b:An) (ha:a.vers.length<1000000000000/\a.sess.length<1000000000000/\∀r∈a.sess,Eb r):Aa pg 40 [.agg (Ao false a),.agg (Ao false b)] [] (fun r _=>r= .bool (decide (a=b))):=by
 have e0:(a=b)↔a.keep=b.keep/\a.blocks=b.blocks/\a.vers=b.vers/\a.sess=b.sess:=An.ext_iff
 refine Aa.start (fn:=Tryz.f40) [.tmp 4] tk rfl rfl rfl (by kernel_rfl) (Nat.le_of_ble_eq_true rfl) rfl (by kernel_rfl) ?_
 rw[At]
 refine z2 ?_;intro K hK;refine zk ?_;clear hK K
 by_cases h1:a.keep=b.keep
 .by_cases h2:a.blocks=b.blocks
  .refine Af (an h1 h2) ?_;intro K hK
   refine Ab.eq (MX a.vers b.vers ha.1) (by simp) (by simp) ?_
   by_cases h3:a.vers=b.vers
   .rw[decide_eq_true h3]
    refine zx ?_
    refine Ab.eq (Qk a.sess b.sess ha.2.1 ha.2.2) (by simp) (by simp) ?_
    refine zx ?_
    refine zk ?_;clear hK K
    refine zr ?_
    simp[e0,h1,h2,h3]
   .rw[decide_eq_false h3]
    refine zx ?_
    refine zk ?_;clear hK K
    refine zr ?_
    simp[e0,h3]
  .refine Af (an h1 h2) ?_;intro K hK
   refine zk ?_;clear hK K
   refine zr ?_
   simp[e0,h2]
 .refine Af h1 ?_;intro K hK
  refine zk ?_;clear hK K
  refine zr ?_
  simp[e0,h1]
theorem Nr (xs:List AM) (hx:xs.length<1000000000):Aa pg 70 [.ro xs.length (Ac Au xs)] [] (fun r _=>r= .own 8 xs.length (Ac Au xs)):=by
 refine Aa.start (fn:=Tryz.f70) [.tmp 2] tk rfl rfl rfl (by kernel_rfl) (Nat.le_of_ble_eq_true rfl) rfl (by kernel_rfl) ?_
 rw[Ay]
 refine zs ?_
 refine zs ?_
 refine zs ?_
 (repeat refine W.seq ?_);refine W.block (W.loopS (fun k:Nat=> [(0,.ro xs.length (Ac Au xs)),(3,.tok 0 k 8 0 k),(4,.int .i64 k)]) (fun k=> [.live k (Ac Au (xs.take k))]) (fun k=>xs.length-k) (fun k=>k<=xs.length) 0 ((Wk.nil (t:=3) (s:=8) ?_).trans (Wk.fr ?_)) (by simp) ?_)
 .simp
 .simp[Ad]
 .intro k hk
  refine zs ?_
  refine zc ?_ ?_<;>intro h
  .refine W.skip ?_
   have hlt:k<xs.length:=by omega
   refine zb ?_
   (repeat refine W.seq ?_);refine W.reg 1 rfl fun K hK=>?_;simp -implicitDefEqProofs (maxSteps:=999999) (disch:=omega) [hlt]
   refine⟨by omega,by omega,?_⟩
   refine zk ?_;clear hK K
   refine zs ?_
   refine⟨k+1,by omega,by omega,Wk.cutM (k:=1) (by simp[Ad]) ?_ (by simp) (by simp) (by simp) (by simp)⟩
   have hto:xs.take (k+1)=xs.take k++[xs[k]]:=by rw[List.take_add_one];simp[hlt]
   rw[hto,Ck]
   simp[Ax]
  .refine W.exit ?_
   have hk' :k=xs.length:=by omega
   subst hk'
   refine zs ?_
   exact zR
theorem Fj (j:Cu) (hj:MW j):Aa pg 153 [.agg (B4 false j)] [] (fun r _=>r= .agg (B4 true j)):=by
 have h1:=hj.1
 have h2:=hj.2
 refine Aa.start (fn:=Tryz.f153) [.cell 2 53] tk rfl rfl rfl (by kernel_rfl) (Nat.le_of_ble_eq_true rfl) rfl (by kernel_rfl) ?_
 rw[Ay]
 refine z2 ?_;intro K hK;refine zk ?_;clear hK K
 refine z1 ?_;intro K hK;refine zk ?_;clear hK K
 refine z0 ?_;intro K hK
 refine Ab.eq (EJ j.list (by omega)) (by simp) (by simp) ?_
 refine zx ?_
 refine zk ?_;clear hK K
 refine z0 ?_;intro K hK
 refine Ab.eq (EJ j.out (by omega)) (by simp) (by simp) ?_
 refine zx ?_
 refine zk ?_;clear hK K
 refine zs ?_
 exact zR
theorem QG (xs:List (List Int)) (hx:xs.length<1000000000) (hr:∀r∈xs,r.length<1000000000):Aa pg 188 [.ro xs.length (AA false xs)] [] (fun r _=>r= .own 1 xs.length (AA true xs)):=by
 refine Aa.start (fn:=Tryz.f188) [.tmp 2] tk rfl rfl rfl (by kernel_rfl) (Nat.le_of_ble_eq_true rfl) rfl (by kernel_rfl) ?_
 rw[Ay]
 refine zs ?_
 refine zs ?_
 refine zs ?_
 (repeat refine W.seq ?_);refine W.block (W.loopS (fun k:Nat=> [(0,.ro xs.length (AA false xs)),(3,.tok 0 k 1 0 k),(4,.int .i64 k)]) (fun k=> [.live k (AA true (xs.take k))]) (fun k=>xs.length-k) (fun k=>k<=xs.length) 0 ((Wk.nil (t:=3) (s:=1) ?_).trans (Wk.fr ?_)) (by simp) ?_)
 .simp
 .simp[Ad]
 .intro k hk
  refine zs ?_
  refine zc ?_ ?_<;>intro h
  .refine W.skip ?_
   have hlt:k<xs.length:=by omega
   have sp:=EJ xs[k] (by have:=hr _ (List.getElem_mem hlt);omega)
   refine zb ?_
   (repeat refine W.seq ?_);refine W.reg 1 rfl fun K hK=>?_;simp -implicitDefEqProofs (maxSteps:=999999) (disch:=omega) [hlt]
   refine Ab.eq sp (by simp) (by simp) ?_
   refine AX hlt ?_
   refine⟨by omega,by omega,?_⟩
   refine zk ?_;clear hK K
   refine zs ?_
   have hto:xs.take (k+1)=xs.take k++[xs[k]]:=by rw[List.take_add_one];simp[hlt]
   have hll:(AA true (xs.take k)).length=k:=by simp;omega
   refine⟨k+1,by omega,by omega,(Wk.intern (B:=0) (v:=k+1) (j:=k) (T:=2) (u:=0) (s:=1) (off:=0) (n:=xs[k].length) (cs:=AA true (xs.take k)++[AV.tok 2 0 1 0 xs[k].length]) (xs:=Ae xs[k]) (by simp) ?_ (by simp) (by simp) (by simp) (by simp)).trans (Wk.cutM (k:=1) (by simp[Ad]) ?_ (by simp) (by simp) (by simp) (by simp))⟩
   .rw[List.getElem?_append_right (by omega),hll];simp
   .rw[hto,UE]
    simp only[List.set_cons_zero,List.take_succ_cons,List.take_zero,List.cons.injEq,Ag.live.injEq,true_and,and_true]
    rw[List.set_append_right _ _ (by omega),hll]
    simp[AA]
  .refine W.exit ?_
   have hk' :k=xs.length:=by omega
   subst hk'
   refine zs ?_
   exact zR
theorem WE {P L:List AV} {n i:Nat} {x:AV} (h:P.length=n):(P++L).set (n+i) x=P++L.set i x:=by
 rw[List.set_append_right _ _ (by omega),h,Nat.add_sub_cancel_left]
theorem WF {P L:List AV} {n i:Nat} (h:P.length=n):(P++L)[n+i]?=L[i]?:=by
 rw[List.getElem?_append_right (by omega),h,Nat.add_sub_cancel_left]
theorem QH (g:Gr) (hg:FL g):Aa pg 152 [.agg (Ba false g)] [] (fun r _=>r= .agg (Ba true g)):=by
 refine Aa.start (fn:=Tryz.f152) [.cell 2 51] tk rfl rfl rfl (by kernel_rfl) (Nat.le_of_ble_eq_true rfl) rfl (by kernel_rfl) ?_
 rw[Ay]
 refine z2 ?_;intro K hK;refine zk ?_;clear hK K
 refine z1 ?_;intro K hK;refine zk ?_;clear hK K
 refine z0 ?_;intro K hK
 refine Ab.eq (QG g.out hg.1 hg.2) (by simp) (by simp) ?_
 refine zx ?_
 refine zk ?_;clear hK K
 refine zs ?_
 exact zR
theorem OD (s:CZ) (hs:Eb s):Aa pg 113 [.agg (Az false s)] [] (fun r _=>r= .agg (Az true s)):=by
 refine Aa.start (fn:=Tryz.f113) [.cell 2 55] tk rfl rfl rfl (by kernel_rfl) (Nat.le_of_ble_eq_true rfl) rfl (by kernel_rfl) ?_
 rw[Ay]
 refine z2 ?_;intro K hK;refine zk ?_;clear hK K
 refine z1 ?_;intro K hK;refine zk ?_;clear hK K
 refine z0 ?_;intro K hK
 refine Ab.eq (QH s.stage hs.1) (by simp) (by simp) ?_
 refine zx ?_
 refine zk ?_;clear hK K
 refine z0 ?_;intro K hK
 refine Ab.eq (Fj s.job hs.2) (by simp) (by simp) ?_
 refine zx ?_
 refine zk ?_;clear hK K
 refine zs ?_
 exact zR
theorem Ns (xs:List CZ) (hx:xs.length<1000000000) (hr:∀r∈xs,Eb r):Aa pg 71 [.ro xs.length (Ac (Az false) xs)] [] (fun r _=>r= .own 12 xs.length (Ac (Az true) xs)):=by
 refine Aa.start (fn:=Tryz.f71) [.tmp 2] tk rfl rfl rfl (by kernel_rfl) (Nat.le_of_ble_eq_true rfl) rfl (by kernel_rfl) ?_
 rw[Ay]
 refine zs ?_
 refine zs ?_
 refine zs ?_
 (repeat refine W.seq ?_);refine W.block (W.loopS (fun k:Nat=> [(0,.ro xs.length (Ac (Az false) xs)),(3,.tok 0 k 12 0 k),(4,.int .i64 k)]) (fun k=> [.live k (Ac (Az true) (xs.take k))]) (fun k=>xs.length-k) (fun k=>k<=xs.length) 0 ((Wk.nil (t:=3) (s:=12) ?_).trans (Wk.fr ?_)) (by simp) ?_)
 .simp
 .simp[Ad]
 .intro k hk
  refine zs ?_
  refine zc ?_ ?_<;>intro h
  .refine W.skip ?_
   have hlt:k<xs.length:=by omega
   have sp:=OD xs[k] (hr _ (List.getElem_mem hlt))
   refine zb ?_
   (repeat refine W.seq ?_);refine W.reg 1 rfl fun K hK=>?_;simp -implicitDefEqProofs (maxSteps:=999999) (disch:=omega) [hlt]
   refine Ab.eq sp (by simp) (by simp) ?_
   refine AX hlt ?_
   refine⟨by omega,by omega,?_⟩
   refine zk ?_;clear hK K
   refine zs ?_
   have hto:xs.take (k+1)=xs.take k++[xs[k]]:=by rw[List.take_add_one];simp[hlt]
   have hll:(Ac (Az true) (xs.take k)).length=k*12:=by simp;omega
   refine⟨k+1,by omega,by omega,?_⟩
   have hpn:(Ac (Az true) (xs.take k)).all (GX 1)=true:=by rw[<-GA];simp
   rw[hto,Ck]
   generalize Ac (Az true) (xs.take k)=P at*
   generalize xs[k]=x at*
   refine Wk.trans (Wk.intern (B:=0) (v:=k+1) (j:=k*12+5) (T:=2) (u:=0) (s:=1) (off:=0) (n:=x.stage.out.length) (cs:=P++[AV.bool x.opn,AV.int .i64 x.pin,AV.bool x.on,AV.int .i64 x.frm,AV.int .i64 x.stage.n,AV.tok 2 0 1 0 x.stage.out.length,AV.int .i64 x.job.kind,AV.int .i64 x.job.a,AV.int .i64 x.job.at_,AV.bool x.job.move,AV.tok 3 0 1 0 x.job.list.length,AV.tok 4 0 1 0 x.job.out.length]) (xs:=AA true x.stage.out) (by simp[Aj]) (by rw[WF hll];rfl) (by simp[Aj]) (by decide) (by simp) (by simp)) ?_
   rw[WE hll]
   simp only[List.set_cons_zero,List.set_cons_succ,List.drop_zero,Nat.mul_one,Jh,Kn,List.take_length]
   refine Wk.trans (Wk.intern (B:=0) (v:=k+1) (j:=k*12+10) (T:=3) (u:=0) (s:=1) (off:=0) (n:=x.job.list.length) (cs:=P++[AV.bool x.opn,AV.int .i64 x.pin,AV.bool x.on,AV.int .i64 x.frm,AV.int .i64 x.stage.n,AV.own 1 x.stage.out.length (AA true x.stage.out),AV.int .i64 x.job.kind,AV.int .i64 x.job.a,AV.int .i64 x.job.at_,AV.bool x.job.move,AV.tok 3 0 1 0 x.job.list.length,AV.tok 4 0 1 0 x.job.out.length]) (xs:=Ae x.job.list) (by simp[Aj]) (by rw[WF hll];rfl) (by simp[Aj]) (by decide) (by simp) (by simp)) ?_
   rw[WE hll]
   simp only[List.set_cons_zero,List.set_cons_succ,List.drop_zero,Nat.mul_one,Jh,Kn,List.take_length]
   refine Wk.trans (Wk.intern (B:=0) (v:=k+1) (j:=k*12+11) (T:=4) (u:=0) (s:=1) (off:=0) (n:=x.job.out.length) (cs:=P++[AV.bool x.opn,AV.int .i64 x.pin,AV.bool x.on,AV.int .i64 x.frm,AV.int .i64 x.stage.n,AV.own 1 x.stage.out.length (AA true x.stage.out),AV.int .i64 x.job.kind,AV.int .i64 x.job.a,AV.int .i64 x.job.at_,AV.bool x.job.move,AV.own 1 x.job.list.length (Ae x.job.list),AV.tok 4 0 1 0 x.job.out.length]) (xs:=Ae x.job.out) (by simp[Aj]) (by rw[WF hll];rfl) (by simp[Aj]) (by decide) (by simp) (by simp)) ?_
   rw[WE hll]
   simp only[List.set_cons_zero,List.set_cons_succ,List.drop_zero,Nat.mul_one,Jh,Kn,List.take_length]
   refine Wk.cutM (k:=1) (by simp[Ad]) ?_ (by simp) (by simp) ?_ (by simp)
   .simp[Ax]
   .simp only[List.all_cons,List.all_nil,Bool.and_true,Jd,List.all_append,hpn,GA]
    simp[Ax]
  .refine W.exit ?_
   have hk' :k=xs.length:=by omega
   subst hk'
   refine zs ?_
   exact zR
theorem QI (s:An) (hs:AS s) (hr:∀r∈s.sess,Eb r):Aa pg 14 [.agg (Ao false s)] [] (fun r _=>r= .agg (Ao true s)):=by
 refine Aa.start (fn:=Tryz.f14) [.cell 2 38] tk rfl rfl rfl (by kernel_rfl) (Nat.le_of_ble_eq_true rfl) rfl (by kernel_rfl) ?_
 rw[Ay]
 refine z2 ?_;intro K hK;refine zk ?_;clear hK K
 refine z1 ?_;intro K hK;refine zk ?_;clear hK K
 refine z0 ?_;intro K hK
 refine Ab.eq (Nr s.vers hs.1) (by simp) (by simp) ?_
 refine zx ?_
 refine zk ?_;clear hK K
 refine z0 ?_;intro K hK
 refine Ab.eq (Ns s.sess hs.2.1 hr) (by simp) (by simp) ?_
 refine zx ?_
 refine zk ?_;clear hK K
 refine zs ?_
 exact zR
theorem UW (b:Dh) (i:Nat) (hn:b.data.size<1000000000000) (hi:i/8<b.data.size):Aa pg 142 [.agg (CI b),.int .i64 i] [] (fun r _=>r= .int .i64 (if EK b.data i=true then 1 else 0)):=by
 refine Aa.start (fn:=Tryz.f142) [.tmp 4] tk rfl rfl rfl (by kernel_rfl) (Nat.le_of_ble_eq_true rfl) rfl (by kernel_rfl) ?_
 rw[At]
 refine z1 ?_;intro K hK;refine zk ?_;clear hK K
 refine z0 ?_;intro K hK
 refine⟨by omega,?_⟩
 have hB:=H6 b.data (i/8)
 have h3:=P1 b.data (i/8) (7-(i:Int)%8).toNat
 have e1:((i:Int)/8).toNat=i/8:=by omega
 rw[e1,wrap_i64 (by omega) (by omega),Jl _ h3.1 (by omega),Rx]
 simp
 refine zk ?_;clear hK K
 exact zR
theorem Zb (b:Dh) (h3:b.data.size<1000000000):Aa pg 106 [.agg (CI b)] [] (fun r _=>r= .bool (decide (Di b))):=by
 refine Aa.start (fn:=Tryz.f106) [.tmp 2] tk rfl rfl rfl (by kernel_rfl) (Nat.le_of_ble_eq_true rfl) rfl (by kernel_rfl) ?_
 rw[Ay]
 refine z1 ?_;intro K hK;refine zk ?_;clear hK K
 refine z0 ?_;intro K hK
 refine Ab.eq (Jt b.n 6000) (by simp) (by simp) ?_
 by_cases h0:0<=b.n/\b.n<=6000
 rotate_left
 .rw[decide_eq_false h0]
  refine zx ?_
  refine zk ?_;clear hK K
  refine zt ?_
  refine zs ?_
  refine zr ?_
  intro h;exact h0 ⟨h.1,h.2.1⟩
 .rw[decide_eq_true h0]
  obtain⟨n,hn⟩:=Int.eq_ofNat_of_zero_le h0.1
  refine zx ?_
  refine zk ?_;clear hK K
  refine zc ?_ ?_<;>intro h
  .refine zs ?_
   refine zr ?_
   intro g;have:=g.2.2.1;omega
  .refine W.skip ?_
   refine Af hn ?_;intro K hK
   refine zk ?_;clear hK K
   (repeat refine W.seq ?_);refine W.block (W.loopS (fun i:Nat=> [(1,.ptr 0 0 0),(3,.int .i64 i)]) (fun _=> [.live 0 [.str b.data,.int .i64 n]]) (fun i=>8*b.data.size-i) (fun i=>n<=i/\(i<=8*b.data.size\/i=n)/\∀j,n<=j->j<i->EK b.data j=false) n (Wk.fr (by simp[Ad])) ⟨by omega,by omega,fun j h1 h2=>by omega⟩ ?_)
   rintro i ⟨hi,hi2,ht⟩
   refine zs ?_
   refine zc ?_ ?_<;>intro h
   .refine W.skip ?_
    have hlt:i<8*b.data.size:=by omega
    have sp:=UW b i (by omega) (by omega)
    refine zb ?_
    refine z0 ?_;intro K hK
    rw[<-hn]
    cases hb:EK b.data i
    .simp only[hb,Bool.false_eq_true,if_false] at sp
     refine Ab.eq sp (by simp) (by simp) ?_
     refine zx ?_
     refine zk ?_;clear hK K
     refine zn ?_
     refine W.skip ?_
     refine zs ?_
     refine⟨i+1,by omega,⟨by omega,by omega,fun j h1 h2=>?_⟩,?_⟩
     .by_cases e:j=i
      .subst e;exact hb
      .exact ht j h1 (by omega)
     .rw[hn];exact Wk.fr (by simp[Ad])
    .simp only[hb,if_true] at sp
     refine Ab.eq sp (by simp) (by simp) ?_
     refine zx ?_
     refine zk ?_;clear hK K
     refine zt ?_
     refine zs ?_
     refine zr ?_
     intro g
     have:=g.2.2.2 i hlt (by omega)
     rw[hb] at this;cases this
   .refine W.exit ?_
    refine zs ?_
    refine zr ?_
    refine⟨h0.1,h0.2,by omega,fun j h1 h2=>ht j (by omega) (by omega)⟩
def b8 (b:Bool):AV:= .int .u8 (if b=true then 1 else 0)
def A8 (xs:List Bool):List AV:=xs.map b8
section
variable (xs ys:List Bool) (M:List Ag) (k:Nat)
@[simp] theorem ft (i:Nat):(A8 xs)[i]?=(xs[i]?).map b8:=by simp[A8]
@[simp] theorem fu:(A8 xs).length=xs.length:=by simp[A8]
@[simp] theorem fv:A8 []=[]:=rfl
theorem Ql:A8 (xs++ys)=A8 xs++A8 ys:=by simp[A8]
@[simp] theorem cT:(A8 xs).take k=A8 (xs.take k):=by simp[A8,List.map_take]
@[simp] theorem cU:(A8 xs).drop k=A8 (xs.drop k):=by simp[A8,List.map_drop]
@[simp] theorem ic:EY (A8 xs)=true:=by simp[A8,EY,-IB,b8]
@[simp] theorem ie:EZ (A8 xs)=true:=by simp[A8,EZ,-Km,b8]
@[simp] theorem ig:DX (A8 xs)=true:=by simp[A8,DX,-IC,b8]
@[simp] theorem ii:Dg k (A8 xs)=true:=by induction xs<;>simp_all[A8,b8]
@[simp] theorem fw:C4 (A8 xs)=true:=by induction xs<;>simp_all[A8,b8]
@[simp] theorem fx:EX (A8 xs)=A8 xs:=by induction xs<;>simp_all[A8,b8]
@[simp] theorem fz:(A8 xs).map Et=A8 xs:=by simp[A8,b8]
@[simp] theorem fA:(A8 xs).map (CG M k)=A8 xs:=by cases k<;>simp[A8,b8]
end
theorem aF (b:Dh) (h0:0<=b.n) (h1:b.n<=8*b.data.size) (h3:b.data.size<1000000000):Aa pg 107 [.agg (CI b)] [] (fun r _=>r= .own 1 (Aq b).length (A8 (Aq b))):=by
 have hl:=Cw b
 obtain⟨n,hn⟩:=Int.eq_ofNat_of_zero_le h0
 have hln:(Aq b).length=n:=by omega
 refine Aa.start (fn:=Tryz.f107) [.tmp 2] tk rfl rfl rfl (by kernel_rfl) (Nat.le_of_ble_eq_true rfl) rfl (by kernel_rfl) ?_
 rw[Ay]
 refine z1 ?_;intro K hK;refine zk ?_;clear hK K
 refine zs ?_
 refine zs ?_
 (repeat refine W.seq ?_);refine W.block (W.loopS (fun k:Nat=> [(1,.ptr 0 0 0),(3,.tok 1 k 1 0 k),(4,.int .i64 k)]) (fun k=> [.live 0 (CI b),.live k (A8 ((Aq b).take k))]) (fun k=>n-k) (fun k=>k<=n) 0 ((Wk.nil (t:=3) (s:=1) ?_).trans (Wk.fr ?_)) (Nat.zero_le _) ?_)
 .simp
 .simp[Ad]
 .intro k hk
  refine zs ?_
  refine zc ?_ ?_<;>intro h
  .refine W.skip ?_
   have hlt:k<n:=by omega
   have sp:=UW b k (by omega) (by omega)
   have hbk:(Aq b)[k]'(by omega)=EK b.data k:=by simp[Aq]
   have hto:(Aq b).take (k+1)=(Aq b).take k++[EK b.data k]:=by rw[List.take_add_one,List.getElem?_eq_getElem (by omega),hbk];rfl
   refine zb ?_
   refine z1 ?_;intro K hK
   refine Ab.eq sp (by simp) (by simp) ?_
   refine zx ?_
   have e8:AV.int .u8 (IntKind.u8.wrap (if EK b.data k=true then 1 else 0))=b8 (EK b.data k):=by
    cases EK b.data k<;>rfl
   rw[e8]
   refine⟨by omega,by omega,?_⟩
   refine zk ?_;clear hK K
   refine zs ?_
   refine⟨k+1,by omega,by omega,Wk.cutM (k:=2) (by simp[Ad]) ?_ (by simp) (by simp) (by simp) (by simp)⟩
   rw[hto,Ql]
   rfl
  .refine W.exit ?_
   have hk' :k=n:=by omega
   subst hk'
   have e:(Aq b).take k=Aq b:=List.take_of_length_le (by omega)
   rw[e]
   refine zs ?_
   refine zr ?_
   rw[e]
   exact⟨hln.symm,rfl⟩
theorem Zc (l:List Bool) (p:Nat) (hl:l.length<1000000000000) (hp:p<=l.length):Aa pg 178 [.ro l.length (A8 l),.int .i64 p] [] (fun r _=>r= .int .i64 (nb (ahead l p))):=by
 refine Aa.start (fn:=Tryz.f178) [.tmp 4] tk rfl rfl rfl (by kernel_rfl) (Nat.le_of_ble_eq_true rfl) rfl (by kernel_rfl) ?_
 rw[At]
 refine zs ?_
 refine zs ?_
 (repeat refine W.seq ?_);refine W.block (W.loopS (fun q:Nat=> [(0,.ro l.length (A8 l)),(1,.int .i64 p),(5,.int .i64 q)]) (fun _=> []) (fun q=>l.length-q) (fun q=>p<=q/\q<=l.length/\(l.drop p).take (q-p)=List.replicate (q-p) false) p (Wk.fr (by simp[Ad])) ⟨by omega,by omega,by simp⟩ ?_)
 rintro q ⟨hpq,hq,ht⟩
 refine zs ?_
 refine zc ?_ ?_<;>intro h
 .refine W.skip ?_
  have hlt:q<l.length:=by omega
  have hst:(l[q]=true->ahead l p=some (q-p))/\(l[q]=false->(l.drop p).take (q+1-p)=List.replicate (q+1-p) false):=by
   obtain⟨k,rfl⟩:∃k,q=p+k:=⟨q-p,by omega⟩
   have:=MH hlt (by simpa using ht)
   rw[show p+k+1-p=k+1 by omega,show p+k-p=k by omega]
   exact this
  refine zb ?_
  cases hb:l[q]
  . (repeat refine W.seq ?_);refine W.reg 0 rfl fun K hK=>?_;simp -implicitDefEqProofs (maxSteps:=999999) (disch:=omega) [hlt,hb,b8]
    refine zk ?_;clear hK K
    refine zn ?_
    refine W.skip ?_
    refine zs ?_
    refine⟨q+1,by omega,⟨by omega,by omega,hst.2 hb⟩,Wk.fr (by simp[Ad])⟩
  . (repeat refine W.seq ?_);refine W.reg 0 rfl fun K hK=>?_;simp -implicitDefEqProofs (maxSteps:=999999) (disch:=omega) [hlt,hb,b8]
    refine zk ?_;clear hK K
    refine zt ?_
    refine z0 ?_;intro K hK
    refine zk ?_;clear hK K
    refine zr ?_
    rw[hst.1 hb];simp[nb];omega
 .refine W.exit ?_
  have hq' :q=l.length:=by omega
  refine zs ?_
  refine zr ?_
  rw[Oe (k:=q-p) (by omega) ht];rfl
theorem bP (l:List Bool) (p w:Nat) (hl:l.length<1000000000000) (hw:w<=60) (hp:p+w<=l.length):Aa pg 179 [.ro l.length (A8 l),.int .i64 p,.int .i64 w] [] (fun r _=>r= .int .i64 (BH ((l.drop p).take w))):=by
 refine Aa.start (fn:=Tryz.f179) [.tmp 6] tk rfl rfl rfl (by kernel_rfl) (Nat.le_of_ble_eq_true rfl) rfl (by kernel_rfl) ?_
 rw[Bl]
 refine zs ?_
 refine zs ?_
 refine zs ?_
 (repeat refine W.seq ?_);refine W.block (W.loopS (fun q:Nat=> [(0,.ro l.length (A8 l)),(1,.int .i64 p),(2,.int .i64 w),(7,.int .i64 (BH ((l.drop p).take (q-p)))),(8,.int .i64 q)]) (fun _=> []) (fun q=>p+w-q) (fun q=>p<=q/\q<=p+w) p (Wk.fr (by simp[Ad])) ⟨by omega,by omega⟩ ?_)
 rintro q ⟨hpq,hq⟩
 refine zs ?_
 refine zc ?_ ?_<;>intro h
 .refine W.skip ?_
  have hlt:q<l.length:=by omega
  have hst:BH ((l.drop p).take (q+1-p))=2*BH ((l.drop p).take (q-p))+(l[q]).toNat:=by
   obtain⟨k,rfl⟩:∃k,q=p+k:=⟨q-p,by omega⟩
   rw[show p+k+1-p=k+1 by omega,show p+k-p=k by omega]
   exact Og (w:=w) hlt
  have hnl:BH ((l.drop p).take (q-p))<2^60:=Nat.lt_of_lt_of_le (GD _) (Nat.pow_le_pow_right (by omega) (by simp;omega))
  refine zb ?_
  generalize BH ((l.drop p).take (q-p))=v at*
  cases hb:l[q]
  .rw[hb] at hst
   (repeat refine W.seq ?_);refine W.reg 0 rfl fun K hK=>?_;simp -implicitDefEqProofs (maxSteps:=999999) (disch:=omega) [hlt,hb,b8]
   refine zk ?_;clear hK K
   refine zs ?_
   refine⟨q+1,by omega,⟨by omega,by omega⟩,Wk.fr (by rw[hst];simp[Ad])⟩
  .rw[hb] at hst
   (repeat refine W.seq ?_);refine W.reg 0 rfl fun K hK=>?_;simp -implicitDefEqProofs (maxSteps:=999999) (disch:=omega) [hlt,hb,b8]
   refine zk ?_;clear hK K
   refine zs ?_
   refine⟨q+1,by omega,⟨by omega,by omega⟩,Wk.fr (by rw[hst];simp[Ad])⟩
 .refine W.exit ?_
  have hq' :q=p+w:=by omega
  subst hq'
  refine zs ?_
  exact zR
theorem WY (n:Int) (h0:0<=n) (h1:n<=4611686018427387904):Aa pg 182 [.int .i64 n] [] (fun r _=>r= .int .i64 (CO n)):=by
 refine Aa.start (fn:=Tryz.f182) [.tmp 2] tk rfl rfl rfl (by kernel_rfl) (Nat.le_of_ble_eq_true rfl) rfl (by kernel_rfl) ?_
 rw[Ay]
 refine zs ?_
 refine zs ?_
 refine zc ?_ ?_<;>intro h
 .refine z0 ?_;intro K hK
  refine zk ?_;clear hK K
  refine zr ?_
  rw[CO,if_neg (by omega)]
 .refine W.skip ?_
  have e:(-(n+1)).tdiv 2=-((n+1)/2):=by rw[Int.neg_tdiv,Int.tdiv_eq_ediv_of_nonneg (by omega)]
  refine Af e ?_;intro K hK
  refine zk ?_;clear hK K
  refine zr ?_
  rw[CO,if_pos (by omega)]
theorem Qm (n:Int):Aa pg 127 [.int .i64 n] [] (fun r _=>r= .bool (decide (0<=n/\n<=15))):=by
 refine Aa.start (fn:=Tryz.f127) [.tmp 2] tk rfl rfl rfl (by kernel_rfl) (Nat.le_of_ble_eq_true rfl) rfl (by kernel_rfl) ?_
 rw[Ay]
 refine zs ?_
 refine z0 ?_;intro K hK
 refine Ab.eq (Jt n 15) (by simp) (by simp) ?_
 refine zx ?_
 refine zk ?_;clear hK K
 exact zR
theorem LL (k:Int):Aa pg 149 [.int .i64 k] [] (fun r _=>r= .bool (named k)):=by
 refine Aa.start (fn:=Tryz.f149) [.tmp 2] tk rfl rfl rfl (by kernel_rfl) (Nat.le_of_ble_eq_true rfl) rfl (by kernel_rfl) ?_
 rw[Ay]
 refine zs ?_
 by_cases h1:k=1
 .refine Af h1 ?_;intro K hK
  refine zk ?_;clear hK K
  refine zr ?_
  simp[named,h1]
 .by_cases h2:k=2
  .refine Af (an h1 h2) ?_;intro K hK
   refine zk ?_;clear hK K
   refine zr ?_
   simp[named,h2]
  .refine Af (an h1 h2) ?_;intro K hK
   refine zk ?_;clear hK K
   refine zr ?_
   simp[named,h1,h2]
theorem Nt (s:An) (hs:AS s):Aa pg 20 [.agg (Ao false s)] [] (fun r _=>r= .int .i64 (AN s.vers)):=by
 have h1:=hs.1
 refine Aa.start (fn:=Tryz.f20) [.tmp 2] tk rfl rfl rfl (by kernel_rfl) (Nat.le_of_ble_eq_true rfl) rfl (by kernel_rfl) ?_
 rw[Ay]
 refine z1 ?_;intro K hK;refine zk ?_;clear hK K
 refine zs ?_
 refine zc ?_ ?_<;>intro h
 .refine zs ?_
  refine zr ?_
  simp[AN,h]
 .refine W.skip ?_
  have hp:0<s.vers.length:=List.length_pos_iff.2 h
  have hlt:s.vers.length-1<s.vers.length:=by omega
  (repeat refine W.seq ?_);refine W.reg 0 rfl fun K hK=>?_;simp -implicitDefEqProofs (maxSteps:=999999) (disch:=omega) [hlt]
  refine⟨by omega,?_⟩
  refine zk ?_;clear hK K
  refine zr ?_
  rw[AN,List.getLast?_eq_getElem?,List.getElem?_eq_getElem hlt]
theorem Zd (b:Dh) (hb:b.data.size<1000000000):Aa pg 21 [.agg (CI b)] [] (fun r _=>r= .int .i64 (Cl b)):=by
 refine Aa.start (fn:=Tryz.f21) [.tmp 2] tk rfl rfl rfl (by kernel_rfl) (Nat.le_of_ble_eq_true rfl) rfl (by kernel_rfl) ?_
 rw[Ay]
 refine z1 ?_;intro K hK;refine zk ?_;clear hK K
 refine z0 ?_;intro K hK
 refine zk ?_;clear hK K
 refine zr ?_
 unfold Cl
 congr 1
 omega
theorem Nu (g:Gr) (j:Cu) (hl:j.list.length<1000000000000):Aa pg 112 [.agg (Ba false g),.agg (B4 false j)] [] (fun r _=>r= .bool (BY g j)):=by
 refine Aa.start (fn:=Tryz.f112) [.tmp 4] tk rfl rfl rfl (by kernel_rfl) (Nat.le_of_ble_eq_true rfl) rfl (by kernel_rfl) ?_
 rw[At]
 refine z2 ?_;intro K hK;refine zk ?_;clear hK K
 refine zs ?_
 refine zb ?_
 refine zs ?_
 refine zc ?_ ?_<;>intro h
 .refine zs ?_
  refine zr ?_
  simp[BY,h]
 .have h1:=h;clear h
  refine zs ?_
  refine zc ?_ ?_<;>intro h
  .refine zs ?_
   refine zr ?_
   simp[BY,h]
  .refine W.skip ?_
   refine zs ?_
   refine zr ?_
   simp[BY, *]
theorem aG (s:An) (id:Int) (hs:AS s):Aa pg 36 [.agg (Ao false s),.int .i64 id] [] (fun r _=>r= .int .i64 (AL (fun v=>decide (v.id=id)) s.vers)):=by
 have h1:=hs.1
 refine Aa.start (fn:=Tryz.f36) [.tmp 4] tk rfl rfl rfl (by kernel_rfl) (Nat.le_of_ble_eq_true rfl) rfl (by kernel_rfl) ?_
 rw[At]
 refine z1 ?_;intro K hK;refine zk ?_;clear hK K
 refine zs ?_
 (repeat refine W.seq ?_);refine W.block (W.loopS (fun k:Nat=> [(1,.int .i64 id),(2,.ptr 0 0 0),(5,.int .i64 k)]) (fun _=> [.live 0 (Ao false s)]) (fun k=>s.vers.length-k) (fun k=>k<=s.vers.length/\∀i (h:i<s.vers.length),i<k->s.vers[i].id≠id) 0 (Wk.fr (by simp[Ad])) (by simp) ?_)
 rintro k ⟨hk,ht⟩
 refine zs ?_
 refine zc ?_ ?_<;>intro h
 .refine W.skip ?_
  have hlt:k<s.vers.length:=by omega
  refine zb ?_
  (repeat refine W.seq ?_);refine W.reg 0 rfl fun K hK=>?_;simp -implicitDefEqProofs (maxSteps:=999999) (disch:=omega) [hlt]
  refine zk ?_;clear hK K
  refine zc ?_ ?_<;>intro h
  .refine zs ?_
   refine zr ?_
   exact(Ei hlt (by simp[h]) fun i hi hik=>by simpa using ht i hi hik).symm
  .refine W.skip ?_
   refine zs ?_
   refine⟨k+1,by omega,⟨by omega,?_⟩,Wk.fr (by simp[Ad])⟩
   intro i hi hik
   by_cases e:i=k
   .subst e;exact fun e=>h e
   .exact ht i hi (by omega)
 .refine W.exit ?_
  refine zs ?_
  refine zr ?_
  exact(EC fun i hi=>by simpa using ht i hi (by omega)).symm
theorem G2 (l:List Int) (hl:l.length<1000000000000):Aa pg 87 [.ro l.length (Ae l)] [] (fun r _=>r= .bool (decide (AJ l))):=by
 refine Aa.start (fn:=Tryz.f87) [.tmp 2] tk rfl rfl rfl (by kernel_rfl) (Nat.le_of_ble_eq_true rfl) rfl (by kernel_rfl) ?_
 rw[Ay]
 refine zs ?_
 refine zs ?_
 (repeat refine W.seq ?_);refine W.block (W.loopS (fun k:Nat=> [(0,.ro l.length (Ae l)),(3,.int .i64 k)]) (fun _=> []) (fun k=>l.length-k) (fun k=>k<=l.length/\AJ (l.take k)) 0 (Wk.fr (by simp[Ad])) (by simp[AJ]) ?_)
 rintro k ⟨hk,hm⟩
 have hk16:k<=16:=by have:=Bq hm;simp at this;omega
 by_cases hlt:k<l.length
 .have hs:=P6 hlt hm
  have bad:¬AJ (l.take (k+1))->¬AJ l:=fun g w=>g (P5 (k+1) w)
  refine Af (an hlt hk16) ?_;intro K hK
  refine zk ?_;clear hK K
  refine zt ?_
  refine W.skip ?_
  have sp:=Qm l[k]
  refine zb ?_
  by_cases c1:0<=l[k]/\l[k]<=15
  rotate_left
  .rw[decide_eq_false c1] at sp
   (repeat refine W.seq ?_);refine W.regd 0 rfl true Cz (by kernel_rfl) fun K hK=>?_;simp -implicitDefEqProofs (maxSteps:=999999) (disch:=omega) [hlt]
   refine Ah.eq sp (by simp) (by simp) ?_
   refine AX hlt ?_
   refine zk ?_;clear hK K
   refine zt ?_
   refine zs ?_
   refine zr ?_
   exact bad fun g=>c1 (by have:=(hs.1 g).1;omega)
  .rw[decide_eq_true c1] at sp
   by_cases c2:0<k
   .by_cases c3:l[k]<=l[k-1]
    . (repeat refine W.seq ?_);refine W.regd 0 rfl true Cz (by kernel_rfl) fun K hK=>?_;simp -implicitDefEqProofs (maxSteps:=999999) (disch:=omega) [hlt]
      refine Ah.eq sp (by simp) (by simp) ?_
      refine AX (an hlt (an c2 c3)) ?_
      refine⟨by omega,?_⟩
      refine zk ?_;clear hK K
      refine zt ?_
      refine zs ?_
      refine zr ?_
      exact bad fun g=>by have:=(hs.1 g).2 c2;omega
    . (repeat refine W.seq ?_);refine W.regd 0 rfl true Cz (by kernel_rfl) fun K hK=>?_;simp -implicitDefEqProofs (maxSteps:=999999) (disch:=omega) [hlt]
      refine Ah.eq sp (by simp) (by simp) ?_
      refine AX (an hlt (an c2 c3)) ?_
      refine⟨by omega,?_⟩
      refine zk ?_;clear hK K
      refine zn ?_
      refine W.skip ?_
      refine zs ?_
      exact⟨k+1,by omega,⟨by omega,hs.2 ⟨by omega,fun _=>by omega⟩⟩,Wk.fr (by simp[Ad])⟩
   . (repeat refine W.seq ?_);refine W.regd 0 rfl true Cz (by kernel_rfl) fun K hK=>?_;simp -implicitDefEqProofs (maxSteps:=999999) (disch:=omega) [hlt]
     refine Ah.eq sp (by simp) (by simp) ?_
     refine AX (an hlt c2) ?_
     refine zk ?_;clear hK K
     refine zn ?_
     refine W.skip ?_
     refine zs ?_
     exact⟨k+1,by omega,⟨by omega,hs.2 ⟨by omega,fun h=>absurd h c2⟩⟩,Wk.fr (by simp[Ad])⟩
 .have hk' :k=l.length:=by omega
  subst hk'
  rw[List.take_length] at hm
  refine z0 ?_;intro K hK
  refine zk ?_;clear hK K
  refine zn ?_
  refine W.exit ?_
  refine zs ?_
  refine zr ?_
  have:=Bq hm
  simp[hm]
  try omega
theorem WZ (n:Int) (h:-1000000<=n/\n<=1000000):Aa pg 205 [.int .i64 n] [] (fun r _=>r= .int .i64 (BX n)):=by
 refine Aa.start (fn:=Tryz.f205) [.tmp 2] tk rfl rfl rfl (by kernel_rfl) (Nat.le_of_ble_eq_true rfl) rfl (by kernel_rfl) ?_
 rw[Ay]
 refine zs ?_
 refine zs ?_
 refine zc ?_ ?_<;>intro h
 .refine z0 ?_;intro K hK
  refine zk ?_;clear hK K
  refine zr ?_
  simp[BX];omega
 .refine W.skip ?_
  refine z0 ?_;intro K hK
  refine zk ?_;clear hK K
  refine zr ?_
  simp[BX];omega
theorem WG (a b:Nat):(a:Int).fdiv (b:Int)=((a/b:Nat):Int):=by rw[Int.fdiv_eq_ediv_of_nonneg _ (by omega)];rfl
theorem bQ (n:Nat) (h:1<=n) (h2:n<1099511627776):Aa pg 180 [.int .i64 n] [] (fun r _=>r= .int .i64 (Nat.log2 n)):=by
 have hlg:=(Nat.log2_lt (n:=n) (k:=40) (by omega)).2 (by omega)
 refine Aa.start (fn:=Tryz.f180) [.tmp 2] tk rfl rfl rfl (by kernel_rfl) (Nat.le_of_ble_eq_true rfl) rfl (by kernel_rfl) ?_
 rw[Ay]
 refine zs ?_
 refine zs ?_
 (repeat refine W.seq ?_);refine W.block (W.loopS (fun z:Nat×Nat=> [(0,.int .i64 (z.1:Nat)),(3,.int .i64 (z.2:Nat))]) (fun _=> []) (fun z=>z.1) (fun z=>z.1=n/2^z.2/\1<=z.1/\z.2<=Nat.log2 n) (n,0) (Wk.fr (by simp[Ad])) ⟨by simp,h,by simp⟩ ?_)
 rintro⟨q,k⟩ ⟨hq,hq1,hk⟩
 simp only at hq hq1 hk
 have hp:0<2^k:=Nat.pow_pos (by omega)
 have hdm:=Nat.div_add_mod n (2^k)
 have hml:=Nat.mod_lt n hp
 rw[<-hq] at hdm
 refine zs ?_
 refine zc ?_ ?_<;>intro h
 .refine W.skip ?_
  have hf:(q:Int).fdiv 2=((q/2:Nat):Int):=WG q 2
  have hk1:k+1<=Nat.log2 n:=by
   refine(Nat.le_log2 (by omega)).2 ?_
   rw[Nat.pow_succ]
   have:2^k*2<=2^k*q:=Nat.mul_le_mul_left _ (by omega)
   omega
  refine zb ?_
  refine Af hf ?_;intro K hK
  refine zk ?_;clear hK K
  refine zs ?_
  exact⟨(q/2,k+1),by simp only;omega,⟨by simp only;rw[hq,Nat.div_div_eq_div_mul,Nat.pow_succ],by simp only;omega,hk1⟩,Wk.fr (by simp[Ad])⟩
 .refine W.exit ?_
  have:q=1:=by omega
  subst this
  refine zs ?_
  refine zr ?_
  rw[Kv (q:=k) (by omega) (by rw[Nat.pow_succ];omega)]
theorem W0 (xs:List Bool) (u v w:Nat) (hx:xs.length<1000000000) (hw:w<=60) (hv:v<1099511627776):Aa pg 203 [.tok 0 u 1 0 xs.length,.int .i64 v,.int .i64 w] [.live u (A8 xs)] (fun r M=>r= .own 1 (xs.length+w) (A8 (xs++A9 v w))/\M=[.dead]):=by
 refine Aa.start (fn:=Tryz.f203) [.tmp 6] tk rfl rfl rfl (by kernel_rfl) (Nat.le_of_ble_eq_true rfl) rfl (by kernel_rfl) ?_
 rw[Bl]
 refine zs ?_
 refine zs ?_
 rw[show A8 xs=A8 (xs++(A9 v w).take 0) by simp]
 (repeat refine W.seq ?_);refine W.block (W.loopS (fun k:Nat=> [(0,.tok 0 (u+k) 1 0 (xs.length+k)),(1,.int .i64 v),(7,.int .i64 ((w:Int)-1-k))]) (fun k=> [.live (u+k) (A8 (xs++(A9 v w).take k))]) (fun k=>w-k) (fun k=>k<=w) 0 (Wk.fr (by simp[Ad])) (by simp) ?_)
 intro k hk
 by_cases hlt:k<w
 .obtain⟨i,hi⟩:∃i:Nat,(w:Int)-1-k=i:=⟨w-1-k,by omega⟩
  have hmin:min i 64=i:=by omega
  rw[hi]
  refine zs ?_
  refine zt ?_
  refine W.skip ?_
  refine zb ?_
  obtain⟨Q,hQd⟩:∃Q,Q=v/2^i:=⟨_,rfl⟩
  have hQ:(v:Int)/2^i=(Q:Int):=by rw[hQd,Int.natCast_ediv,Int.natCast_pow];rfl
  have hQv:Q<=v:=by rw[hQd];exact Nat.div_le_self _ _
  have hand:=Jl (Q:Int) (by omega) (by omega)
  have hw8:IntKind.u8.wrap ((Q:Int)%2)=(if Q%2=1 then 1 else 0):=by
   by_cases h:Q%2=1
   .have:(Q:Int)%2=1:=by omega
    rw[this,if_pos h];rfl
   .have:(Q:Int)%2=0:=by omega
    rw[this,if_neg h];rfl
  have hto:(A9 v w).take (k+1)=(A9 v w).take k++[decide (Q%2=1)]:=by
   rw[List.take_add_one,List.getElem?_eq_getElem (by simpa using hlt)]
   have:(A9 v w)[k]'(by simpa using hlt)=decide (Q%2=1):=by
    simp only[A9,List.getElem_map,List.getElem_range]
    rw[hQd,show w-1-k=i by omega]
   rw[this];rfl
  refine MG (an hmin (an hQ (an hand hw8))) ?_;intro K hK
  refine⟨by omega,by omega,?_⟩
  refine zk ?_;clear hK K
  refine zs ?_
  refine⟨k+1,by omega,by omega,Wk.cutM (k:=1) ?_ ?_ (by simp) (by simp) (by simp) (by simp)⟩
  .simp[Ad]
   omega
  .rw[hto,<-List.append_assoc,Ql]
   simp[A8,b8];omega
 .have hk' :k=w:=by omega
  subst hk'
  have e:((k:Int)-1-k)=-1:=by omega
  rw[e]
  refine zs ?_
  refine zn ?_
  refine W.exit ?_
  refine zs ?_
  refine zr ?_
  rw[List.take_of_length_le (by simp),List.take_of_length_le (by simp)]
end Go.Abs
