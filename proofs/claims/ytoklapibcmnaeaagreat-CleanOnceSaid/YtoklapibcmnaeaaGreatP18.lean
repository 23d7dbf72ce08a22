/- The law CatKeeps. -/
import Derived.Test.YtoklapibcmnaeaaGreatP17
set_option linter.unusedVariables false
set_option linter.unusedSimpArgs false
set_option maxRecDepth 100000
namespace Go.Abs
open Go.Proofs
end Go.Abs
namespace Go.Abs
def Cb (s:Au) (n:Nat):Au:=(BN s n).getLast?.getD s
theorem OF (s:Au):Cb s 0=s:=by simp[Cb,BN]
theorem KB:∀(n:Nat) (s:Au),Cb s (n+1)=if (Ba (Cb s n)).1=0 then Cb s n else(Co (Cb s n) (Ba (Cb s n)).1 (Ba (Cb s n)).2).1
 |0,s=>by
  rw[OF]
  unfold Cb
  rw[BN]
  split
  .simp
  .simp[BN]
 |n+1,s=>by
  have e:∀m,Cb s (m+1)=if (Ba s).1=0 then s else Cb (Co s (Ba s).1 (Ba s).2).1 m:=fun m=>by
   unfold Cb
   rw[BN]
   split
   .simp
   .rw[List.getLast?_cons]
    cases (BN (Co s (Ba s).1 (Ba s).2).1 m).getLast?<;>simp
  rw[e (n+1),e n]
  by_cases h:(Ba s).1=0
  .simp only[if_pos h]
  .simp only[if_neg h]
   exact KB n _
theorem Nc {s:Au} (h:Bk s) (n:Nat):Bk (Cb s n):=by
 unfold Cb
 cases e:(BN s n).getLast? with
 |none=>exact h
 |some y=>exact(SI n s h y (List.mem_of_getLast? e)).1
theorem Nd {s:Au} (hs:A5 s) (hx:BM s) (h:Bk s) (n:Nat):A5 (Cb s n)∧BM (Cb s n):=by
 unfold Cb
 cases e:(BN s n).getLast? with
 |none=>exact⟨hs,hx⟩
 |some y=>exact SO n s hs hx h y (List.mem_of_getLast? e)
theorem PD {s:Au} (h:Bk s) {n:Nat} (hn:n≤1000):FL s n=(Cb s n,((BN s n).length:Int),0):=by
 unfold FL Cb
 rw[if_pos ⟨h,by omega,by omega⟩];rfl
end Go.Abs
set_option maxRecDepth 100000
namespace Go.Abs
open Go.Proofs
set_option maxHeartbeats 8000000 in
theorem PE (hR:BC) (S:List Au) (L:List (List Obj)) (G:List Gr) (na nn:Nat) (h0:S.length<Bn) (hS:∀s∈S,KR s) (h1:G.length<Bn) (h2:∀g∈G,Ju g) (h3:na<Bn) (h4:nn<Bn) (h5:L.length<Bn) (h6:∀l∈L,l.length<Bn∧∀o∈l,Ga o):Aa pg 10 [.agg (Mk S L G na nn)] [] (fun r _=>r= .bool true):=by
 have spH:=VY S L G na nn h0 hS h1 h2 h3 h4 h5 (fun l hl=>⟨(h6 l hl).1,fun o ho=>((h6 l hl).2 o ho).1⟩)
 have spW:=SP hR
 simp only[Mk,IA,Iz,List.cons_append,List.nil_append] at spH ⊢
 obtain⟨ask,hask⟩:∃ask:List AV,ask=[.ro S.length (Ac (An false) S),.ro L.length (Dn L),.ro G.length (Ac (A3 false) G),.ro na [],.ro nn []]:=⟨_,rfl⟩
 refine Aa.start (fn:=Tryz.f10) [.tmp 2] tk rfl rfl rfl (by kernel_rfl) (Nat.le_of_ble_eq_true rfl) rfl (by kernel_rfl) ?_
 rw[Av]
 refine z1 ?_;intro K hK;refine zk ?_;clear hK K
 refine z0 ?_;intro K hK
 refine Ab.bor spH (by simp) ?_
 rintro r ⟨b,rfl,hb⟩
 refine⟨by simp,?_⟩
 cases b
 rotate_left
 .refine zx ?_
  refine zk ?_;clear hK K
  refine zt ?_
  refine zs ?_
  exact zR
 obtain⟨⟨hS1,hS2⟩,⟨hL1,hL2⟩,hG1,hG2⟩:=hb rfl
 refine zx ?_
 refine zk ?_;clear hK K
 refine zn ?_
 refine W.skip ?_
 refine zs ?_
 (repeat refine W.seq ?_);refine W.block (W.loopS (fun i:Nat=> [(1,.ptr 0 0 0),(3,.int .i64 i)]) (fun _=> [.live 0 [.ro S.length (Ac (An false) S),.ro L.length (Dn L),.ro G.length (Ac (A3 false) G),.ro na [],.ro nn []]]) (fun i=>S.length-i) (fun i=>i≤S.length) 0 (Wk.fr (by simp[Ad])) (by simp) ?_)
 intro i hi
 by_cases c:i<S.length∧i<4
 rotate_left
 . (repeat refine W.seq ?_);refine W.midS (fun _:Unit=> [(24,.bool false)]) (fun _=> []) (fun _=>True) ?_ ?_
   .by_cases d1:i<S.length
    .have d2:¬(i:Int)<4:=by omega
     refine Af (an d1 d2) ?_;intro K hK
     refine zk ?_;clear hK K
     exact⟨(),trivial,Wk.cutM (k:=0) (by simp[Ad]) (by simp) (by simp) (by simp) (by simp) (by simp)⟩
    .refine Af d1 ?_;intro K hK
     refine zk ?_;clear hK K
     exact⟨(),trivial,Wk.cutM (k:=0) (by simp[Ad]) (by simp) (by simp) (by simp) (by simp) (by simp)⟩
   rintro _ _
   refine zn ?_
   refine W.exit ?_
   refine z0 ?_;intro K hK
   refine Ab.eq spW (by simp) (by simp) ?_
   refine zx ?_
   refine zk ?_;clear hK K
   exact zR
 obtain⟨d1,d2⟩:=c
 have d2' :(i:Int)<4:=by omega
 have k0:(Ac (An false) S)[i*4]?=some (.int .i64 S[i].keep):=Bg (f:=An false) (s:=4) (fun _=>rfl) d1 (i:=0) (by omega)
 have k1:(Ac (An false) S)[i*4+1]?=some (.int .i64 S[i].blocks):=Bg (f:=An false) (s:=4) (fun _=>rfl) d1 (i:=1) (by omega)
 have k2:(Ac (An false) S)[i*4+1+1]?=some (.ro S[i].vers.length (Ac Ay S[i].vers)):=Bg (f:=An false) (s:=4) (fun _=>rfl) d1 (i:=2) (by omega)
 have k3:(Ac (An false) S)[i*4+1+1+1]?=some (.ro S[i].sess.length (Ac (AB false) S[i].sess)):=Bg (f:=An false) (s:=4) (fun _=>rfl) d1 (i:=3) (by omega)
 obtain⟨hsi,hsx⟩:=TZ (hS2 _ (List.getElem_mem d1))
 have hsm:=hS2 _ (List.getElem_mem d1)
 obtain⟨s,hsd⟩:∃s,s=S[i]:=⟨_,rfl⟩
 rw[←hsd] at k0 k1 k2 k3 hsi hsx hsm
 have hvl:=hsm.1
 have spS:=Oj s hsi hsx
 refine Af (an d1 d2') ?_;intro K hK
 refine zk ?_;clear hK K
 refine zt ?_
 refine W.skip ?_
 refine zb ?_
 refine LZ (an d1 (an k0 (an k1 (an k2 k3)))) ?_;intro K hK
 refine zk ?_;clear hK K
 by_cases hok:Bk s
 rotate_left
 .rw[decide_eq_false hok] at spS
  refine z0 ?_;intro K hK
  refine Ab.eq spS (by simp) (by simp) ?_
  refine zx ?_
  refine zk ?_;clear hK K
  refine zt ?_
  refine W.exit ?_
  refine zs ?_
  exact⟨i+1,by omega,by omega,Wk.cutM (k:=1) (by simp[Ad]) (by simp) (by simp) (by simp) (by simp) (by simp)⟩
 rw[decide_eq_true hok] at spS
 have rnV:=fun(K:List (Nat×Nat)) (y:Au)=>Ih K (xs:=Ac Ay y.vers) (by simp)
 have rnS:=fun(K:List (Nat×Nat)) (y:Au)=>Ih K (xs:=Ac (AB true) y.sess) (by simp)
 have rnC:=fun(K:List (Nat×Nat)) (y:Au)=>Ih K (xs:=An false y) (by simp[tf])
 refine z0 ?_;intro K hK
 refine Ab.eq spS (by simp) (by simp) ?_
 refine zx ?_
 refine zk ?_;clear hK K
 refine zn ?_
 refine W.skip ?_
 refine z1 ?_;intro K hK
 refine zk ?_;clear hK K
 refine zs ?_
 (repeat refine W.seq ?_);refine W.block (W.loopS (fun z:Nat×Bool=> [(1,.ptr 0 0 0),(3,.int .i64 i),(4,.ptr 1 0 0),(5,.ptr 2 0 0),(6,.int .i64 ((z.1:Int)+1))]) (fun z=>if z.2=true then [.live 0 [.ro S.length (Ac (An false) S),.ro L.length (Dn L),.ro G.length (Ac (A3 false) G),.ro na [],.ro nn []],.live 0 (An false s),.live 0 (Bh 3 4 (Cb s z.1)),.live 0 (Ac Ay (Cb s z.1).vers),.live 0 (Ac (AB true) (Cb s z.1).sess)] else [.live 0 [.ro S.length (Ac (An false) S),.ro L.length (Dn L),.ro G.length (Ac (A3 false) G),.ro na [],.ro nn []],.live 0 (An false s),.live 0 (An false s)]) (fun z=>9-z.1) (fun z=>z.1≤6∧(z.2=false→Cb s z.1=s)) (0,false) (Wk.fr (by simp[Ad])) ⟨by simp,fun _=>OF s⟩ ?_)
 rintro⟨k,b⟩ ⟨hk,hb⟩
 simp only at hk hb ⊢
 by_cases e1:k<6
 rotate_left
 .have e1' :¬((k:Int)+1<7):=by omega
  cases b
  .simp only[Bool.false_eq_true,if_false]
   refine Af e1' ?_;intro K hK
   refine zk ?_;clear hK K
   refine zn ?_
   refine W.exit ?_
   refine zs ?_
   exact⟨i+1,by omega,by omega,Wk.cutM (k:=1) (by simp[Ad]) (by simp) (by simp) (by simp) (by simp) (by simp)⟩
  .simp only[if_true]
   refine Af e1' ?_;intro K hK
   refine zk ?_;clear hK K
   refine zn ?_
   refine W.exit ?_
   refine zs ?_
   exact⟨i+1,by omega,by omega,Wk.cutM (k:=1) (by simp[Ad]) (by simp) (by simp) (by simp) (by simp) (by simp)⟩
 have e1' :(k:Int)+1<7:=by omega
 have hst:=KB k s
 have hcok:=Nc hok k
 have hcin:=Nd hsi hsx hok k
 have hyok:=Nc hok (k+1)
 have hyin:=Nd hsi hsx hok (k+1)
 have hmb:=PD hok (n:=k+1) (by omega)
 have hrl:=Mp (k+1) s
 obtain⟨c,hc⟩:∃c,c=Cb s k:=⟨_,rfl⟩
 obtain⟨y,hy⟩:∃y,y=Cb s (k+1):=⟨_,rfl⟩
 obtain⟨n,hn⟩:∃n:Int,n=(k:Int)+1:=⟨_,rfl⟩
 have hnk:((k+1:Nat):Int)=n:=by omega
 obtain⟨m,hm⟩:∃m:Int,m=((BN s (k+1)).length:Int):=⟨_,rfl⟩
 have hmn:¬n<m:=by omega
 rw[hnk,←hy,←hm] at hmb
 rw[←hc] at hst hcok hcin hb ⊢
 rw[←hy] at hst hyok hyin
 have sp1:=Mr hR c hcin.1 hcin.2
 rw[if_pos hcok,if_pos hcok] at sp1
 obtain⟨a,ha⟩:∃a,a=Ba c:=⟨_,rfl⟩
 rw[←ha] at sp1 hst
 have sp2:=Zp hR c a.1 a.2 hcin.1 hcin.2
 rw[if_pos hcok,if_pos hcok] at sp2
 have sp3:=Wl hR s n hsi hsx
 rw[hmb] at sp3
 simp only at sp3
 have spE:=TH y y (Yt hyin)
 rw[decide_eq_true rfl] at spE
 have spY:=Oj y hyin.1 hyin.2
 rw[decide_eq_true hyok] at spY
 rw[←hn] at e1' ⊢
 have n0:=Ms 0
 have hyc:a.1=0→y=c:=fun h=>by rw[hst,if_pos h]
 have hya:a.1≠0→(Co c a.1 a.2)=(y,0):=fun h=>by
  have h2:(Co c a.1 a.2).2=0:=by rw[ha] at h ⊢;exact HA h
  rw[if_neg h] at hst
  exact Prod.ext hst.symm h2
 refine Af e1' ?_;intro K hK
 refine zk ?_;clear hK K
 refine zt ?_
 refine W.skip ?_
 refine zb ?_
 cases b
 .have hcs:=hb rfl
  simp only[Bool.false_eq_true,if_false]
  rw[hcs] at sp1 sp2
  refine z1 ?_;intro K hK
  refine Ab.eq sp1 (by simp) (by simp) ?_
  refine zx ?_
  refine zk ?_;clear hK K
  refine z0 ?_;intro K hK
  refine Ab.eq n0 (by simp) (by simp) ?_
  refine zx ?_
  refine zk ?_;clear hK K
  refine zn ?_
  refine W.skip ?_
  by_cases c2:a.1=0
  .have hys:y=s:=by rw[hyc c2,hcs]
   refine Af c2 ?_;intro K hK
   refine zk ?_;clear hK K
   refine zn ?_
   refine W.skip ?_
   rw[hys] at sp3 spE spY
   refine z1 ?_;intro K hK
   refine Ab.eq sp3 (by simp) (by simp) ?_
   refine zx ?_
   refine zk ?_;clear hK K
   refine Af hmn ?_;intro K hK
   refine Ab.eq n0 (by simp) (by simp) ?_
   refine AO hmn ?_
   refine Ab.eq spE (by simp) (by simp) ?_
   refine zx ?_
   refine Ab.eq spY (by simp) (by simp) ?_
   refine zx ?_
   refine zk ?_;clear hK K
   refine zn ?_
   refine W.skip ?_
   refine zs ?_
   exact⟨(k+1,false),by simp only;omega,⟨by simp only;omega,fun _=>by rw[←hy];exact hys⟩,Wk.cutM (k:=3) (by simp[Ad];omega) (by simp) (by simp) (by simp) (by simp) (by simp)⟩
  .rw[hcs] at hya
   rw[hya c2] at sp2
   simp only at sp2
   refine Af c2 ?_;intro K hK
   refine zk ?_;clear hK K
   refine zt ?_
   refine z1 ?_;intro K hK
   refine Ab.eq sp2 (by simp) (by simp) ?_
   refine zx ?_
   refine zk ?_;clear hK K
   refine z0 ?_;intro K hK
   refine Ab.eq n0 (by simp) (by simp) ?_
   refine zx ?_
   refine zk ?_;clear hK K
   refine zn ?_
   refine W.skip ?_
   refine z0 ?_;intro K hK
   refine zk ?_;clear hK K
   refine z1 ?_;intro K hK
   refine Ab.eq sp3 (by simp) (by simp) ?_
   refine zx ?_
   refine zk ?_;clear hK K
   refine Af hmn ?_;intro K hK
   refine Ab.eq n0 (by simp) (by simp) ?_
   refine AO hmn ?_
   refine Ab.eq spE (by simp) (by simp) ?_
   refine zx ?_
   refine Ab.eq spY (by simp) (by simp) ?_
   refine zx ?_
   refine zk ?_;clear hK K
   refine zn ?_
   refine W.skip ?_
   refine zs ?_
   refine⟨(k+1,true),by simp only;omega,⟨by simp only;omega,by simp⟩,?_⟩
   simp only[if_true,←hy]
   refine Wk.perm [(0,0),(1,0),(2,0),(5,0),(6,0)] [[.ro S.length (Ac (An false) S),.ro L.length (Dn L),.ro G.length (Ac (A3 false) G),.ro na [],.ro nn []],An false s,Bh 5 6 y,Ac Ay y.vers,Ac (AB true) y.sess] (by decide) ?_ ?_ ?_
   .simp[Ns,Ai,Bh]
   .simp[K6,rn,E6,List.findIdx?_cons];omega
   .simp[F6,rn,E6,Bh,List.findIdx?_cons,rnV,rnS]
 .simp only[if_true,Bh]
  refine z1 ?_;intro K hK
  refine Ab.eq sp1 (by simp) (by simp) ?_
  refine zx ?_
  refine zk ?_;clear hK K
  refine z0 ?_;intro K hK
  refine Ab.eq n0 (by simp) (by simp) ?_
  refine zx ?_
  refine zk ?_;clear hK K
  refine zn ?_
  refine W.skip ?_
  by_cases c2:a.1=0
  .have hys:y=c:=hyc c2
   refine Af c2 ?_;intro K hK
   refine zk ?_;clear hK K
   refine zn ?_
   refine W.skip ?_
   rw[hys] at sp3 spE spY
   refine z1 ?_;intro K hK
   refine Ab.eq sp3 (by simp) (by simp) ?_
   refine zx ?_
   refine zk ?_;clear hK K
   refine Af hmn ?_;intro K hK
   refine Ab.eq n0 (by simp) (by simp) ?_
   refine AO hmn ?_
   refine Ab.eq spE (by simp) (by simp) ?_
   refine zx ?_
   refine Ab.eq spY (by simp) (by simp) ?_
   refine zx ?_
   refine zk ?_;clear hK K
   refine zn ?_
   refine W.skip ?_
   refine zs ?_
   refine⟨(k+1,true),by simp only;omega,⟨by simp only;omega,by simp⟩,?_⟩
   simp only[if_true,←hy,hys]
   exact Wk.cutM (k:=5) (by simp[Ad];omega) (by simp[Bh]) (by simp) (by simp[Bh]) (by simp) (by simp)
  .rw[hya c2] at sp2
   simp only at sp2
   refine Af c2 ?_;intro K hK
   refine zk ?_;clear hK K
   refine zt ?_
   refine z1 ?_;intro K hK
   refine Ab.eq sp2 (by simp) (by simp) ?_
   refine zx ?_
   refine zk ?_;clear hK K
   refine z0 ?_;intro K hK
   refine Ab.eq n0 (by simp) (by simp) ?_
   refine zx ?_
   refine zk ?_;clear hK K
   refine zn ?_
   refine W.skip ?_
   refine z0 ?_;intro K hK
   refine zk ?_;clear hK K
   refine z1 ?_;intro K hK
   refine Ab.eq sp3 (by simp) (by simp) ?_
   refine zx ?_
   refine zk ?_;clear hK K
   refine Af hmn ?_;intro K hK
   refine Ab.eq n0 (by simp) (by simp) ?_
   refine AO hmn ?_
   refine Ab.eq spE (by simp) (by simp) ?_
   refine zx ?_
   refine Ab.eq spY (by simp) (by simp) ?_
   refine zx ?_
   refine zk ?_;clear hK K
   refine zn ?_
   refine W.skip ?_
   refine zs ?_
   refine⟨(k+1,true),by simp only;omega,⟨by simp only;omega,by simp⟩,?_⟩
   simp only[if_true,←hy]
   refine Wk.perm [(0,0),(1,0),(2,0),(7,0),(8,0)] [[.ro S.length (Ac (An false) S),.ro L.length (Dn L),.ro G.length (Ac (A3 false) G),.ro na [],.ro nn []],An false s,Bh 7 8 y,Ac Ay y.vers,Ac (AB true) y.sess] (by decide) ?_ ?_ ?_
   .simp[Ns,Ai,Bh]
   .simp[K6,rn,E6,List.findIdx?_cons];omega
   .simp[F6,rn,E6,Bh,List.findIdx?_cons,rnV,rnS]
end Go.Abs
set_option maxRecDepth 100000
namespace Go.Abs
open Go.Proofs Go.ChangeShapes Go.WideShapes Go.ChangeAt Go.RowKit
def JF (P:Program) (fn:Func) (s:ChangeSpec) (c:OpenClaim):Bool:=
 c.wf (OpenSpec.ofChange s)&&laidOutB P&&mapsRowed P&&
 fn.params.all (fun t=>P.readableRec t)&&namedTie P c.named s.vars&&
 (c.stops==[])&&(P.stops==[])&&(c.knobs==[])&&(P.stopKnobs==[])&&
 (c.maps==(fn.params.toList++s.plain.varTypes P).any (fun t=>P.mapsRec t))&&(c.ifaces==(fn.params.toList++s.plain.varTypes P).any (fun t=>P.ifacesRec t))&&(c.mapsOut==P.mapsAmong fn.resultTypes.toList)&&
 (c.loops==(fn.params.toList++s.plain.varTypes P).any (fun t=>P.loopsFrom t))&&(c.wideKeys==(fn.params.toList++s.plain.varTypes P++fn.resultTypes.toList).any (fun t=>P.wideKeysFrom t))&&
 s.vars.all (fun t=>P.varReadable t)&&fn.resultTypes.all (fun t=>P.readableRec t&&decide (t<P.types.size))&&(c.ifacesOut==fn.resultTypes.toList.any (fun t=>P.ifacesRec t))&&(c.loopsOut==fn.resultTypes.toList.any (fun t=>P.loopsFrom t))&&(c.plainKeys==P.plainKeys)&&c.shortTexts.isNone&&(c.kinds==(if c.domain.isEmpty then [] else fn.params.toList.map fun t=>match P.underlying t with|some (.int k)=>some k|_=>none))&&(c.pinned==c.pinnedBy)&&
 (c.veiled==(fn.params.toList++s.plain.varTypes P++fn.resultTypes.toList).any (fun t=>P.veiledRec t))&&c.veiledFits P fn.params.toList (fn.params.toList++s.plain.varTypes P++fn.resultTypes.toList)
theorem SQ {P:Program} {f:FuncId} {fn:Func} {s:ChangeSpec} {c:OpenClaim} (h1:(c.inPlace==P.inPlace f)=true) (h2:(c.unfollowed==P.unfollowed f)=true) (h3:(c.recurses==P.recurses f)=true) (h4:(c.named==P.varsNamed f)=true)
 (h5:P.stopsHeard=true) (h6:P.mayEnter=true) (h7:(c.lifted==P.liftsFinal)=true) (h8:(P.make==some c.make)=true) (h:JF P fn s c=true):joinedFacts P f fn s c=true:=by
 simp only[JF,Bool.and_eq_true] at h
 obtain⟨⟨⟨⟨⟨⟨⟨⟨⟨⟨⟨⟨⟨⟨⟨⟨⟨⟨⟨⟨⟨⟨⟨k1,k2⟩,k3⟩,k4⟩,k5⟩,k6⟩,k7⟩,k8⟩,k9⟩,k10⟩,k11⟩,k12⟩,k13⟩,k14⟩,k15⟩,k16⟩,k17⟩,k18⟩,k19⟩,k20⟩,k21⟩,k22⟩,k23⟩,k24⟩:=h
 simp only[joinedFacts,Bool.and_eq_true]
 exact⟨⟨⟨⟨⟨⟨⟨⟨⟨⟨⟨⟨⟨⟨⟨⟨⟨⟨⟨⟨⟨⟨⟨⟨⟨⟨⟨⟨⟨⟨⟨k1,k2⟩,k3⟩,k4⟩,k5⟩,k6⟩,k7⟩,k8⟩,k9⟩,h1⟩,h2⟩,h3⟩,h4⟩,k10⟩,k11⟩,k12⟩,k13⟩,k14⟩,k15⟩,k16⟩,k17⟩,k18⟩,k19⟩,k20⟩,h5⟩,h6⟩,h7⟩,h8⟩,k21⟩,k22⟩,k23⟩,k24⟩
end Go.Abs
