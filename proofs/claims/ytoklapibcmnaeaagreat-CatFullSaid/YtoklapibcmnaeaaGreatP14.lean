/- The law CatFull. -/
import Derived.Test.YtoklapibcmnaeaaGreatP13
set_option linter.unusedVariables false
set_option linter.unusedSimpArgs false
set_option maxRecDepth 100000
namespace Go.Abs
open Go.Proofs
theorem Ip {s:AT} {n:Int} (h:Bp s) (hx:Dn s):Bp (BG s n)∧Dn (BG s n):=by
 refine⟨⟨by simp[BG];exact h.1,h.2.1,?_⟩,hx⟩
 intro v hv
 obtain⟨u,hu,c,rfl⟩:=Gt hv
 exact h.2.2 u hu
set_option maxHeartbeats 4000000 in
theorem PY (hR:B1) (S:List AT) (L:List (List Obj)) (G:List Gr) (na nn:Nat) (h0:S.length<A0) (hS:∀s∈S,Jr s) (h1:G.length<A0) (h2:∀g∈G,Ii g) (h3:na<A0) (h4:nn<A0) (h5:L.length<A0) (h6:∀l∈L,l.length<A0∧∀o∈l,o.data.data.size<A0):Aa pg 4 [.agg (KC S L G na nn)] [] (fun r _=>r= .bool true):=by
 have spH:=Tb S L G na nn h0 hS h1 h2 h3 h4 h5 h6
 have spW:=PI hR
 simp only[KC,Hn,Hm,List.cons_append,List.nil_append] at spH ⊢
 refine Aa.start (fn:=Tryz.f4) [.tmp 2] tk rfl rfl rfl (by kernel_rfl) (Nat.le_of_ble_eq_true rfl) rfl (by kernel_rfl) ?_
 rw[As]
 refine z1 ?_;intro K hK;refine zk ?_;clear hK K
 refine z0 ?_;intro K hK
 refine Ab.bor spH (by simp) ?_
 rintro r ⟨b,rfl,hb⟩
 refine⟨by simp,?_⟩
 cases b
 rotate_left
 .refine zx ?_
  refine zk ?_;clear hK K
  refine zt ?_
  refine zs ?_
  exact zR
 obtain⟨hS1,hS2⟩:=hb rfl
 refine zx ?_
 refine zk ?_;clear hK K
 refine zn ?_
 refine W.skip ?_
 refine zs ?_
 (repeat refine W.seq ?_);refine W.block (W.loopS (fun i:Nat=> [(1,.ptr 0 0 0),(3,.int .i64 i)]) (fun _=> [.live 0 [.ro S.length (Af (AJ false) S),.ro L.length (DE L),.ro G.length (Af (AX false) G),.ro na [],.ro nn []]]) (fun i=>S.length-i) (fun i=>i≤S.length) 0 (Wk.fr (by simp[Ad])) (by simp) ?_)
 intro i hi
 by_cases c:i<S.length∧i<4
 rotate_left
 . (repeat refine W.seq ?_);refine W.midS (fun _:Unit=> [(23,.bool false)]) (fun _=> []) (fun _=>True) ?_ ?_
   .by_cases d1:i<S.length
    .have d2:¬(i:Int)<4:=by omega
     refine Ag (an d1 d2) ?_;intro K hK
     refine zk ?_;clear hK K
     exact⟨(),trivial,Wk.cutM (k:=0) (by simp[Ad]) (by simp) (by simp) (by simp) (by simp) (by simp)⟩
    .refine Ag d1 ?_;intro K hK
     refine zk ?_;clear hK K
     exact⟨(),trivial,Wk.cutM (k:=0) (by simp[Ad]) (by simp) (by simp) (by simp) (by simp) (by simp)⟩
   rintro _ _
   refine zn ?_
   refine W.exit ?_
   refine z0 ?_;intro K hK
   refine Ab.eq spW (by simp) (by simp) ?_
   refine zx ?_
   refine zk ?_;clear hK K
   exact zR
 obtain⟨d1,d2⟩:=c
 have d2' :(i:Int)<4:=by omega
 have k0:(Af (AJ false) S)[i*4]?=some (.int .i64 S[i].keep):=Bt (f:=AJ false) (s:=4) (fun _=>rfl) d1 (i:=0) (by omega)
 have k1:(Af (AJ false) S)[i*4+1]?=some (.int .i64 S[i].blocks):=Bt (f:=AJ false) (s:=4) (fun _=>rfl) d1 (i:=1) (by omega)
 have k2:(Af (AJ false) S)[i*4+1+1]?=some (.ro S[i].vers.length (Af AE S[i].vers)):=Bt (f:=AJ false) (s:=4) (fun _=>rfl) d1 (i:=2) (by omega)
 have k3:(Af (AJ false) S)[i*4+1+1+1]?=some (.ro S[i].sess.length (Af (Ay false) S[i].sess)):=Bt (f:=AJ false) (s:=4) (fun _=>rfl) d1 (i:=3) (by omega)
 obtain⟨hsi,hsx⟩:=Q3 (hS2 _ (List.getElem_mem d1))
 have hsm:=hS2 _ (List.getElem_mem d1)
 obtain⟨s,hsd⟩:∃s,s=S[i]:=⟨_,rfl⟩
 rw[←hsd] at k0 k1 k2 k3 hsi hsx hsm
 have hvl:=hsm.1
 have spS:=Q0 s hsi hsx
 have spC:=NN s hsi hsx
 have spL:=I0 s hsi
 refine Ag (an d1 d2') ?_;intro K hK
 refine zk ?_;clear hK K
 refine zt ?_
 refine W.skip ?_
 refine zb ?_
 refine MU (an d1 (an k0 (an k1 (an k2 k3)))) ?_;intro K hK
 refine Ab.eq spC (by simp) (by simp) ?_
 refine zx ?_
 refine zk ?_;clear hK K
 by_cases hok:C9 s
 rotate_left
 .rw[decide_eq_false hok] at spS
  refine z0 ?_;intro K hK
  refine Ab.eq spS (by simp) (by simp) ?_
  refine zx ?_
  refine zk ?_;clear hK K
  refine zt ?_
  refine W.exit ?_
  refine zs ?_
  exact⟨i+1,by omega,by omega,Wk.cutM (k:=1) (by simp[Ad]) (by simp) (by simp) (by simp) (by simp) (by simp)⟩
 rw[decide_eq_true hok] at spS
 by_cases c2:s.vers.length=0
 .have c2' :(s.vers=[])=True:=eq_true (List.eq_nil_of_length_eq_zero c2)
  refine z0 ?_;intro K hK
  refine Ab.eq spS (by simp) (by simp) ?_
  refine AI c2' ?_
  refine zk ?_;clear hK K
  refine zt ?_
  refine W.exit ?_
  refine zs ?_
  exact⟨i+1,by omega,by omega,Wk.cutM (k:=1) (by simp[Ad]) (by simp) (by simp) (by simp) (by simp) (by simp)⟩
 have c2' :(s.vers=[])=False:=eq_false (fun h=>c2 (by rw[h];rfl))
 by_cases c3:12≤s.vers.length
 .have c3' :(12:Int)≤(s.vers.length:Int):=by omega
  refine z0 ?_;intro K hK
  refine Ab.eq spS (by simp) (by simp) ?_
  refine AI (an c2' c3') ?_
  refine zk ?_;clear hK K
  refine zt ?_
  refine W.exit ?_
  refine zs ?_
  exact⟨i+1,by omega,by omega,Wk.cutM (k:=1) (by simp[Ad]) (by simp) (by simp) (by simp) (by simp) (by simp)⟩
 have c3' :¬(12:Int)≤(s.vers.length:Int):=by omega
 by_cases c4:1048576≤AP s.vers
 .refine z0 ?_;intro K hK
  refine Ab.eq spS (by simp) (by simp) ?_
  refine AI (an c2' c3') ?_
  refine Ab.eq spL (by simp) (by simp) ?_
  refine AI c4 ?_
  refine zk ?_;clear hK K
  refine zt ?_
  refine W.exit ?_
  refine zs ?_
  exact⟨i+1,by omega,by omega,Wk.cutM (k:=1) (by simp[Ad]) (by simp) (by simp) (by simp) (by simp) (by simp)⟩
 refine z0 ?_;intro K hK
 refine Ab.eq spS (by simp) (by simp) ?_
 refine AI (an c2' c3') ?_
 refine Ab.eq spL (by simp) (by simp) ?_
 refine AI c4 ?_
 refine zk ?_;clear hK K
 refine zn ?_
 refine W.skip ?_
 refine zs ?_
 refine zs ?_
 have hv0:0<s.vers.length:=by omega
 have hdl:∀v∈s.vers,v.data.data.size<1000000000:=hsi.2.2
 (repeat refine W.seq ?_);refine W.block (W.loopS (fun k:Nat=> [(1,.ptr 0 0 0),(3,.int .i64 i),(4,.ptr 1 0 0),(5,.int .i64 (Ax (s.vers.take k))),(6,.int .i64 k)]) (fun k=> [.live 0 [.ro S.length (Af (AJ false) S),.ro L.length (DE L),.ro G.length (Af (AX false) G),.ro na [],.ro nn []],.live 0 [.int .i64 s.keep,.int .i64 s.blocks,.tok 2 0 8 0 s.vers.length,.tok 3 0 12 0 s.sess.length],.live 0 (Af AE (Ew s.vers k)),.live 0 (Af (Ay true) s.sess)]) (fun k=>s.vers.length-k) (fun k=>k≤s.vers.length∧0≤Ax (s.vers.take k)∧Ax (s.vers.take k)<1000000000*(k+1)) 0 (Wk.fr (by simp[Ad,Ax,Vk])) (by simp[Ax]) ?_)
 rintro k ⟨hk,ht0,ht1⟩
 by_cases e1:k<s.vers.length
 .have hn:=Eb s.vers[k].data
  have hd:=hdl _ (List.getElem_mem e1)
  have hn2:Ba s.vers[k].data<1000000000:=by unfold Ba;omega
  have hst:=OI e1
  have hls:=PX e1
  have hla:=Tj e1
  have hll:=Jt s.vers k
  have hll2:=Jt s.vers (k+1)
  have spN:=KZ s.vers[k].data hd
  obtain⟨l,hl⟩:∃l,l=Ew s.vers k:=⟨_,rfl⟩
  obtain⟨m,hm⟩:∃m,m=Ew s.vers (k+1):=⟨_,rfl⟩
  obtain⟨t,ht⟩:∃t,t=Ax (s.vers.take k):=⟨_,rfl⟩
  simp only[←hl,←ht] at hla hll hls ht0 ht1 hst ⊢
  rw[←hm] at hls hll2
  have e2:k<l.length:=by omega
  have hset:(Af AE l).set (k*8+5) (.int .i64 t)=Af AE m:=by
   rw[Ml t l k e2,hla,hls]
  have e3:k<m.length:=by omega
  have hmk:m[k].data=s.vers[k].data:=by
   have:m[k]={s.vers[k] with at_:=t}:=by simp[←hls]
   rw[this]
  have b1:k*8+5<(Af AE l).length:=by simp;omega
  refine Ag e1 ?_;intro K hK
  refine zk ?_;clear hK K
  refine zt ?_
  refine W.skip ?_
  refine zb ?_
  refine Ag (an e1 e2) ?_;intro K hK
  refine zk ?_;clear hK K
  rw[hset]
  have m3:(Af AE m)[k*8+3]?=some (.str m[k].data.data):=Bt (f:=AE) (s:=8) (fun _=>rfl) e3 (i:=3) (by omega)
  have m4:(Af AE m)[k*8+3+1]?=some (.int .i64 m[k].data.n):=Bt (f:=AE) (s:=8) (fun _=>rfl) e3 (i:=4) (by omega)
  refine Ag (an e1 (an e3 (an m3 m4))) ?_;intro K hK
  refine Ab.eq spN (by simp[hmk]) (by simp) ?_
  refine zx ?_
  refine zk ?_;clear hK K
  refine zs ?_
  subst hm
  exact⟨k+1,by omega,⟨by omega,by omega,by omega⟩,Wk.fr (by simp[Ad,hst])⟩
 have hke:k=s.vers.length:=by omega
 subst hke
 refine Ag e1 ?_;intro K hK
 refine zk ?_;clear hK K
 refine zn ?_
 refine W.exit ?_
 rw[Re]
 rw[List.take_length] at ht0 ht1
 obtain⟨tt,htt⟩:∃tt,tt=Ax s.vers:=⟨_,rfl⟩
 obtain⟨l,hl⟩:∃l,l=BP s.vers 0:=⟨_,rfl⟩
 have hll:l.length=s.vers.length:=by rw[hl,K8]
 have l0:0<l.length:=by omega
 have hlb:l[0].base=s.vers[0].base:=by
  have:=congrArg (fun x=>x[0]?) (Ec (fun v=>v.base) (fun _ _=>rfl) s.vers 0)
  simp only[←hl,List.getElem?_map,List.getElem?_eq_getElem l0,List.getElem?_eq_getElem hv0] at this
  simpa using this
 have hlda:l[0].data=s.vers[0].data:=by
  have:=congrArg (fun x=>x[0]?) (Ec (fun v=>v.data) (fun _ _=>rfl) s.vers 0)
  simp only[←hl,List.getElem?_map,List.getElem?_eq_getElem l0,List.getElem?_eq_getElem hv0] at this
  simpa using this
 have hlid:AP l=AP s.vers:=by rw[hl];exact Ho _ _ (Ec (fun v=>v.id) (fun _ _=>rfl) _ _)
 have hd0:=hdl _ (List.getElem_mem hv0)
 obtain⟨q,hq⟩:∃q,q={s with vers:=l}:=⟨_,rfl⟩
 have hqs:q.vers=l∧q.sess=s.sess∧q.keep=s.keep∧q.blocks=s.blocks:=by rw[hq];exact⟨rfl,rfl,rfl,rfl⟩
 obtain⟨q1,q2,q3,q4⟩:=hqs
 have hqi:Bp q:=by
  have:=(Ip (n:=s.blocks) hsi hsx).1
  rw[hq,hl];exact this
 have spL2:=I0 q hqi
 rw[q1,hlid] at spL2
 have tk0:List.take s.vers.length l=l:=List.take_of_length_le (by omega)
 rw[←hl,←htt]
 rw[←htt] at ht0 ht1
 have hln:=Gw hok.1
 have l0i:(0:Int)<(s.vers.length:Int):=by omega
 have f2:(Af AE l)[2]?=some (.int .i64 s.vers[0].base):=by
  have:(Af AE l)[0*8+2]?=some (.int .i64 l[0].base):=Bt (f:=AE) (s:=8) (fun _=>rfl) l0 (i:=2) (by omega)
  rw[hlb] at this;simpa using this
 have f3:(Af AE l)[3]?=some (.str s.vers[0].data.data):=by
  have:(Af AE l)[0*8+3]?=some (.str l[0].data.data):=Bt (f:=AE) (s:=8) (fun _=>rfl) l0 (i:=3) (by omega)
  rw[hlda] at this;simpa using this
 have f4:(Af AE l)[4]?=some (.int .i64 s.vers[0].data.n):=by
  have:(Af AE l)[0*8+4]?=some (.int .i64 l[0].data.n):=Bt (f:=AE) (s:=8) (fun _=>rfl) l0 (i:=4) (by omega)
  rw[hlda] at this;simpa using this
 (repeat refine W.seq ?_);refine W.regd 1 rfl true Ci (by kernel_rfl) fun K hK=>?_;simp -implicitDefEqProofs (maxSteps:=999999) (disch:=omega) [hv0,f2,f3,f4]
 refine Ah.eq spL2 (by simp[q1,q2,q3,q4,tk0,hll]) (by simp) ?_
 refine AI (an hv0 (an f2 (an f3 f4))) ?_
 refine zk ?_;clear hK K
 have spN0:=KZ s.vers[0].data hd0
 refine z0 ?_;intro K hK
 refine Ab.eq spN0 (by simp) (by simp) ?_
 refine zx ?_
 refine zk ?_;clear hK K
 have hnp:=Eb s.vers[0].data
 have hn2:Ba s.vers[0].data<1000000000:=by unfold Ba;omega
 by_cases c5:100<tt+Ba s.vers[0].data
 .refine Ag c5 ?_;intro K hK
  refine zk ?_;clear hK K
  refine zt ?_
  refine W.exit ?_
  refine zs ?_
  exact⟨i+1,by omega,by omega,Wk.cutM (k:=1) (by simp[Ad]) (by simp) (by simp) (by simp) (by simp) (by simp)⟩
 have hle:Ax s.vers+Ba s.vers[0].data≤100:=by omega
 have hl12:s.vers.length<12:=by omega
 have full:=PV hok hl12 (by omega) hv0 hle
 obtain⟨y,room,hyl,⟨u,hu,hua⟩,hys⟩:=PW hok hl12 (by omega) hv0 hle
 rw[←htt] at full room hua
 obtain⟨o,ho⟩:∃o,o=C4 s s.vers[0]:=⟨_,rfl⟩
 have hos:o.id=AP s.vers+1∧o.base=s.vers[0].base∧o.data=s.vers[0].data:=by rw[ho];exact⟨rfl,rfl,rfl⟩
 obtain⟨o1,o2,o3⟩:=hos
 have hod:o.data.data.size<1000000000:=by rw[ho];exact hd0
 obtain⟨p,hp⟩:∃p,p=BG s tt:=⟨_,rfl⟩
 have hps:p.vers=l∧p.sess=s.sess∧p.keep=s.keep∧p.blocks=tt:=by rw[hp,hl];exact⟨rfl,rfl,rfl,rfl⟩
 obtain⟨p1,p2,p3,p4⟩:=hps
 obtain⟨q,hq⟩:∃q,q=BG s (tt+Ba s.vers[0].data):=⟨_,rfl⟩
 have hqs:q.vers=l∧q.sess=s.sess∧q.keep=s.keep∧q.blocks=tt+Ba s.vers[0].data:=by rw[hq,hl];exact⟨rfl,rfl,rfl,rfl⟩
 obtain⟨q1,q2,q3,q4⟩:=hqs
 obtain⟨pin,psx⟩:Bp p∧Dn p:=by rw[hp];exact Ip hsi hsx
 obtain⟨qin,qsx⟩:Bp q∧Dn q:=by rw[hq];exact Ip hsi hsx
 have sp1:=SA hR p o 0 pin psx hod (by rw[p1];omega)
 have sp2:=SA hR q o 0 qin qsx hod (by rw[q1];omega)
 rw[←hp,←ho] at full
 rw[←hq,←ho] at room
 rw[full] at sp1
 rw[room] at sp2
 refine Ag c5 ?_;intro K hK
 refine zk ?_;clear hK K
 refine zn ?_
 refine W.skip ?_
 refine zs ?_
 refine z1 ?_;intro K hK
 refine Ab.eq sp1 (by simp[p1,p2,p3,p4,o1,o2,o3,tk0,hll]) (by simp) ?_
 simp only[DU];simp -implicitDefEqProofs (maxSteps:=999999) (disch:=omega) [CI]
 refine zk ?_;clear hK K
 refine zs ?_
 refine z1 ?_;intro K hK
 refine Ab.eq sp2 (by simp[q1,q2,q3,q4,o1,o2,o3,tk0,hll]) (by simp) ?_
 refine zx ?_
 refine zk ?_;clear hK K
 have hyn:s.vers.length<y.vers.length:=by omega
 have fy:(Af AE y.vers)[s.vers.length*8+5]?=some (.int .i64 tt):=by
  have e:(Af AE y.vers)[s.vers.length*8+5]?=some (.int .i64 y.vers[s.vers.length].at_):=Bt (f:=AE) (s:=8) (fun _=>rfl) hyn (i:=5) (by omega)
  rw[List.getElem?_eq_getElem hyn] at hu
  simp only[Option.some.injEq] at hu
  rw[e,hu,hua]
 refine z0 ?_;intro K hK
 refine Ab.eq (IV 5) (by simp) (by simp) ?_
 refine zx ?_
 refine Ab.eq (IV 0) (by simp) (by simp) ?_
 refine AI (an hyl fy) ?_
 refine⟨by omega,?_⟩
 refine zk ?_;clear hK K
 refine zn ?_
 refine W.skip ?_
 refine zs ?_
 exact⟨i+1,by omega,by omega,Wk.cutM (k:=1) (by simp[Ad]) (by simp) (by simp) (by simp) (by simp) (by simp)⟩
end Go.Abs
set_option maxRecDepth 100000
namespace Go.Abs
open Go.Proofs
theorem Tk {C:A6} {T:Nat→Option TI} (tk:BC C.P T) {t e es eb:Nat} {ez:List AV} (htd:Am T t= .slice e es eb ez) {a:Option Addr} {n c l h:Nat} {lo hi:Option (IntKind×Int)} (hnc:n≤c) (h1:EO (hi.map fun x=> .int x.1 x.2) n n=some h) (h2:EO (lo.map fun x=> .int x.1 x.2) 0 h=some l) (w:World):
 (Instr.sliceAt t (.slice a n c) (lo.map fun x=> .int x.1 x.2) (hi.map fun x=> .int x.1 x.2) none).run C.P w= .ok (.slice (if c=l then a else a.map (·.add (l*es))) (h-l) (c-l)) w:=by
 obtain⟨hD,E,z,hE,hs,_⟩:=Cw tk htd
 have hh:∀(x:Option (IntKind×Int)) (y:AV),(x.map fun x=>AV.int x.1 x.2)=some y→∃u,(x.map fun x=>Value.int x.1 x.2)=some u∧VR w C.sh (fun _ _=>none) y u (fun _=>0):=by
  intro x y hy
  cases x with
  |none=>simp at hy
  |some x=>simp at hy;subst hy;exact⟨_,rfl,rfl,fun _=>rfl⟩
 have hb:=(EP (P:=C.P) (w:=w) (σ:=fun _ _=>none) (C:=C) true (hh lo) (by cases lo<;>simp) (hh hi) (by cases hi<;>simp) hnc h1 h2).1
 simp only[Instr.sliceAt,Sem.run_bind,run_underlying hD,Result.andThen_ok,Instr.slice,hb,BT hE,hs,Sem.run_pure]
theorem PZ {C:A6} {T:Nat→Option TI} (tk:BC C.P T) {F:Fr} {M:List Ae} {a:Act} {w:World} {σ:Nat→Nat→Option St} {own:Nat→Option Nat} (R:AH C F M a w σ own) {t e eb:Nat} {ez:List AV} (htd:Am T t= .slice e 1 eb ez) {B v off n tx ty d ty' :Nat} {pos:String} {af:Array Edge} {cs ys:List AV} (hb:Ai M B v=some cs) (hx:F tx= .tok B v 1 off n) (hxn:tx<C.n) (hyn:ty<C.n)
 {m:Nat} (hyc:CH M (F ty)=some (m,ys)) (hyl:ys.length=m*1) (hyo:ys.all Dl=true) (hle:off+n≤cs.length) (hn:0<n) (hm:0<m) {next:Act→World→Prop} {Q:Exit→Act→World→Prop}
 (hK:∀a' w',AH C (A8 F d (.int .i64 (min m n:Nat))) (M.set B (.live v (Dj cs off (ys.take (min m n))))) a' w' σ own→(∀t,t≠d→a'.tmps.getD t undef=a.tmps.getD t undef)→next a' w'):
 Oper.wpIn (FX C) 0 C.P {dst:=some d,op:= .call {callee:= .builtin .copy,args:= #[.tmp tx,.tmp ty],argTypes:= #[t,t]},type:=ty',pos:=pos,after:=af,guard:=none} a w next Q:=by
 have e1:=R.tmp tx hxn;rw[hx] at e1
 obtain⟨w',hrun,R'⟩:=R.copy (ty:=ty') tk htd hb e1 (R.tmp ty hyn) hyc hyl hyo hle hn hm
 refine Oper.wp_value (fun _ h=>by cases h) (v:= .int .i64 (min m n:Nat)) (w' :=w') ?_ (hK _ _ (R'.put (some d) (av:= .int .i64 (min m n:Nat)) ⟨rfl,fun _=>rfl⟩) fun t ht=>Be ht)
 have e2:∀t,a.eval (.tmp t)=a.tmps.getD t undef:=fun _=>rfl
 simp only[execOp,resolve,invoke,builtin,e2,List.map_toArray,List.map_cons,List.map_nil,Sem.run_bind,hrun,Result.andThen_ok,Sem.run_pure]
theorem P0 {C:A6} (hrd:C.rd=none) {K:Act→World→Prop} {ops:Array Oper} {i d fuel:Nat} {listed:Array Bool} {F:Fr} {M:List Ae} {a:Act} {w:World} {σ:Nat→Nat→Option St} {own:Nat→Option Nat} {o:Oper} {v:Value} {av:AV} (R:AH C F M a w σ own) (ho:ops[i]?=some o) (hd:o.dst=some d) (hg:o.guard=none) (hs:Region.noSelect ops=true) (hf:Region.free .any ops listed i=true) (hr:(Region.ready .any ops listed).contains i=true)
 (hv:VR w C.sh σ av v (fun _=>0)) (hrun:∀w,(execOp a.eval o).run C.P w= .ok (.value v) w) (hab:∀w,o.about C.P w a.eval=none) (next:∀a',AH C (A8 F d av) M a' w σ own→wpAnyIn (FX C) 0 C.P .any ops (fun e a w=>e= .normal∧K a w) fuel (listed.setIfInBounds i true) a' w):wpAnyIn (FX C) 0 C.P .any ops (fun e a w=>e= .normal∧K a w) (fuel+1) listed a w:=by
 refine wpAnyIn_take (i:=i) (v:=v) (by simp[FX,hrd]) ho hs hf hr (fun _ _ _ h=>by cases h.1) ⟨.inl ⟨by simp[Region.wanted,hg],hrun⟩,hab⟩ ?_
 rw[hd]
 exact next _ (R.put (some d) hv)
theorem F9 {C:A6} (hrd:C.rd=none) {K:Act→World→Prop} {ops:Array Oper} {i d s ty fuel:Nat} {pos:String} {af:Array Edge} {listed:Array Bool} {F:Fr} {M:List Ae} {a:Act} {w:World} {σ:Nat→Nat→Option St} {own:Nat→Option Nat} (R:AH C F M a w σ own) (ho:ops[i]?=some {dst:=some d,op:= .move (.tmp s),type:=ty,pos:=pos,after:=af,guard:=none}) (hs:Region.noSelect ops=true) (hf:Region.free .any ops listed i=true) (hr:(Region.ready .any ops listed).contains i=true) (hn:s<C.n)
 (next:∀a',AH C (A8 F d (F s)) M a' w σ own→wpAnyIn (FX C) 0 C.P .any ops (fun e a w=>e= .normal∧K a w) fuel (listed.setIfInBounds i true) a' w):wpAnyIn (FX C) 0 C.P .any ops (fun e a w=>e= .normal∧K a w) (fuel+1) listed a w:=
 P0 hrd R ho rfl rfl hs hf hr (R.tmp s hn) (fun w=>by simp only[execOp];rfl) (fun _=>rfl) next
theorem Lf {C:A6} {T:Nat→Option TI} (tk:BC C.P T) (hrd:C.rd=none) {K:Act→World→Prop} {ops:Array Oper} {i d s ty t e es eb fuel B v n l h:Nat} {ez:List AV} {lo hi:Option (Nat×IntKind×Int)} {pos:String} {af:Array Edge} {listed:Array Bool} {F:Fr} {M:List Ae} {a:Act} {w:World} {σ:Nat→Nat→Option St} {own:Nat→Option Nat} (R:AH C F M a w σ own) (ho:ops[i]?=some {dst:=some d,op:= .slice t (.tmp s) (lo.map fun x=> .tmp x.1) (hi.map fun x=> .tmp x.1) none,type:=ty,pos:=pos,after:=af,guard:=none}) (hs:Region.noSelect ops=true) (hf:Region.free .any ops listed i=true) (hr:(Region.ready .any ops listed).contains i=true) (hn:s<C.n) (htd:Am T t= .slice e es eb ez) (hF:F s= .tok B v es 0 n) (hb:(Ai M B v).isSome) (hlo:∀x,lo=some x→x.1<C.n∧F x.1= .int x.2.1 x.2.2) (hhi:∀x,hi=some x→x.1<C.n∧F x.1= .int x.2.1 x.2.2)
 (h1:EO (hi.map fun x=> .int x.2.1 x.2.2) n n=some h) (h2:EO (lo.map fun x=> .int x.2.1 x.2.2) 0 h=some l)
 (next:∀a',AH C (A8 F d (.tok B v es (l*es) (h-l))) M a' w σ own→wpAnyIn (FX C) 0 C.P .any ops (fun e a w=>e= .normal∧K a w) fuel (listed.setIfInBounds i true) a' w):wpAnyIn (FX C) 0 C.P .any ops (fun e a w=>e= .normal∧K a w) (fuel+1) listed a w:=by
 have hx:=R.tmp s hn
 rw[hF] at hx
 obtain⟨cs,hcs⟩:=Option.isSome_iff_exists.1 hb
 obtain⟨_,fp,hB,_⟩:=BZ R.mem hcs
 have hx2:=hx
 simp only[VR] at hx2
 obtain⟨_,⟨ad,c,hval⟩,st,hst,hnil,hloc⟩:=hx2
 have hnc:n≤c:=by
  simp only[BR] at hB
  rcases hB.2 with⟨h1,_,_⟩ | ⟨g,b,cur,e',fp',h1,_⟩
  .rw[h1] at hst;simp at hst;subst hst
   have:=(hnil rfl).2.2;omega
  .rw[h1] at hst;simp at hst;subst hst
   obtain⟨a2,c2,e2,_,e3,_⟩:=hloc _ _ _ rfl
   rw[hval] at e2;cases e2;exact e3
 have el:(lo.map fun x=>Operand.tmp x.1).map a.eval=(lo.map fun x=>x.2).map fun x=>Value.int x.1 x.2:=by
  cases lo with
  |none=>rfl
  |some x=>
   obtain⟨h3,h4⟩:=hlo x rfl
   have:=R.tmp x.1 h3;rw[h4] at this
   simp only[Option.map_some];exact congrArg some this.1
 have eh:(hi.map fun x=>Operand.tmp x.1).map a.eval=(hi.map fun x=>x.2).map fun x=>Value.int x.1 x.2:=by
  cases hi with
  |none=>rfl
  |some x=>
   obtain⟨h3,h4⟩:=hhi x rfl
   have:=R.tmp x.1 h3;rw[h4] at this
   simp only[Option.map_some];exact congrArg some this.1
 have e1:a.eval (.tmp s)= .slice ad n c:=hval
 have hall:=Tk tk htd (a:=ad) (lo:=lo.map fun x=>x.2) (hi:=hi.map fun x=>x.2) hnc (by rw[Option.map_map];exact h1) (by rw[Option.map_map];exact h2)
 obtain⟨u,hu,hv⟩:=Pq R.mem tk (t:=t) (lo:=lo.map fun x=>AV.int x.2.1 x.2.2) (hi:=hi.map fun x=>AV.int x.2.1 x.2.2) (mx:=none) (vl:=(lo.map fun x=>x.2).map fun x=>Value.int x.1 x.2) (vh:=(hi.map fun x=>x.2).map fun x=>Value.int x.1 x.2) (vm:=none) hx (by
  intro y hy;cases lo with
  |none=>simp at hy
  |some x=>simp at hy;subst hy;exact⟨_,rfl,rfl,fun _=>rfl⟩) (by cases lo<;>simp) (by
  intro y hy;cases hi with
  |none=>simp at hy
  |some x=>simp at hy;subst hy;exact⟨_,rfl,rfl,fun _=>rfl⟩) (by cases hi<;>simp) (by simp) (by simp) (r:= .tok B v es (0+l*es) (h-l)) (by
  unfold HW
  simp only[htd]
  rw[if_pos ⟨trivial,hb⟩]
  simp only[h1,h2])
 rw[hval] at hu
 have h5:=hall w
 rw[h5] at hu
 cases hu
 refine P0 hrd R ho rfl rfl hs hf hr (by simpa using hv) (fun w=>?_) (fun _=>rfl) next
 simp only[execOp,e1,el,eh,Option.map_none,Sem.run_bind,hall,Result.andThen_ok,Sem.run_pure]
theorem Vl {C:A6} {T:Nat→Option TI} (tk:BC C.P T) {F:Fr} {M:List Ae} {a:Act} {w:World} {σ:Nat→Nat→Option St} {own:Nat→Option Nat} {o:Oper} {next:Act→World→Prop} {Q:Exit→Act→World→Prop} (R:AH C F M a w σ own) (hb:Bb C.n o=true) (hnd:∀c,o.op≠ .defer c) {r:AV} (hv:pv T M F o=some r)
 (h:∀a',AH C (Aj F o.dst r) M a' w σ own→next a' w):o.wpIn (FX C) 0 C.P a w next Q:=by
 obtain⟨u,hu,hr⟩:=OJ tk R hb hv
 exact Oper.wp_value hnd hu (h _ (R.put _ hr))
theorem N7 (a b:Int):∀(j k m:Nat),j≤m→Dj (Ac (List.replicate k a++List.replicate m b)) k (Ac (List.replicate j a))=Ac (List.replicate (k+j) a++List.replicate (m-j) b)
 |0,k,m,_=>by simp[Dj,Ac]
 |j+1,k,m,h=>by
  obtain⟨m,rfl⟩:∃m',m=m' +1:=⟨m-1,by omega⟩
  have ih:=N7 a b j (k+1) m (by omega)
  have e:(Ac (List.replicate k a++List.replicate (m+1) b)).set k (.int .i64 a)=Ac (List.replicate (k+1) a++List.replicate m b):=by
   rw[List.replicate_succ,List.replicate_succ',List.append_assoc]
   simp only[Ac,List.map_append,List.map_cons]
   rw[List.set_append_right _ _ (by simp)]
   simp
  have e2:Ac (List.replicate (j+1) a)= .int .i64 a::Ac (List.replicate j a):=by simp[Ac,List.replicate_succ]
  rw[e2,Dj,e,ih,show k+1+j=k+(j+1) by omega,show m+1-(j+1)=m-j by omega]
theorem Rf (n:Nat) (hn1:1≤n) (hn:n<1000):Aa pg 250 [.ro 1 [.int .i64 (-1)],.int .i64 n] [] (fun r _=>r= .own 1 n (Ac (List.replicate n (-1)))):=by
 refine Aa.enterA (fn:=Tryz.f250) tk rfl rfl rfl (Nat.le_of_ble_eq_true rfl) (by kernel_rfl) ?_
 intro C hC hp hnC hrd hdf
 have hp0:C.p≤0:=Nat.le_of_eq hp
 have hn48:C.n=48:=hnC
 show AW C _ _ _ (Hv tT [.tmp 4] 0 _)
 rw[Ar]
 refine AW.seqW tk hC hp0 (by rw[hn48];kernel_rfl) ?_
 refine zs ?_
 refine AW.seqW tk hC hp0 (by rw[hn48];kernel_rfl) ?_
 refine zs ?_
 refine zn ?_
 refine W.skip ?_
 refine AW.seqW tk hC hp0 (by rw[hn48];kernel_rfl) ?_
 refine z0 ?_;intro K hK
 refine Ab.eq (Wa n hn) (by simp) (by simp) ?_
 refine zx ?_
 refine zk ?_;clear hK K
 refine AW.seqW tk hC hp0 (by rw[hn48];kernel_rfl) ?_
 have z1:¬(9223372036854775807<(n:Int)):=by omega
 refine Ag z1 ?_;intro K hK
 refine zk ?_;clear hK K
 refine zn ?_
 refine W.skip ?_
 refine AW.seqW tk hC hp0 (by rw[hn48];kernel_rfl) ?_
 (repeat refine W.seq ?_);refine W.reg 1 rfl fun K hK=>?_;simp -implicitDefEqProofs (maxSteps:=999999) (disch:=omega)
 refine zk ?_;clear hK K
 have hz:DI n [AV.int .i64 0]=Ac (List.replicate n 0):=by
  simp only[DI,Ac]
  clear z1 hn1 hn
  induction n with
  |zero=>rfl
  |succ n ih=>simp[List.replicate_succ,ih]
 rw[hz]
 refine AW.seq ?_
 intro a w hr
 refine wpIn_region_lit ?_
 refine(Fn (hC ▸ tk) (K:=fun F' M' =>Wk 0 F' M' (fr [(7,.tok 0 0 1 0 n),(31,.tok 0 0 1 0 n),(32,.ro 1 [.int .i64 (-1)])]) [.live 0 (Ac (List.replicate n 0))]) ?_ [_,_] 1 _ _ a w ?_ ?_ ?_ hr:wpListIn _ _ _ _ _ ([_,_]++[_,_]) a w)
 rotate_left
 .rw[hn48];kernel_rfl
 .rw[hn48];kernel_rfl
 .refine Ef (call:=Ab pg) (call' :=De C) (fun f args M K K' hk hc=>(hc C hC).mono hk) (fun _ _ h=>h) _ _ _ _ ?_
  simp -implicitDefEqProofs (maxSteps:=999999) (disch:=omega)
  exact Wk.fr (by simp[Ad])
 clear hr a w
 intro F' M' a w hwk hr
 obtain⟨σ,own,R⟩:=hwk C hp0 a w hr
 clear hr hwk
 simp only[wpListIn]
 rw[if_pos (by simp[Region.wanted])]
 refine PZ (hC ▸ tk) R (t:=28) (e:=3) (eb:=8) (ez:=[.int .i64 0]) rfl (cs:=Ac (List.replicate n 0)) (B:=0) (v:=0) (off:=0) (n:=n) (m:=1) (ys:=[.int .i64 (-1)]) rfl rfl (by omega) (by omega) rfl rfl rfl (by simp) (by omega) (by omega) ?_
 intro a' w' R' _
 rw[if_pos (by simp[Region.wanted])]
 have e33:a'.eval (.tmp 33)= .int .i64 (min 1 n:Nat):=by
  have:=R'.tmp 33 (by omega)
  have h2:a'.tmps.getD 33 undef= .int .i64 (min 1 n:Nat):=by simpa[A8,VR,fr] using this.1
  exact h2
 have hmin:min 1 n=1:=by omega
 rw[hmin] at R' e33
 refine Oper.wp_value (fun _ h=>by cases h) (v:= .int .i64 (1:Nat)) (w' :=w') (by simp only[execOp,e33];rfl) (.inl ⟨_,_,?_,σ,own,R'.put (some 8) (av:= .int .i64 (1:Nat)) ⟨rfl,fun _=>rfl⟩⟩)
 have hset:[Ae.live 0 (Ac (List.replicate n 0))].set 0 (.live 0 (Dj (Ac (List.replicate n 0)) 0 (List.take 1 [AV.int .i64 (-1)])))=[.live 0 (Ac (List.replicate 1 (-1)++List.replicate (n-1) 0))]:=by
  obtain⟨j,rfl⟩:∃j,n=j+1:=⟨n-1,by omega⟩
  simp[Ac,Dj,List.replicate_succ]
 rw[hset]
 clear R' e33 hset R
 refine AW.weak (Wk.fr (S:=[(7,.tok 0 0 1 0 n),(8,.int .i64 (1:Nat))]) (by simp[Ad,A8]) C hp0) ?_
 refine AW.seq ?_
 refine AW.block ?_
 refine AW.loop (fun m F M=>∃k,m=n-k∧1≤k∧k≤n∧F=fr [(7,.tok 0 0 1 0 n),(8,.int .i64 k)]∧M=[.live 0 (Ac (List.replicate k (-1)++List.replicate (n-k) 0))]) (n-1) _ _ (Cu.refl _ _ _) ⟨1,rfl,by omega,by omega,rfl,rfl⟩ ?_
 rintro m F M ⟨k,rfl,hk1,hkn,rfl,rfl⟩
 refine AW.seqW tk hC hp0 (by rw[hn48];kernel_rfl) ?_
 by_cases hlt:k<n
 rotate_left
 .refine Ag hlt ?_;intro K hK
  refine zk ?_;clear hK K
  refine zn ?_
  refine W.exit ?_
  have ek:k=n:=by omega
  subst ek
  refine AW.seqW tk hC hp0 (by rw[hn48];kernel_rfl) ?_
  refine zs ?_
  refine AW.ret ?_
  simp only[Ca,CU,Cp]
  refine Ce (d:=0) ?_
  simp -implicitDefEqProofs (maxSteps:=999999) (disch:=omega)
 refine Ag hlt ?_;intro K hK
 refine zk ?_;clear hK K
 refine zt ?_
 refine W.skip ?_
 refine AW.block ?_
 generalize hF:A8 (A8 _ _ _) _ _=F1
 have f7:F1 7= .tok 0 0 1 0 n:=by rw[←hF];simp[A8,fr]
 have f8:F1 8= .int .i64 k:=by rw[←hF];simp[A8,fr]
 clear hF
 intro a w hr
 refine wpIn_mono (Q:=fun e a w=>e= .normal∧Cf C (fr [(7,.tok 0 0 1 0 n),(8,.int .i64 ((k+min k (n-k):Nat):Int))]) [.live 0 (Ac (List.replicate (k+min k (n-k)) (-1)++List.replicate (n-(k+min k (n-k))) 0))] a w) ?_ ?_
 rotate_left
 .rintro e a w ⟨rfl,hr⟩
  refine .inl ⟨_,_,?_,hr⟩
  exact⟨n-(k+min k (n-k)),_,_,by omega,Cu.refl _ _ _,k+min k (n-k),rfl,by omega,by omega,rfl,rfl⟩
 refine wpIn_region_any (hC ▸ Ci) ?_
 obtain⟨σ,own,R⟩:=hr
 have R:=R.drew
 show wpAnyIn _ _ _ _ _ _ 10 _ a w.drew
 generalize w.drew=w at*
 refine F9 hrd R (i:=0) rfl (by kernel_rfl) (by kernel_rfl) (by kernel_rfl) (by omega) fun a R=>?_
 refine F9 hrd R (i:=1) rfl (by kernel_rfl) (by kernel_rfl) (by kernel_rfl) (by omega) fun a R=>?_
 refine F9 hrd R (i:=2) rfl (by kernel_rfl) (by kernel_rfl) (by kernel_rfl) (by omega) fun a R=>?_
 refine Lf (hC ▸ tk) hrd R (i:=3) (lo:=some (40,.i64,k)) (hi:=none) rfl (by kernel_rfl) (by kernel_rfl) (by kernel_rfl) (by omega) (t:=28) (e:=3) (es:=1) (eb:=8) (ez:=[.int .i64 0]) (n:=n) (h:=n) (l:=k) rfl (by simp[A8,f7];exact⟨rfl,rfl⟩) rfl (by simp[A8,f8];omega) (by simp) rfl (by simp[EO];omega) fun a R=>?_
 refine F9 hrd R (i:=4) rfl (by kernel_rfl) (by kernel_rfl) (by kernel_rfl) (by omega) fun a R=>?_
 refine F9 hrd R (i:=5) rfl (by kernel_rfl) (by kernel_rfl) (by kernel_rfl) (by omega) fun a R=>?_
 refine Lf (hC ▸ tk) hrd R (i:=6) (lo:=none) (hi:=some (43,.i64,k)) rfl (by kernel_rfl) (by kernel_rfl) (by kernel_rfl) (by omega) (t:=28) (e:=3) (es:=1) (eb:=8) (ez:=[.int .i64 0]) (n:=n) (h:=k) (l:=0) rfl (by simp[A8,f7];exact⟨rfl,rfl⟩) rfl (by simp) (by simp[A8,f8];omega) (by simp[EO];omega) rfl fun a R=>?_
 refine wpAnyIn_ready (rs:=[7]) (by kernel_rfl) (by simp) (AllReadyIn.cons rfl (fun K' hK=>?_) AllReadyIn.nil)
 rw[if_pos (by simp[Region.wanted])]
 refine PZ (hC ▸ tk) R (t:=28) (e:=3) (eb:=8) (ez:=[.int .i64 0]) rfl (cs:=Ac (List.replicate k (-1)++List.replicate (n-k) 0)) (B:=0) (v:=0) (off:=k) (n:=n-k) (m:=k) (ys:=Ac (List.replicate k (-1))) rfl (by simp[A8]) (by omega) (by omega) ?_ (by simp) (by simp) (by simp) (by omega) (by omega) ?_
 .simp[A8,CH,Ai]
 intro a' w' R' _
 refine hK _ _ ?_
 refine wpAnyIn_ready (rs:=[8]) (by kernel_rfl) (by simp) (AllReadyIn.cons rfl (fun K' hK=>?_) AllReadyIn.nil)
 rw[if_pos (by simp[Region.wanted])]
 refine Vl (hC ▸ tk) R' (by rw[hn48];kernel_rfl) (fun _ h=>by cases h) (r:= .int .i64 ((k+min k (n-k):Nat):Int)) (by simp(disch:=omega) [pv,A8,f8]) fun a R=>hK _ _ ?_
 refine wpAnyIn_ready (rs:=[9]) (by kernel_rfl) (by simp) (AllReadyIn.cons rfl (fun K' hK=>?_) AllReadyIn.nil)
 rw[if_pos (by simp[Region.wanted])]
 refine Vl (hC ▸ tk) R (by rw[hn48];kernel_rfl) (fun _ h=>by cases h) (r:= .int .i64 ((k+min k (n-k):Nat):Int)) (by simp(disch:=omega) [pv,A8,f8,Aj]) fun a R=>hK _ _ ?_
 refine wpAnyIn_done (by kernel_rfl) ⟨rfl,?_⟩ _
 have hm:Dj (Ac (List.replicate k (-1)++List.replicate (n-k) 0)) k ((Ac (List.replicate k (-1))).take (min k (n-k)))=Ac (List.replicate (k+min k (n-k)) (-1)++List.replicate (n-(k+min k (n-k))) 0):=by
  have e:(Ac (List.replicate k (-1))).take (min k (n-k))=Ac (List.replicate (min k (n-k)) (-1)):=by
   simp only[Ac,←List.map_take,List.take_replicate]
   rw[Nat.min_eq_left (by omega)]
  rw[e,N7 _ _ _ _ _ (by omega),show n-k-min k (n-k)=n-(k+min k (n-k)) by omega]
 have hr:=Wk.fr (p:=0) (S:=[(7,.tok 0 0 1 0 n),(8,.int .i64 ((k+min k (n-k):Nat):Int))]) (by simp[Ad,A8,Aj,f7]) C hp0 a _ ⟨σ,own,R⟩
 simp only[List.set_cons_zero,hm] at hr
 exact hr
theorem P1:B1:=fun n h1 h2=>Rf n h1 h2
end Go.Abs
set_option maxRecDepth 100000
namespace Go.Proofs.YtoklapibcmnaeaaGreat
open Go.Abs Go.ChangeShapes Go.WideShapes Go.ChangeAt Go.RowKit
theorem KH (os:Os) (started:os.Started) (H:Type) (enc:TypeId×Value→H):
 ReturnsInHanded {} Tryz.checked os 4 .any (Rows.catFullSpec.pre6 enc Tryz.prog Tryz.f4 Rows.catFullRow.domain false) (Rows.catFullSpec.post enc Tryz.prog Tryz.f4 false true false false):=by
 refine returnsInHanded_of_change_sized (C:=Tryz.checked) own0 started (by kernel_rfl) Tryz.func4
  (ChangeSpec.witness6 (enc:=enc) (C:=Tryz.checked) false ⟨#[], #[.agg #[.slice none 0 0,.slice none 0 0,.slice none 0 0,.slice none 0 0,.slice none 0 0]],[]⟩ 8 (by kernel_rfl) (by kernel_rfl) (by kernel_rfl) (by kernel_rfl)) ?_
 intro W base args ds gs before hval hW _ hsz _
 exact Mj (s:=Rows.catFullSpec) Tryz.params4 (by kernel_rfl) rfl (fun _ _=>rfl) (fun S L G na nn h0 hS h1 h2 h3 h4 h5 h6=>PY P1 S L G na nn h0 hS h1 h2 h3 h4 h5 h6) W base args ds gs before hval hW hsz
theorem aw:Tryz.prog.funcNamed "herbarium/herbariumlaw14.CatFull" =some 4:=by kernel_rfl
theorem ax:joinedFacts Tryz.prog 4 Tryz.f4 Rows.catFullSpec Rows.catFullRow=true:=by kernel_rfl
theorem ay:Tryz.f4.isInstance Tryz.prog Rows.catFullRow.origin Rows.catFullRow.targs:=of_decide_eq_true (by kernel_rfl)
theorem az:Tryz.f4.isWrapper Tryz.prog Rows.catFullRow.wrapper Rows.catFullRow.mainSum:=by unfold Func.isWrapper;first| (rw[if_pos (by decide+kernel)];kernel_rfl) | (rw[if_neg (by decide+kernel)];exact⟨rfl,rfl⟩)
theorem catFull_holds:Rows.CatFullSaid:=
 OpenClaim.holds_of_wide (p:=Tryz.pinned) (s:=Rows.catFullSpec) (c:=Rows.catFullRow) 4 Tryz.f4 rfl rfl rfl rfl rfl rfl rfl ⟨rfl,rfl,rfl,rfl,rfl⟩ rfl rfl rfl rfl rfl aw Tryz.func4 ax
  ay az
  (fun os started H enc _=>KH os started H enc)
#print axioms catFull_holds
end Go.Proofs.YtoklapibcmnaeaaGreat
