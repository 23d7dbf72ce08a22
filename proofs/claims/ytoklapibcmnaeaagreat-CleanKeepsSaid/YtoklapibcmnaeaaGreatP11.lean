/- May a session be? -/
import Derived.Test.YtoklapibcmnaeaaGreatP10
set_option linter.unusedVariables false
set_option linter.unusedSimpArgs false
set_option maxRecDepth 100000
namespace Go.Abs
open Go.Proofs
theorem U1:∀{ws:List Obj} {g:Gr},C9 BD BK ws=some g->A3 g
 | [],g,h=>by simp[C9] at h;subst h;exact H8
 |o::w,g,h=>by
  simp only[C9] at h
  split at h
  .exact Hg h
  .split at h
   .simp at h
   .exact Hg h
theorem Dc (l:List Obj) (id:Int):A3 (AP l id).1:=by
 unfold AP
 split
 .exact H8
 .split
  .rename_i g hg;exact U1 hg
  .exact H8
theorem A3.inn {g:Gr} (h:A3 g):FL g:=⟨by have:=h.2.1;have:=h.2.2.1;omega,fun l hl=>by have:=Bq (h.2.2.2.1 l hl).1;omega⟩
theorem S5 (hR:BT) (s:An) (x:CZ) (hs:AS s) (hx:Eb x) (hm:Ca (Ai s)) (ho:x.opn=false):Aa pg 157 [.agg (Ao false s),.agg (Az false x)] [] (fun r _=>r= .bool (decide (AG s (Ai s) x))):=by
 have e0:(x=AR)↔x.opn=false/\x.pin=0/\x.on=false/\x.frm=0/\x.stage=AI/\x.job=CS:=CZ.ext_iff
 refine Aa.start (fn:=Tryz.f157) [.tmp 4] tk rfl rfl rfl (by kernel_rfl) (Nat.le_of_ble_eq_true rfl) rfl (by kernel_rfl) ?_
 rw[At]
 refine z2 ?_;intro K hK;refine zk ?_;clear hK K
 refine zb ?_
 refine Af ho ?_;intro K hK
 refine zk ?_;clear hK K
 refine zt ?_
 by_cases hp:x.pin=0
 .cases hon:x.on
  .by_cases hf:x.frm=0
   .refine Af (an hp (an hon hf)) ?_;intro K hK
    refine Ab.eq (Qg x.stage) (by simp) (by simp) ?_
    by_cases hst:x.stage=AI
    .rw[decide_eq_true hst]
     refine zx ?_
     refine Ab.eq (Kz x.job (by have:=hx.2.1;have:=hx.2.2;omega)) (by simp) (by simp) ?_
     refine zx ?_
     refine zk ?_;clear hK K
     refine zr ?_
     simp[AG,e0,ho,hp,hon,hf,hst]
    .rw[decide_eq_false hst]
     refine zx ?_
     refine zk ?_;clear hK K
     refine zr ?_
     simp[AG,e0,ho,hp,hon,hf,hst]
   .refine Af (an hp (an hon hf)) ?_;intro K hK
    refine zk ?_;clear hK K
    refine zr ?_
    simp[AG,e0,ho,hp,hon,hf]
  .refine Af (an hp hon) ?_;intro K hK
   refine zk ?_;clear hK K
   refine zr ?_
   simp[AG,e0,ho,hp,hon]
 .refine Af hp ?_;intro K hK
  refine zk ?_;clear hK K
  refine zr ?_
  simp[AG,e0,ho,hp]
theorem S6 (hR:BT) (s:An) (x:CZ) (hs:AS s) (hx:Eb x) (hm:Ca (Ai s)) (ho:x.opn=true) (hp:x.pin=0):Aa pg 157 [.agg (Ao false s),.agg (Az false x)] [] (fun r _=>r= .bool (decide (AG s (Ai s) x))):=by
 refine Aa.start (fn:=Tryz.f157) [.tmp 4] tk rfl rfl rfl (by kernel_rfl) (Nat.le_of_ble_eq_true rfl) rfl (by kernel_rfl) ?_
 rw[At]
 refine z2 ?_;intro K hK;refine zk ?_;clear hK K
 refine zb ?_
 refine Af ho ?_;intro K hK
 refine zk ?_;clear hK K
 refine zn ?_
 refine Af hp ?_;intro K hK
 refine zk ?_;clear hK K
 refine zn ?_
 cases hon:x.on
 .refine Bx hon ?_;intro K hK
  refine zk ?_;clear hK K
  refine zn ?_
  by_cases hf:x.frm=0
  .refine Af (an hon hf) ?_;intro K hK
   refine Ab.eq (Qg x.stage) (by simp) (by simp) ?_
   by_cases hst:x.stage=AI
   .rw[decide_eq_true hst]
    refine zx ?_
    refine zk ?_;clear hK K
    refine zn ?_
    refine z0 ?_;intro K hK
    refine Ab.eq (Kz x.job (by have:=hx.2.1;have:=hx.2.2;omega)) (by simp) (by simp) ?_
    by_cases hj:x.job=CS
    .rw[decide_eq_true hj]
     refine zx ?_
     refine zk ?_;clear hK K
     refine zt ?_
     refine zs ?_
     refine zr ?_
     simp[AG,ho,hp,hon,hf,hst,hj]
    .rw[decide_eq_false hj]
     refine zx ?_
     refine zk ?_;clear hK K
     refine zn ?_
     refine Af hp ?_;intro K hK
     refine zk ?_;clear hK K
     refine zt ?_
     refine zs ?_
     refine zr ?_
     simp[AG,ho,hp,hon,hf,hst,hj]
   .rw[decide_eq_false hst]
    refine zx ?_
    refine zk ?_;clear hK K
    refine zt ?_
    refine zs ?_
    refine zr ?_
    simp[AG,ho,hp,hon,hf,hst]
  .refine Af (an hon hf) ?_;intro K hK
   refine zk ?_;clear hK K
   refine zt ?_
   refine zs ?_
   refine zr ?_
   simp[AG,ho,hp,hon,hf]
 .by_cases hf:x.frm<0
  .refine Bx (an hon hf) ?_;intro K hK
   refine zk ?_;clear hK K
   refine zt ?_
   refine zs ?_
   refine zr ?_
   simp[AG,ho,hp,hon]
   try omega
  .by_cases hl:AN s.vers<x.frm
   .refine Bx (an hon hf) ?_;intro K hK
    refine Ah.eq (ER s hs) (by simp) (by simp) ?_
    refine AX hl ?_
    refine zk ?_;clear hK K
    refine zt ?_
    refine zs ?_
    refine zr ?_
    simp[AG,ho,hp,hon]
    try omega
   .refine Bx (an hon hf) ?_;intro K hK
    refine Ah.eq (ER s hs) (by simp) (by simp) ?_
    refine AX hl ?_
    refine Ah.eq (MN x.stage hx.1) (by simp) (by simp) ?_
    by_cases hst:A3 x.stage
    .rw[decide_eq_true hst]
     refine zx ?_
     refine zk ?_;clear hK K
     refine zn ?_
     refine Af hon ?_;intro K hK
     refine zk ?_;clear hK K
     refine zn ?_
     have hf' :0<=x.frm:=by omega
     have hl' :x.frm<=AN s.vers:=by omega
     refine z0 ?_;intro K hK
     refine Ab.eq (Kz x.job (by have:=hx.2.1;have:=hx.2.2;omega)) (by simp) (by simp) ?_
     by_cases hj:x.job=CS
     .rw[decide_eq_true hj]
      refine zx ?_
      refine zk ?_;clear hK K
      refine zt ?_
      refine zs ?_
      refine zr ?_
      simp[AG,ho,hp,hon,hf',hl',hst,hj]
     .rw[decide_eq_false hj]
      refine zx ?_
      refine zk ?_;clear hK K
      refine zn ?_
      refine Af hp ?_;intro K hK
      refine zk ?_;clear hK K
      refine zt ?_
      refine zs ?_
      refine zr ?_
      simp[AG,ho,hp,hon,hf',hl',hst,hj]
    .rw[decide_eq_false hst]
     refine zx ?_
     refine zk ?_;clear hK K
     refine zt ?_
     refine zs ?_
     refine zr ?_
     simp[AG,ho,hp,hon,hst]
theorem S7 (hR:BT) (s:An) (x:CZ) (hs:AS s) (hx:Eb x) (hm:Ca (Ai s)) (ho:x.opn=true) (hp:¬x.pin=0) (hin:∃v∈s.vers,v.id=x.pin):Aa pg 157 [.agg (Ao false s),.agg (Az false x)] [] (fun r _=>r= .bool (decide (AG s (Ai s) x))):=by
 refine Aa.start (fn:=Tryz.f157) [.tmp 4] tk rfl rfl rfl (by kernel_rfl) (Nat.le_of_ble_eq_true rfl) rfl (by kernel_rfl) ?_
 rw[At]
 refine z2 ?_;intro K hK;refine zk ?_;clear hK K
 refine zb ?_
 refine Af ho ?_;intro K hK
 refine zk ?_;clear hK K
 refine zn ?_
 refine Af hp ?_;intro K hK
 refine Ab.eq (Hi s x.pin hs) (by simp) (by simp) ?_
 have hix:¬AL (fun v:AM=>decide (v.id=x.pin)) s.vers<0:=by
  have:=(CM (f:=fun v:AM=>decide (v.id=x.pin)) (l:=s.vers)).2 (by simpa using hin)
  omega
 have hin' :(∃v∈s.vers,v.id=x.pin)=True:=eq_true hin
 refine AX hix ?_
 refine zk ?_;clear hK K
 refine zn ?_
 cases hon:x.on
 .refine Bx hon ?_;intro K hK
  refine zk ?_;clear hK K
  refine zn ?_
  by_cases hf:x.frm=0
  .refine Af (an hon hf) ?_;intro K hK
   refine Ab.eq (Qg x.stage) (by simp) (by simp) ?_
   by_cases hst:x.stage=AI
   .rw[decide_eq_true hst]
    refine zx ?_
    refine zk ?_;clear hK K
    refine zn ?_
    refine z0 ?_;intro K hK
    refine Ab.eq (Kz x.job (by have:=hx.2.1;have:=hx.2.2;omega)) (by simp) (by simp) ?_
    by_cases hj:x.job=CS
    .rw[decide_eq_true hj]
     refine zx ?_
     refine zk ?_;clear hK K
     refine zt ?_
     refine zs ?_
     refine zr ?_
     simp[AG,ho,hp,hin',hon,hf,hst,hj]
    .rw[decide_eq_false hj]
     refine zx ?_
     refine zk ?_;clear hK K
     refine zn ?_
     refine Af hp ?_;intro K hK
     refine zk ?_;clear hK K
     refine zn ?_
     refine W.skip ?_
     have hgm:=Dc (Ai s) x.pin
     have hgi:=hgm.inn
     have hre:AG s (Ai s) x↔(Du (AP (Ai s) x.pin).1 x.job=true/\BY (AP (Ai s) x.pin).1 x.job=false):=by simp[AG,ho,hp,hin',hon,hf,hst,hj]
     have spO:=US s x.pin hs hm hp
     obtain⟨g,hg⟩:∃g,g=(AP (Ai s) x.pin).1:=⟨_,rfl⟩
     rw[<-hg] at hgm hgi hre spO
     have hde:decide (AG s (Ai s) x)=(Du g x.job&&!BY g x.job):=by rw[Bool.eq_iff_iff];simp[hre]
     rw[hde]
     refine z1 ?_;intro K hK
     refine Ab.eq spO (by simp) (by simp) ?_
     refine zx ?_
     refine zk ?_;clear hK K
     refine z0 ?_;intro K hK
     refine Ab.eq (S4 hR g x.job hgi hgm hx.2) (by simp) (by simp) ?_
     cases hjo:Du g x.job
     .refine zx ?_
      refine zk ?_;clear hK K
      refine zr ?_
      simp[hjo]
     .refine zx ?_
      refine Ab.eq (Qf g x.job (by have:=hx.2.1;omega)) (by simp) (by simp) ?_
      refine zx ?_
      refine zk ?_;clear hK K
      refine zr ?_
      simp[hjo]
   .rw[decide_eq_false hst]
    refine zx ?_
    refine zk ?_;clear hK K
    refine zt ?_
    refine zs ?_
    refine zr ?_
    simp[AG,ho,hp,hin',hon,hf,hst]
  .refine Af (an hon hf) ?_;intro K hK
   refine zk ?_;clear hK K
   refine zt ?_
   refine zs ?_
   refine zr ?_
   simp[AG,ho,hp,hin',hon,hf]
 .by_cases hf:x.frm<0
  .refine Bx (an hon hf) ?_;intro K hK
   refine zk ?_;clear hK K
   refine zt ?_
   refine zs ?_
   refine zr ?_
   simp[AG,ho,hp,hin',hon]
   try omega
  .by_cases hl:AN s.vers<x.frm
   .refine Bx (an hon hf) ?_;intro K hK
    refine Ah.eq (ER s hs) (by simp) (by simp) ?_
    refine AX hl ?_
    refine zk ?_;clear hK K
    refine zt ?_
    refine zs ?_
    refine zr ?_
    simp[AG,ho,hp,hin',hon]
    try omega
   .refine Bx (an hon hf) ?_;intro K hK
    refine Ah.eq (ER s hs) (by simp) (by simp) ?_
    refine AX hl ?_
    refine Ah.eq (MN x.stage hx.1) (by simp) (by simp) ?_
    by_cases hst:A3 x.stage
    .rw[decide_eq_true hst]
     refine zx ?_
     refine zk ?_;clear hK K
     refine zn ?_
     refine Af hon ?_;intro K hK
     refine zk ?_;clear hK K
     refine zn ?_
     have hf' :0<=x.frm:=by omega
     have hl' :x.frm<=AN s.vers:=by omega
     refine z0 ?_;intro K hK
     refine Ab.eq (Kz x.job (by have:=hx.2.1;have:=hx.2.2;omega)) (by simp) (by simp) ?_
     by_cases hj:x.job=CS
     .rw[decide_eq_true hj]
      refine zx ?_
      refine zk ?_;clear hK K
      refine zt ?_
      refine zs ?_
      refine zr ?_
      simp[AG,ho,hp,hin',hon,hf',hl',hst,hj]
     .rw[decide_eq_false hj]
      refine zx ?_
      refine zk ?_;clear hK K
      refine zn ?_
      refine Af hp ?_;intro K hK
      refine zk ?_;clear hK K
      refine zn ?_
      refine W.skip ?_
      have hgm:=Dc (Ai s) x.pin
      have hgi:=hgm.inn
      have hre:AG s (Ai s) x↔(Du (AP (Ai s) x.pin).1 x.job=true/\BY (AP (Ai s) x.pin).1 x.job=false):=by simp[AG,ho,hp,hin',hon,hf',hl',hst,hj]
      have spO:=US s x.pin hs hm hp
      obtain⟨g,hg⟩:∃g,g=(AP (Ai s) x.pin).1:=⟨_,rfl⟩
      rw[<-hg] at hgm hgi hre spO
      have hde:decide (AG s (Ai s) x)=(Du g x.job&&!BY g x.job):=by rw[Bool.eq_iff_iff];simp[hre]
      rw[hde]
      refine z1 ?_;intro K hK
      refine Ab.eq spO (by simp) (by simp) ?_
      refine zx ?_
      refine zk ?_;clear hK K
      refine z0 ?_;intro K hK
      refine Ab.eq (S4 hR g x.job hgi hgm hx.2) (by simp) (by simp) ?_
      cases hjo:Du g x.job
      .refine zx ?_
       refine zk ?_;clear hK K
       refine zr ?_
       simp[hjo]
      .refine zx ?_
       refine Ab.eq (Qf g x.job (by have:=hx.2.1;omega)) (by simp) (by simp) ?_
       refine zx ?_
       refine zk ?_;clear hK K
       refine zr ?_
       simp[hjo]
    .rw[decide_eq_false hst]
     refine zx ?_
     refine zk ?_;clear hK K
     refine zt ?_
     refine zs ?_
     refine zr ?_
     simp[AG,ho,hp,hin',hon,hst]
theorem S8 (hR:BT) (s:An) (x:CZ) (hs:AS s) (hx:Eb x) (hm:Ca (Ai s)):Aa pg 157 [.agg (Ao false s),.agg (Az false x)] [] (fun r _=>r= .bool (decide (AG s (Ai s) x))):=by
 cases ho:x.opn
 .exact S5 hR s x hs hx hm ho
 by_cases hp:x.pin=0
 .exact S6 hR s x hs hx hm ho hp
 by_cases hin:∃v∈s.vers,v.id=x.pin
 .exact S7 hR s x hs hx hm ho hp hin
 refine Aa.start (fn:=Tryz.f157) [.tmp 4] tk rfl rfl rfl (by kernel_rfl) (Nat.le_of_ble_eq_true rfl) rfl (by kernel_rfl) ?_
 rw[At]
 refine z2 ?_;intro K hK;refine zk ?_;clear hK K
 refine zb ?_
 refine Af ho ?_;intro K hK
 refine zk ?_;clear hK K
 refine zn ?_
 refine Af hp ?_;intro K hK
 refine Ab.eq (Hi s x.pin hs) (by simp) (by simp) ?_
 have hix:AL (fun v:AM=>decide (v.id=x.pin)) s.vers<0:=by
  have:=mt (CM (f:=fun v:AM=>decide (v.id=x.pin)) (l:=s.vers)).1 (by simpa using hin)
  omega
 have hin' :(∃v∈s.vers,v.id=x.pin)=False:=eq_false hin
 refine AX hix ?_
 refine zk ?_;clear hK K
 refine zt ?_
 refine zs ?_
 refine zr ?_
 simp only[AG,ho,hin',hp]
 simp
theorem Bk {α:Type} {f:α->List AV} {s:Nat} (h:∀x,(f x).length=s) {k i:Nat} {xs:List α} (hk:k<xs.length) (hi:i<s):(Ac f xs)[k*s+i]?=(f xs[k])[i]?:=by
 rw[<-List.getElem?_drop,GY f h hk,List.getElem?_append_left (by rw[h];exact hi)]
def Br (s:An):Prop:=∀x∈s.sess,Eb x
theorem Xe (hR:BT) (s:An) (x:CZ) (hs:AS s) (hx:Eb x) (hm:Ca (Ai s)):Aa pg 156 ([.agg (Az false x)]++[.rptr (Ao false s)]) [] (fun r _=>r= .bool (!decide (AG s (Ai s) x))):=by
 refine Aa.start (fn:=Tryz.f156) [.tmp 3] tk rfl rfl rfl (by kernel_rfl) (Nat.le_of_ble_eq_true rfl) rfl (by kernel_rfl) ?_
 simp only[List.cons_append,List.nil_append]
 rw[At]
 refine z1 ?_;intro K hK;refine zk ?_;clear hK K
 refine z0 ?_;intro K hK
 refine Ab.eq (S8 hR s x hs hx hm) (by simp) (by simp) ?_
 refine zx ?_
 refine zk ?_;clear hK K
 exact zR
theorem O2 (hR:BT) (s:An) (hs:AS s) (hx:Br s):Aa pg 114 [.agg (Ao false s)] [] (fun r _=>r= .bool (decide (Ey s))):=by
 refine Aa.start (fn:=Tryz.f114) [.tmp 2] tk rfl rfl rfl (by kernel_rfl) (Nat.le_of_ble_eq_true rfl) rfl (by kernel_rfl) ?_
 rw[Ay]
 refine z1 ?_;intro K hK;refine zk ?_;clear hK K
 by_cases hw:GC s
 rotate_left
 .refine z0 ?_;intro K hK
  refine Ab.eq (Nq s hs) (by simp) (by simp) ?_
  rw[decide_eq_false hw]
  refine zx ?_
  refine zk ?_;clear hK K
  refine zt ?_
  refine zs ?_
  refine zr ?_
  exact fun h=>hw h.1
 have hm:=hw.2.2.2.2.2.2
 by_cases h3:s.sess.length=3
 rotate_left
 .refine z0 ?_;intro K hK
  refine Ab.eq (Nq s hs) (by simp) (by simp) ?_
  rw[decide_eq_true hw]
  refine AX h3 ?_
  refine zk ?_;clear hK K
  refine zt ?_
  refine zs ?_
  refine zr ?_
  exact fun h=>h3 h.2.1
 refine z0 ?_;intro K hK
 refine Ab.eq (Nq s hs) (by simp) (by simp) ?_
 rw[decide_eq_true hw]
 have h3' :((s.sess.length:Int)=3)=True:=eq_true (by omega)
 refine AX h3' ?_
 refine zk ?_;clear hK K
 refine zn ?_
 refine W.skip ?_
 refine z0 ?_;intro K hK
 refine Ab.eq (MU s hs) (by simp) (by simp) ?_
 obtain⟨l,hl⟩:∃l,l=Ai s:=⟨_,rfl⟩
 rw[<-hl]
 refine zx ?_
 refine zk ?_;clear hK K
 refine zs ?_
 (repeat refine W.seq ?_);refine W.block (W.loopS (fun k:Nat=> [(1,.ptr 0 0 0),(3,.tok 1 0 4 0 l.length),(19,.tok 1 0 4 0 l.length),(20,.int .i64 l.length),(21,.int .i64 k)]) (fun _=> [.live 0 (Ao false s),.live 0 (Ac As l)]) (fun k=>l.length-k) (fun k=>k<=l.length/\∀i (h:i<l.length),i<k->(AP l l[i].id).2=0) 0 (Wk.fr ?_) ⟨by omega,by simp⟩ ?_)
 .simp[Ad]
 rintro k ⟨hk,hd⟩
 refine zs ?_
 refine zc ?_ ?_<;>intro h
 .refine W.skip ?_
  have hlt:k<l.length:=by omega
  refine zb ?_
  have hml:Ca l:=by rw[hl];exact hm
  have hil:En l:=by rw[hl];exact hs.objs
  have spO:=SW l l[k].id hil hml
  have hil1:=hil.1
  obtain⟨g,hg⟩:∃g,g=(AP l l[k].id).1:=⟨_,rfl⟩
  rw[<-hg] at spO
  have c0:(Ac As l)[k*4]?=some (.int .i64 l[k].id):=Bk (f:=As) (s:=4) (fun _=>rfl) hlt (i:=0) (by omega)
  have c1:(Ac As l)[k*4+1]?=some (.int .i64 l[k].base):=Bk (f:=As) (s:=4) (fun _=>rfl) hlt (i:=1) (by omega)
  have c2:(Ac As l)[k*4+1+1]?=some (.str l[k].data.data):=Bk (f:=As) (s:=4) (fun _=>rfl) hlt (i:=2) (by omega)
  have c3:(Ac As l)[k*4+1+1+1]?=some (.int .i64 l[k].data.n):=Bk (f:=As) (s:=4) (fun _=>rfl) hlt (i:=3) (by omega)
  refine MG (an hlt (an c0 (an c1 (an c2 c3)))) ?_;intro K hK
  refine zk ?_;clear hK K
  refine z1 ?_;intro K hK
  refine Ab.eq spO (by simp) (by simp) ?_
  by_cases he:(AP l l[k].id).2=0
  .rw[he]
   refine zx ?_
   refine zk ?_;clear hK K
   refine zs ?_
   refine zn ?_
   refine W.skip ?_
   refine zs ?_
   refine⟨k+1,by omega,⟨by omega,?_⟩,Wk.cutM (k:=2) (by simp[Ad]) (by simp) (by simp) (by simp) (by simp) (by simp)⟩
   intro i hi hik
   by_cases e:i=k
   .subst e;exact he
   .exact hd i hi (by omega)
  .obtain⟨e,hee⟩:∃e,e=(AP l l[k].id).2:=⟨_,rfl⟩
   rw[<-hee] at he |-
   refine zx ?_
   refine zk ?_;clear hK K
   refine Af he ?_;intro K hK
   refine zk ?_;clear hK K
   refine zt ?_
   refine zs ?_
   refine zr ?_
   intro hM
   have:=hM.2.2.1 l[k] (by rw[<-hl];exact List.getElem_mem hlt)
   rw[<-hl,<-hee] at this
   exact he this
 .refine W.exit ?_
  have hk' :k=l.length:=by omega
  subst hk'
  have hall:∀o∈Ai s,(AP (Ai s) o.id).2=0:=fun o ho=>by
   rw[<-hl] at ho |-
   obtain⟨i,hi,rfl⟩:=List.mem_iff_getElem.1 ho
   exact hd i hi hi
  refine z0 ?_;intro K hK
  refine Ab.eq (JF s.sess 156 [.rptr (Ao false s)] (fun x=> !decide (AG s (Ai s) x)) (by have:=hs.2.1;omega) (fun x hxs=>Xe hR s x hs (hx x hxs) hm) (by simp) (by simp)) (by simp) (by simp) ?_
  refine zx ?_
  refine zk ?_;clear hK K
  refine zr ?_
  have hM:Ey s↔∀x∈s.sess,AG s (Ai s) x:=⟨fun h=>h.2.2.2,fun h=>⟨hw,h3,hall,h⟩⟩
  rw[Bool.eq_iff_iff]
  simp[hM]
theorem O3 (hR:BT) (s:An) (hs:AS s) (hx:Br s):Aa pg 72 [.agg (Ao false s)] [] (fun r _=>r= .bool (decide (A2 s))):=by
 refine Aa.start (fn:=Tryz.f72) [.tmp 2] tk rfl rfl rfl (by kernel_rfl) (Nat.le_of_ble_eq_true rfl) rfl (by kernel_rfl) ?_
 rw[Ay]
 refine z1 ?_;intro K hK;refine zk ?_;clear hK K
 by_cases h:Ey s
 .refine Cm ?_;intro K hK
  refine Ah.eq (O2 hR s hs hx) (by simp) (by simp) ?_
  rw[decide_eq_true h]
  refine zx ?_
  refine Ah.eq (Qj s hs) (by simp) (by simp) ?_
  obtain⟨l,hl⟩:∃l,l=Av s:=⟨_,rfl⟩
  rw[<-hl]
  refine zx ?_
  refine Ah.eq (aD l s.blocks (by rw[hl];simp[Av];exact hs.1)) (by simp) (by simp) ?_
  refine zx ?_
  refine zk ?_;clear hK K
  refine zr ?_
  simp[A2,h,hl]
 .refine Cm ?_;intro K hK
  refine Ah.eq (O2 hR s hs hx) (by simp) (by simp) ?_
  rw[decide_eq_false h]
  refine zx ?_
  refine zk ?_;clear hK K
  refine zr ?_
  simp[A2,h]
theorem IT (v:Int):∀(l:List (Int×Int)) (i:Nat) (f:Bool) (e:Int) (h:i<l.length),BL v (l.take (i+1)) f e=BL v (l.take i) f e++AD (if i=0 then(if f=true then BX (l[i].1-v)+1 else l[i].1-e) else l[i].1-(l[i-1].1+l[i-1].2)).toNat++AD (l[i].2-3+1).toNat
 | [],i,f,e,h=>by simp at h
 | (a,n)::t,0,f,e,h=>by simp[BL]
 | (a,n)::t,i+1,f,e,h=>by
   have ih:=IT v t i false (a+n) (by simpa using h)
   simp only[List.take_succ_cons,BL,List.getElem_cons_succ,Nat.add_sub_cancel] at ih |-
   rw[ih]
   simp only[List.append_assoc]
   congr 4
   cases i with
   |zero=>simp
   |succ i=>simp
theorem KH:∀(l:List (Int×Int)) (f:Bool) (e:Int),FG l f e->∀(i:Nat) (h:i<l.length),3<=l[i].2/\(0<i->l[i-1].1+l[i-1].2<l[i].1)
 | [],_,_,_,i,h=>by simp at h
 | (a,n)::t,f,e,hp,0,h=>⟨hp.2.1,fun h=>by omega⟩
 | (a,n)::t,f,e,hp,i+1,h=>by
   have hi:i<t.length:=by simpa using h
   have ih:=KH t false (a+n) hp.2.2 i hi
   refine⟨by simpa using ih.1,fun _=>?_⟩
   cases i with
   |zero=>
    cases t with
    |nil=>simp at hi
    |cons q t=>
     obtain⟨b,m⟩:=q
     have:=hp.2.2.1
     simpa using this
   |succ i=>simpa using ih.2 (by omega)
theorem Ho:∀(n:Nat) (l:List Int),l.length<=n->∀q∈(Am l).1,q.1∈l/\q.2<=l.length
 |_,[],_,q,hq=>by simp[Am] at hq
 |0,x::l,h,_,_=>by simp at h
 |n+1,x::l,h,q,hq=>by
  have h1:=EL x l
  have h2:=Fb (x::l)
  have h3:((x::l).drop (AZ (x::l))).length=(x::l).length-AZ (x::l):=by simp
  have ih:=Ho n ((x::l).drop (AZ (x::l))) (by omega)
  rw[Am] at hq
  split at hq
  .simp only[List.mem_cons] at hq
   rcases hq with rfl|hq
   .exact⟨by simp,by simp only;omega⟩
   .exact⟨List.mem_of_mem_drop (ih q hq).1,by have:=(ih q hq).2;omega⟩
  .exact⟨List.mem_of_mem_drop (ih q hq).1,by have:=(ih q hq).2;omega⟩
theorem Zs (xs:List Bool) (u:Nat) (v:Int) (l:List Int) (hx:xs.length<1000000) (hv:0<=v/\v<=16) (hl:AJ l):Aa pg 167 [.tok 0 u 1 0 xs.length,.int .i64 v,.ro l.length (Ae l)] [.live u (A8 xs)] (fun r M=>r= .own 1 (xs++AY v l).length (A8 (xs++AY v l))/\M=[.dead]):=by
 have hll:=Bq hl
 have spS:=Xa l (by omega) (fun x hx=>by have:=hl.1 x hx;omega)
 obtain⟨p1,p2,p3,p4⟩:=D1 l.length l true 0 (Nat.le_refl _) hl.2 (.inl rfl)
 have pin:=Ho l.length l (Nat.le_refl _)
 have hbits:AY v l=AD ((Am l).1.length+1)++BL v (Am l).1 true 0++Cx v (Am l).2:=rfl
 rw[hbits]
 clear hbits
 obtain⟨rs,hrs⟩:∃rs,rs=(Am l).1:=⟨_,rfl⟩
 obtain⟨rest,hrest⟩:∃rest,rest=(Am l).2:=⟨_,rfl⟩
 simp only[Oj] at spS
 rw[<-hrs,<-hrest] at spS |-
 rw[<-hrs] at p1 p2 pin
 rw[<-hrest] at p3 p4
 have hpos:=KH rs true 0 p1
 have hrm:AJ rest:=⟨fun x hx=>hl.1 x (p4 x hx),p3⟩
 have hrl:=Bq hrm
 have hbnd:∀(i:Nat) (h:i<rs.length),0<=rs[i].1/\rs[i].1<16/\rs[i].2<=16:=fun i h=>by
  have:=pin _ (List.getElem_mem h)
  have h2:=hl.1 _ this.1
  omega
 refine Aa.start (fn:=Tryz.f167) [.tmp 6] tk rfl rfl rfl (by kernel_rfl) (Nat.le_of_ble_eq_true rfl) rfl (by kernel_rfl) ?_
 rw[Bl]
 refine zs ?_
 refine z0 ?_;intro K hK
 refine Ab.eq spS (by simp) (by simp) ?_
 refine zx ?_
 refine zk ?_;clear hK K
 have hg0:=DP (rs.length+1) (by omega)
 refine z0 ?_;intro K hK
 refine Ab.pass [0] (FQ xs u (rs.length+1) (by omega) (by omega) (by omega)) (by simp) (by simp) (by simp) (by simp) ?_
 rintro r M ⟨rfl,rfl⟩ _
 refine zx ?_
 refine zk ?_;clear hK K
 refine zs ?_
 (repeat refine W.seq ?_);refine W.block (W.loopS (fun z:Nat×List Bool=> [(0,.tok 3 0 1 0 z.2.length),(1,.int .i64 v),(7,.tok 1 0 2 0 rs.length),(8,.tok 2 0 1 0 rest.length),(9,.int .i64 (z.1:Nat))]) (fun z=> [.dead,.live 0 (Ac AC rs),.live 0 (Ae rest),.live 0 (A8 z.2)]) (fun z=>rs.length-z.1) (fun z=>z.1<=rs.length/\z.2=xs++(AD (rs.length+1)++BL v (rs.take z.1) true 0)/\z.2.length<=xs.length+162*(z.1+1)) (0,xs++AD (rs.length+1)) (Wk.fr (by simp[Ad])) ⟨by simp,by simp[BL],by simp;omega⟩ ?_)
 rintro⟨i,B⟩ ⟨hi,hB,hBl⟩
 simp only at hi hB hBl
 refine zs ?_
 refine zc ?_ ?_<;>intro h
 .refine W.skip ?_
  have hlt:i<rs.length:=by omega
  have hto:=IT v rs i true 0 hlt
  have hb:=hbnd i hlt
  have hp:=hpos i hlt
  have ca:(Ac AC rs)[i*2]?=some (.int .i64 rs[i].1):=Bk (f:=AC) (s:=2) (fun _=>rfl) hlt (i:=0) (by omega)
  have cl:(Ac AC rs)[i*2+1]?=some (.int .i64 rs[i].2):=Bk (f:=AC) (s:=2) (fun _=>rfl) hlt (i:=1) (by omega)
  obtain⟨d,hd⟩:=Int.eq_ofNat_of_zero_le (show 0<=rs[i].2-3+1 by omega)
  have hdl:=DP d (by omega)
  refine zb ?_
  by_cases h0:i=0
  .subst h0
   have hz:=Dv (rs[0].1-v)
   have hz2:BX (rs[0].1-v)<=100:=by unfold BX;split<;>omega
   obtain⟨c,hc⟩:=Int.eq_ofNat_of_zero_le (show 0<=BX (rs[0].1-v)+1 by omega)
   have hcl:=DP c (by omega)
   have ca0:(Ac AC rs)[0]?=some (.int .i64 rs[0].1):=by simpa using ca
   have cl0:(Ac AC rs)[1]?=some (.int .i64 rs[0].2):=by simpa using cl
   refine z0 ?_;intro K hK
   refine zk ?_;clear hK K
   refine zt ?_
   refine Af (an hlt ca0) ?_;intro K hK
   refine Ab.eq (WZ (rs[0].1-v) (by omega)) (by simp) (by simp) ?_
   refine AX hc ?_
   refine Ab.pass [3] (FQ B 0 c (by omega) (by omega) (by omega)) (by simp) (by simp) (by simp) (by simp) ?_
   rintro r M ⟨rfl,rfl⟩ _
   refine zx ?_
   refine zk ?_;clear hK K
   refine Af (an hlt (an cl0 hd)) ?_;intro K hK
   refine Ab.pass [4] (FQ (B++AD c) 0 d (by simp;omega) (by omega) (by omega)) (by simp) (by simp) (by simp) (by simp) ?_
   rintro r M ⟨rfl,rfl⟩ _
   refine zx ?_
   refine zk ?_;clear hK K
   refine zs ?_
   refine⟨(0+1,B++(AD c++AD d)),by simp only;omega,⟨by simp only;omega,?_,by simp;omega⟩,?_⟩
   .simp only[hto,if_true,hc,hd,Int.toNat_natCast]
    rw[hB];simp
   .simp only[List.length_append]
    exact Wk.sink (k:=3) (j:=5) (by rfl) (by simp;try omega) (by omega) (by simp) (by simp[Ad]) (by simp) (by simp) (by simp)
  .have hp2:=hp.2 (by omega)
   have hb2:=hbnd (i-1) (by omega)
   have hp3:=hpos (i-1) (by omega)
   have ca1:(Ac AC rs)[(i-1)*2]?=some (.int .i64 rs[i-1].1):=Bk (f:=AC) (s:=2) (fun _=>rfl) (show i-1<rs.length by omega) (i:=0) (by omega)
   have cl1:(Ac AC rs)[(i-1)*2+1]?=some (.int .i64 rs[i-1].2):=Bk (f:=AC) (s:=2) (fun _=>rfl) (show i-1<rs.length by omega) (i:=1) (by omega)
   obtain⟨c,hc'⟩:=Int.eq_ofNat_of_zero_le (show 0<=rs[i].1-rs[i-1].1-rs[i-1].2 by omega)
   have hc:rs[i].1-(rs[i-1].1+rs[i-1].2)=c:=by omega
   have hcl:=DP c (by omega)
   refine Af h0 ?_;intro K hK
   refine zk ?_;clear hK K
   refine zn ?_
   (repeat refine W.seq ?_);refine W.regdS 0 20 rfl true Cz (by kernel_rfl) fun K hK=>?_;simp -implicitDefEqProofs (maxSteps:=999999) (disch:=omega) [hlt,ca,ca1,cl1,hc']
   refine⟨by omega,?_⟩
   refine Ab.pass [3] (FQ B 0 c (by omega) (by omega) (by omega)) (by simp) (by simp) (by simp) (by simp) ?_
   rintro r M ⟨rfl,rfl⟩ _
   refine zx ?_
   refine zk ?_;clear hK K
   refine Af (an hlt (an cl hd)) ?_;intro K hK
   refine Ab.pass [4] (FQ (B++AD c) 0 d (by simp;omega) (by omega) (by omega)) (by simp) (by simp) (by simp) (by simp) ?_
   rintro r M ⟨rfl,rfl⟩ _
   refine zx ?_
   refine zk ?_;clear hK K
   refine zs ?_
   refine⟨(i+1,B++(AD c++AD d)),by simp only;omega,⟨by simp only;omega,?_,by simp;omega⟩,?_⟩
   .simp only[hto,if_neg h0,hc,hd,Int.toNat_natCast]
    rw[hB];simp
   .simp only[List.length_append]
    exact Wk.sink (k:=3) (j:=5) (by rfl) (by simp;try omega) (by omega) (by simp) (by simp[Ad]) (by simp) (by simp) (by simp)
 .refine W.exit ?_
  have hi' :i=rs.length:=by omega
  subst hi'
  rw[List.take_length] at hB
  refine z0 ?_;intro K hK
  refine Ab.pass [3] (Zq B 0 v rest (by omega) hv hrm) (by simp) (by simp) (by simp) (by simp) ?_
  rintro r M ⟨rfl,rfl⟩ _
  refine zx ?_
  refine zk ?_;clear hK K
  refine zr ?_
  rw[List.take_of_length_le (by simp),hB]
  simp
  omega
theorem RI (bs:List Bool) (p:Nat) (v:Int) (hb:bs.length<1000000000) (hp:p<=bs.length) (hv:0<=v/\v<100000):Aa pg 183 [.ro bs.length (A8 bs),.int .i64 p,.int .i64 v] [] (fun r _=>r=DA (Eh bs p v)):=by
 refine Aa.start (fn:=Tryz.f183) [.tmp 6,.tmp 7,.tmp 8] tk rfl rfl rfl (by kernel_rfl) (Nat.le_of_ble_eq_true rfl) rfl (by kernel_rfl) ?_
 rw[Bl]
 refine zs ?_
 refine z0 ?_;intro K hK
 have sp:=Fk bs p hb hp
 cases hg:A5 bs p with
 |none=>
  simp only[hg,FR] at sp
  refine Ab.eq sp (by simp) (by simp) ?_
  refine zx ?_
  refine zk ?_;clear hK K
  refine zs ?_
  refine zt ?_
  refine zs ?_
  refine zr ?_
  simp[Eh,hg,DA]
 |some x=>
  simp only[hg,FR] at sp
  obtain⟨hx1,hx2,hx3,hx4,_⟩:=A0 hg
  refine Ab.eq sp (by simp) (by simp) ?_
  refine zx ?_
  refine zk ?_;clear hK K
  by_cases hle:x.1<=17
  rotate_left
  .have h1:¬(x.1:Int)<1:=by omega
   have h2:(16:Int)<(x.1:Int)-1:=by omega
   refine Af (an h1 h2) ?_;intro K hK
   refine zk ?_;clear hK K
   refine zt ?_
   refine zs ?_
   refine zr ?_
   simp only[Eh,hg];rw[if_neg hle];simp[DA]
  have h1:¬(x.1:Int)<1:=by omega
  have h2:¬(16:Int)<(x.1:Int)-1:=by omega
  refine Af (an h1 h2) ?_;intro K hK
  refine zk ?_;clear hK K
  refine zn ?_
  refine W.skip ?_
  refine zs ?_
  refine zs ?_
  refine zs ?_
  (repeat refine W.seq ?_);refine W.block (W.loopS (fun s:Nat×List Int×Nat×Int=> [(0,.ro bs.length (A8 bs)),(1,.int .i64 s.2.2.1),(2,.int .i64 v),(9,.int .i64 x.1),(10,.tok 0 s.1 1 0 s.1),(11,.int .i64 s.2.2.2),(12,.int .i64 s.1)]) (fun s=> [.live s.1 (Ae s.2.1)]) (fun s=>x.1-1-s.1)
    (fun s=>s.1<=x.1-1/\s.2.1.length=s.1/\s.2.2.1<=bs.length/\(-(4294967296*((s.1:Int)+1))<=s.2.2.2/\s.2.2.2<=4294967296*((s.1:Int)+1))/\Dw bs (x.1-1) true x.2 v=(Dw bs (x.1-1-s.1) (decide (s.1=0)) s.2.2.1 (if s.1=0 then v else s.2.2.2)).map fun r=>(s.2.1++r.1,r.2)) (0,[],x.2,0) ((Wk.nil (t:=10) (s:=1) (by simp)).trans (Wk.fr (by simp[Ad]))) ⟨by omega,rfl,hx4,by simp only;omega,by simp⟩ ?_)
  rintro⟨k,acc,q,last⟩ ⟨hk,hacc,hq,hlast,hinv⟩
  simp only at hk hacc hq hlast hinv
  refine zs ?_
  refine zc ?_ ?_<;>intro h
  .refine W.skip ?_
   obtain⟨m,hm⟩:∃m,x.1-1-k=m+1:=⟨x.1-1-k-1,by omega⟩
   have hm' :x.1-1-(k+1)=m:=by omega
   rw[hm] at hinv
   refine zb ?_
   have sp2:=Fk bs q hb hq
   refine z0 ?_;intro K hK
   cases hg2:A5 bs q with
   |none=>
    simp only[hg2,FR] at sp2
    refine Ab.eq sp2 (by simp) (by simp) ?_
    refine zx ?_
    refine zk ?_;clear hK K
    refine zs ?_
    refine zt ?_
    refine zs ?_
    refine zr ?_
    simp only[Dw,hg2] at hinv
    simp[Eh,hg,hinv,DA]
   |some y=>
    simp only[hg2,FR] at sp2
    obtain⟨hy1,hy2,hy3,hy4,_⟩:=A0 hg2
    refine Ab.eq sp2 (by simp) (by simp) ?_
    have h3:¬(y.1:Int)<1:=by omega
    refine zx ?_
    refine zk ?_;clear hK K
    refine Af h3 ?_;intro K hK
    refine zk ?_;clear hK K
    refine zn ?_
    refine W.skip ?_
    refine zs ?_
    simp only[Dw,hg2] at hinv
    by_cases h0:k=0
    .subst h0
     have ha:acc=[]:=by simpa using hacc
     subst ha
     have hz:-1073741825<=CO ((y.1:Int)-1)/\CO ((y.1:Int)-1)<=1073741825:=by unfold CO;split<;>omega
     simp only[if_true,decide_true] at hinv
     refine zs ?_
     refine zt ?_
     refine z0 ?_;intro K hK
     refine Ab.eq (WY ((y.1:Int)-1) (by omega) (by omega)) (by simp) (by simp) ?_
     generalize CO ((y.1:Int)-1)=z at*
     refine zx ?_
     refine zk ?_;clear hK K
     refine z1 ?_;intro K hK
     refine zk ?_;clear hK K
     refine zs ?_
     refine⟨(1,[v+z],y.2,v+z),by simp only;omega,⟨by simp only;omega,by simp,by simp only;omega,by simp only;omega,?_⟩,Wk.cutM (k:=1) (by simp[Ad]) ?_ (by simp) (by simp) (by simp) (by simp)⟩
     .rw[hinv,hm']
      simp
      cases Dw bs m false y.2 (v+z)<;>simp
     .simp[Ae]
    .refine Af h0 ?_;intro K hK
     refine zk ?_;clear hK K
     refine zn ?_
     simp only[h0,if_false,decide_false,Bool.false_eq_true] at hinv
     refine zs ?_
     refine z1 ?_;intro K hK
     refine⟨by omega,by omega,?_⟩
     refine zk ?_;clear hK K
     refine zs ?_
     refine⟨(k+1,acc++[last+y.1],y.2,last+y.1),by simp only;omega,⟨by simp only;omega,by simp[hacc],by simp only;omega,by simp only;omega,?_⟩,Wk.cutM (k:=1) (by simp[Ad]) ?_ (by simp) (by simp) (by simp) (by simp)⟩
     .rw[hinv,hm']
      simp
      cases Dw bs m false y.2 (last+y.1)<;>simp
     .simp[Ae]
  .refine W.exit ?_
   have hk' :x.1-1-k=0:=by omega
   rw[hk'] at hinv
   simp only[Dw,Option.map_some,List.append_nil] at hinv
   have hlen:acc.length<1000:=by omega
   subst hacc
   refine z0 ?_;intro K hK
   refine Ab.eq (G2 acc (by omega)) (by simp) (by simp) ?_
   by_cases hm:AJ acc
   .rw[decide_eq_true hm]
    refine zx ?_
    refine zk ?_;clear hK K
    refine zn ?_
    refine W.skip ?_
    refine zs ?_
    refine zr ?_
    simp only[Eh,hg]
    rw[if_pos hle,hinv]
    simp[hm,DA]
   .rw[decide_eq_false hm]
    refine zx ?_
    refine zk ?_;clear hK K
    refine zt ?_
    refine zs ?_
    refine zr ?_
    simp only[Eh,hg]
    rw[if_pos hle,hinv]
    simp[hm,DA]
theorem Xf (bs ys:List Bool) (p:Nat) (hb:bs.length<1000000000) (hy:ys.length<1000000000) (hp:p<2000000000):Aa pg 185 [.ro bs.length (A8 bs),.int .i64 p,.ro ys.length (A8 ys)] [] (fun r _=>r= .bool (decide ((bs.drop p).take ys.length=ys))):=by
 have hb8:∀a b:Bool,((if a=true then(1:Int) else 0)=if b=true then 1 else 0)↔a=b:=by intro a b;cases a<;>cases b<;>simp
 refine Aa.start (fn:=Tryz.f185) [.tmp 6] tk rfl rfl rfl (by kernel_rfl) (Nat.le_of_ble_eq_true rfl) rfl (by kernel_rfl) ?_
 rw[Bl]
 refine zs ?_
 refine zs ?_
 (repeat refine W.seq ?_);refine W.block (W.loopS (fun k:Nat=> [(0,.ro bs.length (A8 bs)),(1,.int .i64 p),(2,.ro ys.length (A8 ys)),(7,.int .i64 k)]) (fun _=> []) (fun k=>ys.length-k) (fun k=>k<=ys.length/\(bs.drop p).take k=ys.take k) 0 (Wk.fr (by simp[Ad])) (by simp) ?_)
 rintro k ⟨hk,ht⟩
 refine zs ?_
 refine zc ?_ ?_<;>intro h
 .refine W.skip ?_
  have hlt:k<ys.length:=by omega
  have hys:ys.take (k+1)=ys.take k++[ys[k]]:=by rw[List.take_add_one];simp[hlt]
  refine zb ?_
  by_cases c1:p+k<bs.length
  .have c1' :¬(bs.length:Int)<=(p:Int)+k:=by omega
   have hbs:(bs.drop p).take (k+1)=(bs.drop p).take k++[bs[p+k]]:=by rw[List.take_add_one];simp[c1]
   have ci:((p:Int)+k).toNat=p+k:=by omega
   by_cases c2:bs[p+k]=ys[k]
   . (repeat refine W.seq ?_);refine W.regd 0 rfl true Cz (by kernel_rfl) fun K hK=>?_;simp -implicitDefEqProofs (maxSteps:=999999) (disch:=omega) [c1',hlt,c1,ci,b8,c2]
     refine⟨by omega,?_⟩
     refine zk ?_;clear hK K
     refine zn ?_
     refine W.skip ?_
     refine zs ?_
     exact⟨k+1,by omega,⟨by omega,by rw[hbs,hys,ht,c2]⟩,Wk.fr (by simp[Ad])⟩
   . (repeat refine W.seq ?_);refine W.regd 0 rfl true Cz (by kernel_rfl) fun K hK=>?_;simp -implicitDefEqProofs (maxSteps:=999999) (disch:=omega) [c1',hlt,c1,ci,b8,hb8,c2]
     refine⟨by omega,?_⟩
     refine zk ?_;clear hK K
     refine zt ?_
     refine zs ?_
     refine zr ?_
     intro h
     have h2:=congrArg (List.take (k+1)) h
     rw[List.take_take,Nat.min_eq_left (by omega),hbs,hys,ht] at h2
     have:=List.append_cancel_left h2
     simp at this
     exact c2 this
  .have c1' :(bs.length:Int)<=(p:Int)+k:=by omega
   refine Bx c1' ?_;intro K hK
   refine zk ?_;clear hK K
   refine zt ?_
   refine zs ?_
   refine zr ?_
   intro h
   have:=congrArg List.length h
   simp at this;omega
 .refine W.exit ?_
  have hk' :k=ys.length:=by omega
  subst hk'
  rw[List.take_length] at ht
  refine zs ?_
  refine zr ?_
  exact ht
def A1 (p:Int->Bool):List Bool:=(List.range 16).map fun(i:Nat)=>p (i:Int)
@[simp] theorem S9 (p:Int->Bool):(A1 p).length=16:=by simp[A1]
theorem JS (p:Int->Bool) (i:Nat) (h:i<16):(A1 p)[i]?=some (p i):=by simp[A1,h]
theorem RJ (p:Int->Bool) (i:Nat) (h:i<16):(A1 p).set i true=A1 fun j=>p j||decide (j=(i:Int)):=by
 refine List.ext_getElem (by simp) fun j h1 h2=>?_
 simp only[S9] at h2
 rw[List.getElem_set]
 by_cases e:i=j
 .subst e;simp[A1]
 .rw[if_neg e]
  simp only[A1,List.getElem_map,List.getElem_range]
  have:¬(j:Int)=(i:Int):=by omega
  simp[this]
def JT (p:Int->Bool) (a:Int) (k:Nat):Int->Bool:=fun j=>p j||decide (a<=j/\j<a+(k:Int))
def DC (p:Int->Bool) (l:List Int):Int->Bool:=fun j=>p j||l.contains j
def B8 (p:Int->Bool) (i:Nat):List Int:=((List.range i).map fun i=>((i:Nat):Int)).filter p
theorem JU (p:Int->Bool) (i:Nat):B8 p (i+1)=B8 p i++if p i=true then [(i:Int)] else []:=by
 unfold B8
 rw[List.range_succ,List.map_append,List.filter_append]
 congr 1
 simp only[List.map_cons,List.map_nil,List.filter_cons,List.filter_nil]
theorem K5 (p:Int->Bool) (i:Nat):(B8 p i).length<=i:=by
 unfold B8
 exact Nat.le_trans (List.length_filter_le _ _) (by simp)
def E3 (p:Int->Bool) (i:Int):Int->Bool:=fun j=>p j||decide (j=i)
theorem DL {p q:Int->Bool} (h:∀i,0<=i->i<16->p i=q i):A1 p=A1 q:=by
 unfold A1
 refine List.map_congr_left fun i hi=>h _ (by omega) (by simp at hi;omega)
theorem GR (p:Int->Bool) (i:Nat) (h:i<16):(A1 p).set i true=A1 (E3 p i):=RJ p i h
def IU (r:List (Int×Int)) (i:Nat) (h:i<r.length):Prop:=0<=r[i].1/\r[i].1<16/\3<=r[i].2/\r[i].2<=16-r[i].1/\(0<i->r[i-1].1+r[i-1].2<r[i].1)
theorem LX:∀(r:List (Int×Int)) (e:Int),Dx r e↔((∀h:0<r.length,e<r[0].1)/\∀i (h:i<r.length),IU r i h)
 | [],e=>by simp[Dx]
 | (a,n)::t,e=>by
   simp only[Dx,LX t (a+n)]
   constructor
   .rintro⟨h1,h2,h3,h4,h5,h6,h7⟩
    refine⟨fun _=>h5,fun i h=>?_⟩
    cases i with
    |zero=>exact⟨h1,h2,h3,h4,fun h=>by omega⟩
    |succ i=>
     have hi:i<t.length:=by simpa using h
     obtain⟨k1,k2,k3,k4,k5⟩:=h7 i hi
     refine⟨by simpa using k1,by simpa using k2,by simpa using k3,by simpa using k4,fun _=>?_⟩
     cases i with
     |zero=>simpa using h6 hi
     |succ i=>simpa using k5 (by omega)
   .rintro⟨h0,h⟩
    obtain⟨h1,h2,h3,h4,_⟩:=h 0 (by simp)
    refine⟨by simpa using h1,by simpa using h2,by simpa using h3,by simpa using h4,h0 (by simp),fun hp=>?_,fun i hi=>?_⟩
    .have:=(h 1 (by simpa using hp)).2.2.2.2 (by omega)
     simpa using this
    .obtain⟨k1,k2,k3,k4,k5⟩:=h (i+1) (by simpa using hi)
     refine⟨by simpa using k1,by simpa using k2,by simpa using k3,by simpa using k4,fun hpos=>?_⟩
     have:=k5 (by omega)
     cases i with
     |zero=>omega
     |succ i=>simpa using this
theorem LY (r:List (Int×Int)):Dx r (-1)↔∀i (h:i<r.length),IU r i h:=by
 rw[LX]
 exact⟨fun h=>h.2,fun h=>⟨fun hp=>by have:=(h 0 hp).1;omega,h⟩⟩
def Zt (o:Option (List Int)):AV:=match o with|some l=> .tup [.own 1 l.length (Ae l),.bool true] |none=> .tup [.own 1 0 [],.bool false]
theorem Zu (r:List (Int×Int)) (rest:List Int) (hr:r.length<1000000) (hb:∀q∈r,-1000000000000<=q.1/\q.1<=1000000000000/\-1000000000000<=q.2/\q.2<=1000000000000) (hrl:rest.length<1000000):Aa pg 184 [.ro r.length (Ac AC r),.ro rest.length (Ae rest)] [] (fun x _=>x=Zt (DJ r rest)):=by
 refine Aa.start (fn:=Tryz.f184) [.tmp 4,.tmp 5] tk rfl rfl rfl (by kernel_rfl) (Nat.le_of_ble_eq_true rfl) rfl (by kernel_rfl) ?_
 rw[At]
 refine zs ?_
 by_cases hm:AJ rest
 rotate_left
 .refine z0 ?_;intro K hK
  refine Ab.eq (G2 rest (by omega)) (by simp) (by simp) ?_
  rw[decide_eq_false hm]
  refine zx ?_
  refine zk ?_;clear hK K
  refine zt ?_
  refine zs ?_
  refine zr ?_
  rw[DJ,if_neg (fun h=>hm h.1)];rfl
 have hml:=Bq hm
 refine z0 ?_;intro K hK
 refine Ab.eq (G2 rest (by omega)) (by simp) (by simp) ?_
 rw[decide_eq_true hm]
 refine zx ?_
 refine zk ?_;clear hK K
 refine zn ?_
 refine W.skip ?_
 refine z1 ?_;intro K hK
 have e0:[AV.bool false,AV.bool false,AV.bool false,AV.bool false,AV.bool false,AV.bool false,AV.bool false,AV.bool false,AV.bool false,AV.bool false,AV.bool false,AV.bool false,AV.bool false,AV.bool false,AV.bool false,AV.bool false]=AO (A1 (Bu (r.take 0))):=rfl
 rw[e0]
 refine zk ?_;clear hK K
 refine zs ?_
 (repeat refine W.seq ?_);refine W.block (W.loopS (fun k:Nat=> [(0,.ro r.length (Ac AC r)),(1,.ro rest.length (Ae rest)),(6,.ptr 0 0 0),(7,.int .i64 k)]) (fun k=> [.live 0 (AO (A1 (Bu (r.take k))))]) (fun k=>r.length-k) (fun k=>k<=r.length/\∀i (h:i<r.length),i<k->IU r i h) 0 (Wk.fr (by simp[Ad])) ⟨by omega,fun i h h2=>by omega⟩ ?_)
 .rintro i ⟨hi,hok⟩
  refine zs ?_
  refine zc ?_ ?_<;>intro h
  .refine W.skip ?_
   have hlt:i<r.length:=by omega
   have hbi:=hb _ (List.getElem_mem hlt)
   have bad:¬IU r i hlt->¬Dx r (-1):=fun g w=>g ((LY r).1 w i hlt)
   have hto:r.take (i+1)=r.take i++[r[i]]:=by rw[List.take_add_one];simp[hlt]
   refine zb ?_
   (repeat refine W.seq ?_);refine W.reg 1 rfl fun K hK=>?_;simp -implicitDefEqProofs (maxSteps:=999999) (disch:=omega) [hlt]
   refine zk ?_;clear hK K
   have spO:=Qm r[i].1
   by_cases c1:0<=r[i].1/\r[i].1<=15
   rotate_left
   .have hbad:=bad (fun g=>c1 (by have:=g.1;have:=g.2.1;omega))
    rw[decide_eq_false c1] at spO
    refine Cm ?_;intro K hK
    refine Ah.eq spO (by simp) (by simp) ?_
    refine zx ?_
    refine zk ?_;clear hK K
    refine zt ?_
    refine zs ?_
    refine zr ?_
    rw[DJ,if_neg (fun h=>hbad h.2.1)];rfl
   rw[decide_eq_true c1] at spO
   by_cases c2:r[i].2<3
   .have hbad:=bad (fun g=>by have:=g.2.2.1;omega)
    refine Cm ?_;intro K hK
    refine Ah.eq spO (by simp) (by simp) ?_
    refine AX c2 ?_
    refine zk ?_;clear hK K
    refine zt ?_
    refine zs ?_
    refine zr ?_
    rw[DJ,if_neg (fun h=>hbad h.2.1)];rfl
   by_cases c3:16-r[i].1<r[i].2
   .have hbad:=bad (fun g=>by have:=g.2.2.2.1;omega)
    refine Cm ?_;intro K hK
    refine Ah.eq spO (by simp) (by simp) ?_
    refine AX (an c2 c3) ?_
    refine zk ?_;clear hK K
    refine zt ?_
    refine zs ?_
    refine zr ?_
    rw[DJ,if_neg (fun h=>hbad h.2.1)];rfl
   have hbody:IU r i hlt->True:=fun _=>trivial
   (repeat refine W.seq ?_);refine W.midS (fun b:Bool=> [(0,.ro r.length (Ac AC r)),(1,.ro rest.length (Ae rest)),(6,.ptr 0 0 0),(7,.int .i64 i),(8,.ptr 1 0 0),(64,.bool b)]) (fun _=> [.live 0 (AO (A1 (Bu (r.take i)))),.live 0 [.int .i64 r[i].1,.int .i64 r[i].2]]) (fun b=>b=true↔¬IU r i hlt) ?_ ?_
   .by_cases c4:0<i
    .have hbp:=hb _ (List.getElem_mem (show i-1<r.length by omega))
     have hw:IntKind.i64.wrap (r[i-1].1+r[i-1].2)=r[i-1].1+r[i-1].2:=wrap_i64 (by omega) (by omega)
     by_cases c5:r[i].1<=r[i-1].1+r[i-1].2
     .refine Cm ?_;intro K hK
      refine Ah.eq spO (by simp) (by simp) ?_
      refine AX (an c2 (an c3 (an c4 (an c5 (an hlt hw))))) ?_
      refine⟨by omega,?_⟩
      refine zk ?_;clear hK K
      exact⟨true,by simp only[true_iff];exact fun g=>by have:=g.2.2.2.2 c4;omega,Wk.fr (by simp[Ad];rw[hw];exact c5)⟩
     .refine Cm ?_;intro K hK
      refine Ah.eq spO (by simp) (by simp) ?_
      refine AX (an c2 (an c3 (an c4 (an c5 (an hlt hw))))) ?_
      refine⟨by omega,?_⟩
      refine zk ?_;clear hK K
      exact⟨false,by simp only[Bool.false_eq_true,false_iff,Classical.not_not];exact⟨c1.1,by omega,by omega,by omega,fun _=>by omega⟩,Wk.fr (by simp[Ad];rw[hw];omega)⟩
    .refine Cm ?_;intro K hK
     refine Ah.eq spO (by simp) (by simp) ?_
     refine AX (an c2 (an c3 c4)) ?_
     refine zk ?_;clear hK K
     exact⟨false,by simp only[Bool.false_eq_true,false_iff,Classical.not_not];exact⟨c1.1,by omega,by omega,by omega,fun _=>by omega⟩,Wk.fr (by simp[Ad])⟩
   .intro b hbb
    cases b
    rotate_left
    .have hbad:=bad (hbb.1 rfl)
     refine zt ?_
     refine zs ?_
     refine zr ?_
     rw[DJ,if_neg (fun h=>hbad h.2.1)];rfl
    .have hgood:IU r i hlt:=Classical.byContradiction fun g=>by have:=hbb.2 g;simp at this
     refine zn ?_
     refine W.skip ?_
     obtain⟨a,ha⟩:=Int.eq_ofNat_of_zero_le hgood.1
     obtain⟨n,hn⟩:=Int.eq_ofNat_of_zero_le (show 0<=r[i].2 by have:=hgood.2.2.1;omega)
     have han:a+n<=16:=by have:=hgood.2.2.2.1;omega
     refine zs ?_
     have e1:(A1 (Bu (r.take i)))=A1 (JT (Bu (r.take i)) a 0):=DL fun j _ _=>by
      have:decide ((a:Int)<=j/\j<(a:Int)+((0:Nat):Int))=false:=by simp
      rw[JT,this,Bool.or_false]
     rw[e1,ha,hn]
     (repeat refine W.seq ?_);refine W.block (W.loopS (fun k:Nat=> [(0,.ro r.length (Ac AC r)),(1,.ro rest.length (Ae rest)),(6,.ptr 0 0 0),(7,.int .i64 i),(8,.ptr 1 0 0),(9,.int .i64 k)]) (fun k=> [.live 0 (AO (A1 (JT (Bu (r.take i)) a k))),.live 0 [.int .i64 a,.int .i64 n]]) (fun k=>n-k) (fun k=>k<=n) 0 (Wk.fr (by simp[Ad])) (Nat.zero_le _) ?_)
     intro k hk
     refine zs ?_
     refine zc ?_ ?_<;>intro h
     .refine W.skip ?_
      have hkn:k<n:=by omega
      have hak:a+k<16:=by omega
      have hti:((a:Int)+k).toNat=a+k:=by omega
      have hset:∀p:Int->Bool,(AO (A1 p)).set (a+k) (.bool true)=AO (A1 (E3 p ((a:Int)+(k:Int)))):=fun p=>by rw[FY,GR _ _ hak,Int.natCast_add]
      refine zb ?_
      refine Af (an hti (an hset hak)) ?_;intro K hK
      refine⟨by omega,?_⟩
      refine zk ?_;clear hK K
      refine zs ?_
      have e2:A1 (E3 (JT (Bu (r.take i)) a k) ((a:Int)+(k:Int)))=A1 (JT (Bu (r.take i)) a (k+1)):=DL fun j _ _=>by
       simp only[E3,JT]
       rw[Bool.or_assoc]
       congr 1
       rw[<-Bool.decide_or,decide_eq_decide]
       omega
      rw[e2]
      exact⟨k+1,by omega,by omega,Wk.fr (by simp[Ad])⟩
     .refine W.exit ?_
      have hk' :k=n:=by omega
      subst hk'
      have e3:(A1 (JT (Bu (r.take i)) a k))=A1 (Bu (r.take (i+1))):=DL fun j _ _=>by
       rw[hto]
       simp only[JT,Bu,List.any_append,List.any_cons,List.any_nil,Bool.or_false,ha,hn]
      rw[e3]
      refine zs ?_
      exact⟨i+1,by omega,⟨by omega,fun t ht h2=>by
       by_cases e:t=i
       .subst e;exact hgood
       .exact hok t ht (by omega)⟩,Wk.cutM (k:=1) (by simp[Ad]) (by simp) (by simp) (by simp) (by simp) (by simp)⟩
  .refine W.exit ?_
   have hi' :i=r.length:=by omega
   subst hi'
   have hR:Dx r (-1):=(LY r).2 fun t ht=>hok t ht ht
   have e4:A1 (Bu (r.take r.length))=A1 (DC (Bu r) (rest.take 0)):=DL fun j _ _=>by simp[DC]
   rw[e4]
   refine zs ?_
   (repeat refine W.seq ?_);refine W.block (W.loopS (fun k:Nat=> [(1,.ro rest.length (Ae rest)),(6,.ptr 0 0 0),(10,.int .i64 k)]) (fun k=> [.live 0 (AO (A1 (DC (Bu r) (rest.take k))))]) (fun k=>rest.length-k) (fun k=>k<=rest.length/\∀t (h:t<rest.length),t<k->Bu r rest[t]=false) 0 (Wk.fr (by simp[Ad])) ⟨by omega,fun t h h2=>by omega⟩ ?_)
   .rintro k ⟨hk,hno⟩
    refine zs ?_
    refine zc ?_ ?_<;>intro h
    .refine W.skip ?_
     have hkl:k<rest.length:=by omega
     have hw:=hm.1 _ (List.getElem_mem hkl)
     obtain⟨w,hwe⟩:=Int.eq_ofNat_of_zero_le hw.1
     have hw16:w<16:=by omega
     have hnc:(rest.take k).contains (w:Int)=false:=by
      rw[Bool.eq_false_iff]
      intro hc
      simp only[List.contains_eq_mem,decide_eq_true_eq] at hc
      obtain⟨t,ht,hte⟩:=List.mem_iff_getElem.1 hc
      simp at ht hte
      have:=List.pairwise_iff_getElem.1 hm.2 t k (by omega) hkl (by omega)
      omega
     have hto2:rest.take (k+1)=rest.take k++[(w:Int)]:=by rw[List.take_add_one];simp[hkl,hwe]
     have hget:(A1 (DC (Bu r) (rest.take k)))[w]?=some (Bu r (w:Int)):=by rw[JS _ _ hw16];simp only[DC,hnc,Bool.or_false]
     refine zb ?_
     cases hin:Bu r (w:Int)
     .rw[hin] at hget
      refine Af (an hkl (an hwe hget)) ?_;intro K hK
      refine zk ?_;clear hK K
      refine zn ?_
      refine W.skip ?_
      have hset:∀p:Int->Bool,(AO (A1 p)).set w (.bool true)=AO (A1 (E3 p (w:Int))):=fun p=>by rw[FY,GR _ _ hw16]
      have e5:A1 (E3 (DC (Bu r) (rest.take k)) (w:Int))=A1 (DC (Bu r) (rest.take (k+1))):=DL fun j _ _=>by
       rw[hto2]
       simp only[E3,DC,Bool.or_assoc]
       congr 1
       rw[Bool.eq_iff_iff]
       simp
      refine Af (an hkl (an hwe (an hset hw16))) ?_;intro K hK
      refine zk ?_;clear hK K
      refine zs ?_
      rw[e5]
      refine⟨k+1,by omega,⟨by omega,fun t ht h2=>?_⟩,Wk.fr (by simp[Ad])⟩
      by_cases e:t=k
      .subst e;rw[hwe];exact hin
      .exact hno t ht (by omega)
     .rw[hin] at hget
      refine Af (an hkl (an hwe hget)) ?_;intro K hK
      refine zk ?_;clear hK K
      refine zt ?_
      refine zs ?_
      refine zr ?_
      rw[DJ,if_neg]
      .rfl
      .intro h
       have:=h.2.2 _ (List.getElem_mem hkl)
       rw[hwe,hin] at this
       simp at this
    .refine W.exit ?_
     have hk' :k=rest.length:=by omega
     subst hk'
     rw[List.take_length]
     have hj:DJ r rest=some (B8 (DC (Bu r) rest) 16):=by
      rw[DJ,if_pos ⟨hm,hR,fun x hx=>by
       obtain⟨t,ht,rfl⟩:=List.mem_iff_getElem.1 hx
       exact hno t ht ht⟩]
      rfl
     rw[hj]
     generalize DC (Bu r) rest=q
     refine zs ?_
     refine zs ?_
     (repeat refine W.seq ?_);refine W.block (W.loopS (fun k:Nat=> [(6,.ptr 0 0 0),(11,.tok 1 (B8 q k).length 1 0 (B8 q k).length),(12,.int .i64 k)]) (fun k=> [.live 0 (AO (A1 q)),.live (B8 q k).length (Ae (B8 q k))]) (fun k=>16-k) (fun k=>k<=16) 0 ((Wk.nil (t:=11) (s:=1) (by simp)).trans (Wk.fr (by simp[Ad,B8]))) (by simp) ?_)
     intro k hk
     have htl:=K5 q k
     refine zs ?_
     refine zc ?_ ?_<;>intro h
     .refine W.skip ?_
      have hlt:k<16:=by omega
      have hget:(A1 q)[k]?=some (q (k:Int)):=JS _ _ hlt
      have hsu:=JU q k
      refine zb ?_
      cases hq:q (k:Int)
      .rw[hq] at hget hsu
       refine Af (an hget hlt) ?_;intro K hK
       refine zk ?_;clear hK K
       refine zn ?_
       refine W.skip ?_
       refine zs ?_
       refine⟨k+1,by omega,by omega,?_⟩
       rw[hsu]
       simp only[Bool.false_eq_true,if_false,List.append_nil]
       exact Wk.fr (by simp[Ad])
      .rw[hq] at hget hsu
       refine Af (an hget hlt) ?_;intro K hK
       refine zk ?_;clear hK K
       refine zt ?_
       refine z1 ?_;intro K hK
       refine⟨by omega,by omega,?_⟩
       refine zk ?_;clear hK K
       refine zs ?_
       refine⟨k+1,by omega,by omega,?_⟩
       rw[hsu]
       simp only[if_true,List.length_append,List.length_singleton]
       refine Wk.cutM (k:=2) (by simp[Ad]) ?_ (by simp) (by simp) (by simp) (by simp)
       simp[Ae]
     .refine W.exit ?_
      have hk' :k=16:=by omega
      subst hk'
      refine zs ?_
      refine zr ?_
      rfl
theorem Xg (v:Int) (l:List Int) (hv:0<=v/\v<=16) (hl:AJ l):Aa pg 167 [.own 1 0 [],.int .i64 v,.ro l.length (Ae l)] [] (fun r _=>r= .own 1 (AY v l).length (A8 (AY v l))):=by
 have h:=Aa.nil (by simpa using Zs [] 0 v l (by simp) hv hl)
 simpa using h
theorem Ta {r:List (Int×Int)} {g l:List Int} (h:DJ r g=some l):AJ l:=by
 unfold DJ at h
 split at h
 .simp at h;subst h;exact Nz _
 .simp at h
theorem LZ (bs:List Bool) (p:Nat) (v:Int) (hb:bs.length<1000000000) (hp:p<=bs.length) (hv:0<=v/\v<=16):Aa pg 145 [.ro bs.length (A8 bs),.int .i64 p,.int .i64 v] [] (fun r _=>r=DA (BU bs p v)):=by
 refine Aa.start (fn:=Tryz.f145) [.tmp 6,.tmp 7,.tmp 8] tk rfl rfl rfl (by kernel_rfl) (Nat.le_of_ble_eq_true rfl) rfl (by kernel_rfl) ?_
 rw[Bl]
 refine zs ?_
 refine zs ?_
 refine z0 ?_;intro K hK
 have sp:=Fk bs p hb hp
 cases hg:A5 bs p with
 |none=>
  simp only[hg,FR] at sp
  refine Ab.eq sp (by simp) (by simp) ?_
  refine zx ?_
  refine zk ?_;clear hK K
  refine zs ?_
  refine zt ?_
  refine zs ?_
  refine zr ?_
  simp[BU,hg,DA]
 |some x=>
  simp only[hg,FR] at sp
  obtain⟨hx1,hx2,hx3,hx4,_⟩:=A0 hg
  refine Ab.eq sp (by simp) (by simp) ?_
  refine zx ?_
  refine zk ?_;clear hK K
  by_cases hle:x.1<=17
  rotate_left
  .have h1:¬(x.1:Int)<1:=by omega
   have h2:(16:Int)<(x.1:Int)-1:=by omega
   refine Af (an h1 h2) ?_;intro K hK
   refine zk ?_;clear hK K
   refine zt ?_
   refine zs ?_
   refine zr ?_
   simp only[BU,hg];rw[if_neg hle];simp[DA]
  have h1:¬(x.1:Int)<1:=by omega
  have h2:¬(16:Int)<(x.1:Int)-1:=by omega
  refine Af (an h1 h2) ?_;intro K hK
  refine zk ?_;clear hK K
  refine zn ?_
  refine W.skip ?_
  refine zs ?_
  refine zs ?_
  refine zs ?_
  (repeat refine W.seq ?_);refine W.block (W.loopS (fun s:Nat×List (Int×Int)×Nat×Int=> [(0,.ro bs.length (A8 bs)),(1,.int .i64 s.2.2.1),(2,.int .i64 v),(9,.int .i64 p),(10,.int .i64 x.1),(11,.tok 0 s.1 2 0 s.1),(12,.int .i64 s.2.2.2),(13,.int .i64 s.1)]) (fun s=> [.live s.1 (Ac AC s.2.1)]) (fun s=>x.1-1-s.1)
    (fun s=>s.1<=x.1-1/\s.2.1.length=s.1/\(p<=s.2.2.1/\s.2.2.1<=bs.length)/\(-(4294967296*((s.1:Int)+1))<=s.2.2.2/\s.2.2.2<=4294967296*((s.1:Int)+1))/\(∀q∈s.2.1,-1000000000000<=q.1/\q.1<=1000000000000/\-1000000000000<=q.2/\q.2<=1000000000000)/\Ce bs (x.1-1) true x.2 v=(Ce bs (x.1-1-s.1) (decide (s.1=0)) s.2.2.1 (if s.1=0 then v else s.2.2.2)).map fun r=>(s.2.1++r.1,r.2)) (0,[],x.2,0) ((Wk.nil (t:=11) (s:=2) (by simp)).trans (Wk.fr (by simp[Ad]))) ⟨by omega,rfl,⟨by simp only;omega,hx4⟩,by simp only;omega,by simp,by simp⟩ ?_)
  rintro⟨k,acc,q,last⟩ ⟨hk,hacc,⟨hpq,hq⟩,hlast,hbnd,hinv⟩
  simp only at hk hacc hpq hq hlast hinv hbnd
  refine zs ?_
  refine zc ?_ ?_<;>intro h
  .refine W.skip ?_
   obtain⟨m,hm⟩:∃m,x.1-1-k=m+1:=⟨x.1-1-k-1,by omega⟩
   have hm' :x.1-1-(k+1)=m:=by omega
   rw[hm] at hinv
   refine zb ?_
   have sp2:=Fk bs q hb hq
   refine z0 ?_;intro K hK
   cases hg2:A5 bs q with
   |none=>
    simp only[hg2,FR] at sp2
    refine Ab.eq sp2 (by simp) (by simp) ?_
    refine zx ?_
    refine zk ?_;clear hK K
    refine zs ?_
    refine zt ?_
    refine zs ?_
    refine zr ?_
    simp only[Ce,hg2] at hinv
    simp[BU,hg,hinv,DA]
   |some y=>
    simp only[hg2,FR] at sp2
    obtain⟨hy1,hy2,hy3,hy4,_⟩:=A0 hg2
    refine Ab.eq sp2 (by simp) (by simp) ?_
    have h3:¬(y.1:Int)<1:=by omega
    refine zx ?_
    refine zk ?_;clear hK K
    refine Af h3 ?_;intro K hK
    refine zk ?_;clear hK K
    refine zn ?_
    refine W.skip ?_
    have sp3:=Fk bs y.2 hb hy4
    refine z0 ?_;intro K hK
    cases hg3:A5 bs y.2 with
    |none=>
     simp only[hg3,FR] at sp3
     refine Ab.eq sp3 (by simp) (by simp) ?_
     refine zx ?_
     refine zk ?_;clear hK K
     refine zs ?_
     refine zt ?_
     refine zs ?_
     refine zr ?_
     simp only[Ce,hg2,hg3] at hinv
     simp[BU,hg,hinv,DA]
    |some z=>
     simp only[hg3,FR] at sp3
     obtain⟨hz1,hz2,hz3,hz4,_⟩:=A0 hg3
     refine Ab.eq sp3 (by simp) (by simp) ?_
     have h4:¬(z.1:Int)<1:=by omega
     simp only[Ce,hg2,hg3] at hinv
     refine zx ?_
     refine zk ?_;clear hK K
     by_cases hz16:z.1<=16
     rotate_left
     .have h5:(16:Int)<z.1:=by omega
      refine Af (an h4 h5) ?_;intro K hK
      refine zk ?_;clear hK K
      refine zt ?_
      refine zs ?_
      refine zr ?_
      rw[if_neg hz16] at hinv
      simp[BU,hg,hinv,DA]
     have h5:¬(16:Int)<z.1:=by omega
     rw[if_pos hz16] at hinv
     refine Af (an h4 h5) ?_;intro K hK
     refine zk ?_;clear hK K
     refine zn ?_
     refine W.skip ?_
     refine zs ?_
     refine z1 ?_;intro K hK
     refine zk ?_;clear hK K
     by_cases h0:k=0
     .subst h0
      have ha:acc=[]:=by simpa using hacc
      subst ha
      have hzg:-1073741825<=CO ((y.1:Int)-1)/\CO ((y.1:Int)-1)<=1073741825:=by unfold CO;split<;>omega
      simp only[if_true,decide_true] at hinv
      refine zs ?_
      refine zt ?_
      refine z0 ?_;intro K hK
      refine Ab.eq (WY ((y.1:Int)-1) (by omega) (by omega)) (by simp) (by simp) ?_
      generalize CO ((y.1:Int)-1)=zz at*
      refine zx ?_
      refine zk ?_;clear hK K
      refine z1 ?_;intro K hK
      refine zk ?_;clear hK K
      refine zs ?_
      refine zs ?_
      refine⟨(1,[(v+zz,(z.1:Int)-1+3)],z.2,v+zz+((z.1:Int)-1+3)),by simp only;omega,⟨by simp only;omega,by simp,by simp only;omega,by simp only;omega,by simp;omega,?_⟩,Wk.cutM (k:=1) (by simp[Ad]) ?_ (by simp) (by simp) (by simp) (by simp)⟩
      .rw[hinv,hm']
       simp
       cases Ce bs m false z.2 (v+zz+((z.1:Int)-1+3))<;>simp
      .simp[Ax,AC]
     .simp only[h0,if_false,decide_false,Bool.false_eq_true] at hinv
      refine Af h0 ?_;intro K hK
      refine zk ?_;clear hK K
      refine zn ?_
      refine W.skip ?_
      refine z1 ?_;intro K hK
      refine⟨by omega,by omega,?_⟩
      refine zk ?_;clear hK K
      refine zs ?_
      refine zs ?_
      refine⟨(k+1,acc++[(last+y.1,(z.1:Int)-1+3)],z.2,last+y.1+((z.1:Int)-1+3)),by simp only;omega,⟨by simp only;omega,by simp[hacc],by simp only;omega,by simp only;omega,?_,?_⟩,Wk.cutM (k:=1) (by simp[Ad]) ?_ (by simp) (by simp) (by simp) (by simp)⟩
      .intro w hw
       simp only[List.mem_append,List.mem_singleton] at hw
       rcases hw with hw|rfl
       .exact hbnd w hw
       .simp only;omega
      .rw[hinv,hm']
       simp
       cases Ce bs m false z.2 (last+y.1+((z.1:Int)-1+3))<;>simp
      .simp[Ck,Ax,AC]
  .refine W.exit ?_
   have hk' :x.1-1-k=0:=by omega
   rw[hk'] at hinv
   simp only[Ce,Option.map_some,List.append_nil] at hinv
   subst hacc
   have hv' :0<=v/\v<100000:=by omega
   have spG:=RI bs q v hb hq hv'
   rw[FA] at spG
   have htr:BU bs p v=match Eh bs q v with
    |none=>none
    |some g=>match DJ acc g.1 with
     |none=>none
     |some l=>if (AY v l).length=g.2-p/\(bs.drop p).take (AY v l).length=AY v l then some (l,g.2) else none:=by
    unfold BU
    rw[hg]
    simp only
    rw[if_pos hle,hinv]
    rfl
   rw[htr,FA]
   clear htr
   cases hgp:DI bs q v with
   |none=>
    rw[hgp] at spG
    simp only[DA] at spG
    refine z0 ?_;intro K hK
    refine Ab.eq spG (by simp) (by simp) ?_
    refine zx ?_
    refine zk ?_;clear hK K
    refine zs ?_
    refine zt ?_
    refine zs ?_
    refine zr ?_
    rfl
   |some g=>
    rw[hgp] at spG
    simp only[DA] at spG
    obtain⟨g1,g2,g3,g4⟩:=Jn hgp
    refine z0 ?_;intro K hK
    refine Ab.eq spG (by simp) (by simp) ?_
    refine zx ?_
    refine zk ?_;clear hK K
    refine zs ?_
    refine zn ?_
    refine W.skip ?_
    have spJ:=Zu acc g.1 (by omega) hbnd (by omega)
    simp only
    cases hj:DJ acc g.1 with
    |none=>
     rw[hj] at spJ
     simp only[Zt] at spJ
     refine z0 ?_;intro K hK
     refine Ab.eq spJ (by simp) (by simp) ?_
     refine zx ?_
     refine zk ?_;clear hK K
     refine z0 ?_;intro K hK
     refine zk ?_;clear hK K
     refine zt ?_
     refine zs ?_
     refine zr ?_
     rfl
    |some l=>
     rw[hj] at spJ
     simp only[Zt] at spJ
     have hml:=Ta hj
     have hll:=Bq hml
     simp only
     obtain⟨ys,hys⟩:∃ys,ys=AY v l:=⟨_,rfl⟩
     have spR:=Xg v l hv hml
     rw[<-hys] at spR |-
     refine z0 ?_;intro K hK
     refine Ab.eq spJ (by simp) (by simp) ?_
     refine zx ?_
     refine zk ?_;clear hK K
     have hl16:¬(16:Int)<(l.length:Int):=by omega
     refine Af hl16 ?_;intro K hK
     refine zk ?_;clear hK K
     refine zn ?_
     refine W.skip ?_
     refine z0 ?_;intro K hK
     refine Ab.eqN spR (by simp[Rt]) (by simp) ?_
     refine zx ?_
     refine zk ?_;clear hK K
     by_cases c1:(ys.length:Int)=(g.2:Int)-p
     rotate_left
     .refine Af c1 ?_;intro K hK
      refine zk ?_;clear hK K
      refine zt ?_
      refine zs ?_
      refine zr ?_
      rw[if_neg (fun h=>c1 (by omega))];rfl
     have c1t:((ys.length:Int)=(g.2:Int)-p)=True:=eq_true c1
     have spM:=Xf bs ys p hb (by omega) (by omega)
     by_cases c2:(bs.drop p).take ys.length=ys
     .rw[decide_eq_true c2] at spM
      refine Af c1t ?_;intro K hK
      refine Ab.eq spM (by simp) (by simp) ?_
      refine zx ?_
      refine zk ?_;clear hK K
      refine zn ?_
      refine W.skip ?_
      refine zs ?_
      refine zr ?_
      rw[if_pos ⟨by omega,c2⟩];rfl
     .rw[decide_eq_false c2] at spM
      refine Af c1t ?_;intro K hK
      refine Ab.eq spM (by simp) (by simp) ?_
      refine zx ?_
      refine zk ?_;clear hK K
      refine zt ?_
      refine zs ?_
      refine zr ?_
      rw[if_neg (fun h=>c2 h.2)];rfl
theorem Lw (xs:List Int) (x:Int):(0<=AL (fun y=>decide (y=x)) xs)↔xs.contains x=true:=by
 rw[CM]
 simp
theorem Tb {l ref:List Int} {i:Nat} (h:i<ref.length) (b:Bool) (n:Nat):AU l (ref.drop i) b n=if l.contains ref[i]=b then AU l (ref.drop (i+1)) b (n+1) else n::AU l (ref.drop (i+1)) (!b) 1:=by
 rw[List.drop_eq_getElem_cons h,AU]
theorem Qn {ref l:List Int} {i:Nat} (h:i<l.length):Bh ref (l.take (i+1))=Bh ref (l.take i)++if ref.contains l[i]=true then [] else [l[i]]:=by
 have hto:l.take (i+1)=l.take i++[l[i]]:=by rw[List.take_add_one];simp[h]
 rw[hto,Bh,List.filter_append]
 congr 1
 cases hc:ref.contains l[i]<;>simp_all
theorem U2 (ref l:List Int) (hr:ref.length<1000000) (hl:l.length<1000000):Aa pg 207 [.ro ref.length (Ae ref),.ro l.length (Ae l)] [] (fun r _=>r= .tup [.own 1 (blocks ref l).length (Ae (blocks ref l)),.own 1 (Bh ref l).length (Ae (Bh ref l))]):=by
 refine Aa.start (fn:=Tryz.f207) [.tmp 4,.tmp 5] tk rfl rfl rfl (by kernel_rfl) (Nat.le_of_ble_eq_true rfl) rfl (by kernel_rfl) ?_
 rw[At]
 refine zs ?_
 refine zs ?_
 refine zs ?_
 refine zs ?_
 (repeat refine W.seq ?_);refine W.block (W.loopS (fun s:Nat×List Nat×Bool×Nat=> [(0,.ro ref.length (Ae ref)),(1,.ro l.length (Ae l)),(6,.tok 0 s.2.1.length 1 0 s.2.1.length),(7,.own 1 0 []),(8,.bool s.2.2.1),(9,.int .i64 s.2.2.2),(10,.int .i64 s.1)]) (fun s=> [.live s.2.1.length (Ae (s.2.1.map fun n=>((n:Nat):Int)))]) (fun s=>ref.length-s.1)
   (fun s=>s.1<=ref.length/\s.2.1.length<=s.1/\s.2.2.2<=s.1/\AU l ref true 0=s.2.1++AU l (ref.drop s.1) s.2.2.1 s.2.2.2) (0,[],true,0) ((Wk.nil (t:=6) (s:=1) (by simp)).trans (Wk.fr (by simp[Ad]))) ⟨by simp,by simp,by simp,by simp⟩ ?_)
 rintro⟨i,acc,b,n⟩ ⟨hi,hacc,hn,hinv⟩
 simp only at hi hacc hn hinv
 refine zs ?_
 refine zc ?_ ?_<;>intro h
 .refine W.skip ?_
  have hlt:i<ref.length:=by omega
  rw[Tb hlt] at hinv
  have sp:=WD l ref[i] (by omega)
  have hix:=Lw l ref[i]
  refine zb ?_
  obtain⟨z,hz⟩:∃z,z=AL (fun y=>decide (y=ref[i])) l:=⟨_,rfl⟩
  obtain⟨c,hcd⟩:∃c,c=l.contains ref[i]:=⟨_,rfl⟩
  rw[<-hz] at sp hix
  rw[<-hcd] at hix hinv
  have hdz:decide (0<=z)=c:=by rw[Bool.eq_iff_iff];simp[hix]
  (repeat refine W.seq ?_);refine W.reg 0 rfl fun K hK=>?_;simp -implicitDefEqProofs (maxSteps:=999999) (disch:=omega) [hlt]
  refine Ab.eq sp (by simp) (by simp) ?_
  refine AX hdz ?_
  refine zk ?_;clear hK K
  by_cases hc:c=b
  .rw[if_pos hc] at hinv
   refine Af hc ?_;intro K hK
   refine zk ?_;clear hK K
   refine zn ?_
   refine W.skip ?_
   refine zs ?_
   refine zs ?_
   exact⟨(i+1,acc,b,n+1),by simp only;omega,⟨by simp only;omega,by simp only;omega,by simp only;omega,hinv⟩,Wk.fr (by simp[Ad])⟩
  .rw[if_neg hc] at hinv
   have hcb:c= !b:=by cases c<;>cases b<;>simp_all
   have e:Ae (acc.map fun n=>((n:Nat):Int))++[AV.int .i64 n]=Ae ((acc++[n]).map fun n=>((n:Nat):Int)):=by simp[Ae]
   refine Af hc ?_;intro K hK
   refine zk ?_;clear hK K
   refine zt ?_
   refine z1 ?_;intro K hK
   refine⟨by omega,by omega,?_⟩
   refine zk ?_;clear hK K
   refine zs ?_
   refine zs ?_
   refine zs ?_
   refine⟨(i+1,acc++[n],!b,1),by simp only;omega,⟨by simp only;omega,by simp;omega,by simp only;omega,by simp only;rw[hinv];simp⟩,Wk.cutM (k:=1) (by simp[Ad,hcb]) ?_ (by simp) (by simp) (by simp) (by simp)⟩
   simp[Ae]
 .refine W.exit ?_
  have hi' :i=ref.length:=by omega
  subst hi'
  rw[List.drop_length,AU,List.append_nil] at hinv
  have hbl:blocks ref l=acc.map fun n=>((n:Nat):Int):=by rw[blocks,hinv]
  have hal:acc.length=(blocks ref l).length:=by rw[hbl];simp
  rw[<-hbl,hal]
  rw[hal] at hacc
  generalize blocks ref l=bl at*
  refine zs ?_
  have hoN:∀k,(Bh ref (l.take k)).length<=k:=fun k=>Nat.le_trans (List.length_filter_le _ _) (by simp;omega)
  (repeat refine W.seq ?_);refine W.block (W.loopS (fun k:Nat=> [(0,.ro ref.length (Ae ref)),(1,.ro l.length (Ae l)),(6,.tok 0 bl.length 1 0 bl.length),(7,.tok 1 (Bh ref (l.take k)).length 1 0 (Bh ref (l.take k)).length),(12,.int .i64 k)]) (fun k=> [.live bl.length (Ae bl),.live (Bh ref (l.take k)).length (Ae (Bh ref (l.take k)))]) (fun k=>l.length-k) (fun k=>k<=l.length) 0 ((Wk.nil (t:=7) (s:=1) (by simp)).trans (Wk.fr (by simp[Ad,Bh]))) (by simp) ?_)
  intro k hk
  refine zs ?_
  refine zc ?_ ?_<;>intro h
  .refine W.skip ?_
   have hlt:k<l.length:=by omega
   have hst:=Qn (ref:=ref) hlt
   have hok:=hoN k
   have sp:=WD ref l[k] (by omega)
   have hix:=Lw ref l[k]
   refine zb ?_
   obtain⟨z,hz⟩:∃z,z=AL (fun y=>decide (y=l[k])) ref:=⟨_,rfl⟩
   rw[<-hz] at sp hix
   by_cases hc:ref.contains l[k]=true
   .have hz0:¬z<0:=by have:=hix.2 hc;omega
    rw[if_pos hc,List.append_nil] at hst
    (repeat refine W.seq ?_);refine W.reg 0 rfl fun K hK=>?_;simp -implicitDefEqProofs (maxSteps:=999999) (disch:=omega) [hlt]
    refine Ab.eq sp (by simp) (by simp) ?_
    refine AX hz0 ?_
    refine zk ?_;clear hK K
    refine zn ?_
    refine W.skip ?_
    refine zs ?_
    refine⟨k+1,by omega,by omega,?_⟩
    rw[hst]
    exact Wk.fr (by simp[Ad])
   .have hz0:z<0:=by have:=mt hix.1 hc;omega
    rw[if_neg hc] at hst
    (repeat refine W.seq ?_);refine W.reg 0 rfl fun K hK=>?_;simp -implicitDefEqProofs (maxSteps:=999999) (disch:=omega) [hlt]
    refine Ab.eq sp (by simp) (by simp) ?_
    refine AX hz0 ?_
    refine zk ?_;clear hK K
    refine zt ?_
    (repeat refine W.seq ?_);refine W.reg 1 rfl fun K hK=>?_;simp -implicitDefEqProofs (maxSteps:=999999) (disch:=omega) [hlt]
    refine⟨by omega,by omega,?_⟩
    refine zk ?_;clear hK K
    refine zs ?_
    refine⟨k+1,by omega,by omega,?_⟩
    rw[hst]
    simp only[List.length_append,List.length_singleton]
    refine Wk.cutM (k:=2) (by simp[Ad]) ?_ (by simp) (by simp) (by simp) (by simp)
    simp[Ae]
  .refine W.exit ?_
   have hk' :k=l.length:=by omega
   subst hk'
   rw[List.take_length]
   refine zs ?_
   exact zR
def DE (l:List Int):Int->Bool:=fun j=>l.contains j
def Ip (ref bl rest:List Int):List Int×Bool:=
 if¬(AJ ref/\AJ rest/\bl.length<=16) then([],false) else match Bi bl ref true with
  |none=>([],false)
  |some l=>(B8 (DC (DE l) rest) 16,decide (blocks ref (B8 (DC (DE l) rest) 16)=bl/\Bh ref (B8 (DC (DE l) rest) 16)=rest))
theorem Zv (ref bl rest:List Int):EM ref bl rest=if (Ip ref bl rest).2=true then some (Ip ref bl rest).1 else none:=by
 unfold EM Ip
 split
 .simp
 .cases Bi bl ref true with
  |none=>simp
  |some l=>
   simp only[decide_eq_true_eq]
   rfl
theorem GI (l:List Int):∀(ref:List Int) (b:Bool) (n:Nat),(AU l ref b n).length<=ref.length
 | [],_,_=>by simp[AU]
 |x::ref,b,n=>by
  rw[AU]
  split
  .have:=GI l ref b (n+1);simp;omega
  .have:=GI l ref (!b) 1;simp;omega
theorem Tc (ref l:List Int):(blocks ref l).length<=ref.length:=by
 unfold blocks
 rw[List.length_map]
 exact GI l ref true 0
def FC (i:Nat):Bool:=decide (i%2=0)
theorem IV (i:Nat):FC (i+1)= !FC i:=by
 unfold FC
 rw[<-decide_not,decide_eq_decide]
 omega
theorem O4 (l:List Int) (x:Int):A1 (E3 (DE l) x)=A1 (DE (l++[x])):=DL fun j _ _=>by
 simp only[E3,DE]
 rw[Bool.eq_iff_iff]
 simp
theorem U3 (p:Int->Bool) (l:List Int) (x:Int):A1 (E3 (DC p l) x)=A1 (DC p (l++[x])):=DL fun j _ _=>by
 simp only[E3,DC,Bool.or_assoc]
 congr 1
 rw[Bool.eq_iff_iff]
 simp
theorem O5 (ref bl rest:List Int) (h1:ref.length<1000000) (h2:bl.length<1000000) (h3:rest.length<1000000) (hb:∀x∈bl,-1000000000000<=x/\x<=1000000000000):Aa pg 186 [.ro ref.length (Ae ref),.ro bl.length (Ae bl),.ro rest.length (Ae rest)] [] (fun r _=>r= .tup [.own 1 (Ip ref bl rest).1.length (Ae (Ip ref bl rest).1),.bool (Ip ref bl rest).2]):=by
 refine Aa.start (fn:=Tryz.f186) [.tmp 6,.tmp 7] tk rfl rfl rfl (by kernel_rfl) (Nat.le_of_ble_eq_true rfl) rfl (by kernel_rfl) ?_
 rw[Bl]
 refine zs ?_
 have sp1:=G2 ref (by omega)
 have sp2:=G2 rest (by omega)
 by_cases c1:AJ ref
 rotate_left
 .rw[Ip,if_pos (fun h=>c1 h.1)]
  rw[decide_eq_false c1] at sp1
  refine z0 ?_;intro K hK
  refine Ab.eq sp1 (by simp) (by simp) ?_
  refine zx ?_
  refine zk ?_;clear hK K
  refine zt ?_
  refine zs ?_
  exact zR
 by_cases c2:AJ rest
 rotate_left
 .rw[Ip,if_pos (fun h=>c2 h.2.1)]
  rw[decide_eq_true c1] at sp1
  rw[decide_eq_false c2] at sp2
  refine z0 ?_;intro K hK
  refine Ab.eq sp1 (by simp) (by simp) ?_
  refine zx ?_
  refine Ab.eq sp2 (by simp) (by simp) ?_
  refine zx ?_
  refine zk ?_;clear hK K
  refine zt ?_
  refine zs ?_
  exact zR
 rw[decide_eq_true c1] at sp1
 rw[decide_eq_true c2] at sp2
 by_cases c3:bl.length<=16
 rotate_left
 .have c3' :(16:Int)<(bl.length:Int):=by omega
  rw[Ip,if_pos (fun h=>c3 h.2.2)]
  refine z0 ?_;intro K hK
  refine Ab.eq sp1 (by simp) (by simp) ?_
  refine zx ?_
  refine Ab.eq sp2 (by simp) (by simp) ?_
  refine AX c3' ?_
  refine zk ?_;clear hK K
  refine zt ?_
  refine zs ?_
  exact zR
 have c3' :¬(16:Int)<(bl.length:Int):=by omega
 have hjc:Ip ref bl rest=match Bi bl ref true with
  |none=>([],false)
  |some l=>(B8 (DC (DE l) rest) 16,decide (blocks ref (B8 (DC (DE l) rest) 16)=bl/\Bh ref (B8 (DC (DE l) rest) 16)=rest)):=by rw[Ip,if_neg (fun h=>h ⟨c1,c2,c3⟩)]
 rw[hjc]
 clear hjc
 have hl1:=Bq c1
 have hl2:=Bq c2
 refine z0 ?_;intro K hK
 refine Ab.eq sp1 (by simp) (by simp) ?_
 refine zx ?_
 refine Ab.eq sp2 (by simp) (by simp) ?_
 refine AX c3' ?_
 refine zk ?_;clear hK K
 refine zn ?_
 refine W.skip ?_
 refine z1 ?_;intro K hK
 have e0:[AV.bool false,AV.bool false,AV.bool false,AV.bool false,AV.bool false,AV.bool false,AV.bool false,AV.bool false,AV.bool false,AV.bool false,AV.bool false,AV.bool false,AV.bool false,AV.bool false,AV.bool false,AV.bool false]=AO (A1 (DE [])):=rfl
 rw[e0]
 refine zk ?_;clear hK K
 refine zs ?_
 refine zs ?_
 (repeat refine W.seq ?_);refine W.block (W.loopS (fun s:Nat×Nat×List Int=> [(0,.ro ref.length (Ae ref)),(1,.ro bl.length (Ae bl)),(2,.ro rest.length (Ae rest)),(8,.ptr 0 0 0),(9,.int .i64 s.2.1),(10,.int .i64 s.1)]) (fun s=> [.live 0 (AO (A1 (DE s.2.2)))]) (fun s=>bl.length+1-s.1)
   (fun s=>s.2.1<=ref.length/\((s.1<=bl.length/\Bi bl ref true=(Bi (bl.drop s.1) (ref.drop s.2.1) (FC s.1)).map fun l=>s.2.2++l)\/(s.1=bl.length+1/\Bi bl ref true=some s.2.2))) (0,0,[]) (Wk.fr (by simp[Ad])) ⟨by simp,.inl ⟨by simp,by simp[FC]⟩⟩ ?_)
 rintro⟨i,q,acc⟩ ⟨hq,hinv⟩
 simp only at hq hinv
 by_cases hle:i<=bl.length
 .have hinv:Bi bl ref true=(Bi (bl.drop i) (ref.drop q) (FC i)).map fun l=>acc++l:=by
   rcases hinv with h|h
   .exact h.2
   .omega
  refine zs ?_
  refine zt ?_
  refine W.skip ?_
  refine zb ?_
  refine zs ?_
  by_cases hlb:i<bl.length
  .have hbi:=hb _ (List.getElem_mem hlb)
   have hdl:bl.drop i=bl[i]::bl.drop (i+1):=List.drop_eq_getElem_cons hlb
   refine zs ?_
   refine zt ?_
   (repeat refine W.seq ?_);refine W.reg 0 rfl fun K hK=>?_;simp -implicitDefEqProofs (maxSteps:=999999) (disch:=omega) [hlb]
   refine zk ?_;clear hK K
   by_cases hbad:bl[i]<0\/(ref.length:Int)-q<bl[i]
   .have hnone:Bi bl ref true=none:=by
     rw[hinv,hdl,Bi,if_pos (by simp only[List.length_drop];omega)];rfl
    rw[hnone]
    by_cases hneg:bl[i]<0
    .refine Af hneg ?_;intro K hK
     refine zk ?_;clear hK K
     refine zt ?_
     refine zs ?_
     exact zR
    .have hbig:(ref.length:Int)-q<bl[i]:=by omega
     refine Af (an hneg hbig) ?_;intro K hK
     refine zk ?_;clear hK K
     refine zt ?_
     refine zs ?_
     exact zR
   .obtain⟨N,hz⟩:=Int.eq_ofNat_of_zero_le (show 0<=bl[i] by omega)
    rw[hz] at hbad
    have hNq:q+N<=ref.length:=by omega
    have f1:¬((N:Int)<0):=by omega
    have f2:¬((ref.length:Int)-q<N):=by omega
    rw[hz]
    refine Af (an f1 f2) ?_;intro K hK
    refine zk ?_;clear hK K
    refine zn ?_
    refine W.skip ?_
    refine zs ?_
    have hmem:∀w∈ref,0<=w/\w<16:=fun w hw=>c1.1 w hw
    cases hev:FC i
    .have hodd:¬(i:Int)%2=0:=by simp only[FC,decide_eq_false_iff_not] at hev;omega
     (repeat refine W.seq ?_);refine W.block (W.loopS (fun _:Unit=> [(0,.ro ref.length (Ae ref)),(1,.ro bl.length (Ae bl)),(2,.ro rest.length (Ae rest)),(8,.ptr 0 0 0),(9,.int .i64 q),(10,.int .i64 i),(11,.int .i64 N),(12,.int .i64 0)]) (fun _=> [.live 0 (AO (A1 (DE acc)))]) (fun _=>0) (fun _=>True) () (Wk.fr (by simp[Ad])) trivial ?_)
     rintro _ _
     by_cases hN0:0<N
     .refine Af (an hodd hN0) ?_;intro K hK
      refine zk ?_;clear hK K
      refine zn ?_
      refine W.exit ?_
      refine zs ?_
      refine zs ?_
      refine⟨(i+1,q+N,acc),by simp only;omega,⟨by simp only;omega,?_⟩,Wk.fr (by simp[Ad])⟩
      refine .inl ⟨by simp only;omega,?_⟩
      simp only
      rw[hinv,hdl,Bi,if_neg (by simp only[List.length_drop];omega),hz,Int.toNat_natCast,List.drop_drop,IV,hev]
      cases Bi (bl.drop (i+1)) (ref.drop (q+N)) (!false)<;>simp
     .have hN00:N=0:=by omega
      refine Af (an hodd (an hN0 hN00)) ?_;intro K hK
      refine zk ?_;clear hK K
      refine zn ?_
      refine W.exit ?_
      refine zs ?_
      refine zs ?_
      refine⟨(i+1,q+N,acc),by simp only;omega,⟨by simp only;omega,?_⟩,Wk.fr (by simp[Ad,hN00])⟩
      refine .inl ⟨by simp only;omega,?_⟩
      simp only
      rw[hinv,hdl,Bi,if_neg (by simp only[List.length_drop];omega),hz,Int.toNat_natCast,List.drop_drop,IV,hev]
      cases Bi (bl.drop (i+1)) (ref.drop (q+N)) (!false)<;>simp
    .have hevn:(i:Int)%2=0:=by simp only[FC,decide_eq_true_eq] at hev;omega
     rw[show acc=acc++(ref.drop q).take 0 by simp]
     (repeat refine W.seq ?_);refine W.block (W.loopS (fun k:Nat=> [(0,.ro ref.length (Ae ref)),(1,.ro bl.length (Ae bl)),(2,.ro rest.length (Ae rest)),(8,.ptr 0 0 0),(9,.int .i64 q),(10,.int .i64 i),(11,.int .i64 N),(12,.int .i64 k)]) (fun k=> [.live 0 (AO (A1 (DE (acc++(ref.drop q).take k))))]) (fun k=>N-k) (fun k=>k<=N) 0 (Wk.fr (by simp[Ad])) (Nat.zero_le _) ?_)
     intro k hk
     by_cases hkN:k<N
     .refine Af (an hevn hkN) ?_;intro K hK
      refine zk ?_;clear hK K
      refine zt ?_
      refine W.skip ?_
      have hql:q+k<ref.length:=by omega
      have hw:=hmem _ (List.getElem_mem hql)
      obtain⟨w,hwe⟩:=Int.eq_ofNat_of_zero_le hw.1
      have hw16:w<16:=by omega
      have hti:((q:Int)+k).toNat=q+k:=by omega
      have hset:∀p:Int->Bool,(AO (A1 p)).set w (.bool true)=AO (A1 (E3 p (w:Int))):=fun p=>by rw[FY,GR _ _ hw16]
      have hto:(ref.drop q).take (k+1)=(ref.drop q).take k++[(w:Int)]:=by rw[List.take_add_one];simp[hql,hwe]
      have e5:A1 (E3 (DE (acc++(ref.drop q).take k)) (w:Int))=A1 (DE (acc++(ref.drop q).take (k+1))):=by rw[O4,hto,List.append_assoc]
      refine zb ?_
      refine Af (an hti (an hwe (an hset (an hql hw16)))) ?_;intro K hK
      refine⟨by omega,?_⟩
      refine zk ?_;clear hK K
      refine zs ?_
      rw[e5]
      exact⟨k+1,by omega,by omega,Wk.fr (by simp[Ad])⟩
     .refine Af (an hevn hkN) ?_;intro K hK
      refine zk ?_;clear hK K
      refine zn ?_
      refine W.exit ?_
      have hk' :k=N:=by omega
      subst hk'
      refine zs ?_
      refine zs ?_
      refine⟨(i+1,q+k,acc++(ref.drop q).take k),by simp only;omega,⟨by simp only;omega,?_⟩,Wk.fr (by simp[Ad])⟩
      refine .inl ⟨by simp only;omega,?_⟩
      simp only
      rw[hinv,hdl,Bi,if_neg (by simp only[List.length_drop];omega),hz,Int.toNat_natCast,List.drop_drop,IV,hev]
      cases Bi (bl.drop (i+1)) (ref.drop (q+k)) (!true)<;>simp
  .have hie:i=bl.length:=by omega
   have hdl:bl.drop i=[]:=List.drop_eq_nil_of_le (by omega)
   refine Af hlb ?_;intro K hK
   refine zk ?_;clear hK K
   refine zn ?_
   refine W.skip ?_
   obtain⟨N,hz⟩:=Int.eq_ofNat_of_zero_le (show 0<=(ref.length:Int)-q by omega)
   have hNq:q+N<=ref.length:=by omega
   have f1:¬((N:Int)<0):=by omega
   have f2:¬((N:Int)<(N:Int)):=by omega
   rw[hz]
   refine Af (an hz (an f1 f2)) ?_;intro K hK
   refine zk ?_;clear hK K
   refine zn ?_
   refine W.skip ?_
   refine zs ?_
   have hmem:∀w∈ref,0<=w/\w<16:=fun w hw=>c1.1 w hw
   cases hev:FC i
   .have hodd:¬(i:Int)%2=0:=by simp only[FC,decide_eq_false_iff_not] at hev;omega
    (repeat refine W.seq ?_);refine W.block (W.loopS (fun _:Unit=> [(0,.ro ref.length (Ae ref)),(1,.ro bl.length (Ae bl)),(2,.ro rest.length (Ae rest)),(8,.ptr 0 0 0),(9,.int .i64 q),(10,.int .i64 i),(11,.int .i64 N),(12,.int .i64 0)]) (fun _=> [.live 0 (AO (A1 (DE acc)))]) (fun _=>0) (fun _=>True) () (Wk.fr (by simp[Ad])) trivial ?_)
    rintro _ _
    by_cases hN0:0<N
    .refine Af (an hodd hN0) ?_;intro K hK
     refine zk ?_;clear hK K
     refine zn ?_
     refine W.exit ?_
     refine zs ?_
     refine zs ?_
     refine⟨(i+1,q+N,acc),by simp only;omega,⟨by simp only;omega,?_⟩,Wk.fr (by simp[Ad])⟩
     refine .inr ⟨by simp only;omega,?_⟩
     simp only
     rw[hinv,hdl,Bi,hev]
     simp
    .have hN00:N=0:=by omega
     refine Af (an hodd (an hN0 hN00)) ?_;intro K hK
     refine zk ?_;clear hK K
     refine zn ?_
     refine W.exit ?_
     refine zs ?_
     refine zs ?_
     refine⟨(i+1,q+N,acc),by simp only;omega,⟨by simp only;omega,?_⟩,Wk.fr (by simp[Ad,hN00])⟩
     refine .inr ⟨by simp only;omega,?_⟩
     simp only
     rw[hinv,hdl,Bi,hev]
     simp
   .have hevn:(i:Int)%2=0:=by simp only[FC,decide_eq_true_eq] at hev;omega
    rw[show acc=acc++(ref.drop q).take 0 by simp]
    (repeat refine W.seq ?_);refine W.block (W.loopS (fun k:Nat=> [(0,.ro ref.length (Ae ref)),(1,.ro bl.length (Ae bl)),(2,.ro rest.length (Ae rest)),(8,.ptr 0 0 0),(9,.int .i64 q),(10,.int .i64 i),(11,.int .i64 N),(12,.int .i64 k)]) (fun k=> [.live 0 (AO (A1 (DE (acc++(ref.drop q).take k))))]) (fun k=>N-k) (fun k=>k<=N) 0 (Wk.fr (by simp[Ad])) (Nat.zero_le _) ?_)
    intro k hk
    by_cases hkN:k<N
    .refine Af (an hevn hkN) ?_;intro K hK
     refine zk ?_;clear hK K
     refine zt ?_
     refine W.skip ?_
     have hql:q+k<ref.length:=by omega
     have hw:=hmem _ (List.getElem_mem hql)
     obtain⟨w,hwe⟩:=Int.eq_ofNat_of_zero_le hw.1
     have hw16:w<16:=by omega
     have hti:((q:Int)+k).toNat=q+k:=by omega
     have hset:∀p:Int->Bool,(AO (A1 p)).set w (.bool true)=AO (A1 (E3 p (w:Int))):=fun p=>by rw[FY,GR _ _ hw16]
     have hto:(ref.drop q).take (k+1)=(ref.drop q).take k++[(w:Int)]:=by rw[List.take_add_one];simp[hql,hwe]
     have e5:A1 (E3 (DE (acc++(ref.drop q).take k)) (w:Int))=A1 (DE (acc++(ref.drop q).take (k+1))):=by rw[O4,hto,List.append_assoc]
     refine zb ?_
     refine Af (an hti (an hwe (an hset (an hql hw16)))) ?_;intro K hK
     refine⟨by omega,?_⟩
     refine zk ?_;clear hK K
     refine zs ?_
     rw[e5]
     exact⟨k+1,by omega,by omega,Wk.fr (by simp[Ad])⟩
    .refine Af (an hevn hkN) ?_;intro K hK
     refine zk ?_;clear hK K
     refine zn ?_
     refine W.exit ?_
     have hk' :k=N:=by omega
     subst hk'
     refine zs ?_
     refine zs ?_
     refine⟨(i+1,q+k,acc++(ref.drop q).take k),by simp only;omega,⟨by simp only;omega,?_⟩,Wk.fr (by simp[Ad])⟩
     refine .inr ⟨by simp only;omega,?_⟩
     simp only
     rw[hinv,hdl,Bi,hev]
     simp
     rw[List.take_of_length_le (by simp;omega)]
 .have hil:i=bl.length+1:=by
   rcases hinv with h|h<;>omega
  have hcg:Bi bl ref true=some acc:=by
   rcases hinv with h|h
   .omega
   .exact h.2
  rw[hcg]
  simp only
  have hgt:¬(i:Int)<=(bl.length:Int):=by omega
  refine Af hgt ?_;intro K hK
  refine zk ?_;clear hK K
  refine zn ?_
  refine W.exit ?_
  refine zs ?_
  have e4:A1 (DE acc)=A1 (DC (DE acc) (rest.take 0)):=DL fun j _ _=>by simp[DC]
  rw[e4]
  (repeat refine W.seq ?_);refine W.block (W.loopS (fun k:Nat=> [(0,.ro ref.length (Ae ref)),(1,.ro bl.length (Ae bl)),(2,.ro rest.length (Ae rest)),(8,.ptr 0 0 0),(13,.int .i64 k)]) (fun k=> [.live 0 (AO (A1 (DC (DE acc) (rest.take k))))]) (fun k=>rest.length-k) (fun k=>k<=rest.length) 0 (Wk.fr (by simp[Ad])) (Nat.zero_le _) ?_)
  intro k hk
  refine zs ?_
  refine zc ?_ ?_<;>intro h
  .refine W.skip ?_
   have hkl:k<rest.length:=by omega
   have hw:=c2.1 _ (List.getElem_mem hkl)
   obtain⟨w,hwe⟩:=Int.eq_ofNat_of_zero_le hw.1
   have hw16:w<16:=by omega
   have hset:∀p:Int->Bool,(AO (A1 p)).set w (.bool true)=AO (A1 (E3 p (w:Int))):=fun p=>by rw[FY,GR _ _ hw16]
   have hto2:rest.take (k+1)=rest.take k++[(w:Int)]:=by rw[List.take_add_one];simp[hkl,hwe]
   have e5:A1 (E3 (DC (DE acc) (rest.take k)) (w:Int))=A1 (DC (DE acc) (rest.take (k+1))):=by rw[U3,hto2]
   refine zb ?_
   refine Af (an hkl (an hwe (an hset hw16))) ?_;intro K hK
   refine zk ?_;clear hK K
   refine zs ?_
   rw[e5]
   exact⟨k+1,by omega,by omega,Wk.fr (by simp[Ad])⟩
  .refine W.exit ?_
   have hk' :k=rest.length:=by omega
   subst hk'
   rw[List.take_length]
   generalize DC (DE acc) rest=pr
   refine zs ?_
   refine zs ?_
   (repeat refine W.seq ?_);refine W.block (W.loopS (fun k:Nat=> [(0,.ro ref.length (Ae ref)),(1,.ro bl.length (Ae bl)),(2,.ro rest.length (Ae rest)),(8,.ptr 0 0 0),(14,.tok 1 (B8 pr k).length 1 0 (B8 pr k).length),(15,.int .i64 k)]) (fun k=> [.live 0 (AO (A1 pr)),.live (B8 pr k).length (Ae (B8 pr k))]) (fun k=>16-k) (fun k=>k<=16) 0 ((Wk.nil (t:=14) (s:=1) (by simp)).trans (Wk.fr (by simp[Ad,B8]))) (by simp) ?_)
   intro k hk
   have htl:=K5 pr k
   refine zs ?_
   refine zc ?_ ?_<;>intro h
   .refine W.skip ?_
    have hlt:k<16:=by omega
    have hget:(A1 pr)[k]?=some (pr (k:Int)):=JS _ _ hlt
    have hsu:=JU pr k
    refine zb ?_
    cases hq:pr (k:Int)
    .rw[hq] at hget hsu
     refine Af (an hget hlt) ?_;intro K hK
     refine zk ?_;clear hK K
     refine zn ?_
     refine W.skip ?_
     refine zs ?_
     refine⟨k+1,by omega,by omega,?_⟩
     rw[hsu]
     simp only[Bool.false_eq_true,if_false,List.append_nil]
     exact Wk.fr (by simp[Ad])
    .rw[hq] at hget hsu
     refine Af (an hget hlt) ?_;intro K hK
     refine zk ?_;clear hK K
     refine zt ?_
     refine z1 ?_;intro K hK
     refine⟨by omega,by omega,?_⟩
     refine zk ?_;clear hK K
     refine zs ?_
     refine⟨k+1,by omega,by omega,?_⟩
     rw[hsu]
     simp only[if_true,List.length_append,List.length_singleton]
     refine Wk.cutM (k:=2) (by simp[Ad]) ?_ (by simp) (by simp) (by simp) (by simp)
     simp[Ae]
   .refine W.exit ?_
    have hk' :k=16:=by omega
    subst hk'
    obtain⟨L,hL⟩:∃L,L=B8 pr 16:=⟨_,rfl⟩
    rw[<-hL] at htl |-
    have spC:=U2 ref L (by omega) (by omega)
    have hbl:(blocks ref L).length<4611686018427387904:=by have:=Tc ref L;omega
    have hol:(Bh ref L).length<=L.length:=List.length_filter_le _ _
    obtain⟨X,hX⟩:∃X,X=blocks ref L:=⟨_,rfl⟩
    obtain⟨Y,hY⟩:∃Y,Y=Bh ref L:=⟨_,rfl⟩
    rw[<-hX,<-hY] at spC
    rw[<-hX] at hbl
    rw[<-hY] at hol
    rw[<-hX,<-hY]
    refine z0 ?_;intro K hK
    refine Ab.eq spC (by simp) (by simp) ?_
    refine zx ?_
    refine zk ?_;clear hK K
    have sE1:=Ew X bl hbl
    have sE2:=Ew Y rest (by omega)
    by_cases d1:X=bl
    .rw[decide_eq_true d1] at sE1
     refine z0 ?_;intro K hK
     refine Ab.eq sE1 (by simp) (by simp) ?_
     refine zx ?_
     refine Ab.eq sE2 (by simp) (by simp) ?_
     refine zx ?_
     refine zk ?_;clear hK K
     refine zr ?_
     simp[d1]
    .rw[decide_eq_false d1] at sE1
     refine z0 ?_;intro K hK
     refine Ab.eq sE1 (by simp) (by simp) ?_
     refine zx ?_
     refine zk ?_;clear hK K
     refine zr ?_
     simp[d1]
theorem K6 {bs:List Bool} {p:Nat} {v:Int} {r:List Int×Nat} (hv:-100000<=v/\v<=100000) (h:BU bs p v=some r):AJ r.1/\r.1.length<=16/\p<r.2/\r.2<=bs.length:=by
 rw[GH] at h
 exact Jo hv h
theorem U4 (bs:List Bool) (p:Nat) (v:Int) (ref:List Int) (hb:bs.length<1000000000) (hp:p<=bs.length) (hv:0<=v/\v<=16) (hr:ref.length<1000000):Aa pg 146 [.ro bs.length (A8 bs),.int .i64 p,.int .i64 v,.ro ref.length (Ae ref)] [] (fun r _=>r=DA (Ex bs p v ref)):=by
 refine Aa.start (fn:=Tryz.f146) [.tmp 8,.tmp 9,.tmp 10] tk rfl rfl rfl (by kernel_rfl) (Nat.le_of_ble_eq_true rfl) rfl (by kernel_rfl) ?_
 rw[Iz]
 refine zs ?_
 refine z0 ?_;intro K hK
 have sp:=Fk bs p hb hp
 cases hg:A5 bs p with
 |none=>
  simp only[hg,FR] at sp
  refine Ab.eq sp (by simp) (by simp) ?_
  refine zx ?_
  refine zk ?_;clear hK K
  refine zs ?_
  refine zt ?_
  refine zs ?_
  refine zr ?_
  simp[Ex,hg,DA]
 |some x=>
  simp only[hg,FR] at sp
  obtain⟨hx1,hx2,hx3,hx4,_⟩:=A0 hg
  refine Ab.eq sp (by simp) (by simp) ?_
  refine zx ?_
  refine zk ?_;clear hK K
  by_cases hle:x.1<=17
  rotate_left
  .have h1:¬(x.1:Int)<1:=by omega
   have h2:(16:Int)<(x.1:Int)-1:=by omega
   refine Af (an h1 h2) ?_;intro K hK
   refine zk ?_;clear hK K
   refine zt ?_
   refine zs ?_
   refine zr ?_
   simp only[Ex,hg];rw[if_neg hle];simp[DA]
  have h1:¬(x.1:Int)<1:=by omega
  have h2:¬(16:Int)<(x.1:Int)-1:=by omega
  refine Af (an h1 h2) ?_;intro K hK
  refine zk ?_;clear hK K
  refine zn ?_
  refine W.skip ?_
  refine zs ?_
  refine zs ?_
  (repeat refine W.seq ?_);refine W.block (W.loopS (fun s:Nat×List Int×Nat=> [(0,.ro bs.length (A8 bs)),(1,.int .i64 s.2.2),(2,.int .i64 v),(3,.ro ref.length (Ae ref)),(11,.int .i64 x.1),(12,.tok 0 s.1 1 0 s.1),(13,.int .i64 s.1)]) (fun s=> [.live s.1 (Ae s.2.1)]) (fun s=>x.1-1-s.1)
    (fun s=>s.1<=x.1-1/\s.2.1.length=s.1/\s.2.2<=bs.length/\(∀q∈s.2.1,-1000000000000<=q/\q<=1000000000000)/\BM bs (x.1-1) true x.2=(BM bs (x.1-1-s.1) (decide (s.1=0)) s.2.2).map fun r=>(s.2.1++r.1,r.2)) (0,[],x.2) ((Wk.nil (t:=12) (s:=1) (by simp)).trans (Wk.fr (by simp[Ad]))) ⟨by omega,rfl,hx4,by simp,by simp⟩ ?_)
  rintro⟨k,acc,q⟩ ⟨hk,hacc,hq,hbnd,hinv⟩
  simp only at hk hacc hq hinv hbnd
  refine zs ?_
  refine zc ?_ ?_<;>intro h
  .refine W.skip ?_
   obtain⟨m,hm⟩:∃m,x.1-1-k=m+1:=⟨x.1-1-k-1,by omega⟩
   have hm' :x.1-1-(k+1)=m:=by omega
   rw[hm] at hinv
   refine zb ?_
   have sp2:=Fk bs q hb hq
   refine z0 ?_;intro K hK
   cases hg2:A5 bs q with
   |none=>
    simp only[hg2,FR] at sp2
    refine Ab.eq sp2 (by simp) (by simp) ?_
    refine zx ?_
    refine zk ?_;clear hK K
    refine zs ?_
    refine zt ?_
    refine zs ?_
    refine zr ?_
    simp only[BM,hg2] at hinv
    simp[Ex,hg,hinv,DA]
   |some y=>
    simp only[hg2,FR] at sp2
    obtain⟨hy1,hy2,hy3,hy4,_⟩:=A0 hg2
    refine Ab.eq sp2 (by simp) (by simp) ?_
    have h3:¬(y.1:Int)<1:=by omega
    simp only[BM,hg2] at hinv
    refine zx ?_
    refine zk ?_;clear hK K
    by_cases hy17:y.1<=17
    rotate_left
    .have h4:(17:Int)<(y.1:Int):=by omega
     refine Af (an h3 h4) ?_;intro K hK
     refine zk ?_;clear hK K
     refine zt ?_
     refine zs ?_
     refine zr ?_
     rw[if_neg hy17] at hinv
     simp[Ex,hg,hinv,DA]
    have h4:¬(17:Int)<(y.1:Int):=by omega
    rw[if_pos hy17] at hinv
    refine Af (an h3 h4) ?_;intro K hK
    refine zk ?_;clear hK K
    refine zn ?_
    refine W.skip ?_
    refine zs ?_
    by_cases h0:k=0
    .subst h0
     have ha:acc=[]:=by simpa using hacc
     subst ha
     simp only[if_true,decide_true] at hinv
     refine zs ?_
     refine zt ?_
     refine zs ?_
     refine z1 ?_;intro K hK
     refine zk ?_;clear hK K
     refine zs ?_
     refine⟨(1,[(y.1:Int)-1],y.2),by simp only;omega,⟨by simp only;omega,by simp,by simp only;omega,by simp;omega,?_⟩,Wk.cutM (k:=1) (by simp[Ad]) ?_ (by simp) (by simp) (by simp) (by simp)⟩
     .rw[hinv,hm']
      simp
      cases BM bs m false y.2<;>simp
     .simp[Ae]
    .simp only[h0,if_false,decide_false,Bool.false_eq_true] at hinv
     refine Af h0 ?_;intro K hK
     refine zk ?_;clear hK K
     refine zn ?_
     refine W.skip ?_
     refine z1 ?_;intro K hK
     refine⟨by omega,by omega,?_⟩
     refine zk ?_;clear hK K
     refine zs ?_
     refine⟨(k+1,acc++[(y.1:Int)],y.2),by simp only;omega,⟨by simp only;omega,by simp[hacc],by simp only;omega,?_,?_⟩,Wk.cutM (k:=1) (by simp[Ad]) ?_ (by simp) (by simp) (by simp) (by simp)⟩
     .intro w hw
      simp only[List.mem_append,List.mem_singleton] at hw
      rcases hw with hw|rfl
      .exact hbnd w hw
      .omega
     .rw[hinv,hm']
      simp
      cases BM bs m false y.2<;>simp
     .simp[Ae]
  .refine W.exit ?_
   have hk' :x.1-1-k=0:=by omega
   rw[hk'] at hinv
   simp only[BM,Option.map_some,List.append_nil] at hinv
   subst hacc
   have spG:=LZ bs q v hb hq hv
   have htr:Ex bs p v ref=match BU bs q v with
    |none=>none
    |some r=>match EM ref acc r.1 with
     |some l=>some (l,r.2)
     |none=>none:=by
    unfold Ex
    rw[hg]
    simp only
    rw[if_pos hle,hinv]
    rfl
   rw[htr]
   clear htr
   cases hgp:BU bs q v with
   |none=>
    rw[hgp] at spG
    simp only[DA] at spG
    refine z0 ?_;intro K hK
    refine Ab.eq spG (by simp) (by simp) ?_
    refine zx ?_
    refine zk ?_;clear hK K
    refine zs ?_
    refine zt ?_
    refine zs ?_
    refine zr ?_
    rfl
   |some g=>
    rw[hgp] at spG
    simp only[DA] at spG
    obtain⟨g1,g2,g3,g4⟩:=K6 (by omega) hgp
    refine z0 ?_;intro K hK
    refine Ab.eq spG (by simp) (by simp) ?_
    refine zx ?_
    refine zk ?_;clear hK K
    refine zs ?_
    refine zn ?_
    refine W.skip ?_
    have spJ:=O5 ref acc g.1 hr (by omega) (by omega) hbnd
    simp only
    rw[Zv]
    obtain⟨l,hl⟩:∃l,l=(Ip ref acc g.1).1:=⟨_,rfl⟩
    rw[<-hl] at spJ |-
    cases hj:(Ip ref acc g.1).2
    .rw[hj] at spJ
     refine z0 ?_;intro K hK
     refine Ab.eq spJ (by simp) (by simp) ?_
     refine zx ?_
     refine zk ?_;clear hK K
     refine zs ?_
     refine zt ?_
     refine zs ?_
     refine zr ?_
     rfl
    .rw[hj] at spJ
     refine z0 ?_;intro K hK
     refine Ab.eq spJ (by simp) (by simp) ?_
     refine zx ?_
     refine zk ?_;clear hK K
     refine zs ?_
     refine zn ?_
     refine W.skip ?_
     refine zs ?_
     refine zr ?_
     rfl
def Df (b k:Int):An:=⟨k,b,[],[AR,AR,AR]⟩
end Go.Abs
