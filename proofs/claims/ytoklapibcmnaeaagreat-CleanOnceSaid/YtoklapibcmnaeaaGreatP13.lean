/- References: may a state be? -/
import Derived.Test.YtoklapibcmnaeaaGreatP12
import Derived.Test.YtoklapibcmnaeaaGreatRows
import Derived.JoinedOf
set_option linter.unusedVariables false
set_option linter.unusedSimpArgs false
set_option maxRecDepth 100000
namespace Go.Abs
open Go.Proofs
def Lp (s:Au) (i:Nat) (h:i<s.vers.length):Prop:=(AR (Aj s) s.vers[i].id).2=0∧FT s.vers[i]∧¬(s.vers[i].gone=true∧i+1=s.vers.length)
theorem MP (s:Au):Bk s↔(1≤s.keep∧s.keep≤8)∧(1≤s.blocks∧s.blocks≤100)∧s.vers.length≤12∧s.sess.length=3∧Cj (Aj s)∧CH (Ax s) s.blocks∧(∀i (h:i<s.vers.length),Lp s i h)∧∀x∈s.sess,AD s (Aj s) x:=by
 have hlast:Dg s.vers=false↔∀i (h:i<s.vers.length),¬(s.vers[i].gone=true∧i+1=s.vers.length):=by
  unfold Dg
  rw[List.getLast?_eq_getElem?]
  by_cases h0:s.vers.length=0
  .have:s.vers=[]:=List.eq_nil_of_length_eq_zero h0
   rw[this];simp
  .have hl:s.vers.length-1<s.vers.length:=by omega
   rw[List.getElem?_eq_getElem hl]
   simp only
   constructor
   .intro h i hi hg
    have:i=s.vers.length-1:=by omega
    subst this
    rw[h] at hg;simp at hg
   .intro h
    have:=h (s.vers.length-1) hl
    cases hg:(s.vers[s.vers.length-1]).gone
    .rfl
    .exact absurd ⟨hg,by omega⟩ this
 have hof:(∀o∈Aj s,(AR (Aj s) o.id).2=0)↔∀i (h:i<s.vers.length),(AR (Aj s) s.vers[i].id).2=0:=by
  constructor
  .intro h i hi
   exact h (B8 s.vers[i]) (List.mem_map.2 ⟨_,List.getElem_mem hi,rfl⟩)
  .intro h o ho
   obtain⟨v,hv,rfl⟩:=List.mem_map.1 ho
   obtain⟨i,hi,rfl⟩:=List.mem_iff_getElem.1 hv
   exact h i hi
 have hver:(∀v∈s.vers,FT v)↔∀i (h:i<s.vers.length),FT s.vers[i]:=by
  constructor
  .intro h i hi;exact h _ (List.getElem_mem hi)
  .intro h v hv
   obtain⟨i,hi,rfl⟩:=List.mem_iff_getElem.1 hv
   exact h i hi
 unfold Bk Eh Gk
 rw[hlast,hof,hver]
 constructor
 .rintro⟨⟨⟨a1,a2,a3,a4,a5,a6,a7⟩,b,c,d⟩,e⟩
  exact⟨⟨a1,a2⟩,⟨a3,a4⟩,by have:=a7.1;simpa[Aj] using this,b,a7,e,fun i h=>⟨c i h,a5 i h,a6 i h⟩,d⟩
 .rintro⟨⟨a1,a2⟩,⟨a3,a4⟩,_,b,a7,e,f,d⟩
  exact⟨⟨⟨a1,a2,a3,a4,fun i h=>(f i h).2.1,fun i h=>(f i h).2.2,a7⟩,b,fun i h=>(f i h).1,d⟩,e⟩
set_option maxHeartbeats 2000000 in
theorem Oj (s:Au) (hs:A5 s) (hx:BM s):Aa pg 13 [.agg (An false s)] [] (fun r _=>r= .bool (decide (Bk s))):=by
 have hi:=MP s
 have h1:=hs.1
 have h2:=hs.2.1
 have spK:=E0 s.keep 1 8
 have spB:=E0 s.blocks 1 100
 refine Aa.start (fn:=Tryz.f13) [.tmp 2] tk rfl rfl rfl (by kernel_rfl) (Nat.le_of_ble_eq_true rfl) rfl (by kernel_rfl) ?_
 rw[Av]
 refine z1 ?_;intro K hK;refine zk ?_;clear hK K
 by_cases c1:1≤s.keep∧s.keep≤8
 rotate_left
 .rw[decide_eq_false c1] at spK
  refine z0 ?_;intro K hK
  refine Ab.eq spK (by simp) (by simp) ?_
  refine zx ?_
  refine zk ?_;clear hK K
  refine zt ?_
  refine zs ?_
  refine zr ?_
  exact fun h=>c1 (hi.1 h).1
 rw[decide_eq_true c1] at spK
 by_cases c2:1≤s.blocks∧s.blocks≤100
 rotate_left
 .rw[decide_eq_false c2] at spB
  refine z0 ?_;intro K hK
  refine Ab.eq spK (by simp) (by simp) ?_
  refine zx ?_
  refine Ab.eq spB (by simp) (by simp) ?_
  simp only[EV];simp -implicitDefEqProofs (maxSteps:=999999) (disch:=omega) []
  refine zk ?_;clear hK K
  refine zt ?_
  refine zs ?_
  refine zr ?_
  exact fun h=>c2 (hi.1 h).2.1
 rw[decide_eq_true c2] at spB
 by_cases c3:s.vers.length≤12
 rotate_left
 .have c3' :(12:Int)<(s.vers.length:Int):=by omega
  refine z0 ?_;intro K hK
  refine Ab.eq spK (by simp) (by simp) ?_
  refine zx ?_
  refine Ab.eq spB (by simp) (by simp) ?_
  refine AO c3' ?_
  refine zk ?_;clear hK K
  refine zt ?_
  refine zs ?_
  refine zr ?_
  exact fun h=>c3 (hi.1 h).2.2.1
 have c3' :¬(12:Int)<(s.vers.length:Int):=by omega
 by_cases c4:s.sess.length=3
 rotate_left
 .have c4' :((s.sess.length:Int)=3)=False:=eq_false (by omega)
  refine z0 ?_;intro K hK
  refine Ab.eq spK (by simp) (by simp) ?_
  refine zx ?_
  refine Ab.eq spB (by simp) (by simp) ?_
  refine AO (an c3' c4') ?_
  refine zk ?_;clear hK K
  refine zt ?_
  refine zs ?_
  refine zr ?_
  exact fun h=>c4 (hi.1 h).2.2.2.1
 have c4' :((s.sess.length:Int)=3)=True:=eq_true (by omega)
 refine z0 ?_;intro K hK
 refine Ab.eq spK (by simp) (by simp) ?_
 refine zx ?_
 refine Ab.eq spB (by simp) (by simp) ?_
 refine AO (an c3' c4') ?_
 refine zk ?_;clear hK K
 refine zn ?_
 refine W.skip ?_
 have spO:=VW s hs
 have spR:=VX s hs
 have hlo:D9 (Aj s):=hs.objs
 have spM:=Sd (Aj s) hlo
 have spP:=QJ (Ax s) s.blocks (by simp[Ax];exact hs.1)
 obtain⟨l,hl⟩:∃l,l=Aj s:=⟨_,rfl⟩
 obtain⟨ps,hps⟩:∃ps,ps=Ax s:=⟨_,rfl⟩
 have hll:l.length=s.vers.length:=by rw[hl];simp[Aj]
 rw[←hl] at spO spM hlo
 rw[←hps] at spR spP
 refine z0 ?_;intro K hK
 refine Ab.eq spO (by simp) (by simp) ?_
 refine zx ?_
 refine zk ?_;clear hK K
 by_cases c5:Cj l
 rotate_left
 .rw[decide_eq_false c5] at spM
  refine B9 ?_;intro K hK
  refine Ah.eq spM (by simp) (by simp) ?_
  refine zx ?_
  refine zk ?_;clear hK K
  refine zt ?_
  refine zs ?_
  refine zr ?_
  exact fun h=>c5 (by rw[hl];exact(hi.1 h).2.2.2.2.1)
 rw[decide_eq_true c5] at spM
 by_cases c6:CH ps s.blocks
 rotate_left
 .rw[decide_eq_false c6] at spP
  refine B9 ?_;intro K hK
  refine Ah.eq spM (by simp) (by simp) ?_
  refine zx ?_
  refine Ah.eq spR (by simp) (by simp) ?_
  refine zx ?_
  refine Ah.eq spP (by simp) (by simp) ?_
  refine zx ?_
  refine zk ?_;clear hK K
  refine zt ?_
  refine zs ?_
  refine zr ?_
  exact fun h=>c6 (by rw[hps];exact(hi.1 h).2.2.2.2.2.1)
 rw[decide_eq_true c6] at spP
 refine B9 ?_;intro K hK
 refine Ah.eq spM (by simp) (by simp) ?_
 refine zx ?_
 refine Ah.eq spR (by simp) (by simp) ?_
 refine zx ?_
 refine Ah.eq spP (by simp) (by simp) ?_
 refine zx ?_
 refine zk ?_;clear hK K
 refine zn ?_
 refine W.skip ?_
 refine zs ?_
 (repeat refine W.seq ?_);refine W.block (W.loopS (fun k:Nat=> [(1,.ptr 0 0 0),(3,.tok 1 0 4 0 l.length),(4,.int .i64 k)]) (fun _=> [.live 0 (An false s),.live 0 (Ac Aq l)]) (fun k=>s.vers.length-k) (fun k=>k≤s.vers.length∧∀i (h:i<s.vers.length),i<k→Lp s i h) 0 (Wk.cutM (k:=2) (by simp[Ad]) (by simp) (by simp) (by simp) (by simp) (by simp)) ⟨by omega,fun i h h2=>by omega⟩ ?_)
 rintro k ⟨hk,hok⟩
 refine zs ?_
 refine zc ?_ ?_<;>intro h
 .refine W.skip ?_
  have hlt:k<s.vers.length:=by omega
  have bad:¬Lp s k hlt→¬Bk s:=fun g w=>g ((hi.1 w).2.2.2.2.2.2.1 k hlt)
  have spV:=Jt l s.vers[k].id hlo c5
  have spN:=I4 s.vers[k].parent (s.vers[k].id-1)
  have hidb:1≤s.vers[k].id∧s.vers[k].id≤1048576:=by
   have:=c5.2.1 (B8 s.vers[k]) (by rw[hl];exact List.mem_map.2 ⟨_,List.getElem_mem hlt,rfl⟩)
   exact⟨this.1,this.2.1⟩
  obtain⟨g,hg⟩:∃g,g=(AR l s.vers[k].id).1:=⟨_,rfl⟩
  obtain⟨e,he⟩:∃e,e=(AR l s.vers[k].id).2:=⟨_,rfl⟩
  rw[←hg,←he] at spV
  refine zb ?_
  (repeat refine W.seq ?_);refine W.reg 1 rfl fun K hK=>?_;simp -implicitDefEqProofs (maxSteps:=999999) (disch:=omega) [hlt]
  refine zk ?_;clear hK K
  refine z1 ?_;intro K hK
  refine Ab.eq spV (by simp) (by simp) ?_
  refine zx ?_
  refine zk ?_;clear hK K
  (repeat refine W.seq ?_);refine W.midS (fun b:Bool=> [(1,.ptr 0 0 0),(3,.tok 1 0 4 0 l.length),(4,.int .i64 k),(93,.bool b)]) (fun _=> [.live 0 (An false s),.live 0 (Ac Aq l)]) (fun b=>b=false↔Lp s k hlt) ?_ ?_
  .by_cases d1:e=0
   rotate_left
   .refine Af d1 ?_;intro K hK
    refine zk ?_;clear hK K
    exact⟨true,by simp only[Bool.true_eq_false,false_iff];exact fun h=>d1 (by rw[he,hl];exact h.1),Wk.cutM (k:=2) (by simp[Ad]) (by simp) (by simp) (by simp) (by simp) (by simp)⟩
   by_cases d2:0≤s.vers[k].parent∧s.vers[k].parent≤s.vers[k].id-1
   rotate_left
   .rw[decide_eq_false d2] at spN
    refine Af d1 ?_;intro K hK
    refine Ab.eq spN (by simp) (by simp) ?_
    refine zx ?_
    refine zk ?_;clear hK K
    exact⟨true,by simp only[Bool.true_eq_false,false_iff];exact fun h=>d2 ⟨h.2.1.1,by have:=h.2.1.2.1;omega⟩,Wk.cutM (k:=2) (by simp[Ad]) (by simp) (by simp) (by simp) (by simp) (by simp)⟩
   rw[decide_eq_true d2] at spN
   cases d3:s.vers[k].gone
   .refine Af (an d1 d3) ?_;intro K hK
    refine Ab.eq spN (by simp) (by simp) ?_
    cases d4:s.vers[k].tag
    all_goals (
     refine AO (an d3 d4) ?_
     refine zk ?_;clear hK K
     exact⟨false,by simp only[true_iff];exact⟨by rw[←hl,←he];exact d1,⟨d2.1,by have:=d2.2;omega,by simp[d3]⟩,by simp[d3]⟩,Wk.cutM (k:=2) (by simp[Ad]) (by simp) (by simp) (by simp) (by simp) (by simp)⟩)
   .cases d4:s.vers[k].tag
    rotate_left
    .refine Af (an d1 d3) ?_;intro K hK
     refine Ab.eq spN (by simp) (by simp) ?_
     refine AO (an d3 d4) ?_
     refine zk ?_;clear hK K
     exact⟨true,by simp only[Bool.true_eq_false,false_iff];exact fun h=>h.2.1.2.2 ⟨d4,d3⟩,Wk.cutM (k:=2) (by simp[Ad]) (by simp) (by simp) (by simp) (by simp) (by simp)⟩
    .by_cases d5:k+1=s.vers.length
     .have d5' :((k:Int)=(s.vers.length:Int)-1)=True:=eq_true (by omega)
      refine Af (an d1 d3) ?_;intro K hK
      refine Ab.eq spN (by simp) (by simp) ?_
      refine AO (an d3 (an d4 d5')) ?_
      refine zk ?_;clear hK K
      exact⟨true,by simp only[Bool.true_eq_false,false_iff];exact fun h=>h.2.2 ⟨d3,d5⟩,Wk.cutM (k:=2) (by simp[Ad]) (by simp) (by simp) (by simp) (by simp) (by simp)⟩
     .have d5' :((k:Int)=(s.vers.length:Int)-1)=False:=eq_false (by omega)
      refine Af (an d1 d3) ?_;intro K hK
      refine Ab.eq spN (by simp) (by simp) ?_
      refine AO (an d3 (an d4 d5')) ?_
      refine zk ?_;clear hK K
      exact⟨false,by simp only[true_iff];exact⟨by rw[←hl,←he];exact d1,⟨d2.1,by have:=d2.2;omega,by simp[d4]⟩,fun h=>d5 h.2⟩,Wk.cutM (k:=2) (by simp[Ad]) (by simp) (by simp) (by simp) (by simp) (by simp)⟩
  .intro b hb
   cases b
   .refine zn ?_
    refine W.skip ?_
    refine zs ?_
    refine⟨k+1,by omega,⟨by omega,fun i hi' h2=>?_⟩,Wk.fr (by simp[Ad])⟩
    by_cases ee:i=k
    .subst ee;exact hb.1 rfl
    .exact hok i hi' (by omega)
   .refine zt ?_
    refine zs ?_
    refine zr ?_
    exact bad (fun g=>by have:=hb.2 g;simp at this)
 .refine W.exit ?_
  have hk' :k=s.vers.length:=by omega
  subst hk'
  have hall:∀i (h:i<s.vers.length),Lp s i h:=fun i h=>hok i h h
  refine zs ?_
  (repeat refine W.seq ?_);refine W.block (W.loopS (fun k:Nat=> [(1,.ptr 0 0 0),(3,.tok 1 0 4 0 l.length),(8,.int .i64 k)]) (fun _=> [.live 0 (An false s),.live 0 (Ac Aq l)]) (fun k=>s.sess.length-k) (fun k=>k≤s.sess.length∧∀i (h:i<s.sess.length),i<k→AD s l s.sess[i]) 0 (Wk.fr (by simp[Ad])) ⟨by omega,fun i h h2=>by omega⟩ ?_)
  rintro k ⟨hk,hso⟩
  refine zs ?_
  refine zc ?_ ?_<;>intro h
  .refine W.skip ?_
   have hlt:k<s.sess.length:=by omega
   have spS:=QM s l s.sess[k] hs hlo (hx _ (List.getElem_mem hlt)) c5
   refine zb ?_
   by_cases d:AD s l s.sess[k]
   .rw[decide_eq_true d] at spS
    (repeat refine W.seq ?_);refine W.regd 0 rfl true Ck (by kernel_rfl) fun K hK=>?_;simp -implicitDefEqProofs (maxSteps:=999999) (disch:=omega) [hlt]
    refine Ah.eq spS (by simp) (by simp) ?_
    refine zx ?_
    refine zk ?_;clear hK K
    refine zn ?_
    refine W.skip ?_
    refine zs ?_
    refine⟨k+1,by omega,⟨by omega,fun i hi' h2=>?_⟩,Wk.fr (by simp[Ad])⟩
    by_cases ee:i=k
    .subst ee;exact d
    .exact hso i hi' (by omega)
   .rw[decide_eq_false d] at spS
    (repeat refine W.seq ?_);refine W.regd 0 rfl true Ck (by kernel_rfl) fun K hK=>?_;simp -implicitDefEqProofs (maxSteps:=999999) (disch:=omega) [hlt]
    refine Ah.eq spS (by simp) (by simp) ?_
    refine zx ?_
    refine zk ?_;clear hK K
    refine zt ?_
    refine zs ?_
    refine zr ?_
    exact fun h=>d (by rw[hl];exact(hi.1 h).2.2.2.2.2.2.2 _ (List.getElem_mem hlt))
  .refine W.exit ?_
   refine zs ?_
   refine zr ?_
   refine hi.2 ⟨c1,c2,c3,c4,by rw[←hl];exact c5,by rw[←hps];exact c6,hall,fun x hxm=>?_⟩
   obtain⟨i,hi',rfl⟩:=List.mem_iff_getElem.1 hxm
   rw[←hl]
   exact hso i hi' (by omega)
end Go.Abs
set_option maxRecDepth 100000
namespace Go.Abs
open Go.Proofs
abbrev Bn:Nat:=281474976710656
def WN (B:Nat) (P:Nat→Prop):AV→List Ag→Prop:=fun r _=>∃n:Nat,r= .int .i64 n∧n<B∧(n<1048576→P n)
theorem P9 (xs:List (List Int)) (h1:xs.length<Bn) (h2:∀l∈xs,l.length<Bn):Aa pg 101 [.ro xs.length (AE false xs)] [] (WN 562949953421312 fun n=>xs.length≤n∧∀l∈xs,l.length≤n):=by
 simp only[Bn] at h1 h2
 refine Aa.start (fn:=Tryz.f101) [.tmp 2] tk rfl rfl rfl (by kernel_rfl) (Nat.le_of_ble_eq_true rfl) rfl (by kernel_rfl) ?_
 rw[Av]
 refine zs ?_
 refine zs ?_
 refine zs ?_
 (repeat refine W.seq ?_);refine W.block (W.loopS (fun s:Nat×Nat=> [(0,.ro xs.length (AE false xs)),(3,.int .i64 (s.2:Nat)),(4,.int .i64 (s.1:Nat))]) (fun _=> []) (fun s=>xs.length-s.1) (fun s=>s.1≤xs.length∧xs.length≤s.2∧s.2<562949953421312∧∀l∈xs.take s.1,l.length≤s.2) (0,xs.length) (Wk.fr (by simp[Ad])) ⟨by simp,by simp,by simp only;omega,by simp⟩ ?_)
 rintro⟨i,n⟩ ⟨hi,hn,hb,hl⟩
 simp only at hi hn hb hl
 by_cases c1:i<xs.length
 .by_cases c2:n<1048576
  .have c2' :(n:Int)<1048576:=by omega
   have hto:xs.take (i+1)=xs.take i++[xs[i]]:=by rw[List.take_add_one];simp[c1]
   have hli:=h2 _ (List.getElem_mem c1)
   refine Af (an c1 c2') ?_;intro K hK
   refine zk ?_;clear hK K
   refine zt ?_
   refine W.skip ?_
   refine zb ?_
   (repeat refine W.seq ?_);refine W.reg 0 rfl fun K hK=>?_;simp -implicitDefEqProofs (maxSteps:=999999) (disch:=omega) [c1]
   refine zk ?_;clear hK K
   refine zs ?_
   refine⟨(i+1,n+xs[i].length),by simp only;omega,⟨by simp only;omega,by simp only;omega,by simp only;omega,fun l hlm=>?_⟩,Wk.fr (by simp[Ad])⟩
   rw[hto] at hlm
   simp only[List.mem_append,List.mem_singleton] at hlm
   rcases hlm with hlm|rfl
   .have:=hl l hlm;simp only;omega
   .simp only;omega
  .have c2' :¬(n:Int)<1048576:=by omega
   refine Af (an c1 c2') ?_;intro K hK
   refine zk ?_;clear hK K
   refine zn ?_
   refine W.exit ?_
   refine zs ?_
   refine zr ?_
   exact⟨n,rfl,by omega,fun h=>by omega⟩
 .refine Af c1 ?_;intro K hK
  refine zk ?_;clear hK K
  refine zn ?_
  refine W.exit ?_
  have:i=xs.length:=by omega
  subst this
  rw[List.take_length] at hl
  refine zs ?_
  refine zr ?_
  exact⟨n,rfl,by omega,fun h=>⟨hn,hl⟩⟩
theorem Py (j:Cf) (h1:j.list.length<Bn) (h2:j.out.length<Bn):Aa pg 102 [.agg (BT false j)] [] (fun r _=>r= .int .i64 ((j.list.length:Int)+j.out.length)):=by
 simp only[Bn] at h1 h2
 refine Aa.start (fn:=Tryz.f102) [.tmp 2] tk rfl rfl rfl (by kernel_rfl) (Nat.le_of_ble_eq_true rfl) rfl (by kernel_rfl) ?_
 rw[Av]
 refine z1 ?_;intro K hK;refine zk ?_;clear hK K
 refine zs ?_
 exact zR
def Ej (n:Nat) (l:List Obj):Prop:=l.length≤n∧∀o∈l,o.data.data.size/4≤n
theorem Ej.mono {n m:Nat} (h:n≤m) {l:List Obj} (k:Ej n l):Ej m l:=⟨by have:=k.1;omega,fun o ho=>by have:=k.2 o ho;omega⟩
theorem Lq (xs:List Obj) (h1:xs.length<Bn) (h2:∀o∈xs,o.data.data.size<Bn):Aa pg 103 [.ro xs.length (Ac Aq xs)] [] (WN 562949953421312 fun n=>Ej n xs):=by
 simp only[Bn] at h1 h2
 refine Aa.start (fn:=Tryz.f103) [.tmp 2] tk rfl rfl rfl (by kernel_rfl) (Nat.le_of_ble_eq_true rfl) rfl (by kernel_rfl) ?_
 rw[Av]
 refine zs ?_
 refine zs ?_
 refine zs ?_
 (repeat refine W.seq ?_);refine W.block (W.loopS (fun s:Nat×Nat=> [(0,.ro xs.length (Ac Aq xs)),(3,.int .i64 (s.2:Nat)),(4,.int .i64 (s.1:Nat))]) (fun _=> []) (fun s=>xs.length-s.1) (fun s=>s.1≤xs.length∧xs.length≤s.2∧s.2<562949953421312∧∀o∈xs.take s.1,o.data.data.size/4≤s.2) (0,xs.length) (Wk.fr (by simp[Ad])) ⟨by simp,by simp,by simp only;omega,by simp⟩ ?_)
 rintro⟨i,n⟩ ⟨hi,hn,hb,hl⟩
 simp only at hi hn hb hl
 by_cases c1:i<xs.length
 .by_cases c2:n<1048576
  .have c2' :(n:Int)<1048576:=by omega
   have hto:xs.take (i+1)=xs.take i++[xs[i]]:=by rw[List.take_add_one];simp[c1]
   have hli:=h2 _ (List.getElem_mem c1)
   refine Af (an c1 c2') ?_;intro K hK
   refine zk ?_;clear hK K
   refine zt ?_
   refine W.skip ?_
   refine zb ?_
   (repeat refine W.seq ?_);refine W.reg 0 rfl fun K hK=>?_;simp -implicitDefEqProofs (maxSteps:=999999) (disch:=omega) [c1]
   refine zk ?_;clear hK K
   refine zs ?_
   refine⟨(i+1,n+xs[i].data.data.size/4),by simp only;omega,⟨by simp only;omega,by simp only;omega,by simp only;omega,fun o hom=>?_⟩,Wk.fr (by simp[Ad])⟩
   rw[hto] at hom
   simp only[List.mem_append,List.mem_singleton] at hom
   rcases hom with hom|rfl
   .have:=hl o hom;simp only;omega
   .simp only;omega
  .have c2' :¬(n:Int)<1048576:=by omega
   refine Af (an c1 c2') ?_;intro K hK
   refine zk ?_;clear hK K
   refine zn ?_
   refine W.exit ?_
   refine zs ?_
   refine zr ?_
   exact⟨n,rfl,by omega,fun h=>absurd h c2⟩
 .refine Af c1 ?_;intro K hK
  refine zk ?_;clear hK K
  refine zn ?_
  refine W.exit ?_
  have:i=xs.length:=by omega
  subst this
  rw[List.take_length] at hl
  refine zs ?_
  refine zr ?_
  exact⟨n,rfl,by omega,fun h=>⟨hn,hl⟩⟩
end Go.Abs
set_option maxRecDepth 100000
namespace Go.Abs
open Go.Proofs
def Ju (g:Gr):Prop:=g.out.length<Bn∧∀l∈g.out,l.length<Bn
def aY (x:CT):Prop:=Ju x.stage∧x.job.list.length<Bn∧x.job.out.length<Bn
def KR (s:Au):Prop:=s.vers.length<Bn∧s.sess.length<Bn∧(∀v∈s.vers,v.data.data.size<Bn)∧∀x∈s.sess,aY x
def F8 (n:Nat) (x:CT):Prop:=x.stage.out.length≤n∧(∀l∈x.stage.out,l.length≤n)∧x.job.list.length≤n∧x.job.out.length≤n
def EO (n:Nat) (s:Au):Prop:=s.vers.length≤n∧s.sess.length≤n∧(∀v∈s.vers,v.data.data.size/4≤n)∧∀x∈s.sess,F8 n x
theorem F8.mono {n m:Nat} (h:n≤m) {x:CT} (k:F8 n x):F8 m x:=⟨by have:=k.1;omega,fun l hl=>by have:=k.2.1 l hl;omega,by have:=k.2.2.1;omega,by have:=k.2.2.2;omega⟩
theorem EO.mono {n m:Nat} (h:n≤m) {s:Au} (k:EO n s):EO m s:=⟨by have:=k.1;omega,by have:=k.2.1;omega,fun v hv=>by have:=k.2.2.1 v hv;omega,fun x hx=>(k.2.2.2 x hx).mono h⟩
def F9 (n:Nat) (g:Gr):Prop:=g.out.length≤n∧∀l∈g.out,l.length≤n
theorem F9.mono {n m:Nat} (h:n≤m) {g:Gr} (k:F9 n g):F9 m g:=⟨by have:=k.1;omega,fun o ho=>by have:=k.2 o ho;omega⟩
theorem Mj (xs:List Gr) (h1:xs.length<Bn) (h2:∀g∈xs,Ju g):Aa pg 141 [.ro xs.length (Ac (A3 false) xs)] [] (WN 1125899906842624 fun n=>xs.length≤n∧∀g∈xs,F9 n g):=by
 simp only[Bn] at h1
 refine Aa.start (fn:=Tryz.f141) [.tmp 2] tk rfl rfl rfl (by kernel_rfl) (Nat.le_of_ble_eq_true rfl) rfl (by kernel_rfl) ?_
 rw[Av]
 refine zs ?_
 refine zs ?_
 refine zs ?_
 (repeat refine W.seq ?_);refine W.block (W.loopS (fun s:Nat×Nat=> [(0,.ro xs.length (Ac (A3 false) xs)),(3,.int .i64 (s.2:Nat)),(4,.int .i64 (s.1:Nat))]) (fun _=> []) (fun s=>xs.length-s.1) (fun s=>s.1≤xs.length∧xs.length≤s.2∧s.2<1125899906842624∧(s.2<1048576→∀g∈xs.take s.1,F9 s.2 g)) (0,xs.length) (Wk.fr (by simp[Ad])) ⟨by simp,by simp,by simp only;omega,by simp⟩ ?_)
 rintro⟨i,n⟩ ⟨hi,hn,hb,hl⟩
 simp only at hi hn hb hl
 by_cases c1:i<xs.length
 .by_cases c2:n<1048576
  .have c2' :(n:Int)<1048576:=by omega
   have hto:xs.take (i+1)=xs.take i++[xs[i]]:=by rw[List.take_add_one];simp[c1]
   have hli:=h2 _ (List.getElem_mem c1)
   refine Af (an c1 c2') ?_;intro K hK
   refine zk ?_;clear hK K
   refine zt ?_
   refine W.skip ?_
   refine zb ?_
   have cg:(Ac (A3 false) xs)[i*2+1]?=some (.ro xs[i].out.length (AE false xs[i].out)):=Bg (f:=A3 false) (s:=2) (fun _=>rfl) c1 (i:=1) (by omega)
   refine Af (an c1 cg) ?_;intro K hK
   refine Ab.bor (P9 xs[i].out hli.1 hli.2) (by simp) ?_
   rintro r ⟨m,rfl,hm,hsm⟩
   refine⟨by simp,?_⟩
   refine zx ?_
   refine zk ?_;clear hK K
   refine zs ?_
   refine⟨(i+1,n+m),by simp only;omega,⟨by simp only;omega,by simp only;omega,by simp only;omega,fun hlt o hom=>?_⟩,Wk.fr (by simp[Ad])⟩
   rw[hto] at hom
   simp only at hlt
   simp only[List.mem_append,List.mem_singleton] at hom
   rcases hom with hom|rfl
   .exact(hl c2 o hom).mono (by simp only;omega)
   .exact F9.mono (n:=m) (by simp only;omega) (hsm (by omega))
  .have c2' :¬(n:Int)<1048576:=by omega
   refine Af (an c1 c2') ?_;intro K hK
   refine zk ?_;clear hK K
   refine zn ?_
   refine W.exit ?_
   refine zs ?_
   refine zr ?_
   exact⟨n,rfl,by omega,fun h=>absurd h c2⟩
 .refine Af c1 ?_;intro K hK
  refine zk ?_;clear hK K
  refine zn ?_
  refine W.exit ?_
  have:i=xs.length:=by omega
  subst this
  rw[List.take_length] at hl
  refine zs ?_
  refine zr ?_
  exact⟨n,rfl,by omega,fun h=>⟨hn,hl h⟩⟩
theorem NM (s:Au) (h:KR s):Aa pg 64 [.agg (An false s)] [] (fun r _=>∃n:Nat,r= .int .i64 n∧n<4503599627370496∧(n<1048576→EO n s)):=by
 obtain⟨h1,h2,h3,h4⟩:=h
 simp only[Bn] at h1 h2 h3
 refine Aa.start (fn:=Tryz.f64) [.tmp 2] tk rfl rfl rfl (by kernel_rfl) (Nat.le_of_ble_eq_true rfl) rfl (by kernel_rfl) ?_
 rw[Av]
 refine z1 ?_;intro K hK;refine zk ?_;clear hK K
 refine zs ?_
 refine zs ?_
 (repeat refine W.seq ?_);refine W.block (W.loopS (fun z:Nat×Nat=> [(1,.ptr 0 0 0),(3,.int .i64 (z.2:Nat)),(4,.int .i64 (z.1:Nat))]) (fun _=> [.live 0 (An false s)]) (fun z=>s.vers.length-z.1) (fun z=>z.1≤s.vers.length∧s.vers.length+s.sess.length≤z.2∧z.2<1125899906842624∧∀v∈s.vers.take z.1,v.data.data.size/4≤z.2) (0,s.vers.length+s.sess.length) (Wk.fr (by simp[Ad])) ⟨by simp,by simp,by simp only;omega,by simp⟩ ?_)
 rintro⟨i,n⟩ ⟨hi,hn,hb,hl⟩
 simp only at hi hn hb hl
 by_cases c:i<s.vers.length∧n<1048576
 .obtain⟨c1,c2⟩:=c
  have c2' :(n:Int)<1048576:=by omega
  have hto:s.vers.take (i+1)=s.vers.take i++[s.vers[i]]:=by rw[List.take_add_one];simp[c1]
  have hli:=h3 _ (List.getElem_mem c1)
  refine Af (an c1 c2') ?_;intro K hK
  refine zk ?_;clear hK K
  refine zt ?_
  refine W.skip ?_
  refine zb ?_
  (repeat refine W.seq ?_);refine W.reg 0 rfl fun K hK=>?_;simp -implicitDefEqProofs (maxSteps:=999999) (disch:=omega) [c1]
  refine zk ?_;clear hK K
  refine zs ?_
  refine⟨(i+1,n+s.vers[i].data.data.size/4),by simp only;omega,⟨by simp only;omega,by simp only;omega,by simp only;omega,fun v hv=>?_⟩,Wk.fr (by simp[Ad])⟩
  rw[hto] at hv
  simp only[List.mem_append,List.mem_singleton] at hv
  rcases hv with hv|rfl
  .have:=hl v hv;simp only;omega
  .simp only;omega
 .have hend:n<1048576→∀v∈s.vers,v.data.data.size/4≤n:=fun hh v hv=>hl v (by rw[List.take_of_length_le (by omega)];exact hv)
  (repeat refine W.seq ?_);refine W.midS (fun _:Unit=> [(1,.ptr 0 0 0),(3,.int .i64 (n:Nat)),(21,.bool false)]) (fun _=> [.live 0 (An false s)]) (fun _=>True) ?_ ?_
  .by_cases c1:i<s.vers.length
   .have c2' :¬(n:Int)<1048576:=by omega
    refine Af (an c1 c2') ?_;intro K hK
    refine zk ?_;clear hK K
    exact⟨(),trivial,Wk.fr (by simp[Ad])⟩
   .refine Af c1 ?_;intro K hK
    refine zk ?_;clear hK K
    exact⟨(),trivial,Wk.fr (by simp[Ad])⟩
  rintro _ _
  refine zn ?_
  refine W.exit ?_
  refine zs ?_
  clear hl
  (repeat refine W.seq ?_);refine W.block (W.loopS (fun z:Nat×Nat=> [(1,.ptr 0 0 0),(3,.int .i64 (z.2:Nat)),(5,.int .i64 (z.1:Nat))]) (fun _=> [.live 0 (An false s)]) (fun z=>s.sess.length-z.1) (fun z=>z.1≤s.sess.length∧n≤z.2∧z.2<4503599627370496∧∀x∈s.sess.take z.1,z.2<1048576→F8 z.2 x) (0,n) (Wk.fr (by simp[Ad])) ⟨by simp,by simp,by simp only;omega,by simp⟩ ?_)
  rintro⟨k,m⟩ ⟨hk,hm,hmb,hsm⟩
  simp only at hk hm hmb hsm
  by_cases d:k<s.sess.length∧m<1048576
  .obtain⟨d1,d2⟩:=d
   have d2' :(m:Int)<1048576:=by omega
   have hto:s.sess.take (k+1)=s.sess.take k++[s.sess[k]]:=by rw[List.take_add_one];simp[d1]
   obtain⟨b1,b2,b3⟩:=h4 _ (List.getElem_mem d1)
   have spJ:=Py s.sess[k].job b2 b3
   have spL:=P9 s.sess[k].stage.out b1.1 b1.2
   simp only[Bn] at b2 b3
   refine Af (an d1 d2') ?_;intro K hK
   refine zk ?_;clear hK K
   refine zt ?_
   refine W.skip ?_
   refine zb ?_
   (repeat refine W.seq ?_);refine W.regd 0 rfl true Ck (by kernel_rfl) fun K hK=>?_;simp -implicitDefEqProofs (maxSteps:=999999) (disch:=omega) [d1]
   refine⟨_,_,spL,.inl ⟨rfl,⟨[],by simp[BK]⟩,?_⟩⟩
   rintro r ⟨q,rfl,hq,hqs⟩
   refine⟨by simp,?_⟩
   simp only[EV];simp -implicitDefEqProofs (maxSteps:=999999) (disch:=omega) [d1]
   refine Ah.eq spJ (by simp) (by simp) ?_
   refine zx ?_
   refine zk ?_;clear hK K
   refine zs ?_
   refine⟨(k+1,m+q+(s.sess[k].job.list.length+s.sess[k].job.out.length)),by simp only;omega,⟨by simp only;omega,by simp only;omega,by simp only;omega,fun x hx=>?_⟩,Wk.fr (by simp[Ad];try omega)⟩
   rw[hto] at hx
   simp only[List.mem_append,List.mem_singleton] at hx
   rcases hx with hx|rfl
   .intro hlt
    exact(hsm x hx (by simp only at hlt;omega)).mono (by simp only;omega)
   .intro hlt
    simp only at hlt
    obtain⟨q1,q2⟩:=hqs (by omega)
    exact⟨by simp only;omega,fun l hl=>by have:=q2 l hl;simp only;omega,by simp only;omega,by simp only;omega⟩
  .have hend2:m<1048576→∀x∈s.sess,F8 m x:=fun hh x hx=>hsm x (by rw[List.take_of_length_le (by omega)];exact hx) hh
   (repeat refine W.seq ?_);refine W.midS (fun _:Unit=> [(1,.ptr 0 0 0),(3,.int .i64 (m:Nat)),(43,.bool false)]) (fun _=> [.live 0 (An false s)]) (fun _=>True) ?_ ?_
   .by_cases c1:k<s.sess.length
    .have c2' :¬(m:Int)<1048576:=by omega
     refine Af (an c1 c2') ?_;intro K hK
     refine zk ?_;clear hK K
     exact⟨(),trivial,Wk.fr (by simp[Ad])⟩
    .refine Af c1 ?_;intro K hK
     refine zk ?_;clear hK K
     exact⟨(),trivial,Wk.fr (by simp[Ad])⟩
   rintro _ _
   refine zn ?_
   refine W.exit ?_
   refine zs ?_
   refine zr ?_
   exact⟨m,rfl,by omega,fun hh=>⟨by omega,by omega,fun v hv=>by have:=hend (by omega) v hv;omega,hend2 hh⟩⟩
end Go.Abs
set_option maxRecDepth 100000
namespace Go.Abs
open Go.Proofs
def Dn (L:List (List Obj)):List AV:=L.map fun l=>AV.ro l.length (Ac Aq l)
section
variable (xs:List (List Obj)) (k:Nat)
@[simp] theorem Z3 (i:Nat):(Dn xs)[i]?=(xs[i]?).map fun l=>AV.ro l.length (Ac Aq l):=by simp[Dn]
@[simp] theorem Z4:(Dn xs).length=xs.length:=by simp[Dn]
@[simp] theorem Zg:(Dn xs).drop k=Dn (xs.drop k):=by simp[Dn,List.map_drop]
end
def Iz (G:List Gr) (na:Nat):List AV:=[.ro G.length (Ac (A3 false) G),.ro na []]
def IA (L:List (List Obj)) (G:List Gr) (na nn:Nat):List AV:= .ro L.length (Dn L)::(Iz G na++[.ro nn []])
def Mk (S:List Au) (L:List (List Obj)) (G:List Gr) (na nn:Nat):List AV:= .ro S.length (Ac (An false) S)::IA L G na nn
def Ok (G:List Gr):Prop:=G.length≤1200∧∀g∈G,F9 1200 g
def Sg (L:List (List Obj)):Prop:=L.length≤700∧∀l∈L,Ej 700 l
def Vl (P:Prop):AV→List Ag→Prop:=fun r _=>∃b:Bool,r= .bool b∧(b=false→P)
theorem TX (G:List Gr) (na:Nat) (h1:G.length<Bn) (h2:∀g∈G,Ju g) (h3:na<Bn):Aa pg 104 [.agg (Iz G na)] [] (Vl (Ok G)):=by
 have sp:=Mj G h1 h2
 simp only[Bn] at h1 h3
 simp only[Iz]
 refine Aa.start (fn:=Tryz.f104) [.tmp 2] tk rfl rfl rfl (by kernel_rfl) (Nat.le_of_ble_eq_true rfl) rfl (by kernel_rfl) ?_
 rw[Av]
 refine z1 ?_;intro K hK;refine zk ?_;clear hK K
 refine B9 ?_;intro K hK
 refine⟨_,_,sp,.inl ⟨rfl,⟨[],by simp[BK]⟩,?_⟩⟩
 rintro r ⟨q,rfl,hq,hqs⟩
 refine⟨by simp,?_⟩
 refine zx ?_
 refine zk ?_;clear hK K
 refine zr ?_
 refine⟨_,rfl,fun h=>?_⟩
 have h:¬_:=of_decide_eq_false h
 have hs:=hqs (by omega)
 exact⟨by omega,fun g hg=>(hs.2 g hg).mono (by omega)⟩
theorem TY (L:List (List Obj)) (G:List Gr) (na nn:Nat) (h1:G.length<Bn) (h2:∀g∈G,Ju g) (h3:na<Bn) (h4:nn<Bn) (h5:L.length<Bn) (h6:∀l∈L,l.length<Bn∧∀o∈l,o.data.data.size<Bn):Aa pg 65 [.agg (IA L G na nn)] [] (Vl (Sg L∧Ok G)):=by
 have sp6:=TX G na h1 h2 h3
 simp only[Bn] at h3 h4 h5
 simp only[Iz] at sp6
 simp only[IA,Iz,List.cons_append,List.nil_append]
 refine Aa.start (fn:=Tryz.f65) [.tmp 2] tk rfl rfl rfl (by kernel_rfl) (Nat.le_of_ble_eq_true rfl) rfl (by kernel_rfl) ?_
 rw[Av]
 refine z1 ?_;intro K hK;refine zk ?_;clear hK K
 refine zs ?_
 refine zs ?_
 (repeat refine W.seq ?_);refine W.block (W.loopS (fun s:Nat×Nat=> [(1,.ptr 0 0 0),(3,.int .i64 (s.2:Nat)),(4,.int .i64 (s.1:Nat))]) (fun _=> [.live 0 [.ro L.length (Dn L),.ro G.length (Ac (A3 false) G),.ro na [],.ro nn []]]) (fun s=>L.length-s.1) (fun s=>s.1≤L.length∧L.length≤s.2∧s.2<1125899906842624∧(s.2<1048576→∀l∈L.take s.1,Ej s.2 l)) (0,nn+L.length) (Wk.fr (by simp[Ad])) ⟨by simp,by simp,by simp only;omega,by simp⟩ ?_)
 rintro⟨i,n⟩ ⟨hi,hn,hb,hl⟩
 simp only at hi hn hb hl
 by_cases c:i<L.length∧n<1048576
 .obtain⟨c1,c2⟩:=c
  have c2' :(n:Int)<1048576:=by omega
  have hto:L.take (i+1)=L.take i++[L[i]]:=by rw[List.take_add_one];simp[c1]
  have hli:=h6 _ (List.getElem_mem c1)
  refine Af (an c1 c2') ?_;intro K hK
  refine zk ?_;clear hK K
  refine zt ?_
  refine W.skip ?_
  refine zb ?_
  (repeat refine W.seq ?_);refine W.reg 0 rfl fun K hK=>?_;simp -implicitDefEqProofs (maxSteps:=999999) (disch:=omega) [c1]
  refine Ab.bor (Lq L[i] hli.1 hli.2) (by simp) ?_
  rintro r ⟨m,rfl,hm,hsm⟩
  refine⟨by simp,?_⟩
  refine zx ?_
  refine zk ?_;clear hK K
  refine zs ?_
  refine⟨(i+1,n+m),by simp only;omega,⟨by simp only;omega,by simp only;omega,by simp only;omega,fun hlt o hom=>?_⟩,Wk.fr (by simp[Ad])⟩
  rw[hto] at hom
  simp only at hlt
  simp only[List.mem_append,List.mem_singleton] at hom
  rcases hom with hom|rfl
  .exact(hl c2 o hom).mono (by simp only;omega)
  .exact Ej.mono (n:=m) (by simp only;omega) (hsm (by omega))
 .have hend:n<1048576→∀l∈L,Ej n l:=fun hh l hll=>hl hh l (by rw[List.take_of_length_le (by omega)];exact hll)
  (repeat refine W.seq ?_);refine W.midS (fun _:Unit=> [(1,.ptr 0 0 0),(3,.int .i64 (n:Nat)),(20,.bool false)]) (fun _=> [.live 0 [.ro L.length (Dn L),.ro G.length (Ac (A3 false) G),.ro na [],.ro nn []]]) (fun _=>True) ?_ ?_
  .by_cases c1:i<L.length
   .have c2' :¬(n:Int)<1048576:=by omega
    refine Af (an c1 c2') ?_;intro K hK
    refine zk ?_;clear hK K
    exact⟨(),trivial,Wk.fr (by simp[Ad])⟩
   .refine Af c1 ?_;intro K hK
    refine zk ?_;clear hK K
    exact⟨(),trivial,Wk.fr (by simp[Ad])⟩
  rintro _ _
  refine zn ?_
  refine W.exit ?_
  by_cases d:(700:Int)<n
  .refine Af d ?_;intro K hK
   refine zk ?_;clear hK K
   refine zr ?_
   exact⟨true,rfl,fun h=>by simp at h⟩
  .refine Af d ?_;intro K hK
   refine Ab.bor sp6 (by simp) ?_
   rintro r ⟨b,rfl,hg⟩
   refine⟨by simp,?_⟩
   refine zx ?_
   refine zk ?_;clear hK K
   refine zr ?_
   exact⟨b,rfl,fun h=>⟨⟨by omega,fun l hll=>(hend (by omega) l hll).mono (by omega)⟩,hg h⟩⟩
theorem VY (S:List Au) (L:List (List Obj)) (G:List Gr) (na nn:Nat) (h0:S.length<Bn) (hS:∀s∈S,KR s) (h1:G.length<Bn) (h2:∀g∈G,Ju g) (h3:na<Bn) (h4:nn<Bn) (h5:L.length<Bn) (h6:∀l∈L,l.length<Bn∧∀o∈l,o.data.data.size<Bn):Aa pg 12 [.agg (Mk S L G na nn)] [] (fun r _=>∃b:Bool,r= .bool b∧(b=false→(S.length≤1500∧∀s∈S,EO 1500 s)∧Sg L∧Ok G)):=by
 have sp9:=TY L G na nn h1 h2 h3 h4 h5 h6
 simp only[Bn] at h0
 simp only[IA,Iz,List.cons_append,List.nil_append] at sp9
 simp only[Mk,IA,Iz,List.cons_append,List.nil_append]
 refine Aa.start (fn:=Tryz.f12) [.tmp 2] tk rfl rfl rfl (by kernel_rfl) (Nat.le_of_ble_eq_true rfl) rfl (by kernel_rfl) ?_
 rw[Av]
 refine z1 ?_;intro K hK;refine zk ?_;clear hK K
 refine zs ?_
 refine zs ?_
 (repeat refine W.seq ?_);refine W.block (W.loopS (fun z:Nat×Nat=> [(1,.ptr 0 0 0),(3,.int .i64 (z.2:Nat)),(4,.int .i64 (z.1:Nat))]) (fun _=> [.live 0 [.ro S.length (Ac (An false) S),.ro L.length (Dn L),.ro G.length (Ac (A3 false) G),.ro na [],.ro nn []]]) (fun z=>S.length-z.1) (fun z=>z.1≤S.length∧S.length≤z.2∧z.2<9007199254740992∧(z.2<1048576→∀s∈S.take z.1,EO z.2 s)) (0,S.length) (Wk.fr (by simp[Ad])) ⟨by simp,by simp,by simp only;omega,by simp⟩ ?_)
 rintro⟨i,n⟩ ⟨hi,hn,hb,hs⟩
 simp only at hi hn hb hs
 by_cases c:i<S.length∧n<1048576
 .obtain⟨c1,c2⟩:=c
  have c2' :(n:Int)<1048576:=by omega
  have hto:S.take (i+1)=S.take i++[S[i]]:=by rw[List.take_add_one];simp[c1]
  have spW:=NM S[i] (hS _ (List.getElem_mem c1))
  have k0:(Ac (An false) S)[i*4]?=some (.int .i64 S[i].keep):=Bg (f:=An false) (s:=4) (fun _=>rfl) c1 (i:=0) (by omega)
  have k1:(Ac (An false) S)[i*4+1]?=some (.int .i64 S[i].blocks):=Bg (f:=An false) (s:=4) (fun _=>rfl) c1 (i:=1) (by omega)
  have k2:(Ac (An false) S)[i*4+1+1]?=some (.ro S[i].vers.length (Ac Ay S[i].vers)):=Bg (f:=An false) (s:=4) (fun _=>rfl) c1 (i:=2) (by omega)
  have k3:(Ac (An false) S)[i*4+1+1+1]?=some (.ro S[i].sess.length (Ac (AB false) S[i].sess)):=Bg (f:=An false) (s:=4) (fun _=>rfl) c1 (i:=3) (by omega)
  refine Af (an c1 c2') ?_;intro K hK
  refine zk ?_;clear hK K
  refine zt ?_
  refine W.skip ?_
  refine zb ?_
  refine Af (an c1 (an k0 (an k1 (an k2 k3)))) ?_;intro K hK
  refine Ab.bor spW (by simp) ?_
  rintro r ⟨m,rfl,hm,hsm⟩
  refine⟨by simp,?_⟩
  refine zx ?_
  refine zk ?_;clear hK K
  refine zs ?_
  refine⟨(i+1,n+m),by simp only;omega,⟨by simp only;omega,by simp only;omega,by simp only;omega,fun hlt s hsm' =>?_⟩,Wk.fr (by simp[Ad])⟩
  rw[hto] at hsm'
  simp only at hlt
  simp only[List.mem_append,List.mem_singleton] at hsm'
  rcases hsm' with hs' |rfl
  .exact(hs c2 s hs').mono (by simp only;omega)
  .exact(hsm (by omega)).mono (by simp only;omega)
 .have hend:n<1048576→∀s∈S,EO n s:=fun hh s hss=>hs hh s (by rw[List.take_of_length_le (by omega)];exact hss)
  (repeat refine W.seq ?_);refine W.midS (fun _:Unit=> [(1,.ptr 0 0 0),(3,.int .i64 (n:Nat)),(16,.bool false)]) (fun _=> [.live 0 [.ro S.length (Ac (An false) S),.ro L.length (Dn L),.ro G.length (Ac (A3 false) G),.ro na [],.ro nn []]]) (fun _=>True) ?_ ?_
  .by_cases c1:i<S.length
   .have c2' :¬(n:Int)<1048576:=by omega
    refine Af (an c1 c2') ?_;intro K hK
    refine zk ?_;clear hK K
    exact⟨(),trivial,Wk.fr (by simp[Ad])⟩
   .refine Af c1 ?_;intro K hK
    refine zk ?_;clear hK K
    exact⟨(),trivial,Wk.fr (by simp[Ad])⟩
  rintro _ _
  refine zn ?_
  refine W.exit ?_
  by_cases d:(1500:Int)<n
  . (repeat refine W.seq ?_);refine W.reg 0 rfl fun K hK=>?_;simp -implicitDefEqProofs (maxSteps:=999999) (disch:=omega) [d]
    refine zk ?_;clear hK K
    refine W.ret ?_;simp only[Cq,Df,CL];refine CD (d:=0) ?_;simp -implicitDefEqProofs (maxSteps:=999999) (disch:=omega)
    (try exact⟨true,rfl,fun h=>by simp at h⟩)
  .refine Af d ?_;intro K hK
   refine Ab.bor sp9 (by simp) ?_
   rintro r ⟨b,rfl,hlg⟩
   refine⟨by simp,?_⟩
   refine zx ?_
   refine zk ?_;clear hK K
   refine zr ?_
   exact fun h=>⟨⟨by omega,fun s hss=>(hend (by omega) s hss).mono (by omega)⟩,hlg h⟩
end Go.Abs
set_option maxRecDepth 100000
namespace Go.Abs
open Go.Proofs
theorem Yb:DG []=F0:=by funext t;simp[DG,F0]
end Go.Abs
namespace Go.Abs
def fu (s:Au) (keep:Int) (k:Nat) (tag gone:Bool):Au:={s with keep:=keep,vers:=match s.vers[k]? with|some v=>s.vers.set k {v with tag:=tag,gone:=gone} |none=>s.vers}
theorem Lr (l m:List Bj) (h:l.map (fun v=>v.id)=m.map fun v=>v.id):A9 l=A9 m:=by
 have:=congrArg List.getLast? h
 rw[List.getLast?_map,List.getLast?_map] at this
 unfold A9
 cases hl:l.getLast?<;>cases hm:m.getLast?<;>simp_all
theorem H5 (l:List Bj) (i:Int):(∃v∈l,v.id=i)↔i∈l.map fun v=>v.id:=by simp
end Go.Abs
set_option maxRecDepth 100000
namespace Go.Abs
open Go.Proofs
theorem TZ {s:Au} (h:EO 1500 s):A5 s∧BM s:=by
 obtain⟨h1,h2,h3,h4⟩:=h
 refine⟨⟨by omega,by omega,fun v hv=>by have:=h3 v hv;omega⟩,fun x hx=>?_⟩
 obtain⟨k1,k2,k3,k4⟩:=h4 x hx
 exact⟨⟨by omega,fun l hl=>by have:=k2 l hl;omega⟩,by omega,by omega⟩
end Go.Abs
namespace Go.Abs
open Go.Proofs
theorem c3:pg.cellsOf 3=1:=by kernel_rfl
theorem c4:pg.cellsOf 4=1:=by kernel_rfl
theorem c9:pg.cellsOf 9=1:=by kernel_rfl
theorem fv:pg.cellsOf 22=1:=by kernel_rfl
theorem fw:pg.cellsOf 23=1:=by kernel_rfl
theorem fx:pg.cellsOf 24=1:=by kernel_rfl
theorem fz:pg.cellsOf 25=1:=by kernel_rfl
theorem fA:pg.cellsOf 27=2:=by kernel_rfl
theorem Yc:pg.cellsOf 28=1:=by kernel_rfl
theorem fB:pg.cellsOf 30=4:=by kernel_rfl
theorem fC:pg.cellsOf 35=1:=by kernel_rfl
theorem fD:pg.cellsOf 36=1:=by kernel_rfl
theorem Z5:pg.cellsOf 40=2:=by kernel_rfl
theorem fE:pg.cellsOf 49=1:=by kernel_rfl
theorem fF:pg.cellsOf 51=2:=by kernel_rfl
theorem fG:pg.cellsOf 53=6:=by kernel_rfl
def Vm (n:Int):Prop:=-9223372036854775808≤n∧n≤9223372036854775807
theorem Yd {n:Int} (h:(Lit.int .i64 n).wf=true):Vm n:=by
 have h:=(by simpa[Lit.wf] using h:IntKind.i64.min≤n∧n≤9223372036854775807)
 exact h
def Ga (o:Obj):Prop:=o.data.data.size<Bn∧Vm o.id
section
variable {H:Type} {enc:TypeId×Value→H} {w:World}
theorem G6:A6 enc pg w 3 (fun n:Int=> [.int .i64 n]) fun _=>True:=A6.int Tryz.underlying3
theorem Sh:A6 enc pg w 4 (fun b:Bool=> [.bool b]) fun _=>True:=A6.bool Tryz.underlying4
theorem fH:A6 enc pg w 9 (fun s:ByteArray=> [.str s]) fun s=>s.size≤reachBytes:=A6.str Tryz.underlying9
theorem Ye:A6 enc pg w 40 Cs fun b=>b.data.size≤reachBytes:=
 A6.map (A6.struct Tryz.underlying40 (.cons fH c9 rfl (.cons G6 c3 rfl .nil)) (by kernel_rfl)) (fun x=>⟨x.1,x.2.1⟩) (fun _=>rfl) fun _ h=>h.1
theorem aZ:A6 enc pg w 42 Ay fun v=>v.data.data.size≤reachBytes:=
 A6.map (A6.struct Tryz.underlying42 (.cons G6 c3 rfl (.cons G6 c3 rfl (.cons G6 c3 rfl (.cons Ye Z5 rfl (.cons G6 c3 rfl (.cons Sh c4 rfl (.cons Sh c4 rfl .nil))))))) (by kernel_rfl)) (fun x=>⟨x.1,x.2.1,x.2.2.1,x.2.2.2.1,x.2.2.2.2.1,x.2.2.2.2.2.1,x.2.2.2.2.2.2.1⟩) (fun _=>rfl) fun _ h=>h.2.2.2.1
theorem Si (xs:List Int):Ac (fun n:Int=> [AV.int .i64 n]) xs=Ae xs:=by
 induction xs with
 |nil=>rfl
 |cons x xs ih=>simp only[Az,ih];rfl
theorem T0:A6 enc pg w 28 (fun l:List Int=> [FS false l]) fun l=>l.length≤reachBytes:=
 A6.map (A6.slice G6 Tryz.underlying28 (Nat.le_of_ble_eq_true (by kernel_rfl))) id (fun l=>by rw[Si];rfl) fun _ h=>h.1
theorem QN (xs:List (List Int)):Ac (fun l:List Int=> [FS false l]) xs=AE false xs:=by
 induction xs with
 |nil=>rfl
 |cons x xs ih=>simp only[Az,ih];rfl
theorem a8:A6 enc pg w 49 (fun l:List (List Int)=> [Ee false l]) fun l=>l.length≤reachBytes∧∀x∈l,x.length≤reachBytes:=
 A6.map (A6.slice T0 Tryz.underlying49 (Nat.le_of_ble_eq_true (by kernel_rfl))) id (fun l=>by rw[QN];rfl) fun _ h=>h
theorem Yf:A6 enc pg w 51 (A3 false) fun g=>g.out.length≤reachBytes∧∀x∈g.out,x.length≤reachBytes:=
 A6.map (A6.struct Tryz.underlying51 (.cons G6 c3 rfl (.cons a8 fE rfl .nil)) (by kernel_rfl)) (fun x=>⟨x.1,x.2.1⟩) (fun _=>rfl) fun _ h=>h.2.1
theorem ba:A6 enc pg w 53 (BT false) fun j=>j.list.length≤reachBytes∧j.out.length≤reachBytes:=
 A6.map (A6.struct Tryz.underlying53 (.cons G6 c3 rfl (.cons G6 c3 rfl (.cons G6 c3 rfl (.cons Sh c4 rfl (.cons T0 Yc rfl (.cons T0 Yc rfl .nil)))))) (by kernel_rfl)) (fun x=>⟨x.1,x.2.1,x.2.2.1,x.2.2.2.1,x.2.2.2.2.1,x.2.2.2.2.2.1⟩) (fun _=>rfl) fun _ h=>⟨h.2.2.2.2.1,h.2.2.2.2.2.1⟩
theorem bb:A6 enc pg w 55 (AB false) fun s=>(s.stage.out.length≤reachBytes∧∀x∈s.stage.out,x.length≤reachBytes)∧s.job.list.length≤reachBytes∧s.job.out.length≤reachBytes:=
 A6.map (A6.struct Tryz.underlying55 (.cons Sh c4 rfl (.cons G6 c3 rfl (.cons Sh c4 rfl (.cons G6 c3 rfl (.cons Yf fF rfl (.cons ba fG rfl .nil)))))) (by kernel_rfl)) (fun x=>⟨x.1,x.2.1,x.2.2.1,x.2.2.2.1,x.2.2.2.2.1,x.2.2.2.2.2.1⟩) (fun _=>rfl) fun _ h=>⟨h.2.2.2.2.1,h.2.2.2.2.2.1⟩
theorem bc:A6 enc pg w 35 (fun l:List Bj=> [GW false l]) fun l=>l.length≤reachBytes∧∀v∈l,v.data.data.size≤reachBytes:=
 A6.map (A6.slice aZ Tryz.underlying35 (Nat.le_of_ble_eq_true (by kernel_rfl))) id (fun _=>rfl) fun _ h=>h
theorem be:A6 enc pg w 36 (fun l:List CT=> [Ry false l]) fun l=>l.length≤reachBytes∧∀s∈l,(s.stage.out.length≤reachBytes∧∀x∈s.stage.out,x.length≤reachBytes)∧s.job.list.length≤reachBytes∧s.job.out.length≤reachBytes:=
 A6.map (A6.slice bb Tryz.underlying36 (Nat.le_of_ble_eq_true (by kernel_rfl))) id (fun _=>rfl) fun _ h=>h
theorem Cc {n:Nat} (h:n≤reachBytes):n<Bn:=by
 have:=reachBytes_lt;simp only[Bn];omega
theorem bf:A6 enc pg w 38 (An false) KR:=
 A6.map (A6.struct Tryz.underlying38 (.cons G6 c3 rfl (.cons G6 c3 rfl (.cons bc fC rfl (.cons be fD rfl .nil)))) (by kernel_rfl)) (fun x=>⟨x.1,x.2.1,x.2.2.1,x.2.2.2.1⟩) (fun _=>rfl) fun _ h=>
  ⟨Cc h.2.2.1.1,Cc h.2.2.2.1.1,fun v hv=>Cc (h.2.2.1.2 v hv),fun x hx=>⟨⟨Cc (h.2.2.2.1.2 x hx).1.1,fun l hl=>Cc ((h.2.2.2.1.2 x hx).1.2 l hl)⟩,Cc (h.2.2.2.1.2 x hx).2.1,Cc (h.2.2.2.1.2 x hx).2.2⟩⟩
theorem bg:A6 enc pg w 22 (fun l:List Au=> [.ro l.length (Ac (An false) l)]) fun l=>l.length<Bn∧∀s∈l,KR s:=
 A6.map (A6.slice bf Tryz.underlying22 (Nat.le_of_ble_eq_true (by kernel_rfl))) id (fun _=>rfl) fun _ h=>⟨Cc h.1,h.2⟩
theorem bh:A6 enc pg w 3 (fun n:Int=> [.int .i64 n]) fun n=>Vm n:=A6.map (A6.intR Tryz.underlying3) id (fun _=>rfl) fun n h=>Yd h
theorem bj:A6 enc pg w 60 Aq fun o=>Ga o:=
 A6.map (A6.struct Tryz.underlying60 (.cons bh c3 rfl (.cons G6 c3 rfl (.cons Ye Z5 rfl .nil))) (by kernel_rfl)) (fun x=>⟨x.1,x.2.1,x.2.2.1⟩) (fun _=>rfl) fun _ h=>⟨Cc h.2.2.1,h.1⟩
theorem bk:A6 enc pg w 65 (fun l:List Obj=> [AV.ro l.length (Ac Aq l)]) fun l=>l.length<Bn∧∀o∈l,Ga o:=
 A6.map (A6.slice bj Tryz.underlying65 (Nat.le_of_ble_eq_true (by kernel_rfl))) id (fun _=>rfl) fun _ h=>⟨Cc h.1,h.2⟩
theorem QO (xs:List (List Obj)):Ac (fun l:List Obj=> [AV.ro l.length (Ac Aq l)]) xs=Dn xs:=by
 induction xs with
 |nil=>rfl
 |cons x xs ih=>simp only[Az,ih];rfl
theorem bm:A6 enc pg w 23 (fun l:List (List Obj)=> [AV.ro l.length (Dn l)]) fun l=>l.length<Bn∧∀x∈l,x.length<Bn∧∀o∈x,Ga o:=
 A6.map (A6.slice bk Tryz.underlying23 (Nat.le_of_ble_eq_true (by kernel_rfl))) id (fun l=>by rw[QO];rfl) fun _ h=>⟨Cc h.1,h.2⟩
theorem bn:A6 enc pg w 24 (fun l:List Gr=> [AV.ro l.length (Ac (A3 false) l)]) fun l=>l.length<Bn∧∀g∈l,Ju g:=
 A6.map (A6.slice Yf Tryz.underlying24 (Nat.le_of_ble_eq_true (by kernel_rfl))) id (fun _=>rfl) fun _ h=>⟨Cc h.1,fun g hg=>⟨Cc (h.2 g hg).1,fun l hl=>Cc ((h.2 g hg).2 l hl)⟩⟩
theorem bo:A6 enc pg w 25 (fun n:Nat=> [AV.ro n []]) fun n=>n<Bn:=
 A6.map (A6.len Tryz.underlying25 (Nat.le_of_ble_eq_true (by kernel_rfl))) id (fun _=>rfl) fun _ h=>Cc h
theorem Zh:A6 enc pg w 28 (fun n:Nat=> [AV.ro n []]) fun n=>n<Bn:=
 A6.map (A6.len Tryz.underlying28 (Nat.le_of_ble_eq_true (by kernel_rfl))) id (fun _=>rfl) fun _ h=>Cc h
theorem bp:A6 enc pg w 27 (fun x:List Gr×Nat=>Iz x.1 x.2) fun x=>(x.1.length<Bn∧∀g∈x.1,Ju g)∧x.2<Bn:=
 A6.map (A6.struct Tryz.underlying27 (.cons bn fx rfl (.cons bo fz rfl .nil)) (by kernel_rfl)) (fun x=>⟨x.1,x.2.1⟩) (fun _=>rfl) fun _ h=>⟨h.1,h.2.1⟩
theorem bq:A6 enc pg w 30 (fun x:List (List Obj)×(List Gr×Nat)×Nat=>IA x.1 x.2.1.1 x.2.1.2 x.2.2) fun x=>(x.1.length<Bn∧∀l∈x.1,l.length<Bn∧∀o∈l,Ga o)∧((x.2.1.1.length<Bn∧∀g∈x.2.1.1,Ju g)∧x.2.1.2<Bn)∧x.2.2<Bn:=
 A6.map (A6.struct Tryz.underlying30 (.cons bm fw rfl (.cons bp fA rfl (.cons Zh Yc rfl .nil))) (by kernel_rfl)) (fun x=>⟨x.1,x.2.1,x.2.2.1⟩) (fun _=>rfl) fun _ h=>⟨h.1,h.2.1,h.2.2.1⟩
theorem br:A6 enc pg w 32 (fun x:List Au×List (List Obj)×(List Gr×Nat)×Nat=>Mk x.1 x.2.1 x.2.2.1.1 x.2.2.1.2 x.2.2.2) fun x=>(x.1.length<Bn∧∀s∈x.1,KR s)∧(x.2.1.length<Bn∧∀l∈x.2.1,l.length<Bn∧∀o∈l,Ga o)∧((x.2.2.1.1.length<Bn∧∀g∈x.2.2.1.1,Ju g)∧x.2.2.1.2<Bn)∧x.2.2.2<Bn:=
 A6.map (A6.struct Tryz.underlying32 (.cons bg fv rfl (.cons bq fB rfl .nil)) (by kernel_rfl)) (fun x=>⟨x.1,x.2.1⟩) (fun _=>rfl) fun _ h=>⟨h.1,h.2.1⟩
end
end Go.Abs
set_option maxRecDepth 100000
namespace Go.Abs
open Go.Proofs Go.ChangeShapes Go.WideShapes Go.ChangeAt Go.RowKit
theorem own0:ownKnob pg.godebug=none:=by kernel_rfl
theorem Zi:laidOutB pg=true:=by kernel_rfl
theorem Yg:mapsRowed pg=true:=by kernel_rfl
theorem Zj:Kids pg (·<pg.types.size):=kids_rows Zi Yg
theorem Zk:∀t e,t<pg.types.size→pg.underlying t=some (.slice e)→0<pg.cellsOf e:=slices_full_of pg (by kernel_rfl)
theorem Zl (w:World):BX w (Tm w) σ0 (fun _=>none) []:=⟨fun T B h=>by simp at h,fun _ _ _=>rfl⟩
theorem Fd.kept {w w' :World} {own' :Nat→Option Nat} (h:Fd w w' (fun _=>none) own'):w.keptBut w' (fun _=>False):=by
 have hb:∀i,i<w.heap.size→w'.heap[i]?=w.heap[i]?:=fun i hi=>h.block i hi rfl
 refine⟨h.os,h.output,fun i hi=>?_⟩
 rw[hb i hi]
 cases hw:w.heap[i]? with
 |none=>trivial
 |some o=>cases o<;>simp
section
variable {H:Type} {enc:TypeId×Value→H}
theorem I6 {P:Program} {w w' :World} {base:Nat} {spare:Nat→Bool} {held:Bool}:∀{ts:List TypeId} {vs:List Value} {ds:List (DataW H)} {ps:List MemPlace},DataW.TrodAll enc P w base spare held ts vs ds ps→(∀p∈ps,w.sameAt w' p)→DataW.TrodAll enc P w' base spare held ts vs ds ps
 | [],[],[],_,h,_=>h
 |_::_,_::_,_::_,_,⟨p,q,⟨n,h1⟩,h2,e⟩,hs=>⟨p,q,⟨n,DataW.trod_carry n _ _ _ h1 fun x hx=>hs x (by rw[e];exact List.mem_append_left _ hx)⟩,I6 h2 (fun x hx=>hs x (by rw[e];exact List.mem_append_right _ hx)),e⟩
theorem Sj {f:Func} {s:ChangeSpec} {fresh handsOn again:Bool} {W W' :World} {args:Array Value} {v:Value} {ds gs:List (DataW H)} {before:List MemPlace} {own' :Nat→Option Nat}
 (hW:DataW.Whole enc pg f.params.toList s.vars false W args.toList ds gs before) (hT:∀t∈f.params.toList,t<pg.types.size) (hv:s.vars=[]) (hE:Fd W W' (fun _=>none) own') (hs:s.fn H (ds++gs)={results:=[.lit (.bool true)],args:=ds})
 (hr:f.resultTypes= #[4]) (he:v= .bool true):s.post enc pg f false fresh handsOn again W args v W' :=by
 have hold:∀p∈before,(fun b=>decide (b<W.heap.size)) p.block=true:=fun p hp=>by simpa using hW.lt p hp
 have hlt:=fun p hp=>hW.lt p hp
 have hW0:=hW
 obtain⟨p,q,hA,hV,rfl,hz,hn⟩:=hW
 rw[hv] at hV
 obtain⟨rfl,rfl⟩:=trodVars_none hV
 simp only[List.append_nil] at*
 have hargs:∀sp:Nat→Bool,(∀x∈p,sp x.block=true)→DataW.TrodAll enc pg W' 0 sp true f.params.toList args.toList ds p:=fun sp hsp=>by
  refine DataW.TrodAll.respare Zj Zk hT ?_ hsp
  refine I6 hA fun x hx=>?_
  have hb:=hE.block _ (hlt x hx) rfl
  cases x with
  |cell b off=>exact World.cell?_of_block hb
  |map b=>exact hb
 have hres:∀(b:Nat) (sp:Nat→Bool) (hd:Bool),DataW.TrodAll enc pg W' b sp hd f.resultTypes.toList (v.resultList f.resultTypes.size) [.lit (.bool true)] []:=fun b sp hd=>by
  subst he;rw[hr]
  exact trodAll_mk1 (shut_bool Tryz.underlying4 true)
 have hvars:∀sp:Nat→Bool,DataW.TrodVars enc pg W' sp s.vars [] []:=fun sp=>by rw[hv];rfl
 refine⟨ds,[],p,[],p,[],by simpa using hW0,?_,?_,?_,World.keptBut_mono (fun x hx=>hx.elim) hE.kept,fun _=>?_⟩
 .simp only[List.append_nil,hs];exact hres _ _ _
 .simp only[List.append_nil,hs];exact hargs _ hold
 .simp only[List.append_nil,hs];exact hvars _
 .refine⟨ok_one (P:=pg) (f:=f) (t:=4) hr (by subst he;rfl) (by subst he;exact okWide_bool_mk Tryz.underlying4 true),?_⟩
  refine⟨[.lit (.bool true)]++ds,[],[]++p,⟨[]++p,[],?_,hvars _,by simp,fun b off hp=>?_,fun h=>by cases h⟩,fun x hx _=>by simpa using hx⟩
  .exact trodAll_append (hargs (fun _=>true) (fun _ _=>rfl)) (hres 0 (fun _=>true) true)
  .have hp' :MemPlace.cell b off∈p:=by simpa using hp
   have:=hz b off hp'
   rw[World.frozen?_of_block (w:=W) (hE.block _ (hlt _ hp') rfl)]
   exact this
theorem Ol {f:Nat} {fn:Func} {s:ChangeSpec} {fresh handsOn again:Bool} (hp:fn.params= #[32]) (hr:fn.resultTypes= #[4]) (hv:s.vars=[]) (hs:∀(H:Type) (d:DataW H),s.fn H [d]={results:=[.lit (.bool true)],args:=[d]})
 (hc:∀(S:List Au) (L:List (List Obj)) (G:List Gr) (na nn:Nat),S.length<Bn→(∀s∈S,KR s)→G.length<Bn→(∀g∈G,Ju g)→na<Bn→nn<Bn→L.length<Bn→(∀l∈L,l.length<Bn∧∀o∈l,Ga o)→Aa pg f [.agg (Mk S L G na nn)] [] fun r _=>r= .bool true)
 (W:World) (base:Nat) (args:Array Value) (ds gs:List (DataW H)) (before:List MemPlace) (hval:∀(j:Nat) t v,fn.params[j]?=some t→args[j]?=some v→Value.okWide pg W .any base t v)
 (hW:DataW.Whole enc pg fn.params.toList s.vars false W args.toList ds gs before) (hsz:(DataW.weightsEach pg (fn.params.toList++s.plain.varTypes pg) (ds++gs)).all (·≤reachBytes)=true):
 Calls pg f args W fun e W' =>∃v,e= .returned v∧s.post enc pg fn false fresh handsOn again W args v W' :=by
 have hW0:=hW
 obtain⟨p,q,hA,hV,rfl,hz,hn⟩:=hW
 rw[hv] at hV
 obtain⟨rfl,rfl⟩:=trodVars_none hV
 rw[hp] at hA hval hsz
 obtain⟨v0,d0,ha,rfl,fuel,h0⟩:=trodAll_one hA
 obtain rfl:args= #[v0]:=by cases args;simp_all
 have hok:=hval 0 32 v0 rfl rfl
 unfold Value.okWide at hok
 rw[Tryz.underlying32] at hok
 obtain⟨cs,rfl,_,_⟩:=hok
 obtain⟨⟨S,L,⟨G,na⟩,nn⟩,hvr,⟨g1,g2⟩,⟨g3,g4⟩,⟨⟨g5,g6⟩,g7⟩,g8⟩:=br fuel cs.toList _ h0 (fun n hn' =>by
  have:=List.all_eq_true.1 hsz n (DataW.weights_mem_each (j:=0) (t:=32) (d:=d0) rfl rfl n hn')
  simpa using this)
 refine((hc S L G na nn g1 g2 g5 g6 g7 g8 g3 g4).2 W (Tm W) σ0 (fun _=>none) #[.agg cs] (LY ⟨cs,rfl,hvr⟩) (Zl W) (fun g hg=>⟨rfl,hg⟩)).mono ?_
 rintro e W' ⟨r,v,M',σ',own',fpr,rfl,rfl,_,hvv,_,_,_,hE,_⟩
 have hvt:v= .bool true:=hvv.1
 exact⟨v,rfl,Sj hW0 (by rw[hp];intro t ht;simp at ht;subst ht;exact of_decide_eq_true (by kernel_rfl)) hv hE (by simpa using hs H d0) hr hvt⟩
end
end Go.Abs
set_option maxRecDepth 100000
namespace Go.Abs
open Go.Proofs
def BU:List Bool→Int→Int→List (Int×Int)
 | [],i,a=>if a<i then [(a,i-a)] else []
 |false::t,i,a=>BU t (i+1) a
 |true::t,i,a=>(if a<i then [(a,i-a)] else [])++BU t (i+1) (i+1)
theorem Hw:∀(t:List Bool) (i a:Int),(BU t i a).length≤t.length+1
 | [],i,a=>by unfold BU;split<;>simp
 |false::t,i,a=>by have:=Hw t (i+1) a;unfold BU;simp;omega
 |true::t,i,a=>by
  have:=Hw t (i+1) (i+1)
  unfold BU
  split<;>simp<;>omega
theorem Sk {t:List Bool} {i:Nat} (h:i<t.length) (b:t[i]=true) (a:Int):BU (t.drop i) i a=(if a<i then [(a,(i:Int)-a)] else [])++BU (t.drop (i+1)) ((i:Int)+1) ((i:Int)+1):=by
 rw[List.drop_eq_getElem_cons h,b,BU]
theorem QP {t:List Bool} {i:Nat} (h:i<t.length) (b:t[i]=false) (a:Int):BU (t.drop i) i a=BU (t.drop (i+1)) ((i:Int)+1) a:=by
 rw[List.drop_eq_getElem_cons h,b,BU]
theorem Jv {t:List Bool} {i:Nat} (h:t.length≤i) (i' a:Int):BU (t.drop i) i' a=if a<i' then [(a,i' -a)] else []:=by
 rw[List.drop_eq_nil_of_le h,BU]
theorem Yh (t:List Bool) (ht:t.length<1000000000):Aa pg 122 [.ro t.length (AK t)] [] (fun r _=>r= .own 2 (BU t 0 0).length (Ac Aw (BU t 0 0))):=by
 refine Aa.start (fn:=Tryz.f122) [.tmp 2] tk rfl rfl rfl (by kernel_rfl) (Nat.le_of_ble_eq_true rfl) rfl (by kernel_rfl) ?_
 rw[Av]
 refine zs ?_
 refine zs ?_
 obtain⟨g,hg⟩:∃g,g=BU t 0 0:=⟨_,rfl⟩
 have hgl:g.length≤t.length+1:=by rw[hg];exact Hw ..
 rw[←hg]
 (repeat refine W.seq ?_);refine W.block (W.loopS (fun x:Nat×Nat=> [(0,.ro t.length (AK t)),(2,.tok 0 x.2 2 0 x.2),(3,.int .i64 x.1)]) (fun x=> [.live x.2 (Ac Aw (g.take x.2))]) (fun x=>t.length+1-x.1) (fun x=>x.1≤t.length+1∧x.2≤x.1∧x.2≤g.length∧g.drop x.2=BU (t.drop x.1) x.1 x.1) (0,0) ((Wk.nil (t:=2) (s:=2) (by simp)).trans (Wk.fr (by simp[Ad]))) ⟨by omega,by omega,by omega,by simp[hg]⟩ ?_)
 rintro⟨i,k⟩ ⟨hi,hki,hkg,hk⟩
 simp only at hi hki hkg hk ⊢
 by_cases c1:i<t.length
 rotate_left
 .refine Af c1 ?_;intro K hK
  refine zk ?_;clear hK K
  refine zn ?_
  refine W.exit ?_
  have:k=g.length:=by
   rw[Jv (by omega),if_neg (by omega)] at hk
   have:=congrArg List.length hk
   simp at this;omega
  subst this
  rw[List.take_length]
  refine zs ?_
  exact zR
 refine Af c1 ?_;intro K hK
 refine zk ?_;clear hK K
 refine zt ?_
 refine W.skip ?_
 refine zb ?_
 refine zs ?_
 (repeat refine W.seq ?_);refine W.block (W.loopS (fun j:Nat=> [(0,.ro t.length (AK t)),(2,.tok 0 k 2 0 k),(3,.int .i64 j),(4,.int .i64 i)]) (fun _=> [.live k (Ac Aw (g.take k))]) (fun j=>t.length-j) (fun j=>i≤j∧j≤t.length∧g.drop k=BU (t.drop j) j i) i (Wk.fr (by simp[Ad])) ⟨by omega,by omega,hk⟩ ?_)
 rintro j ⟨hij,hjl,hj⟩
 by_cases c2:∃h:j<t.length,t[j]=false
 .obtain⟨c2,c3⟩:=c2
  refine Af (an c2 c3) ?_;intro K hK
  refine zk ?_;clear hK K
  refine zt ?_
  refine W.skip ?_
  refine zb ?_
  refine zs ?_
  exact⟨j+1,by omega,⟨by omega,by omega,by rw[hj,QP c2 c3];simp⟩,Wk.fr (by simp[Ad])⟩
 have hrest:∃l,g.drop k=(if i<j then [((i:Int),(j:Int)-i)] else [])++l∧l=BU (t.drop (j+1)) ((j:Int)+1) ((j:Int)+1):=by
  refine⟨_,?_,rfl⟩
  rw[hj]
  by_cases c3:j<t.length
  .have c4:t[j]=true:=by
    cases e:t[j]
    .exact absurd ⟨c3,e⟩ c2
    .rfl
   rw[Sk c3 c4]
   by_cases e:i<j<;>simp[e]
  .rw[Jv (by omega),Jv (by omega),if_neg (show¬((j:Int)+1<(j:Int)+1) by omega),List.append_nil]
   by_cases e:i<j<;>simp[e]
 obtain⟨l,hl,hle⟩:=hrest
 (repeat refine W.seq ?_);refine W.midS (fun _:Unit=> [(0,.ro t.length (AK t)),(2,.tok 0 k 2 0 k),(3,.int .i64 j),(4,.int .i64 i),(22,.bool false)]) (fun _=> [.live k (Ac Aw (g.take k))]) (fun _=>True) ?_ ?_
 .by_cases c3:j<t.length
  .have c4:t[j]=true:=by
    cases e:t[j]
    .exact absurd ⟨c3,e⟩ c2
    .rfl
   refine Af (an c3 c4) ?_;intro K hK
   refine zk ?_;clear hK K
   exact⟨(),trivial,Wk.fr (by simp[Ad])⟩
  .refine Af c3 ?_;intro K hK
   refine zk ?_;clear hK K
   exact⟨(),trivial,Wk.fr (by simp[Ad])⟩
 rintro _ _
 refine zn ?_
 refine W.exit ?_
 by_cases c5:i<j
 .have c5' :(i:Int)<(j:Int):=by omega
  rw[if_pos c5] at hl
  have hkl:k<g.length:=by
   have:=congrArg List.length hl
   simp at this;omega
  have hgk:g[k]=((i:Int),(j:Int)-i):=by
   have:=List.drop_eq_getElem_cons hkl
   rw[hl] at this
   simpa using (List.cons.inj this).1.symm
  have hdl:g.drop (k+1)=l:=by
   have:=List.drop_eq_getElem_cons hkl
   rw[hl] at this
   simpa using (List.cons.inj this).2.symm
  have hto:g.take (k+1)=g.take k++[((i:Int),(j:Int)-i)]:=by
   rw[List.take_add_one];simp[hkl,hgk]
  refine Af c5' ?_;intro K hK
  refine zk ?_;clear hK K
  refine zt ?_
  refine LZ hkl ?_;intro K hK
  refine⟨by omega,by omega,?_⟩
  refine zk ?_;clear hK K
  refine zs ?_
  refine⟨(j+1,k+1),by simp only;omega,⟨by simp only;omega,by simp only;omega,by simp only;omega,by simp only;rw[hdl,hle];simp⟩,Wk.cutM (k:=1) (by simp[Ad]) ?_ (by simp) (by simp) (by simp) (by simp)⟩
  rw[hto]
  simp[Cr,Az,Aw]
 .have c5' :¬(i:Int)<(j:Int):=by omega
  rw[if_neg c5,List.nil_append] at hl
  refine Af c5' ?_;intro K hK
  refine zk ?_;clear hK K
  refine zn ?_
  refine W.skip ?_
  refine zs ?_
  refine⟨(j+1,k),by simp only;omega,⟨by simp only;omega,by simp only;omega,hkg,by simp only;rw[hl,hle];simp⟩,Wk.fr (by simp[Ad])⟩
def DI (l:List (Int×Int)) (blocks n:Int):Int×Int:=
 if CH l blocks∧(1≤n∧n≤100) then match (BU (Cv l blocks.toNat) 0 0).find? fun x=>decide (n≤x.2) with
  |some x=>(x.1,0)
  |none=>(0,5)
 else(0,1)
theorem KS {α:Type} {p:α→Bool} {g:List α} {k:Nat} (hk:k<g.length) (h:∀x∈g.take k,p x=false) (hp:p g[k]=true):g.find? p=some g[k]:=by
 have e:g=g.take k++g[k]::g.drop (k+1):=by rw[←List.drop_eq_getElem_cons hk,List.take_append_drop]
 have e2:(g.take k++g[k]::g.drop (k+1)).find? p=some g[k]:=by
  rw[List.find?_append,List.find?_eq_none.2 (by intro x hx;simpa using h x hx)]
  simp only[Option.none_or,List.find?_cons,hp]
 exact(congrArg (List.find? p) e).trans e2
theorem MQ {α:Type} {p:α→Bool} {g:List α} {k:Nat} (hk:k<g.length) (h:∀x∈g.take k,p x=false) (hp:p g[k]=false):∀x∈g.take (k+1),p x=false:=by
 intro x hx
 rw[List.take_succ_eq_append_getElem hk,List.mem_append] at hx
 rcases hx with hx|hx
 .exact h x hx
 .simp at hx;subst hx;exact hp
theorem Yi (l:List (Int×Int)) (blocks n:Int) (hl:l.length<1000000000):Aa pg 119 [.ro l.length (Ac Aw l),.int .i64 blocks,.int .i64 n] [] (fun r _=>r= .tup [.int .i64 (DI l blocks n).1,.int .i64 (DI l blocks n).2]):=by
 have sp:=QE l blocks hl
 refine Aa.start (fn:=Tryz.f119) [.tmp 6,.tmp 7] tk rfl rfl rfl (by kernel_rfl) (Nat.le_of_ble_eq_true rfl) rfl (by kernel_rfl) ?_
 rw[Bi]
 refine zs ?_
 by_cases c1:CH l blocks
 rotate_left
 .rw[Hm,if_neg c1] at sp
  refine z0 ?_;intro K hK
  refine Ab.eq sp (by simp) (by simp) ?_
  refine zx ?_
  refine zk ?_;clear hK K
  refine zs ?_
  refine zt ?_
  refine zs ?_
  refine zr ?_
  simp[DI,c1]
 rw[Hm,if_pos c1] at sp
 have hn:blocks.toNat≤100:=by have:=c1.2.1;omega
 refine z0 ?_;intro K hK
 refine Ab.eq sp (by simp) (by simp) ?_
 refine zx ?_
 refine zk ?_;clear hK K
 refine z0 ?_;intro K hK
 refine Ab.eq (Pq n) (by simp) (by simp) ?_
 by_cases c2:1≤n∧n≤100
 rotate_left
 .rw[decide_eq_false c2]
  refine zx ?_
  refine zk ?_;clear hK K
  refine zt ?_
  refine zs ?_
  refine zr ?_
  simp[DI,c2]
 rw[decide_eq_true c2]
 refine zx ?_
 refine zk ?_;clear hK K
 refine zn ?_
 refine W.skip ?_
 have spg:=Yh (Cv l blocks.toNat) (by simp;omega)
 rw[RJ] at spg
 obtain⟨g,hg⟩:∃g,g=BU (Cv l blocks.toNat) 0 0:=⟨_,rfl⟩
 have hgl:g.length≤blocks.toNat+1:=by have:=Hw (Cv l blocks.toNat) 0 0;rw[hg];simpa using this
 have hfs:DI l blocks n=match g.find? fun x=>decide (n≤x.2) with|some x=>(x.1,0) |none=>(0,5):=by
  unfold DI;rw[if_pos ⟨c1,c2⟩,hg]
 rw[←hg] at spg
 refine z0 ?_;intro K hK
 refine Ab.eq spg (by simp) (by simp) ?_
 refine zx ?_
 refine zk ?_;clear hK K
 (repeat refine W.seq ?_);refine W.block (W.loopS (fun k:Nat=> [(2,.int .i64 n),(26,.tok 1 0 2 0 g.length),(27,.int .i64 g.length),(28,.int .i64 k)]) (fun _=> [.live 0 (AK (Cv l blocks.toNat)),.live 0 (Ac Aw g)]) (fun k=>g.length-k) (fun k=>k≤g.length∧∀x∈g.take k,decide (n≤x.2)=false) 0 (Wk.fr (by simp[Ad])) ⟨by omega,by simp⟩ ?_)
 rintro k ⟨hk,hm⟩
 by_cases c3:k<g.length
 rotate_left
 .have c3' :¬(k:Int)<(g.length:Int):=by omega
  refine Af c3' ?_;intro K hK
  refine zk ?_;clear hK K
  refine zn ?_
  refine W.exit ?_
  rw[List.take_of_length_le (by omega)] at hm
  rw[List.find?_eq_none.2 (by intro x hx;simpa using hm x hx)] at hfs
  refine zs ?_
  refine zr ?_
  simp[hfs]
 have c3' :(k:Int)<(g.length:Int):=by omega
 refine Af c3' ?_;intro K hK
 refine zk ?_;clear hK K
 refine zt ?_
 refine W.skip ?_
 refine zb ?_
 have k0:(Ac Aw g)[k*2]?=some (.int .i64 g[k].1):=Bg (f:=Aw) (s:=2) (fun _=>rfl) c3 (i:=0) (by omega)
 have k1:(Ac Aw g)[k*2+1]?=some (.int .i64 g[k].2):=Bg (f:=Aw) (s:=2) (fun _=>rfl) c3 (i:=1) (by omega)
 refine LZ (an c3 (an k0 k1)) ?_;intro K hK
 refine zk ?_;clear hK K
 by_cases c4:n≤g[k].2
 .rw[KS (p:=fun x=>decide (n≤x.2)) c3 hm (by simpa using c4)] at hfs
  refine Af c4 ?_;intro K hK
  refine zk ?_;clear hK K
  refine zt ?_
  refine z0 ?_;intro K hK
  refine zk ?_;clear hK K
  refine zr ?_
  simp[hfs]
 .refine Af c4 ?_;intro K hK
  refine zk ?_;clear hK K
  refine zn ?_
  refine W.skip ?_
  refine zs ?_
  refine⟨k+1,by omega,⟨by omega,MQ c3 hm (by simpa using c4)⟩,Wk.cutM (k:=2) (by simp[Ad]) (by simp) (by simp) (by simp) (by simp) (by simp)⟩
def gI (l:List (Int×Int)) (blocks:Int):Int×Int:=
 if CH l blocks then(((BU (Cv l blocks.toNat) 0 0).map fun x=>x.2).sum,0) else(0,1)
end Go.Abs
set_option maxRecDepth 100000
namespace Go.Abs
open Go.Proofs
theorem T1 (xs:List Bj) (hx:xs.length<1000000000):Aa pg 134 [.ro xs.length (Ac Ay xs)] [] (fun r _=>r= .own 8 xs.length (Ac Ay xs)):=by
 refine Aa.start (fn:=Tryz.f134) [.tmp 2] tk rfl rfl rfl (by kernel_rfl) (Nat.le_of_ble_eq_true rfl) rfl (by kernel_rfl) ?_
 rw[Av]
 refine zs ?_
 refine z0 ?_;intro K hK
 refine⟨fun h=>?_,fun h=>⟨?_,?_⟩⟩
 .refine zk ?_;clear hK K
  refine zn ?_
  refine W.skip ?_
  refine z1 ?_;intro K hK
  refine⟨by omega,by omega,?_⟩
  refine zk ?_;clear hK K
  exact zR
 .refine zk ?_;clear hK K
  refine zn ?_
  refine W.skip ?_
  subst h
  refine z1 ?_;intro K hK;refine zk ?_;clear hK K
  exact zR
 .refine zk ?_;clear hK K
  refine zt ?_
  refine zs ?_
  refine zr ?_
  simp[h]
theorem T2 (xs:List CT) (hx:xs.length<1000000000):Aa pg 135 [.ro xs.length (Ac (AB false) xs)] [] (fun r _=>r= .own 12 xs.length (Ac (AB false) xs)):=by
 refine Aa.start (fn:=Tryz.f135) [.tmp 2] tk rfl rfl rfl (by kernel_rfl) (Nat.le_of_ble_eq_true rfl) rfl (by kernel_rfl) ?_
 rw[Av]
 refine zs ?_
 refine z0 ?_;intro K hK
 refine⟨fun h=>?_,fun h=>⟨?_,?_⟩⟩
 .refine zk ?_;clear hK K
  refine zn ?_
  refine W.skip ?_
  refine z1 ?_;intro K hK
  refine⟨by omega,by omega,?_⟩
  refine zk ?_;clear hK K
  exact zR
 .refine zk ?_;clear hK K
  refine zn ?_
  refine W.skip ?_
  subst h
  refine z1 ?_;intro K hK;refine zk ?_;clear hK K
  exact zR
 .refine zk ?_;clear hK K
  refine zt ?_
  refine zs ?_
  refine zr ?_
  simp[h]
theorem T3 (xs:List (List Int)) (hx:xs.length<1000000000):Aa pg 169 [.ro xs.length (AE false xs)] [] (fun r _=>r= .own 1 xs.length (AE false xs)):=by
 refine Aa.start (fn:=Tryz.f169) [.tmp 2] tk rfl rfl rfl (by kernel_rfl) (Nat.le_of_ble_eq_true rfl) rfl (by kernel_rfl) ?_
 rw[Av]
 refine zs ?_
 refine z0 ?_;intro K hK
 refine⟨fun h=>?_,fun h=>⟨?_,?_⟩⟩
 .refine zk ?_;clear hK K
  refine zn ?_
  refine W.skip ?_
  refine z1 ?_;intro K hK
  refine⟨by omega,by omega,?_⟩
  refine zk ?_;clear hK K
  exact zR
 .refine zk ?_;clear hK K
  refine zn ?_
  refine W.skip ?_
  subst h
  refine z1 ?_;intro K hK;refine zk ?_;clear hK K
  exact zR
 .refine zk ?_;clear hK K
  refine zt ?_
  refine zs ?_
  refine zr ?_
  simp[h]
def GO (k:Nat) (xs:List (List Int)):List AV:=AE true (xs.take k)++AE false (xs.drop k)
theorem VZ (k:Nat) (xs:List (List Int)):(GO k xs).length=xs.length:=by simp[GO];omega
theorem Kx (m:Bool) {k:Nat} {xs:List (List Int)} (h:k≤xs.length):(AE m (xs.take k)).length=k:=by simp[AE];omega
theorem V0 {k:Nat} {xs:List (List Int)} (h:k<xs.length):(GO k xs)[k]?=some (.ro xs[k].length (Ae xs[k])):=by
 have hl:=Kx true (Nat.le_of_lt h)
 unfold GO
 rw[List.getElem?_append_right (by omega),hl,Nat.sub_self,List.drop_eq_getElem_cons h]
 rfl
theorem V1 {k:Nat} {xs:List (List Int)} (h:k<xs.length):(GO k xs).set k (.own 1 xs[k].length (Ae xs[k]))=GO (k+1) xs:=by
 have hl:=Kx true (Nat.le_of_lt h)
 have e:AE true (xs.take (k+1))=AE true (xs.take k)++[.own 1 xs[k].length (Ae xs[k])]:=by
  rw[List.take_succ_eq_append_getElem h];simp only[AE,List.map_append];rfl
 unfold GO
 rw[List.set_append_right _ _ (by omega),hl,Nat.sub_self,List.drop_eq_getElem_cons h,e,List.append_assoc]
 rfl
theorem Jw (k n:Nat) (xs:List (List Int)):C1 n (GO k xs)=true:=by simp[GO]
theorem Zm (xs:List (List Int)):AE false xs=GO 0 xs:=by simp[GO]
theorem V2 {k:Nat} {xs:List (List Int)} (h:xs.length≤k):GO k xs=AE true xs:=by
 unfold GO
 rw[List.take_of_length_le h,List.drop_eq_nil_of_le h];simp
theorem Yj (g:Gr) (hg:FW g):Aa pg 136 [.agg (A3 false g)] [] (fun r _=>r= .agg (A3 true g)):=by
 have h1:=hg.1
 refine Aa.start (fn:=Tryz.f136) [.cell 2 51] tk rfl rfl rfl (by kernel_rfl) (Nat.le_of_ble_eq_true rfl) rfl (by kernel_rfl) ?_
 rw[Av]
 refine z2 ?_;intro K hK;refine zk ?_;clear hK K
 refine z0 ?_;intro K hK
 refine Ab.eqr (T3 g.out (by omega)) (by simp) ?_
 refine zx ?_
 refine zk ?_;clear hK K
 refine z0 ?_;intro K hK
 refine zk ?_;clear hK K
 rw[Zm g.out]
 (repeat refine W.seq ?_);refine W.block (W.loopS (fun k:Nat=> [(1,.ptr 0 0 0),(2,.ptr 1 0 0),(10,.int .i64 g.out.length),(11,.int .i64 k)]) (fun k=> [.live 0 [.int .i64 g.n,.tok 2 0 1 0 g.out.length],.live 0 [.int .i64 0,.own 1 0 []],.live 0 (GO k g.out)]) (fun k=>g.out.length-k) (fun k=>k≤g.out.length) 0 (Wk.fr (by simp[Ad])) (by simp) ?_)
 intro k hk
 by_cases c1:k<g.out.length
 rotate_left
 .have c1' :¬(k:Int)<(g.out.length:Int):=by omega
  refine Af c1' ?_;intro K hK
  refine zk ?_;clear hK K
  refine zn ?_
  refine W.exit ?_
  rw[V2 (by omega)]
  refine z0 ?_;intro K hK
  refine zk ?_;clear hK K
  exact zR
 have c1' :(k:Int)<(g.out.length:Int):=by omega
 refine Af c1' ?_;intro K hK
 refine zk ?_;clear hK K
 refine zt ?_
 refine W.skip ?_
 refine zb ?_
 refine zs ?_
 have hg0:=V0 c1
 have hml:=VZ k g.out
 have hg1:(GO k g.out)[k]'(by omega)= .ro g.out[k].length (Ae g.out[k]):=by
  rw[List.getElem?_eq_getElem (by omega)] at hg0;simpa using hg0
 refine Br (an c1 (an hg1 hml)) ?_;intro K hK
 refine Ah.eqr (GZ g.out[k] (by have:=hg.2 _ (List.getElem_mem c1);omega)) (by simp) ?_
 refine AO (an c1 hml) ?_
 refine zk ?_;clear hK K
 have hnm:=Jw k 3 g.out
 refine zs ?_
 refine⟨k+1,by omega,by omega,(Wk.intern (B:=2) (v:=0) (j:=k) (T:=3) (u:=0) (s:=1) (off:=0) (n:=g.out[k].length) (cs:=(GO k g.out).set k (AV.tok 3 0 1 0 g.out[k].length)) (xs:=Ae g.out[k]) (by simp) (by rw[List.getElem?_set_self (by omega)]) (by simp) (by simp) (by simp) (by simp)).trans (Wk.cutM (k:=3) (by simp[Ad]) ?_ (by simp[Jw]) (by simp[Jw]) (by simp[Jw]) (by simp[Jw]))⟩
 rw[←V1 c1]
 simp
end Go.Abs
set_option maxRecDepth 100000
namespace Go.Abs
open Go.Proofs
theorem Yk (j:Cf) (h:j.list.length<1000000000∧j.out.length<1000000000):Aa pg 137 [.agg (BT false j)] [] (fun r _=>r= .agg (BT true j)):=by
 obtain⟨h1,h2⟩:=h
 refine Aa.start (fn:=Tryz.f137) [.cell 2 53] tk rfl rfl rfl (by kernel_rfl) (Nat.le_of_ble_eq_true rfl) rfl (by kernel_rfl) ?_
 rw[Av]
 refine z2 ?_;intro K hK;refine zk ?_;clear hK K
 refine B9 ?_;intro K hK
 refine Ah.eqr (GZ j.list (by omega)) (by simp) ?_
 refine zx ?_
 refine Ah.eqr (GZ j.out (by omega)) (by simp) ?_
 refine zx ?_
 refine zk ?_;clear hK K
 refine z0 ?_;intro K hK
 refine zk ?_;clear hK K
 exact zR
def Gb (k:Nat) (xs:List CT):List AV:=Ac (AB true) (xs.take k)++Ac (AB false) (xs.drop k)
theorem Om (k:Nat) (xs:List CT):(Gb k xs).length=xs.length*12:=by
 unfold Gb;rw[List.length_append,O7,O7,←Nat.add_mul,List.length_take,List.length_drop];congr 1;omega
theorem FA {k i:Nat} {xs:List CT} (h:k<xs.length) (hi:i<12):(Gb k xs)[k*12+i]?=(AB false xs[k])[i]?:=by
 have hl:(Ac (AB true) (xs.take k)).length=k*12:=by simp;omega
 unfold Gb
 rw[List.getElem?_append_right (by omega),hl,Nat.add_sub_cancel_left,List.drop_eq_getElem_cons h,Az,List.getElem?_append_left (by simpa[AB] using hi)]
theorem Eb {A X B:List AV} {a j:Nat} {v:AV} (hA:A.length=a) (hj:j<X.length):(A++(X++B)).set (a+j) v=A++(X.set j v++B):=by
 rw[List.set_append_right _ _ (by omega),hA,Nat.add_sub_cancel_left,List.set_append_left _ _ hj]
theorem Ml {A X B:List AV} {a j:Nat} (hA:A.length=a) (hj:j<X.length):(A++(X++B))[a+j]?=X[j]?:=by
 rw[List.getElem?_append_right (by omega),hA,Nat.add_sub_cancel_left,List.getElem?_append_left hj]
theorem V3 {k:Nat} {xs:List CT} (h:k<xs.length):Gb k xs=Ac (AB true) (xs.take k)++(AB false xs[k]++Ac (AB false) (xs.drop (k+1))):=by
 unfold Gb;rw[List.drop_eq_getElem_cons h,Az]
theorem Sl {k:Nat} {xs:List CT} (h:k<xs.length):Gb (k+1) xs=Ac (AB true) (xs.take k)++(AB true xs[k]++Ac (AB false) (xs.drop (k+1))):=by
 unfold Gb;rw[List.take_succ_eq_append_getElem h,Cr,Az];simp[Ac]
theorem Yl (xs:List CT):Ac (AB false) xs=Gb 0 xs:=by simp[Gb,Ac]
theorem T4 {k:Nat} {xs:List CT} (h:xs.length≤k):Gb k xs=Ac (AB true) xs:=by
 unfold Gb
 rw[List.take_of_length_le h,List.drop_eq_nil_of_le h];simp[Ac]
theorem Oo (s:Au) (hs:A5 s) (hx:BM s):Aa pg 95 [.agg (An false s)] [] (fun r _=>r= .agg (An true s)):=by
 have h1:=hs.1
 have h2:=hs.2.1
 refine Aa.start (fn:=Tryz.f95) [.cell 2 38] tk rfl rfl rfl (by kernel_rfl) (Nat.le_of_ble_eq_true rfl) rfl (by kernel_rfl) ?_
 rw[Av]
 refine z2 ?_;intro K hK;refine zk ?_;clear hK K
 refine B9 ?_;intro K hK
 refine Ah.eqr (T1 s.vers (by omega)) (by simp) ?_
 refine zx ?_
 refine Ah.eqr (T2 s.sess (by omega)) (by simp) ?_
 refine zx ?_
 refine zk ?_;clear hK K
 refine z0 ?_;intro K hK
 refine zk ?_;clear hK K
 rw[Yl s.sess]
 (repeat refine W.seq ?_);refine W.block (W.loopS (fun k:Nat=> [(1,.ptr 0 0 0),(2,.ptr 1 0 0),(15,.int .i64 s.sess.length),(16,.int .i64 k)]) (fun k=> [.live 0 [.int .i64 s.keep,.int .i64 s.blocks,.tok 2 0 8 0 s.vers.length,.tok 3 0 12 0 s.sess.length],.live 0 [.int .i64 0,.int .i64 0,.own 8 0 [],.own 12 0 []],.live 0 (Ac Ay s.vers),.live 0 (Gb k s.sess)]) (fun k=>s.sess.length-k) (fun k=>k≤s.sess.length) 0 (Wk.fr (by simp[Ad])) (by simp) ?_)
 intro k hk
 by_cases c1:k<s.sess.length
 rotate_left
 .have c1' :¬(k:Int)<(s.sess.length:Int):=by omega
  refine Af c1' ?_;intro K hK
  refine zk ?_;clear hK K
  refine zn ?_
  refine W.exit ?_
  rw[T4 (by omega)]
  refine z0 ?_;intro K hK
  refine zk ?_;clear hK K
  exact zR
 have c1' :(k:Int)<(s.sess.length:Int):=by omega
 refine Af c1' ?_;intro K hK
 refine zk ?_;clear hK K
 refine zt ?_
 refine W.skip ?_
 refine zb ?_
 refine zs ?_
 refine Af c1 ?_;intro K hK
 refine zk ?_;clear hK K
 obtain⟨hsg,hsj⟩:=hx _ (List.getElem_mem c1)
 have m4:=FA c1 (i:=4) (by omega)
 have m5:=FA c1 (i:=5) (by omega)
 have m6:=FA c1 (i:=6) (by omega)
 have m7:=FA c1 (i:=7) (by omega)
 have m8:=FA c1 (i:=8) (by omega)
 have m9:=FA c1 (i:=9) (by omega)
 have m10:=FA c1 (i:=10) (by omega)
 have m11:=FA c1 (i:=11) (by omega)
 simp only[AB,List.getElem?_cons_succ,List.getElem?_cons_zero] at m4 m5 m6 m7 m8 m9 m10 m11
 refine Br (an c1 (an m4 (an m5 (an m6 (an m7 (an m8 (an m9 (an m10 m11)))))))) ?_;intro K hK
 refine Ah.eqr (Yj s.sess[k].stage hsg) (by simp) ?_
 refine AO (an m6 (an m7 (an m8 (an m9 (an m10 m11))))) ?_
 refine Ah.eqr (Yk s.sess[k].job hsj) (by simp) ?_
 refine zx ?_
 refine⟨by rw[Om];omega,by rw[Om];omega,?_⟩
 refine zk ?_;clear hK K
 refine zs ?_
 refine⟨k+1,by omega,by omega,?_⟩
 have hA:(Ac (AB true) (s.sess.take k)).length=k*12:=by simp;omega
 have hAn:∀n,C1 n (Ac (AB true) (s.sess.take k))=true:=fun n=>by simp
 have hBn:∀n,C1 n (Ac (AB false) (s.sess.drop (k+1)))=true:=fun n=>by simp
 rw[V3 c1,Sl c1]
 generalize Ac (AB true) (s.sess.take k)=A at*
 generalize Ac (AB false) (s.sess.drop (k+1))=B at*
 generalize s.sess[k]=x at*
 simp only[Nat.add_assoc,Nat.reduceAdd]
 rw[Eb hA (by simp[AB]),Eb hA (by simp[AB]),Eb hA (by simp[AB]),Eb hA (by simp[AB]),Eb hA (by simp[AB]),Eb hA (by simp[AB]),Eb hA (by simp[AB]),Eb hA (by simp[AB])]
 simp only[AB,List.set_cons_succ,List.set_cons_zero]
 refine Wk.trans (Wk.fr (S:=[(1,.ptr 0 0 0),(2,.ptr 1 0 0),(15,.int .i64 s.sess.length),(16,.int .i64 ((k+1:Nat):Int))]) (by simp[Ad])) ?_
 refine Wk.trans (Wk.intern (B:=3) (v:=0) (j:=k*12+5) (T:=4) (u:=0) (s:=1) (off:=0) (n:=x.stage.out.length) (xs:=AE true x.stage.out) rfl (by rw[Ml hA (by simp)];rfl) rfl (by decide) (by simp) (by simp)) ?_
 rw[Eb hA (by simp)]
 simp only[List.set_cons_succ,List.set_cons_zero]
 refine Wk.trans (Wk.intern (B:=3) (v:=0) (j:=k*12+10) (T:=5) (u:=0) (s:=1) (off:=0) (n:=x.job.list.length) (xs:=Ae x.job.list) rfl (by rw[Ml hA (by simp)];rfl) rfl (by decide) (by simp) (by simp)) ?_
 rw[Eb hA (by simp)]
 simp only[List.set_cons_succ,List.set_cons_zero]
 refine Wk.trans (Wk.intern (B:=3) (v:=0) (j:=k*12+11) (T:=6) (u:=0) (s:=1) (off:=0) (n:=x.job.out.length) (xs:=Ae x.job.out) rfl (by rw[Ml hA (by simp)];rfl) rfl (by decide) (by simp) (by simp)) ?_
 rw[Eb hA (by simp)]
 simp only[List.set_cons_succ,List.set_cons_zero]
 exact Wk.cutM (k:=4) (by simp[Ad]) (by simp[Ee,FS]) (by simp[hAn,hBn]) (by simp[hAn,hBn]) (by simp[hAn,hBn]) (by simp[hAn,hBn])
end Go.Abs
