/- References: may a state be? -/
import Derived.Test.YtoklapibcmnaeaaGreatP12
import Derived.Test.YtoklapibcmnaeaaGreatRows
import Derived.JoinedOf
set_option linter.unusedVariables false
set_option linter.unusedSimpArgs false
set_option maxRecDepth 100000
namespace Go.Abs
open Go.Proofs
def K3 (s:AB) (i:Nat) (h:i<s.vers.length):Prop:=(AX (Al s) s.vers[i].id).2=0∧GG s.vers[i]∧¬(s.vers[i].gone=true∧i+1=s.vers.length)
theorem I9 (s:AB):Bl s↔(1≤s.keep∧s.keep≤8)∧(1≤s.blocks∧s.blocks≤100)∧s.vers.length≤12∧s.sess.length=3∧Ci (Al s)∧B6 (Av s) s.blocks∧(∀i (h:i<s.vers.length),K3 s i h)∧∀x∈s.sess,AE s (Al s) x:=by
 have hlast:Ej s.vers=false↔∀i (h:i<s.vers.length),¬(s.vers[i].gone=true∧i+1=s.vers.length):=by
  unfold Ej
  rw[List.getLast?_eq_getElem?]
  by_cases h0:s.vers.length=0
  .have:s.vers=[]:=List.eq_nil_of_length_eq_zero h0
   rw[this];simp
  .have hl:s.vers.length-1<s.vers.length:=by omega
   rw[List.getElem?_eq_getElem hl]
   simp only
   constructor
   .intro h i hi hg
    have:i=s.vers.length-1:=by omega
    subst this
    rw[h] at hg;simp at hg
   .intro h
    have:=h (s.vers.length-1) hl
    cases hg:(s.vers[s.vers.length-1]).gone
    .rfl
    .exact absurd ⟨hg,by omega⟩ this
 have hof:(∀o∈Al s,(AX (Al s) o.id).2=0)↔∀i (h:i<s.vers.length),(AX (Al s) s.vers[i].id).2=0:=by
  constructor
  .intro h i hi
   exact h (Ev s.vers[i]) (List.mem_map.2 ⟨_,List.getElem_mem hi,rfl⟩)
  .intro h o ho
   obtain⟨v,hv,rfl⟩:=List.mem_map.1 ho
   obtain⟨i,hi,rfl⟩:=List.mem_iff_getElem.1 hv
   exact h i hi
 have hver:(∀v∈s.vers,GG v)↔∀i (h:i<s.vers.length),GG s.vers[i]:=by
  constructor
  .intro h i hi;exact h _ (List.getElem_mem hi)
  .intro h v hv
   obtain⟨i,hi,rfl⟩:=List.mem_iff_getElem.1 hv
   exact h i hi
 unfold Bl En FU
 rw[hlast,hof,hver]
 constructor
 .rintro⟨⟨⟨a1,a2,a3,a4,a5,a6,a7⟩,b,c,d⟩,e⟩
  exact⟨⟨a1,a2⟩,⟨a3,a4⟩,by have:=a7.1;simpa[Al] using this,b,a7,e,fun i h=>⟨c i h,a5 i h,a6 i h⟩,d⟩
 .rintro⟨⟨a1,a2⟩,⟨a3,a4⟩,_,b,a7,e,f,d⟩
  exact⟨⟨⟨a1,a2,a3,a4,fun i h=>(f i h).2.1,fun i h=>(f i h).2.2,a7⟩,b,fun i h=>(f i h).1,d⟩,e⟩
set_option maxHeartbeats 2000000 in
theorem Kv (s:AB) (hs:A4 s) (hx:B7 s):Aa pg 13 [.agg (AA false s)] [] (fun r _=>r= .bool (decide (Bl s))):=by
 have hi:=I9 s
 have h1:=hs.1
 have h2:=hs.2.1
 have spK:=EN s.keep 1 8
 have spB:=EN s.blocks 1 100
 refine Aa.start (fn:=Tryz.f13) [.tmp 2] tk rfl rfl rfl (by kernel_rfl) (Nat.le_of_ble_eq_true rfl) rfl (by kernel_rfl) ?_
 rw[Au]
 refine z1 ?_;intro K hK;refine zk ?_;clear hK K
 by_cases c1:1≤s.keep∧s.keep≤8
 rotate_left
 .rw[decide_eq_false c1] at spK
  refine z0 ?_;intro K hK
  refine Ab.eq spK (by simp) (by simp) ?_
  refine zx ?_
  refine zk ?_;clear hK K
  refine zt ?_
  refine zs ?_
  refine zr ?_
  exact fun h=>c1 (hi.1 h).1
 rw[decide_eq_true c1] at spK
 by_cases c2:1≤s.blocks∧s.blocks≤100
 rotate_left
 .rw[decide_eq_false c2] at spB
  refine z0 ?_;intro K hK
  refine Ab.eq spK (by simp) (by simp) ?_
  refine zx ?_
  refine Ab.eq spB (by simp) (by simp) ?_
  simp only[DO];simp -implicitDefEqProofs (maxSteps:=999999) (disch:=omega) []
  refine zk ?_;clear hK K
  refine zt ?_
  refine zs ?_
  refine zr ?_
  exact fun h=>c2 (hi.1 h).2.1
 rw[decide_eq_true c2] at spB
 by_cases c3:s.vers.length≤12
 rotate_left
 .have c3' :(12:Int)<(s.vers.length:Int):=by omega
  refine z0 ?_;intro K hK
  refine Ab.eq spK (by simp) (by simp) ?_
  refine zx ?_
  refine Ab.eq spB (by simp) (by simp) ?_
  refine AR c3' ?_
  refine zk ?_;clear hK K
  refine zt ?_
  refine zs ?_
  refine zr ?_
  exact fun h=>c3 (hi.1 h).2.2.1
 have c3' :¬(12:Int)<(s.vers.length:Int):=by omega
 by_cases c4:s.sess.length=3
 rotate_left
 .have c4' :((s.sess.length:Int)=3)=False:=eq_false (by omega)
  refine z0 ?_;intro K hK
  refine Ab.eq spK (by simp) (by simp) ?_
  refine zx ?_
  refine Ab.eq spB (by simp) (by simp) ?_
  refine AR (an c3' c4') ?_
  refine zk ?_;clear hK K
  refine zt ?_
  refine zs ?_
  refine zr ?_
  exact fun h=>c4 (hi.1 h).2.2.2.1
 have c4' :((s.sess.length:Int)=3)=True:=eq_true (by omega)
 refine z0 ?_;intro K hK
 refine Ab.eq spK (by simp) (by simp) ?_
 refine zx ?_
 refine Ab.eq spB (by simp) (by simp) ?_
 refine AR (an c3' c4') ?_
 refine zk ?_;clear hK K
 refine zn ?_
 refine W.skip ?_
 have spO:=Ps s hs
 have spR:=U6 s hs
 have hlo:DW (Al s):=hs.objs
 have spM:=Rk (Al s) hlo
 have spP:=P4 (Av s) s.blocks (by simp[Av];exact hs.1)
 obtain⟨l,hl⟩:∃l,l=Al s:=⟨_,rfl⟩
 obtain⟨ps,hps⟩:∃ps,ps=Av s:=⟨_,rfl⟩
 have hll:l.length=s.vers.length:=by rw[hl];simp[Al]
 rw[←hl] at spO spM hlo
 rw[←hps] at spR spP
 refine z0 ?_;intro K hK
 refine Ab.eq spO (by simp) (by simp) ?_
 refine zx ?_
 refine zk ?_;clear hK K
 by_cases c5:Ci l
 rotate_left
 .rw[decide_eq_false c5] at spM
  refine B8 ?_;intro K hK
  refine Ah.eq spM (by simp) (by simp) ?_
  refine zx ?_
  refine zk ?_;clear hK K
  refine zt ?_
  refine zs ?_
  refine zr ?_
  exact fun h=>c5 (by rw[hl];exact(hi.1 h).2.2.2.2.1)
 rw[decide_eq_true c5] at spM
 by_cases c6:B6 ps s.blocks
 rotate_left
 .rw[decide_eq_false c6] at spP
  refine B8 ?_;intro K hK
  refine Ah.eq spM (by simp) (by simp) ?_
  refine zx ?_
  refine Ah.eq spR (by simp) (by simp) ?_
  refine zx ?_
  refine Ah.eq spP (by simp) (by simp) ?_
  refine zx ?_
  refine zk ?_;clear hK K
  refine zt ?_
  refine zs ?_
  refine zr ?_
  exact fun h=>c6 (by rw[hps];exact(hi.1 h).2.2.2.2.2.1)
 rw[decide_eq_true c6] at spP
 refine B8 ?_;intro K hK
 refine Ah.eq spM (by simp) (by simp) ?_
 refine zx ?_
 refine Ah.eq spR (by simp) (by simp) ?_
 refine zx ?_
 refine Ah.eq spP (by simp) (by simp) ?_
 refine zx ?_
 refine zk ?_;clear hK K
 refine zn ?_
 refine W.skip ?_
 refine zs ?_
 (repeat refine W.seq ?_);refine W.block (W.loopS (fun k:Nat=> [(1,.ptr 0 0 0),(3,.tok 1 0 4 0 l.length),(4,.int .i64 k)]) (fun _=> [.live 0 (AA false s),.live 0 (Af Aw l)]) (fun k=>s.vers.length-k) (fun k=>k≤s.vers.length∧∀i (h:i<s.vers.length),i<k→K3 s i h) 0 (Wk.cutM (k:=2) (by simp[Ad]) (by simp) (by simp) (by simp) (by simp) (by simp)) ⟨by omega,fun i h h2=>by omega⟩ ?_)
 rintro k ⟨hk,hok⟩
 refine zs ?_
 refine zc ?_ ?_<;>intro h
 .refine W.skip ?_
  have hlt:k<s.vers.length:=by omega
  have bad:¬K3 s k hlt→¬Bl s:=fun g w=>g ((hi.1 w).2.2.2.2.2.2.1 k hlt)
  have spV:=Gi l s.vers[k].id hlo c5
  have spN:=IH s.vers[k].parent (s.vers[k].id-1)
  have hidb:1≤s.vers[k].id∧s.vers[k].id≤1048576:=by
   have:=c5.2.1 (Ev s.vers[k]) (by rw[hl];exact List.mem_map.2 ⟨_,List.getElem_mem hlt,rfl⟩)
   exact⟨this.1,this.2.1⟩
  obtain⟨g,hg⟩:∃g,g=(AX l s.vers[k].id).1:=⟨_,rfl⟩
  obtain⟨e,he⟩:∃e,e=(AX l s.vers[k].id).2:=⟨_,rfl⟩
  rw[←hg,←he] at spV
  refine zb ?_
  (repeat refine W.seq ?_);refine W.reg 1 rfl fun K hK=>?_;simp -implicitDefEqProofs (maxSteps:=999999) (disch:=omega) [hlt]
  refine zk ?_;clear hK K
  refine z1 ?_;intro K hK
  refine Ab.eq spV (by simp) (by simp) ?_
  refine zx ?_
  refine zk ?_;clear hK K
  (repeat refine W.seq ?_);refine W.midS (fun b:Bool=> [(1,.ptr 0 0 0),(3,.tok 1 0 4 0 l.length),(4,.int .i64 k),(93,.bool b)]) (fun _=> [.live 0 (AA false s),.live 0 (Af Aw l)]) (fun b=>b=false↔K3 s k hlt) ?_ ?_
  .by_cases d1:e=0
   rotate_left
   .refine Ae d1 ?_;intro K hK
    refine zk ?_;clear hK K
    exact⟨true,by simp only[Bool.true_eq_false,false_iff];exact fun h=>d1 (by rw[he,hl];exact h.1),Wk.cutM (k:=2) (by simp[Ad]) (by simp) (by simp) (by simp) (by simp) (by simp)⟩
   by_cases d2:0≤s.vers[k].parent∧s.vers[k].parent≤s.vers[k].id-1
   rotate_left
   .rw[decide_eq_false d2] at spN
    refine Ae d1 ?_;intro K hK
    refine Ab.eq spN (by simp) (by simp) ?_
    refine zx ?_
    refine zk ?_;clear hK K
    exact⟨true,by simp only[Bool.true_eq_false,false_iff];exact fun h=>d2 ⟨h.2.1.1,by have:=h.2.1.2.1;omega⟩,Wk.cutM (k:=2) (by simp[Ad]) (by simp) (by simp) (by simp) (by simp) (by simp)⟩
   rw[decide_eq_true d2] at spN
   cases d3:s.vers[k].gone
   .refine Ae (an d1 d3) ?_;intro K hK
    refine Ab.eq spN (by simp) (by simp) ?_
    cases d4:s.vers[k].tag
    all_goals (
     refine AR (an d3 d4) ?_
     refine zk ?_;clear hK K
     exact⟨false,by simp only[true_iff];exact⟨by rw[←hl,←he];exact d1,⟨d2.1,by have:=d2.2;omega,by simp[d3]⟩,by simp[d3]⟩,Wk.cutM (k:=2) (by simp[Ad]) (by simp) (by simp) (by simp) (by simp) (by simp)⟩)
   .cases d4:s.vers[k].tag
    rotate_left
    .refine Ae (an d1 d3) ?_;intro K hK
     refine Ab.eq spN (by simp) (by simp) ?_
     refine AR (an d3 d4) ?_
     refine zk ?_;clear hK K
     exact⟨true,by simp only[Bool.true_eq_false,false_iff];exact fun h=>h.2.1.2.2 ⟨d4,d3⟩,Wk.cutM (k:=2) (by simp[Ad]) (by simp) (by simp) (by simp) (by simp) (by simp)⟩
    .by_cases d5:k+1=s.vers.length
     .have d5' :((k:Int)=(s.vers.length:Int)-1)=True:=eq_true (by omega)
      refine Ae (an d1 d3) ?_;intro K hK
      refine Ab.eq spN (by simp) (by simp) ?_
      refine AR (an d3 (an d4 d5')) ?_
      refine zk ?_;clear hK K
      exact⟨true,by simp only[Bool.true_eq_false,false_iff];exact fun h=>h.2.2 ⟨d3,d5⟩,Wk.cutM (k:=2) (by simp[Ad]) (by simp) (by simp) (by simp) (by simp) (by simp)⟩
     .have d5' :((k:Int)=(s.vers.length:Int)-1)=False:=eq_false (by omega)
      refine Ae (an d1 d3) ?_;intro K hK
      refine Ab.eq spN (by simp) (by simp) ?_
      refine AR (an d3 (an d4 d5')) ?_
      refine zk ?_;clear hK K
      exact⟨false,by simp only[true_iff];exact⟨by rw[←hl,←he];exact d1,⟨d2.1,by have:=d2.2;omega,by simp[d4]⟩,fun h=>d5 h.2⟩,Wk.cutM (k:=2) (by simp[Ad]) (by simp) (by simp) (by simp) (by simp) (by simp)⟩
  .intro b hb
   cases b
   .refine zn ?_
    refine W.skip ?_
    refine zs ?_
    refine⟨k+1,by omega,⟨by omega,fun i hi' h2=>?_⟩,Wk.fr (by simp[Ad])⟩
    by_cases ee:i=k
    .subst ee;exact hb.1 rfl
    .exact hok i hi' (by omega)
   .refine zt ?_
    refine zs ?_
    refine zr ?_
    exact bad (fun g=>by have:=hb.2 g;simp at this)
 .refine W.exit ?_
  have hk' :k=s.vers.length:=by omega
  subst hk'
  have hall:∀i (h:i<s.vers.length),K3 s i h:=fun i h=>hok i h h
  refine zs ?_
  (repeat refine W.seq ?_);refine W.block (W.loopS (fun k:Nat=> [(1,.ptr 0 0 0),(3,.tok 1 0 4 0 l.length),(8,.int .i64 k)]) (fun _=> [.live 0 (AA false s),.live 0 (Af Aw l)]) (fun k=>s.sess.length-k) (fun k=>k≤s.sess.length∧∀i (h:i<s.sess.length),i<k→AE s l s.sess[i]) 0 (Wk.fr (by simp[Ad])) ⟨by omega,fun i h h2=>by omega⟩ ?_)
  rintro k ⟨hk,hso⟩
  refine zs ?_
  refine zc ?_ ?_<;>intro h
  .refine W.skip ?_
   have hlt:k<s.sess.length:=by omega
   have spS:=P7 s l s.sess[k] hs hlo (hx _ (List.getElem_mem hlt)) c5
   refine zb ?_
   by_cases d:AE s l s.sess[k]
   .rw[decide_eq_true d] at spS
    (repeat refine W.seq ?_);refine W.regd 0 rfl true Ce (by kernel_rfl) fun K hK=>?_;simp -implicitDefEqProofs (maxSteps:=999999) (disch:=omega) [hlt]
    refine Ah.eq spS (by simp) (by simp) ?_
    refine zx ?_
    refine zk ?_;clear hK K
    refine zn ?_
    refine W.skip ?_
    refine zs ?_
    refine⟨k+1,by omega,⟨by omega,fun i hi' h2=>?_⟩,Wk.fr (by simp[Ad])⟩
    by_cases ee:i=k
    .subst ee;exact d
    .exact hso i hi' (by omega)
   .rw[decide_eq_false d] at spS
    (repeat refine W.seq ?_);refine W.regd 0 rfl true Ce (by kernel_rfl) fun K hK=>?_;simp -implicitDefEqProofs (maxSteps:=999999) (disch:=omega) [hlt]
    refine Ah.eq spS (by simp) (by simp) ?_
    refine zx ?_
    refine zk ?_;clear hK K
    refine zt ?_
    refine zs ?_
    refine zr ?_
    exact fun h=>d (by rw[hl];exact(hi.1 h).2.2.2.2.2.2.2 _ (List.getElem_mem hlt))
  .refine W.exit ?_
   refine zs ?_
   refine zr ?_
   refine hi.2 ⟨c1,c2,c3,c4,by rw[←hl];exact c5,by rw[←hps];exact c6,hall,fun x hxm=>?_⟩
   obtain⟨i,hi',rfl⟩:=List.mem_iff_getElem.1 hxm
   rw[←hl]
   exact hso i hi' (by omega)
end Go.Abs
set_option maxRecDepth 100000
namespace Go.Abs
open Go.Proofs
abbrev Be:Nat:=281474976710656
def WN (B:Nat) (P:Nat→Prop):AV→List Ag→Prop:=fun r _=>∃n:Nat,r= .int .i64 n∧n<B∧(n<1048576→P n)
theorem Pt (xs:List (List Int)) (h1:xs.length<Be) (h2:∀l∈xs,l.length<Be):Aa pg 101 [.ro xs.length (AC false xs)] [] (WN 562949953421312 fun n=>xs.length≤n∧∀l∈xs,l.length≤n):=by
 simp only[Be] at h1 h2
 refine Aa.start (fn:=Tryz.f101) [.tmp 2] tk rfl rfl rfl (by kernel_rfl) (Nat.le_of_ble_eq_true rfl) rfl (by kernel_rfl) ?_
 rw[Au]
 refine zs ?_
 refine zs ?_
 refine zs ?_
 (repeat refine W.seq ?_);refine W.block (W.loopS (fun s:Nat×Nat=> [(0,.ro xs.length (AC false xs)),(3,.int .i64 (s.2:Nat)),(4,.int .i64 (s.1:Nat))]) (fun _=> []) (fun s=>xs.length-s.1) (fun s=>s.1≤xs.length∧xs.length≤s.2∧s.2<562949953421312∧∀l∈xs.take s.1,l.length≤s.2) (0,xs.length) (Wk.fr (by simp[Ad])) ⟨by simp,by simp,by simp only;omega,by simp⟩ ?_)
 rintro⟨i,n⟩ ⟨hi,hn,hb,hl⟩
 simp only at hi hn hb hl
 by_cases c1:i<xs.length
 .by_cases c2:n<1048576
  .have c2' :(n:Int)<1048576:=by omega
   have hto:xs.take (i+1)=xs.take i++[xs[i]]:=by rw[List.take_add_one];simp[c1]
   have hli:=h2 _ (List.getElem_mem c1)
   refine Ae (an c1 c2') ?_;intro K hK
   refine zk ?_;clear hK K
   refine zt ?_
   refine W.skip ?_
   refine zb ?_
   (repeat refine W.seq ?_);refine W.reg 0 rfl fun K hK=>?_;simp -implicitDefEqProofs (maxSteps:=999999) (disch:=omega) [c1]
   refine zk ?_;clear hK K
   refine zs ?_
   refine⟨(i+1,n+xs[i].length),by simp only;omega,⟨by simp only;omega,by simp only;omega,by simp only;omega,fun l hlm=>?_⟩,Wk.fr (by simp[Ad])⟩
   rw[hto] at hlm
   simp only[List.mem_append,List.mem_singleton] at hlm
   rcases hlm with hlm|rfl
   .have:=hl l hlm;simp only;omega
   .simp only;omega
  .have c2' :¬(n:Int)<1048576:=by omega
   refine Ae (an c1 c2') ?_;intro K hK
   refine zk ?_;clear hK K
   refine zn ?_
   refine W.exit ?_
   refine zs ?_
   refine zr ?_
   exact⟨n,rfl,by omega,fun h=>by omega⟩
 .refine Ae c1 ?_;intro K hK
  refine zk ?_;clear hK K
  refine zn ?_
  refine W.exit ?_
  have:i=xs.length:=by omega
  subst this
  rw[List.take_length] at hl
  refine zs ?_
  refine zr ?_
  exact⟨n,rfl,by omega,fun h=>⟨hn,hl⟩⟩
theorem OU (j:Cb) (h1:j.list.length<Be) (h2:j.out.length<Be):Aa pg 102 [.agg (BN false j)] [] (fun r _=>r= .int .i64 ((j.list.length:Int)+j.out.length)):=by
 simp only[Be] at h1 h2
 refine Aa.start (fn:=Tryz.f102) [.tmp 2] tk rfl rfl rfl (by kernel_rfl) (Nat.le_of_ble_eq_true rfl) rfl (by kernel_rfl) ?_
 rw[Au]
 refine z1 ?_;intro K hK;refine zk ?_;clear hK K
 refine zs ?_
 exact zR
def D6 (n:Nat) (l:List Obj):Prop:=l.length≤n∧∀o∈l,o.data.data.size/4≤n
theorem D6.mono {n m:Nat} (h:n≤m) {l:List Obj} (k:D6 n l):D6 m l:=⟨by have:=k.1;omega,fun o ho=>by have:=k.2 o ho;omega⟩
theorem K4 (xs:List Obj) (h1:xs.length<Be) (h2:∀o∈xs,o.data.data.size<Be):Aa pg 103 [.ro xs.length (Af Aw xs)] [] (WN 562949953421312 fun n=>D6 n xs):=by
 simp only[Be] at h1 h2
 refine Aa.start (fn:=Tryz.f103) [.tmp 2] tk rfl rfl rfl (by kernel_rfl) (Nat.le_of_ble_eq_true rfl) rfl (by kernel_rfl) ?_
 rw[Au]
 refine zs ?_
 refine zs ?_
 refine zs ?_
 (repeat refine W.seq ?_);refine W.block (W.loopS (fun s:Nat×Nat=> [(0,.ro xs.length (Af Aw xs)),(3,.int .i64 (s.2:Nat)),(4,.int .i64 (s.1:Nat))]) (fun _=> []) (fun s=>xs.length-s.1) (fun s=>s.1≤xs.length∧xs.length≤s.2∧s.2<562949953421312∧∀o∈xs.take s.1,o.data.data.size/4≤s.2) (0,xs.length) (Wk.fr (by simp[Ad])) ⟨by simp,by simp,by simp only;omega,by simp⟩ ?_)
 rintro⟨i,n⟩ ⟨hi,hn,hb,hl⟩
 simp only at hi hn hb hl
 by_cases c1:i<xs.length
 .by_cases c2:n<1048576
  .have c2' :(n:Int)<1048576:=by omega
   have hto:xs.take (i+1)=xs.take i++[xs[i]]:=by rw[List.take_add_one];simp[c1]
   have hli:=h2 _ (List.getElem_mem c1)
   refine Ae (an c1 c2') ?_;intro K hK
   refine zk ?_;clear hK K
   refine zt ?_
   refine W.skip ?_
   refine zb ?_
   (repeat refine W.seq ?_);refine W.reg 0 rfl fun K hK=>?_;simp -implicitDefEqProofs (maxSteps:=999999) (disch:=omega) [c1]
   refine zk ?_;clear hK K
   refine zs ?_
   refine⟨(i+1,n+xs[i].data.data.size/4),by simp only;omega,⟨by simp only;omega,by simp only;omega,by simp only;omega,fun o hom=>?_⟩,Wk.fr (by simp[Ad])⟩
   rw[hto] at hom
   simp only[List.mem_append,List.mem_singleton] at hom
   rcases hom with hom|rfl
   .have:=hl o hom;simp only;omega
   .simp only;omega
  .have c2' :¬(n:Int)<1048576:=by omega
   refine Ae (an c1 c2') ?_;intro K hK
   refine zk ?_;clear hK K
   refine zn ?_
   refine W.exit ?_
   refine zs ?_
   refine zr ?_
   exact⟨n,rfl,by omega,fun h=>absurd h c2⟩
 .refine Ae c1 ?_;intro K hK
  refine zk ?_;clear hK K
  refine zn ?_
  refine W.exit ?_
  have:i=xs.length:=by omega
  subst this
  rw[List.take_length] at hl
  refine zs ?_
  refine zr ?_
  exact⟨n,rfl,by omega,fun h=>⟨hn,hl⟩⟩
end Go.Abs
set_option maxRecDepth 100000
namespace Go.Abs
open Go.Proofs
def Ja (g:Gr):Prop:=g.out.length<Be∧∀l∈g.out,l.length<Be
def ZX (x:CR):Prop:=Ja x.stage∧x.job.list.length<Be∧x.job.out.length<Be
def Kw (s:AB):Prop:=s.vers.length<Be∧s.sess.length<Be∧(∀v∈s.vers,v.data.data.size<Be)∧∀x∈s.sess,ZX x
def FI (n:Nat) (x:CR):Prop:=x.stage.out.length≤n∧(∀l∈x.stage.out,l.length≤n)∧x.job.list.length≤n∧x.job.out.length≤n
def EB (n:Nat) (s:AB):Prop:=s.vers.length≤n∧s.sess.length≤n∧(∀v∈s.vers,v.data.data.size/4≤n)∧∀x∈s.sess,FI n x
theorem FI.mono {n m:Nat} (h:n≤m) {x:CR} (k:FI n x):FI m x:=⟨by have:=k.1;omega,fun l hl=>by have:=k.2.1 l hl;omega,by have:=k.2.2.1;omega,by have:=k.2.2.2;omega⟩
theorem EB.mono {n m:Nat} (h:n≤m) {s:AB} (k:EB n s):EB m s:=⟨by have:=k.1;omega,by have:=k.2.1;omega,fun v hv=>by have:=k.2.2.1 v hv;omega,fun x hx=>(k.2.2.2 x hx).mono h⟩
def FJ (n:Nat) (g:Gr):Prop:=g.out.length≤n∧∀l∈g.out,l.length≤n
theorem FJ.mono {n m:Nat} (h:n≤m) {g:Gr} (k:FJ n g):FJ m g:=⟨by have:=k.1;omega,fun o ho=>by have:=k.2 o ho;omega⟩
theorem LR (xs:List Gr) (h1:xs.length<Be) (h2:∀g∈xs,Ja g):Aa pg 141 [.ro xs.length (Af (AU false) xs)] [] (WN 1125899906842624 fun n=>xs.length≤n∧∀g∈xs,FJ n g):=by
 simp only[Be] at h1
 refine Aa.start (fn:=Tryz.f141) [.tmp 2] tk rfl rfl rfl (by kernel_rfl) (Nat.le_of_ble_eq_true rfl) rfl (by kernel_rfl) ?_
 rw[Au]
 refine zs ?_
 refine zs ?_
 refine zs ?_
 (repeat refine W.seq ?_);refine W.block (W.loopS (fun s:Nat×Nat=> [(0,.ro xs.length (Af (AU false) xs)),(3,.int .i64 (s.2:Nat)),(4,.int .i64 (s.1:Nat))]) (fun _=> []) (fun s=>xs.length-s.1) (fun s=>s.1≤xs.length∧xs.length≤s.2∧s.2<1125899906842624∧(s.2<1048576→∀g∈xs.take s.1,FJ s.2 g)) (0,xs.length) (Wk.fr (by simp[Ad])) ⟨by simp,by simp,by simp only;omega,by simp⟩ ?_)
 rintro⟨i,n⟩ ⟨hi,hn,hb,hl⟩
 simp only at hi hn hb hl
 by_cases c1:i<xs.length
 .by_cases c2:n<1048576
  .have c2' :(n:Int)<1048576:=by omega
   have hto:xs.take (i+1)=xs.take i++[xs[i]]:=by rw[List.take_add_one];simp[c1]
   have hli:=h2 _ (List.getElem_mem c1)
   refine Ae (an c1 c2') ?_;intro K hK
   refine zk ?_;clear hK K
   refine zt ?_
   refine W.skip ?_
   refine zb ?_
   have cg:(Af (AU false) xs)[i*2+1]?=some (.ro xs[i].out.length (AC false xs[i].out)):=BU (f:=AU false) (s:=2) (fun _=>rfl) c1 (i:=1) (by omega)
   refine Ae (an c1 cg) ?_;intro K hK
   refine Ab.bor (Pt xs[i].out hli.1 hli.2) (by simp) ?_
   rintro r ⟨m,rfl,hm,hsm⟩
   refine⟨by simp,?_⟩
   refine zx ?_
   refine zk ?_;clear hK K
   refine zs ?_
   refine⟨(i+1,n+m),by simp only;omega,⟨by simp only;omega,by simp only;omega,by simp only;omega,fun hlt o hom=>?_⟩,Wk.fr (by simp[Ad])⟩
   rw[hto] at hom
   simp only at hlt
   simp only[List.mem_append,List.mem_singleton] at hom
   rcases hom with hom|rfl
   .exact(hl c2 o hom).mono (by simp only;omega)
   .exact FJ.mono (n:=m) (by simp only;omega) (hsm (by omega))
  .have c2' :¬(n:Int)<1048576:=by omega
   refine Ae (an c1 c2') ?_;intro K hK
   refine zk ?_;clear hK K
   refine zn ?_
   refine W.exit ?_
   refine zs ?_
   refine zr ?_
   exact⟨n,rfl,by omega,fun h=>absurd h c2⟩
 .refine Ae c1 ?_;intro K hK
  refine zk ?_;clear hK K
  refine zn ?_
  refine W.exit ?_
  have:i=xs.length:=by omega
  subst this
  rw[List.take_length] at hl
  refine zs ?_
  refine zr ?_
  exact⟨n,rfl,by omega,fun h=>⟨hn,hl h⟩⟩
theorem Nf (s:AB) (h:Kw s):Aa pg 64 [.agg (AA false s)] [] (fun r _=>∃n:Nat,r= .int .i64 n∧n<4503599627370496∧(n<1048576→EB n s)):=by
 obtain⟨h1,h2,h3,h4⟩:=h
 simp only[Be] at h1 h2 h3
 refine Aa.start (fn:=Tryz.f64) [.tmp 2] tk rfl rfl rfl (by kernel_rfl) (Nat.le_of_ble_eq_true rfl) rfl (by kernel_rfl) ?_
 rw[Au]
 refine z1 ?_;intro K hK;refine zk ?_;clear hK K
 refine zs ?_
 refine zs ?_
 (repeat refine W.seq ?_);refine W.block (W.loopS (fun z:Nat×Nat=> [(1,.ptr 0 0 0),(3,.int .i64 (z.2:Nat)),(4,.int .i64 (z.1:Nat))]) (fun _=> [.live 0 (AA false s)]) (fun z=>s.vers.length-z.1) (fun z=>z.1≤s.vers.length∧s.vers.length+s.sess.length≤z.2∧z.2<1125899906842624∧∀v∈s.vers.take z.1,v.data.data.size/4≤z.2) (0,s.vers.length+s.sess.length) (Wk.fr (by simp[Ad])) ⟨by simp,by simp,by simp only;omega,by simp⟩ ?_)
 rintro⟨i,n⟩ ⟨hi,hn,hb,hl⟩
 simp only at hi hn hb hl
 by_cases c:i<s.vers.length∧n<1048576
 .obtain⟨c1,c2⟩:=c
  have c2' :(n:Int)<1048576:=by omega
  have hto:s.vers.take (i+1)=s.vers.take i++[s.vers[i]]:=by rw[List.take_add_one];simp[c1]
  have hli:=h3 _ (List.getElem_mem c1)
  refine Ae (an c1 c2') ?_;intro K hK
  refine zk ?_;clear hK K
  refine zt ?_
  refine W.skip ?_
  refine zb ?_
  (repeat refine W.seq ?_);refine W.reg 0 rfl fun K hK=>?_;simp -implicitDefEqProofs (maxSteps:=999999) (disch:=omega) [c1]
  refine zk ?_;clear hK K
  refine zs ?_
  refine⟨(i+1,n+s.vers[i].data.data.size/4),by simp only;omega,⟨by simp only;omega,by simp only;omega,by simp only;omega,fun v hv=>?_⟩,Wk.fr (by simp[Ad])⟩
  rw[hto] at hv
  simp only[List.mem_append,List.mem_singleton] at hv
  rcases hv with hv|rfl
  .have:=hl v hv;simp only;omega
  .simp only;omega
 .have hend:n<1048576→∀v∈s.vers,v.data.data.size/4≤n:=fun hh v hv=>hl v (by rw[List.take_of_length_le (by omega)];exact hv)
  (repeat refine W.seq ?_);refine W.midS (fun _:Unit=> [(1,.ptr 0 0 0),(3,.int .i64 (n:Nat)),(21,.bool false)]) (fun _=> [.live 0 (AA false s)]) (fun _=>True) ?_ ?_
  .by_cases c1:i<s.vers.length
   .have c2' :¬(n:Int)<1048576:=by omega
    refine Ae (an c1 c2') ?_;intro K hK
    refine zk ?_;clear hK K
    exact⟨(),trivial,Wk.fr (by simp[Ad])⟩
   .refine Ae c1 ?_;intro K hK
    refine zk ?_;clear hK K
    exact⟨(),trivial,Wk.fr (by simp[Ad])⟩
  rintro _ _
  refine zn ?_
  refine W.exit ?_
  refine zs ?_
  clear hl
  (repeat refine W.seq ?_);refine W.block (W.loopS (fun z:Nat×Nat=> [(1,.ptr 0 0 0),(3,.int .i64 (z.2:Nat)),(5,.int .i64 (z.1:Nat))]) (fun _=> [.live 0 (AA false s)]) (fun z=>s.sess.length-z.1) (fun z=>z.1≤s.sess.length∧n≤z.2∧z.2<4503599627370496∧∀x∈s.sess.take z.1,z.2<1048576→FI z.2 x) (0,n) (Wk.fr (by simp[Ad])) ⟨by simp,by simp,by simp only;omega,by simp⟩ ?_)
  rintro⟨k,m⟩ ⟨hk,hm,hmb,hsm⟩
  simp only at hk hm hmb hsm
  by_cases d:k<s.sess.length∧m<1048576
  .obtain⟨d1,d2⟩:=d
   have d2' :(m:Int)<1048576:=by omega
   have hto:s.sess.take (k+1)=s.sess.take k++[s.sess[k]]:=by rw[List.take_add_one];simp[d1]
   obtain⟨b1,b2,b3⟩:=h4 _ (List.getElem_mem d1)
   have spJ:=OU s.sess[k].job b2 b3
   have spL:=Pt s.sess[k].stage.out b1.1 b1.2
   simp only[Be] at b2 b3
   refine Ae (an d1 d2') ?_;intro K hK
   refine zk ?_;clear hK K
   refine zt ?_
   refine W.skip ?_
   refine zb ?_
   (repeat refine W.seq ?_);refine W.regd 0 rfl true Ce (by kernel_rfl) fun K hK=>?_;simp -implicitDefEqProofs (maxSteps:=999999) (disch:=omega) [d1]
   refine⟨_,_,spL,.inl ⟨rfl,⟨[],by simp[BM]⟩,?_⟩⟩
   rintro r ⟨q,rfl,hq,hqs⟩
   refine⟨by simp,?_⟩
   simp only[DO];simp -implicitDefEqProofs (maxSteps:=999999) (disch:=omega) [d1]
   refine Ah.eq spJ (by simp) (by simp) ?_
   refine zx ?_
   refine zk ?_;clear hK K
   refine zs ?_
   refine⟨(k+1,m+q+(s.sess[k].job.list.length+s.sess[k].job.out.length)),by simp only;omega,⟨by simp only;omega,by simp only;omega,by simp only;omega,fun x hx=>?_⟩,Wk.fr (by simp[Ad];try omega)⟩
   rw[hto] at hx
   simp only[List.mem_append,List.mem_singleton] at hx
   rcases hx with hx|rfl
   .intro hlt
    exact(hsm x hx (by simp only at hlt;omega)).mono (by simp only;omega)
   .intro hlt
    simp only at hlt
    obtain⟨q1,q2⟩:=hqs (by omega)
    exact⟨by simp only;omega,fun l hl=>by have:=q2 l hl;simp only;omega,by simp only;omega,by simp only;omega⟩
  .have hend2:m<1048576→∀x∈s.sess,FI m x:=fun hh x hx=>hsm x (by rw[List.take_of_length_le (by omega)];exact hx) hh
   (repeat refine W.seq ?_);refine W.midS (fun _:Unit=> [(1,.ptr 0 0 0),(3,.int .i64 (m:Nat)),(43,.bool false)]) (fun _=> [.live 0 (AA false s)]) (fun _=>True) ?_ ?_
   .by_cases c1:k<s.sess.length
    .have c2' :¬(m:Int)<1048576:=by omega
     refine Ae (an c1 c2') ?_;intro K hK
     refine zk ?_;clear hK K
     exact⟨(),trivial,Wk.fr (by simp[Ad])⟩
    .refine Ae c1 ?_;intro K hK
     refine zk ?_;clear hK K
     exact⟨(),trivial,Wk.fr (by simp[Ad])⟩
   rintro _ _
   refine zn ?_
   refine W.exit ?_
   refine zs ?_
   refine zr ?_
   exact⟨m,rfl,by omega,fun hh=>⟨by omega,by omega,fun v hv=>by have:=hend (by omega) v hv;omega,hend2 hh⟩⟩
end Go.Abs
set_option maxRecDepth 100000
namespace Go.Abs
open Go.Proofs
def C6 (L:List (List Obj)):List AV:=L.map fun l=>AV.ro l.length (Af Aw l)
section
variable (xs:List (List Obj)) (k:Nat)
@[simp] theorem Zc (i:Nat):(C6 xs)[i]?=(xs[i]?).map fun l=>AV.ro l.length (Af Aw l):=by simp[C6]
@[simp] theorem Zd:(C6 xs).length=xs.length:=by simp[C6]
@[simp] theorem Yn:(C6 xs).drop k=C6 (xs.drop k):=by simp[C6,List.map_drop]
end
def Ib (G:List Gr) (na:Nat):List AV:=[.ro G.length (Af (AU false) G),.ro na []]
def Ic (L:List (List Obj)) (G:List Gr) (na nn:Nat):List AV:= .ro L.length (C6 L)::(Ib G na++[.ro nn []])
def LS (S:List AB) (L:List (List Obj)) (G:List Gr) (na nn:Nat):List AV:= .ro S.length (Af (AA false) S)::Ic L G na nn
def NO (G:List Gr):Prop:=G.length≤1200∧∀g∈G,FJ 1200 g
def Ro (L:List (List Obj)):Prop:=L.length≤700∧∀l∈L,D6 700 l
def Uv (P:Prop):AV→List Ag→Prop:=fun r _=>∃b:Bool,r= .bool b∧(b=false→P)
theorem S2 (G:List Gr) (na:Nat) (h1:G.length<Be) (h2:∀g∈G,Ja g) (h3:na<Be):Aa pg 104 [.agg (Ib G na)] [] (Uv (NO G)):=by
 have sp:=LR G h1 h2
 simp only[Be] at h1 h3
 simp only[Ib]
 refine Aa.start (fn:=Tryz.f104) [.tmp 2] tk rfl rfl rfl (by kernel_rfl) (Nat.le_of_ble_eq_true rfl) rfl (by kernel_rfl) ?_
 rw[Au]
 refine z1 ?_;intro K hK;refine zk ?_;clear hK K
 refine B8 ?_;intro K hK
 refine⟨_,_,sp,.inl ⟨rfl,⟨[],by simp[BM]⟩,?_⟩⟩
 rintro r ⟨q,rfl,hq,hqs⟩
 refine⟨by simp,?_⟩
 refine zx ?_
 refine zk ?_;clear hK K
 refine zr ?_
 refine⟨_,rfl,fun h=>?_⟩
 have h:¬_:=of_decide_eq_false h
 have hs:=hqs (by omega)
 exact⟨by omega,fun g hg=>(hs.2 g hg).mono (by omega)⟩
theorem S3 (L:List (List Obj)) (G:List Gr) (na nn:Nat) (h1:G.length<Be) (h2:∀g∈G,Ja g) (h3:na<Be) (h4:nn<Be) (h5:L.length<Be) (h6:∀l∈L,l.length<Be∧∀o∈l,o.data.data.size<Be):Aa pg 65 [.agg (Ic L G na nn)] [] (Uv (Ro L∧NO G)):=by
 have sp6:=S2 G na h1 h2 h3
 simp only[Be] at h3 h4 h5
 simp only[Ib] at sp6
 simp only[Ic,Ib,List.cons_append,List.nil_append]
 refine Aa.start (fn:=Tryz.f65) [.tmp 2] tk rfl rfl rfl (by kernel_rfl) (Nat.le_of_ble_eq_true rfl) rfl (by kernel_rfl) ?_
 rw[Au]
 refine z1 ?_;intro K hK;refine zk ?_;clear hK K
 refine zs ?_
 refine zs ?_
 (repeat refine W.seq ?_);refine W.block (W.loopS (fun s:Nat×Nat=> [(1,.ptr 0 0 0),(3,.int .i64 (s.2:Nat)),(4,.int .i64 (s.1:Nat))]) (fun _=> [.live 0 [.ro L.length (C6 L),.ro G.length (Af (AU false) G),.ro na [],.ro nn []]]) (fun s=>L.length-s.1) (fun s=>s.1≤L.length∧L.length≤s.2∧s.2<1125899906842624∧(s.2<1048576→∀l∈L.take s.1,D6 s.2 l)) (0,nn+L.length) (Wk.fr (by simp[Ad])) ⟨by simp,by simp,by simp only;omega,by simp⟩ ?_)
 rintro⟨i,n⟩ ⟨hi,hn,hb,hl⟩
 simp only at hi hn hb hl
 by_cases c:i<L.length∧n<1048576
 .obtain⟨c1,c2⟩:=c
  have c2' :(n:Int)<1048576:=by omega
  have hto:L.take (i+1)=L.take i++[L[i]]:=by rw[List.take_add_one];simp[c1]
  have hli:=h6 _ (List.getElem_mem c1)
  refine Ae (an c1 c2') ?_;intro K hK
  refine zk ?_;clear hK K
  refine zt ?_
  refine W.skip ?_
  refine zb ?_
  (repeat refine W.seq ?_);refine W.reg 0 rfl fun K hK=>?_;simp -implicitDefEqProofs (maxSteps:=999999) (disch:=omega) [c1]
  refine Ab.bor (K4 L[i] hli.1 hli.2) (by simp) ?_
  rintro r ⟨m,rfl,hm,hsm⟩
  refine⟨by simp,?_⟩
  refine zx ?_
  refine zk ?_;clear hK K
  refine zs ?_
  refine⟨(i+1,n+m),by simp only;omega,⟨by simp only;omega,by simp only;omega,by simp only;omega,fun hlt o hom=>?_⟩,Wk.fr (by simp[Ad])⟩
  rw[hto] at hom
  simp only at hlt
  simp only[List.mem_append,List.mem_singleton] at hom
  rcases hom with hom|rfl
  .exact(hl c2 o hom).mono (by simp only;omega)
  .exact D6.mono (n:=m) (by simp only;omega) (hsm (by omega))
 .have hend:n<1048576→∀l∈L,D6 n l:=fun hh l hll=>hl hh l (by rw[List.take_of_length_le (by omega)];exact hll)
  (repeat refine W.seq ?_);refine W.midS (fun _:Unit=> [(1,.ptr 0 0 0),(3,.int .i64 (n:Nat)),(20,.bool false)]) (fun _=> [.live 0 [.ro L.length (C6 L),.ro G.length (Af (AU false) G),.ro na [],.ro nn []]]) (fun _=>True) ?_ ?_
  .by_cases c1:i<L.length
   .have c2' :¬(n:Int)<1048576:=by omega
    refine Ae (an c1 c2') ?_;intro K hK
    refine zk ?_;clear hK K
    exact⟨(),trivial,Wk.fr (by simp[Ad])⟩
   .refine Ae c1 ?_;intro K hK
    refine zk ?_;clear hK K
    exact⟨(),trivial,Wk.fr (by simp[Ad])⟩
  rintro _ _
  refine zn ?_
  refine W.exit ?_
  by_cases d:(700:Int)<n
  .refine Ae d ?_;intro K hK
   refine zk ?_;clear hK K
   refine zr ?_
   exact⟨true,rfl,fun h=>by simp at h⟩
  .refine Ae d ?_;intro K hK
   refine Ab.bor sp6 (by simp) ?_
   rintro r ⟨b,rfl,hg⟩
   refine⟨by simp,?_⟩
   refine zx ?_
   refine zk ?_;clear hK K
   refine zr ?_
   exact⟨b,rfl,fun h=>⟨⟨by omega,fun l hll=>(hend (by omega) l hll).mono (by omega)⟩,hg h⟩⟩
theorem U7 (S:List AB) (L:List (List Obj)) (G:List Gr) (na nn:Nat) (h0:S.length<Be) (hS:∀s∈S,Kw s) (h1:G.length<Be) (h2:∀g∈G,Ja g) (h3:na<Be) (h4:nn<Be) (h5:L.length<Be) (h6:∀l∈L,l.length<Be∧∀o∈l,o.data.data.size<Be):Aa pg 12 [.agg (LS S L G na nn)] [] (fun r _=>∃b:Bool,r= .bool b∧(b=false→(S.length≤1500∧∀s∈S,EB 1500 s)∧Ro L∧NO G)):=by
 have sp9:=S3 L G na nn h1 h2 h3 h4 h5 h6
 simp only[Be] at h0
 simp only[Ic,Ib,List.cons_append,List.nil_append] at sp9
 simp only[LS,Ic,Ib,List.cons_append,List.nil_append]
 refine Aa.start (fn:=Tryz.f12) [.tmp 2] tk rfl rfl rfl (by kernel_rfl) (Nat.le_of_ble_eq_true rfl) rfl (by kernel_rfl) ?_
 rw[Au]
 refine z1 ?_;intro K hK;refine zk ?_;clear hK K
 refine zs ?_
 refine zs ?_
 (repeat refine W.seq ?_);refine W.block (W.loopS (fun z:Nat×Nat=> [(1,.ptr 0 0 0),(3,.int .i64 (z.2:Nat)),(4,.int .i64 (z.1:Nat))]) (fun _=> [.live 0 [.ro S.length (Af (AA false) S),.ro L.length (C6 L),.ro G.length (Af (AU false) G),.ro na [],.ro nn []]]) (fun z=>S.length-z.1) (fun z=>z.1≤S.length∧S.length≤z.2∧z.2<9007199254740992∧(z.2<1048576→∀s∈S.take z.1,EB z.2 s)) (0,S.length) (Wk.fr (by simp[Ad])) ⟨by simp,by simp,by simp only;omega,by simp⟩ ?_)
 rintro⟨i,n⟩ ⟨hi,hn,hb,hs⟩
 simp only at hi hn hb hs
 by_cases c:i<S.length∧n<1048576
 .obtain⟨c1,c2⟩:=c
  have c2' :(n:Int)<1048576:=by omega
  have hto:S.take (i+1)=S.take i++[S[i]]:=by rw[List.take_add_one];simp[c1]
  have spW:=Nf S[i] (hS _ (List.getElem_mem c1))
  have k0:(Af (AA false) S)[i*4]?=some (.int .i64 S[i].keep):=BU (f:=AA false) (s:=4) (fun _=>rfl) c1 (i:=0) (by omega)
  have k1:(Af (AA false) S)[i*4+1]?=some (.int .i64 S[i].blocks):=BU (f:=AA false) (s:=4) (fun _=>rfl) c1 (i:=1) (by omega)
  have k2:(Af (AA false) S)[i*4+1+1]?=some (.ro S[i].vers.length (Af AN S[i].vers)):=BU (f:=AA false) (s:=4) (fun _=>rfl) c1 (i:=2) (by omega)
  have k3:(Af (AA false) S)[i*4+1+1+1]?=some (.ro S[i].sess.length (Af (AI false) S[i].sess)):=BU (f:=AA false) (s:=4) (fun _=>rfl) c1 (i:=3) (by omega)
  refine Ae (an c1 c2') ?_;intro K hK
  refine zk ?_;clear hK K
  refine zt ?_
  refine W.skip ?_
  refine zb ?_
  refine Ae (an c1 (an k0 (an k1 (an k2 k3)))) ?_;intro K hK
  refine Ab.bor spW (by simp) ?_
  rintro r ⟨m,rfl,hm,hsm⟩
  refine⟨by simp,?_⟩
  refine zx ?_
  refine zk ?_;clear hK K
  refine zs ?_
  refine⟨(i+1,n+m),by simp only;omega,⟨by simp only;omega,by simp only;omega,by simp only;omega,fun hlt s hsm' =>?_⟩,Wk.fr (by simp[Ad])⟩
  rw[hto] at hsm'
  simp only at hlt
  simp only[List.mem_append,List.mem_singleton] at hsm'
  rcases hsm' with hs' |rfl
  .exact(hs c2 s hs').mono (by simp only;omega)
  .exact(hsm (by omega)).mono (by simp only;omega)
 .have hend:n<1048576→∀s∈S,EB n s:=fun hh s hss=>hs hh s (by rw[List.take_of_length_le (by omega)];exact hss)
  (repeat refine W.seq ?_);refine W.midS (fun _:Unit=> [(1,.ptr 0 0 0),(3,.int .i64 (n:Nat)),(16,.bool false)]) (fun _=> [.live 0 [.ro S.length (Af (AA false) S),.ro L.length (C6 L),.ro G.length (Af (AU false) G),.ro na [],.ro nn []]]) (fun _=>True) ?_ ?_
  .by_cases c1:i<S.length
   .have c2' :¬(n:Int)<1048576:=by omega
    refine Ae (an c1 c2') ?_;intro K hK
    refine zk ?_;clear hK K
    exact⟨(),trivial,Wk.fr (by simp[Ad])⟩
   .refine Ae c1 ?_;intro K hK
    refine zk ?_;clear hK K
    exact⟨(),trivial,Wk.fr (by simp[Ad])⟩
  rintro _ _
  refine zn ?_
  refine W.exit ?_
  by_cases d:(1500:Int)<n
  . (repeat refine W.seq ?_);refine W.reg 0 rfl fun K hK=>?_;simp -implicitDefEqProofs (maxSteps:=999999) (disch:=omega) [d]
    refine zk ?_;clear hK K
    refine W.ret ?_;simp only[Cp,C1,CH];refine Cw (d:=0) ?_;simp -implicitDefEqProofs (maxSteps:=999999) (disch:=omega)
    (try exact⟨true,rfl,fun h=>by simp at h⟩)
  .refine Ae d ?_;intro K hK
   refine Ab.bor sp9 (by simp) ?_
   rintro r ⟨b,rfl,hlg⟩
   refine⟨by simp,?_⟩
   refine zx ?_
   refine zk ?_;clear hK K
   refine zr ?_
   exact fun h=>⟨⟨by omega,fun s hss=>(hend (by omega) s hss).mono (by omega)⟩,hlg h⟩
theorem EO (e:Int):Aa pg 17 [.int .i64 e] [] (fun r _=>r= .int .i64 e):=by
 refine Aa.start (fn:=Tryz.f17) [.tmp 2] tk rfl rfl rfl (by kernel_rfl) (Nat.le_of_ble_eq_true rfl) rfl (by kernel_rfl) ?_
 rw[Au]
 refine zs ?_
 refine zs ?_
 exact zR
end Go.Abs
set_option maxRecDepth 100000
namespace Go.Abs
open Go.Proofs
theorem Xg:Du []=F0:=by funext t;simp[Du,F0]
theorem P8:Bl (B4 9 2):=by
 rw[I9]
 refine⟨by simp[B4],by simp[B4],by simp[B4],by simp[B4],⟨by simp[B4,Al],by simp[B4,Al],by simp[B4,Al]⟩,⟨by simp[B4],by simp[B4],by simp[B4,Av],by simp[B4,Av],by simp[B4,Av]⟩,fun i h=>by simp[B4] at h,fun x hx=>?_⟩
 have:x=DV:=by simpa[B4] using hx
 subst this
 simp[AE,DV]
theorem Rp (hR:Bv):Aa pg 19 [] [] (fun r _=>r= .bool true):=by
 have spN:=Ym hR 9 2 P8
 have hs:A4 (B4 9 2):=⟨by simp[B4],by simp[B4],by simp[B4]⟩
 have hx:B7 (B4 9 2):=by
  intro x hx
  have:x=DV:=by simpa[B4] using hx
  subst this
  simp[E5,EX,J4,DV,AF,CG]
 have spH:=Pp hR (B4 9 2) hs hx
 rw[if_pos P8,if_pos P8] at spH
 have hl:As (B4 9 2).vers=0:=rfl
 have hb:(B4 9 2).blocks=9:=rfl
 have hsl:(B4 9 2).sess.length=3:=rfl
 rw[hl] at spH
 obtain⟨s,hsd⟩:∃s,s=B4 9 2:=⟨_,rfl⟩
 rw[←hsd] at spN spH hb hsl
 refine Aa.start (fn:=Tryz.f19) [.tmp 0] tk rfl rfl rfl (by kernel_rfl) (Nat.le_of_ble_eq_true rfl) rfl (by kernel_rfl) ?_
 rw[Xg]
 refine zs ?_
 refine z1 ?_;intro K hK
 refine Ab.eq spN (by simp) (by simp) ?_
 refine zx ?_
 refine zk ?_;clear hK K
 refine z0 ?_;intro K hK
 refine Ab.eq spH (by simp) (by simp) ?_
 refine zx ?_
 refine zk ?_;clear hK K
 have hb' :(s.blocks=9)=True:=eq_true hb
 have hsl' :((s.sess.length:Int)=3)=True:=eq_true (by omega)
 refine z0 ?_;intro K hK
 refine Ab.eq (EO 0) (by simp) (by simp) ?_
 refine zx ?_
 refine Ab.eq (EO 0) (by simp) (by simp) ?_
 refine AR (an hb' hsl') ?_
 refine zk ?_;clear hK K
 exact zR
end Go.Abs
namespace Go.Abs
def dB (s:AB) (keep:Int) (k:Nat) (tag gone:Bool):AB:={s with keep:=keep,vers:=match s.vers[k]? with|some v=>s.vers.set k {v with tag:=tag,gone:=gone} |none=>s.vers}
theorem Jb (l:List Bi) (i:Int):(∃v∈l,v.id=i)↔i∈l.map fun v=>v.id:=by simp
theorem Xh {s:AB} (h:Bl s):(s.vers.map fun v=>v.id).Pairwise (·<·):=by
 have:=((I9 s).1 h).2.2.2.2.1.2.2
 rw[List.pairwise_map]
 have h2:(s.vers.map Ev).Pairwise fun a b=>a.id<b.id:=this
 rw[List.pairwise_map] at h2
 exact h2
theorem U8 {s:AB} (h:Bl s) {i j:Nat} (hi:i<s.vers.length) (hj:j<s.vers.length) (e:s.vers[i].id=s.vers[j].id):i=j:=by
 have hp:=Xh h
 rw[List.pairwise_iff_getElem] at hp
 rcases Nat.lt_trichotomy i j with hlt|heq|hgt
 .have:=hp i j (by simpa using hi) (by simpa using hj) hlt
  simp at this;omega
 .exact heq
 .have:=hp j i (by simpa using hj) (by simpa using hi) hgt
  simp at this;omega
theorem S4 (l:List Bi) (i:Int):i∈Cg l↔∃v∈l,v.gone=false∧v.id=i:=by
 simp[Cg,and_assoc]
theorem K5 (s:AB) (i:Int):i∈BW s true↔∃v∈s.vers,ES s v=true∧v.id=i:=by
 simp[BW,Df,and_assoc]
end Go.Abs
set_option maxRecDepth 100000
namespace Go.Abs
open Go.Proofs
theorem S5 {s:AB} (h:EB 1500 s):A4 s∧B7 s:=by
 obtain⟨h1,h2,h3,h4⟩:=h
 refine⟨⟨by omega,by omega,fun v hv=>by have:=h3 v hv;omega⟩,fun x hx=>?_⟩
 obtain⟨k1,k2,k3,k4⟩:=h4 x hx
 exact⟨⟨by omega,fun l hl=>by have:=k2 l hl;omega⟩,by omega,by omega⟩
end Go.Abs
namespace Go.Abs
open Go.Proofs
theorem c3:pg.cellsOf 3=1:=by kernel_rfl
theorem c4:pg.cellsOf 4=1:=by kernel_rfl
theorem c9:pg.cellsOf 9=1:=by kernel_rfl
theorem dC:pg.cellsOf 22=1:=by kernel_rfl
theorem dD:pg.cellsOf 23=1:=by kernel_rfl
theorem dE:pg.cellsOf 24=1:=by kernel_rfl
theorem dF:pg.cellsOf 25=1:=by kernel_rfl
theorem dG:pg.cellsOf 27=2:=by kernel_rfl
theorem Xi:pg.cellsOf 28=1:=by kernel_rfl
theorem dH:pg.cellsOf 30=4:=by kernel_rfl
theorem dI:pg.cellsOf 35=1:=by kernel_rfl
theorem dJ:pg.cellsOf 36=1:=by kernel_rfl
theorem Ze:pg.cellsOf 40=2:=by kernel_rfl
theorem dK:pg.cellsOf 49=1:=by kernel_rfl
theorem dL:pg.cellsOf 51=2:=by kernel_rfl
theorem dM:pg.cellsOf 53=6:=by kernel_rfl
def Uw (n:Int):Prop:=-9223372036854775808≤n∧n≤9223372036854775807
theorem Xj {n:Int} (h:(Lit.int .i64 n).wf=true):Uw n:=by
 have h:=(by simpa[Lit.wf] using h:IntKind.i64.min≤n∧n≤9223372036854775807)
 exact h
def FK (o:Obj):Prop:=o.data.data.size<Be∧Uw o.id
section
variable {H:Type} {enc:TypeId×Value→H} {w:World}
theorem GO:A1 enc pg w 3 (fun n:Int=> [.int .i64 n]) fun _=>True:=A1.int Tryz.underlying3
theorem Rq:A1 enc pg w 4 (fun b:Bool=> [.bool b]) fun _=>True:=A1.bool Tryz.underlying4
theorem dN:A1 enc pg w 9 (fun s:ByteArray=> [.str s]) fun s=>s.size≤reachBytes:=A1.str Tryz.underlying9
theorem Xk:A1 enc pg w 40 Cx fun b=>b.data.size≤reachBytes:=
 A1.map (A1.struct Tryz.underlying40 (.cons dN c9 rfl (.cons GO c3 rfl .nil)) (by kernel_rfl)) (fun x=>⟨x.1,x.2.1⟩) (fun _=>rfl) fun _ h=>h.1
theorem ZY:A1 enc pg w 42 AN fun v=>v.data.data.size≤reachBytes:=
 A1.map (A1.struct Tryz.underlying42 (.cons GO c3 rfl (.cons GO c3 rfl (.cons GO c3 rfl (.cons Xk Ze rfl (.cons GO c3 rfl (.cons Rq c4 rfl (.cons Rq c4 rfl .nil))))))) (by kernel_rfl)) (fun x=>⟨x.1,x.2.1,x.2.2.1,x.2.2.2.1,x.2.2.2.2.1,x.2.2.2.2.2.1,x.2.2.2.2.2.2.1⟩) (fun _=>rfl) fun _ h=>h.2.2.2.1
theorem Rs (xs:List Int):Af (fun n:Int=> [AV.int .i64 n]) xs=Ac xs:=by
 induction xs with
 |nil=>rfl
 |cons x xs ih=>simp only[AK,ih];rfl
theorem S6:A1 enc pg w 28 (fun l:List Int=> [FB false l]) fun l=>l.length≤reachBytes:=
 A1.map (A1.slice GO Tryz.underlying28 (Nat.le_of_ble_eq_true (by kernel_rfl))) id (fun l=>by rw[Rs];rfl) fun _ h=>h.1
theorem P9 (xs:List (List Int)):Af (fun l:List Int=> [FB false l]) xs=AC false xs:=by
 induction xs with
 |nil=>rfl
 |cons x xs ih=>simp only[AK,ih];rfl
theorem ZZ:A1 enc pg w 49 (fun l:List (List Int)=> [D2 false l]) fun l=>l.length≤reachBytes∧∀x∈l,x.length≤reachBytes:=
 A1.map (A1.slice S6 Tryz.underlying49 (Nat.le_of_ble_eq_true (by kernel_rfl))) id (fun l=>by rw[P9];rfl) fun _ h=>h
theorem Xl:A1 enc pg w 51 (AU false) fun g=>g.out.length≤reachBytes∧∀x∈g.out,x.length≤reachBytes:=
 A1.map (A1.struct Tryz.underlying51 (.cons GO c3 rfl (.cons ZZ dK rfl .nil)) (by kernel_rfl)) (fun x=>⟨x.1,x.2.1⟩) (fun _=>rfl) fun _ h=>h.2.1
theorem Z0:A1 enc pg w 53 (BN false) fun j=>j.list.length≤reachBytes∧j.out.length≤reachBytes:=
 A1.map (A1.struct Tryz.underlying53 (.cons GO c3 rfl (.cons GO c3 rfl (.cons GO c3 rfl (.cons Rq c4 rfl (.cons S6 Xi rfl (.cons S6 Xi rfl .nil)))))) (by kernel_rfl)) (fun x=>⟨x.1,x.2.1,x.2.2.1,x.2.2.2.1,x.2.2.2.2.1,x.2.2.2.2.2.1⟩) (fun _=>rfl) fun _ h=>⟨h.2.2.2.2.1,h.2.2.2.2.2.1⟩
theorem Z1:A1 enc pg w 55 (AI false) fun s=>(s.stage.out.length≤reachBytes∧∀x∈s.stage.out,x.length≤reachBytes)∧s.job.list.length≤reachBytes∧s.job.out.length≤reachBytes:=
 A1.map (A1.struct Tryz.underlying55 (.cons Rq c4 rfl (.cons GO c3 rfl (.cons Rq c4 rfl (.cons GO c3 rfl (.cons Xl dL rfl (.cons Z0 dM rfl .nil)))))) (by kernel_rfl)) (fun x=>⟨x.1,x.2.1,x.2.2.1,x.2.2.2.1,x.2.2.2.2.1,x.2.2.2.2.2.1⟩) (fun _=>rfl) fun _ h=>⟨h.2.2.2.2.1,h.2.2.2.2.2.1⟩
theorem Z2:A1 enc pg w 35 (fun l:List Bi=> [GF false l]) fun l=>l.length≤reachBytes∧∀v∈l,v.data.data.size≤reachBytes:=
 A1.map (A1.slice ZY Tryz.underlying35 (Nat.le_of_ble_eq_true (by kernel_rfl))) id (fun _=>rfl) fun _ h=>h
theorem Z3:A1 enc pg w 36 (fun l:List CR=> [QS false l]) fun l=>l.length≤reachBytes∧∀s∈l,(s.stage.out.length≤reachBytes∧∀x∈s.stage.out,x.length≤reachBytes)∧s.job.list.length≤reachBytes∧s.job.out.length≤reachBytes:=
 A1.map (A1.slice Z1 Tryz.underlying36 (Nat.le_of_ble_eq_true (by kernel_rfl))) id (fun _=>rfl) fun _ h=>h
theorem B9 {n:Nat} (h:n≤reachBytes):n<Be:=by
 have:=reachBytes_lt;simp only[Be];omega
theorem Z4:A1 enc pg w 38 (AA false) Kw:=
 A1.map (A1.struct Tryz.underlying38 (.cons GO c3 rfl (.cons GO c3 rfl (.cons Z2 dI rfl (.cons Z3 dJ rfl .nil)))) (by kernel_rfl)) (fun x=>⟨x.1,x.2.1,x.2.2.1,x.2.2.2.1⟩) (fun _=>rfl) fun _ h=>
  ⟨B9 h.2.2.1.1,B9 h.2.2.2.1.1,fun v hv=>B9 (h.2.2.1.2 v hv),fun x hx=>⟨⟨B9 (h.2.2.2.1.2 x hx).1.1,fun l hl=>B9 ((h.2.2.2.1.2 x hx).1.2 l hl)⟩,B9 (h.2.2.2.1.2 x hx).2.1,B9 (h.2.2.2.1.2 x hx).2.2⟩⟩
theorem Z5:A1 enc pg w 22 (fun l:List AB=> [.ro l.length (Af (AA false) l)]) fun l=>l.length<Be∧∀s∈l,Kw s:=
 A1.map (A1.slice Z4 Tryz.underlying22 (Nat.le_of_ble_eq_true (by kernel_rfl))) id (fun _=>rfl) fun _ h=>⟨B9 h.1,h.2⟩
theorem Z6:A1 enc pg w 3 (fun n:Int=> [.int .i64 n]) fun n=>Uw n:=A1.map (A1.intR Tryz.underlying3) id (fun _=>rfl) fun n h=>Xj h
theorem Z7:A1 enc pg w 60 Aw fun o=>FK o:=
 A1.map (A1.struct Tryz.underlying60 (.cons Z6 c3 rfl (.cons GO c3 rfl (.cons Xk Ze rfl .nil))) (by kernel_rfl)) (fun x=>⟨x.1,x.2.1,x.2.2.1⟩) (fun _=>rfl) fun _ h=>⟨B9 h.2.2.1,h.1⟩
theorem Z8:A1 enc pg w 65 (fun l:List Obj=> [AV.ro l.length (Af Aw l)]) fun l=>l.length<Be∧∀o∈l,FK o:=
 A1.map (A1.slice Z7 Tryz.underlying65 (Nat.le_of_ble_eq_true (by kernel_rfl))) id (fun _=>rfl) fun _ h=>⟨B9 h.1,h.2⟩
theorem Qa (xs:List (List Obj)):Af (fun l:List Obj=> [AV.ro l.length (Af Aw l)]) xs=C6 xs:=by
 induction xs with
 |nil=>rfl
 |cons x xs ih=>simp only[AK,ih];rfl
theorem Z9:A1 enc pg w 23 (fun l:List (List Obj)=> [AV.ro l.length (C6 l)]) fun l=>l.length<Be∧∀x∈l,x.length<Be∧∀o∈x,FK o:=
 A1.map (A1.slice Z8 Tryz.underlying23 (Nat.le_of_ble_eq_true (by kernel_rfl))) id (fun l=>by rw[Qa];rfl) fun _ h=>⟨B9 h.1,h.2⟩
theorem aa:A1 enc pg w 24 (fun l:List Gr=> [AV.ro l.length (Af (AU false) l)]) fun l=>l.length<Be∧∀g∈l,Ja g:=
 A1.map (A1.slice Xl Tryz.underlying24 (Nat.le_of_ble_eq_true (by kernel_rfl))) id (fun _=>rfl) fun _ h=>⟨B9 h.1,fun g hg=>⟨B9 (h.2 g hg).1,fun l hl=>B9 ((h.2 g hg).2 l hl)⟩⟩
theorem ab:A1 enc pg w 25 (fun n:Nat=> [AV.ro n []]) fun n=>n<Be:=
 A1.map (A1.len Tryz.underlying25 (Nat.le_of_ble_eq_true (by kernel_rfl))) id (fun _=>rfl) fun _ h=>B9 h
theorem Yo:A1 enc pg w 28 (fun n:Nat=> [AV.ro n []]) fun n=>n<Be:=
 A1.map (A1.len Tryz.underlying28 (Nat.le_of_ble_eq_true (by kernel_rfl))) id (fun _=>rfl) fun _ h=>B9 h
theorem ac:A1 enc pg w 27 (fun x:List Gr×Nat=>Ib x.1 x.2) fun x=>(x.1.length<Be∧∀g∈x.1,Ja g)∧x.2<Be:=
 A1.map (A1.struct Tryz.underlying27 (.cons aa dE rfl (.cons ab dF rfl .nil)) (by kernel_rfl)) (fun x=>⟨x.1,x.2.1⟩) (fun _=>rfl) fun _ h=>⟨h.1,h.2.1⟩
theorem ae:A1 enc pg w 30 (fun x:List (List Obj)×(List Gr×Nat)×Nat=>Ic x.1 x.2.1.1 x.2.1.2 x.2.2) fun x=>(x.1.length<Be∧∀l∈x.1,l.length<Be∧∀o∈l,FK o)∧((x.2.1.1.length<Be∧∀g∈x.2.1.1,Ja g)∧x.2.1.2<Be)∧x.2.2<Be:=
 A1.map (A1.struct Tryz.underlying30 (.cons Z9 dD rfl (.cons ac dG rfl (.cons Yo Xi rfl .nil))) (by kernel_rfl)) (fun x=>⟨x.1,x.2.1,x.2.2.1⟩) (fun _=>rfl) fun _ h=>⟨h.1,h.2.1,h.2.2.1⟩
theorem ag:A1 enc pg w 32 (fun x:List AB×List (List Obj)×(List Gr×Nat)×Nat=>LS x.1 x.2.1 x.2.2.1.1 x.2.2.1.2 x.2.2.2) fun x=>(x.1.length<Be∧∀s∈x.1,Kw s)∧(x.2.1.length<Be∧∀l∈x.2.1,l.length<Be∧∀o∈l,FK o)∧((x.2.2.1.1.length<Be∧∀g∈x.2.2.1.1,Ja g)∧x.2.2.1.2<Be)∧x.2.2.2<Be:=
 A1.map (A1.struct Tryz.underlying32 (.cons Z5 dC rfl (.cons ae dH rfl .nil)) (by kernel_rfl)) (fun x=>⟨x.1,x.2.1⟩) (fun _=>rfl) fun _ h=>⟨h.1,h.2.1⟩
end
end Go.Abs
set_option maxRecDepth 100000
namespace Go.Abs
open Go.Proofs Go.ChangeShapes Go.WideShapes Go.ChangeAt Go.RowKit
theorem own0:ownKnob pg.godebug=none:=by kernel_rfl
theorem Yp:laidOutB pg=true:=by kernel_rfl
theorem Xm:mapsRowed pg=true:=by kernel_rfl
theorem Yq:Kids pg (·<pg.types.size):=kids_rows Yp Xm
theorem Yr:∀t e,t<pg.types.size→pg.underlying t=some (.slice e)→0<pg.cellsOf e:=slices_full_of pg (by kernel_rfl)
theorem Ys (w:World):BS w (SA w) σ0 (fun _=>none) []:=⟨fun T B h=>by simp at h,fun _ _ _=>rfl⟩
theorem EY.kept {w w' :World} {own' :Nat→Option Nat} (h:EY w w' (fun _=>none) own'):w.keptBut w' (fun _=>False):=by
 have hb:∀i,i<w.heap.size→w'.heap[i]?=w.heap[i]?:=fun i hi=>h.block i hi rfl
 refine⟨h.os,h.output,fun i hi=>?_⟩
 rw[hb i hi]
 cases hw:w.heap[i]? with
 |none=>trivial
 |some o=>cases o<;>simp
section
variable {H:Type} {enc:TypeId×Value→H}
theorem IJ {P:Program} {w w' :World} {base:Nat} {spare:Nat→Bool} {held:Bool}:∀{ts:List TypeId} {vs:List Value} {ds:List (DataW H)} {ps:List MemPlace},DataW.TrodAll enc P w base spare held ts vs ds ps→(∀p∈ps,w.sameAt w' p)→DataW.TrodAll enc P w' base spare held ts vs ds ps
 | [],[],[],_,h,_=>h
 |_::_,_::_,_::_,_,⟨p,q,⟨n,h1⟩,h2,e⟩,hs=>⟨p,q,⟨n,DataW.trod_carry n _ _ _ h1 fun x hx=>hs x (by rw[e];exact List.mem_append_left _ hx)⟩,IJ h2 (fun x hx=>hs x (by rw[e];exact List.mem_append_right _ hx)),e⟩
theorem Rt {f:Func} {s:ChangeSpec} {fresh handsOn again:Bool} {W W' :World} {args:Array Value} {v:Value} {ds gs:List (DataW H)} {before:List MemPlace} {own' :Nat→Option Nat}
 (hW:DataW.Whole enc pg f.params.toList s.vars false W args.toList ds gs before) (hT:∀t∈f.params.toList,t<pg.types.size) (hv:s.vars=[]) (hE:EY W W' (fun _=>none) own') (hs:s.fn H (ds++gs)={results:=[.lit (.bool true)],args:=ds})
 (hr:f.resultTypes= #[4]) (he:v= .bool true):s.post enc pg f false fresh handsOn again W args v W' :=by
 have hold:∀p∈before,(fun b=>decide (b<W.heap.size)) p.block=true:=fun p hp=>by simpa using hW.lt p hp
 have hlt:=fun p hp=>hW.lt p hp
 have hW0:=hW
 obtain⟨p,q,hA,hV,rfl,hz,hn⟩:=hW
 rw[hv] at hV
 obtain⟨rfl,rfl⟩:=trodVars_none hV
 simp only[List.append_nil] at*
 have hargs:∀sp:Nat→Bool,(∀x∈p,sp x.block=true)→DataW.TrodAll enc pg W' 0 sp true f.params.toList args.toList ds p:=fun sp hsp=>by
  refine DataW.TrodAll.respare Yq Yr hT ?_ hsp
  refine IJ hA fun x hx=>?_
  have hb:=hE.block _ (hlt x hx) rfl
  cases x with
  |cell b off=>exact World.cell?_of_block hb
  |map b=>exact hb
 have hres:∀(b:Nat) (sp:Nat→Bool) (hd:Bool),DataW.TrodAll enc pg W' b sp hd f.resultTypes.toList (v.resultList f.resultTypes.size) [.lit (.bool true)] []:=fun b sp hd=>by
  subst he;rw[hr]
  exact trodAll_mk1 (shut_bool Tryz.underlying4 true)
 have hvars:∀sp:Nat→Bool,DataW.TrodVars enc pg W' sp s.vars [] []:=fun sp=>by rw[hv];rfl
 refine⟨ds,[],p,[],p,[],by simpa using hW0,?_,?_,?_,World.keptBut_mono (fun x hx=>hx.elim) hE.kept,fun _=>?_⟩
 .simp only[List.append_nil,hs];exact hres _ _ _
 .simp only[List.append_nil,hs];exact hargs _ hold
 .simp only[List.append_nil,hs];exact hvars _
 .refine⟨ok_one (P:=pg) (f:=f) (t:=4) hr (by subst he;rfl) (by subst he;exact okWide_bool_mk Tryz.underlying4 true),?_⟩
  refine⟨[.lit (.bool true)]++ds,[],[]++p,⟨[]++p,[],?_,hvars _,by simp,fun b off hp=>?_,fun h=>by cases h⟩,fun x hx _=>by simpa using hx⟩
  .exact trodAll_append (hargs (fun _=>true) (fun _ _=>rfl)) (hres 0 (fun _=>true) true)
  .have hp' :MemPlace.cell b off∈p:=by simpa using hp
   have:=hz b off hp'
   rw[World.frozen?_of_block (w:=W) (hE.block _ (hlt _ hp') rfl)]
   exact this
theorem NP {f:Nat} {fn:Func} {s:ChangeSpec} {fresh handsOn again:Bool} (hp:fn.params= #[32]) (hr:fn.resultTypes= #[4]) (hv:s.vars=[]) (hs:∀(H:Type) (d:DataW H),s.fn H [d]={results:=[.lit (.bool true)],args:=[d]})
 (hc:∀(S:List AB) (L:List (List Obj)) (G:List Gr) (na nn:Nat),S.length<Be→(∀s∈S,Kw s)→G.length<Be→(∀g∈G,Ja g)→na<Be→nn<Be→L.length<Be→(∀l∈L,l.length<Be∧∀o∈l,FK o)→Aa pg f [.agg (LS S L G na nn)] [] fun r _=>r= .bool true)
 (W:World) (base:Nat) (args:Array Value) (ds gs:List (DataW H)) (before:List MemPlace) (hval:∀(j:Nat) t v,fn.params[j]?=some t→args[j]?=some v→Value.okWide pg W .any base t v)
 (hW:DataW.Whole enc pg fn.params.toList s.vars false W args.toList ds gs before) (hsz:(DataW.weightsEach pg (fn.params.toList++s.plain.varTypes pg) (ds++gs)).all (·≤reachBytes)=true):
 Calls pg f args W fun e W' =>∃v,e= .returned v∧s.post enc pg fn false fresh handsOn again W args v W' :=by
 have hW0:=hW
 obtain⟨p,q,hA,hV,rfl,hz,hn⟩:=hW
 rw[hv] at hV
 obtain⟨rfl,rfl⟩:=trodVars_none hV
 rw[hp] at hA hval hsz
 obtain⟨v0,d0,ha,rfl,fuel,h0⟩:=trodAll_one hA
 obtain rfl:args= #[v0]:=by cases args;simp_all
 have hok:=hval 0 32 v0 rfl rfl
 unfold Value.okWide at hok
 rw[Tryz.underlying32] at hok
 obtain⟨cs,rfl,_,_⟩:=hok
 obtain⟨⟨S,L,⟨G,na⟩,nn⟩,hvr,⟨g1,g2⟩,⟨g3,g4⟩,⟨⟨g5,g6⟩,g7⟩,g8⟩:=ag fuel cs.toList _ h0 (fun n hn' =>by
  have:=List.all_eq_true.1 hsz n (DataW.weights_mem_each (j:=0) (t:=32) (d:=d0) rfl rfl n hn')
  simpa using this)
 refine((hc S L G na nn g1 g2 g5 g6 g7 g8 g3 g4).2 W (SA W) σ0 (fun _=>none) #[.agg cs] (Ly ⟨cs,rfl,hvr⟩) (Ys W) (fun g hg=>⟨rfl,hg⟩)).mono ?_
 rintro e W' ⟨r,v,M',σ',own',fpr,rfl,rfl,_,hvv,_,_,_,hE,_⟩
 have hvt:v= .bool true:=hvv.1
 exact⟨v,rfl,Rt hW0 (by rw[hp];intro t ht;simp at ht;subst ht;exact of_decide_eq_true (by kernel_rfl)) hv hE (by simpa using hs H d0) hr hvt⟩
end
end Go.Abs
set_option maxRecDepth 100000
namespace Go.Abs
open Go.Proofs
end Go.Abs
set_option maxRecDepth 100000
namespace Go.Abs
open Go.Proofs
def By:List Bool→Int→Int→List (Int×Int)
 | [],i,a=>if a<i then [(a,i-a)] else []
 |false::t,i,a=>By t (i+1) a
 |true::t,i,a=>(if a<i then [(a,i-a)] else [])++By t (i+1) (i+1)
theorem Gj:∀(t:List Bool) (i a:Int),(By t i a).length≤t.length+1
 | [],i,a=>by unfold By;split<;>simp
 |false::t,i,a=>by have:=Gj t (i+1) a;unfold By;simp;omega
 |true::t,i,a=>by
  have:=Gj t (i+1) (i+1)
  unfold By
  split<;>simp<;>omega
theorem Ru {t:List Bool} {i:Nat} (h:i<t.length) (b:t[i]=true) (a:Int):By (t.drop i) i a=(if a<i then [(a,(i:Int)-a)] else [])++By (t.drop (i+1)) ((i:Int)+1) ((i:Int)+1):=by
 rw[List.drop_eq_getElem_cons h,b,By]
theorem Qb {t:List Bool} {i:Nat} (h:i<t.length) (b:t[i]=false) (a:Int):By (t.drop i) i a=By (t.drop (i+1)) ((i:Int)+1) a:=by
 rw[List.drop_eq_getElem_cons h,b,By]
theorem Jc {t:List Bool} {i:Nat} (h:t.length≤i) (i' a:Int):By (t.drop i) i' a=if a<i' then [(a,i' -a)] else []:=by
 rw[List.drop_eq_nil_of_le h,By]
theorem Rv (t:List Bool) (ht:t.length<1000000000):Aa pg 122 [.ro t.length (AG t)] [] (fun r _=>r= .own 2 (By t 0 0).length (Af At (By t 0 0))):=by
 refine Aa.start (fn:=Tryz.f122) [.tmp 2] tk rfl rfl rfl (by kernel_rfl) (Nat.le_of_ble_eq_true rfl) rfl (by kernel_rfl) ?_
 rw[Au]
 refine zs ?_
 refine zs ?_
 obtain⟨g,hg⟩:∃g,g=By t 0 0:=⟨_,rfl⟩
 have hgl:g.length≤t.length+1:=by rw[hg];exact Gj ..
 rw[←hg]
 (repeat refine W.seq ?_);refine W.block (W.loopS (fun x:Nat×Nat=> [(0,.ro t.length (AG t)),(2,.tok 0 x.2 2 0 x.2),(3,.int .i64 x.1)]) (fun x=> [.live x.2 (Af At (g.take x.2))]) (fun x=>t.length+1-x.1) (fun x=>x.1≤t.length+1∧x.2≤x.1∧x.2≤g.length∧g.drop x.2=By (t.drop x.1) x.1 x.1) (0,0) ((Wk.nil (t:=2) (s:=2) (by simp)).trans (Wk.fr (by simp[Ad]))) ⟨by omega,by omega,by omega,by simp[hg]⟩ ?_)
 rintro⟨i,k⟩ ⟨hi,hki,hkg,hk⟩
 simp only at hi hki hkg hk ⊢
 by_cases c1:i<t.length
 rotate_left
 .refine Ae c1 ?_;intro K hK
  refine zk ?_;clear hK K
  refine zn ?_
  refine W.exit ?_
  have:k=g.length:=by
   rw[Jc (by omega),if_neg (by omega)] at hk
   have:=congrArg List.length hk
   simp at this;omega
  subst this
  rw[List.take_length]
  refine zs ?_
  exact zR
 refine Ae c1 ?_;intro K hK
 refine zk ?_;clear hK K
 refine zt ?_
 refine W.skip ?_
 refine zb ?_
 refine zs ?_
 (repeat refine W.seq ?_);refine W.block (W.loopS (fun j:Nat=> [(0,.ro t.length (AG t)),(2,.tok 0 k 2 0 k),(3,.int .i64 j),(4,.int .i64 i)]) (fun _=> [.live k (Af At (g.take k))]) (fun j=>t.length-j) (fun j=>i≤j∧j≤t.length∧g.drop k=By (t.drop j) j i) i (Wk.fr (by simp[Ad])) ⟨by omega,by omega,hk⟩ ?_)
 rintro j ⟨hij,hjl,hj⟩
 by_cases c2:∃h:j<t.length,t[j]=false
 .obtain⟨c2,c3⟩:=c2
  refine Ae (an c2 c3) ?_;intro K hK
  refine zk ?_;clear hK K
  refine zt ?_
  refine W.skip ?_
  refine zb ?_
  refine zs ?_
  exact⟨j+1,by omega,⟨by omega,by omega,by rw[hj,Qb c2 c3];simp⟩,Wk.fr (by simp[Ad])⟩
 have hrest:∃l,g.drop k=(if i<j then [((i:Int),(j:Int)-i)] else [])++l∧l=By (t.drop (j+1)) ((j:Int)+1) ((j:Int)+1):=by
  refine⟨_,?_,rfl⟩
  rw[hj]
  by_cases c3:j<t.length
  .have c4:t[j]=true:=by
    cases e:t[j]
    .exact absurd ⟨c3,e⟩ c2
    .rfl
   rw[Ru c3 c4]
   by_cases e:i<j<;>simp[e]
  .rw[Jc (by omega),Jc (by omega),if_neg (show¬((j:Int)+1<(j:Int)+1) by omega),List.append_nil]
   by_cases e:i<j<;>simp[e]
 obtain⟨l,hl,hle⟩:=hrest
 (repeat refine W.seq ?_);refine W.midS (fun _:Unit=> [(0,.ro t.length (AG t)),(2,.tok 0 k 2 0 k),(3,.int .i64 j),(4,.int .i64 i),(22,.bool false)]) (fun _=> [.live k (Af At (g.take k))]) (fun _=>True) ?_ ?_
 .by_cases c3:j<t.length
  .have c4:t[j]=true:=by
    cases e:t[j]
    .exact absurd ⟨c3,e⟩ c2
    .rfl
   refine Ae (an c3 c4) ?_;intro K hK
   refine zk ?_;clear hK K
   exact⟨(),trivial,Wk.fr (by simp[Ad])⟩
  .refine Ae c3 ?_;intro K hK
   refine zk ?_;clear hK K
   exact⟨(),trivial,Wk.fr (by simp[Ad])⟩
 rintro _ _
 refine zn ?_
 refine W.exit ?_
 by_cases c5:i<j
 .have c5' :(i:Int)<(j:Int):=by omega
  rw[if_pos c5] at hl
  have hkl:k<g.length:=by
   have:=congrArg List.length hl
   simp at this;omega
  have hgk:g[k]=((i:Int),(j:Int)-i):=by
   have:=List.drop_eq_getElem_cons hkl
   rw[hl] at this
   simpa using (List.cons.inj this).1.symm
  have hdl:g.drop (k+1)=l:=by
   have:=List.drop_eq_getElem_cons hkl
   rw[hl] at this
   simpa using (List.cons.inj this).2.symm
  have hto:g.take (k+1)=g.take k++[((i:Int),(j:Int)-i)]:=by
   rw[List.take_add_one];simp[hkl,hgk]
  refine Ae c5' ?_;intro K hK
  refine zk ?_;clear hK K
  refine zt ?_
  refine Lz hkl ?_;intro K hK
  refine⟨by omega,by omega,?_⟩
  refine zk ?_;clear hK K
  refine zs ?_
  refine⟨(j+1,k+1),by simp only;omega,⟨by simp only;omega,by simp only;omega,by simp only;omega,by simp only;rw[hdl,hle];simp⟩,Wk.cutM (k:=1) (by simp[Ad]) ?_ (by simp) (by simp) (by simp) (by simp)⟩
  rw[hto]
  simp[C2,AK,At]
 .have c5' :¬(i:Int)<(j:Int):=by omega
  rw[if_neg c5,List.nil_append] at hl
  refine Ae c5' ?_;intro K hK
  refine zk ?_;clear hK K
  refine zn ?_
  refine W.skip ?_
  refine zs ?_
  refine⟨(j+1,k),by simp only;omega,⟨by simp only;omega,by simp only;omega,hkg,by simp only;rw[hl,hle];simp⟩,Wk.fr (by simp[Ad])⟩
def DS (l:List (Int×Int)) (blocks n:Int):Int×Int:=
 if B6 l blocks∧(1≤n∧n≤100) then match (By (Bx l blocks.toNat) 0 0).find? fun x=>decide (n≤x.2) with
  |some x=>(x.1,0)
  |none=>(0,5)
 else(0,1)
theorem S7 {α:Type} {p:α→Bool} {g:List α} {k:Nat} (hk:k<g.length) (h:∀x∈g.take k,p x=false) (hp:p g[k]=true):g.find? p=some g[k]:=by
 have e:g=g.take k++g[k]::g.drop (k+1):=by rw[←List.drop_eq_getElem_cons hk,List.take_append_drop]
 have e2:(g.take k++g[k]::g.drop (k+1)).find? p=some g[k]:=by
  rw[List.find?_append,List.find?_eq_none.2 (by intro x hx;simpa using h x hx)]
  simp only[Option.none_or,List.find?_cons,hp]
 exact(congrArg (List.find? p) e).trans e2
theorem Rw {α:Type} {p:α→Bool} {g:List α} {k:Nat} (hk:k<g.length) (h:∀x∈g.take k,p x=false) (hp:p g[k]=false):∀x∈g.take (k+1),p x=false:=by
 intro x hx
 rw[List.take_succ_eq_append_getElem hk,List.mem_append] at hx
 rcases hx with hx|hx
 .exact h x hx
 .simp at hx;subst hx;exact hp
theorem Xn (l:List (Int×Int)) (blocks n:Int) (hl:l.length<1000000000):Aa pg 119 [.ro l.length (Af At l),.int .i64 blocks,.int .i64 n] [] (fun r _=>r= .tup [.int .i64 (DS l blocks n).1,.int .i64 (DS l blocks n).2]):=by
 have sp:=L9 l blocks hl
 refine Aa.start (fn:=Tryz.f119) [.tmp 6,.tmp 7] tk rfl rfl rfl (by kernel_rfl) (Nat.le_of_ble_eq_true rfl) rfl (by kernel_rfl) ?_
 rw[Bh]
 refine zs ?_
 by_cases c1:B6 l blocks
 rotate_left
 .rw[FW,if_neg c1] at sp
  refine z0 ?_;intro K hK
  refine Ab.eq sp (by simp) (by simp) ?_
  refine zx ?_
  refine zk ?_;clear hK K
  refine zs ?_
  refine zt ?_
  refine zs ?_
  refine zr ?_
  simp[DS,c1]
 rw[FW,if_pos c1] at sp
 have hn:blocks.toNat≤100:=by have:=c1.2.1;omega
 refine z0 ?_;intro K hK
 refine Ab.eq sp (by simp) (by simp) ?_
 refine zx ?_
 refine zk ?_;clear hK K
 refine z0 ?_;intro K hK
 refine Ab.eq (OM n) (by simp) (by simp) ?_
 by_cases c2:1≤n∧n≤100
 rotate_left
 .rw[decide_eq_false c2]
  refine zx ?_
  refine zk ?_;clear hK K
  refine zt ?_
  refine zs ?_
  refine zr ?_
  simp[DS,c2]
 rw[decide_eq_true c2]
 refine zx ?_
 refine zk ?_;clear hK K
 refine zn ?_
 refine W.skip ?_
 have spg:=Rv (Bx l blocks.toNat) (by simp;omega)
 rw[LK] at spg
 obtain⟨g,hg⟩:∃g,g=By (Bx l blocks.toNat) 0 0:=⟨_,rfl⟩
 have hgl:g.length≤blocks.toNat+1:=by have:=Gj (Bx l blocks.toNat) 0 0;rw[hg];simpa using this
 have hfs:DS l blocks n=match g.find? fun x=>decide (n≤x.2) with|some x=>(x.1,0) |none=>(0,5):=by
  unfold DS;rw[if_pos ⟨c1,c2⟩,hg]
 rw[←hg] at spg
 refine z0 ?_;intro K hK
 refine Ab.eq spg (by simp) (by simp) ?_
 refine zx ?_
 refine zk ?_;clear hK K
 (repeat refine W.seq ?_);refine W.block (W.loopS (fun k:Nat=> [(2,.int .i64 n),(26,.tok 1 0 2 0 g.length),(27,.int .i64 g.length),(28,.int .i64 k)]) (fun _=> [.live 0 (AG (Bx l blocks.toNat)),.live 0 (Af At g)]) (fun k=>g.length-k) (fun k=>k≤g.length∧∀x∈g.take k,decide (n≤x.2)=false) 0 (Wk.fr (by simp[Ad])) ⟨by omega,by simp⟩ ?_)
 rintro k ⟨hk,hm⟩
 by_cases c3:k<g.length
 rotate_left
 .have c3' :¬(k:Int)<(g.length:Int):=by omega
  refine Ae c3' ?_;intro K hK
  refine zk ?_;clear hK K
  refine zn ?_
  refine W.exit ?_
  rw[List.take_of_length_le (by omega)] at hm
  rw[List.find?_eq_none.2 (by intro x hx;simpa using hm x hx)] at hfs
  refine zs ?_
  refine zr ?_
  simp[hfs]
 have c3' :(k:Int)<(g.length:Int):=by omega
 refine Ae c3' ?_;intro K hK
 refine zk ?_;clear hK K
 refine zt ?_
 refine W.skip ?_
 refine zb ?_
 have k0:(Af At g)[k*2]?=some (.int .i64 g[k].1):=BU (f:=At) (s:=2) (fun _=>rfl) c3 (i:=0) (by omega)
 have k1:(Af At g)[k*2+1]?=some (.int .i64 g[k].2):=BU (f:=At) (s:=2) (fun _=>rfl) c3 (i:=1) (by omega)
 refine Lz (an c3 (an k0 k1)) ?_;intro K hK
 refine zk ?_;clear hK K
 by_cases c4:n≤g[k].2
 .rw[S7 (p:=fun x=>decide (n≤x.2)) c3 hm (by simpa using c4)] at hfs
  refine Ae c4 ?_;intro K hK
  refine zk ?_;clear hK K
  refine zt ?_
  refine z0 ?_;intro K hK
  refine zk ?_;clear hK K
  refine zr ?_
  simp[hfs]
 .refine Ae c4 ?_;intro K hK
  refine zk ?_;clear hK K
  refine zn ?_
  refine W.skip ?_
  refine zs ?_
  refine⟨k+1,by omega,⟨by omega,Rw c3 hm (by simpa using c4)⟩,Wk.cutM (k:=2) (by simp[Ad]) (by simp) (by simp) (by simp) (by simp) (by simp)⟩
def Dz (l:List (Int×Int)) (blocks:Int):Int×Int:=
 if B6 l blocks then(((By (Bx l blocks.toNat) 0 0).map fun x=>x.2).sum,0) else(0,1)
end Go.Abs
set_option maxRecDepth 100000
namespace Go.Abs
open Go.Proofs
theorem S8 (xs:List Bi) (hx:xs.length<1000000000):Aa pg 134 [.ro xs.length (Af AN xs)] [] (fun r _=>r= .own 8 xs.length (Af AN xs)):=by
 refine Aa.start (fn:=Tryz.f134) [.tmp 2] tk rfl rfl rfl (by kernel_rfl) (Nat.le_of_ble_eq_true rfl) rfl (by kernel_rfl) ?_
 rw[Au]
 refine zs ?_
 refine z0 ?_;intro K hK
 refine⟨fun h=>?_,fun h=>⟨?_,?_⟩⟩
 .refine zk ?_;clear hK K
  refine zn ?_
  refine W.skip ?_
  refine z1 ?_;intro K hK
  refine⟨by omega,by omega,?_⟩
  refine zk ?_;clear hK K
  exact zR
 .refine zk ?_;clear hK K
  refine zn ?_
  refine W.skip ?_
  subst h
  refine z1 ?_;intro K hK;refine zk ?_;clear hK K
  exact zR
 .refine zk ?_;clear hK K
  refine zt ?_
  refine zs ?_
  refine zr ?_
  simp[h]
theorem S9 (xs:List CR) (hx:xs.length<1000000000):Aa pg 135 [.ro xs.length (Af (AI false) xs)] [] (fun r _=>r= .own 12 xs.length (Af (AI false) xs)):=by
 refine Aa.start (fn:=Tryz.f135) [.tmp 2] tk rfl rfl rfl (by kernel_rfl) (Nat.le_of_ble_eq_true rfl) rfl (by kernel_rfl) ?_
 rw[Au]
 refine zs ?_
 refine z0 ?_;intro K hK
 refine⟨fun h=>?_,fun h=>⟨?_,?_⟩⟩
 .refine zk ?_;clear hK K
  refine zn ?_
  refine W.skip ?_
  refine z1 ?_;intro K hK
  refine⟨by omega,by omega,?_⟩
  refine zk ?_;clear hK K
  exact zR
 .refine zk ?_;clear hK K
  refine zn ?_
  refine W.skip ?_
  subst h
  refine z1 ?_;intro K hK;refine zk ?_;clear hK K
  exact zR
 .refine zk ?_;clear hK K
  refine zt ?_
  refine zs ?_
  refine zr ?_
  simp[h]
theorem Ta (xs:List (List Int)) (hx:xs.length<1000000000):Aa pg 169 [.ro xs.length (AC false xs)] [] (fun r _=>r= .own 1 xs.length (AC false xs)):=by
 refine Aa.start (fn:=Tryz.f169) [.tmp 2] tk rfl rfl rfl (by kernel_rfl) (Nat.le_of_ble_eq_true rfl) rfl (by kernel_rfl) ?_
 rw[Au]
 refine zs ?_
 refine z0 ?_;intro K hK
 refine⟨fun h=>?_,fun h=>⟨?_,?_⟩⟩
 .refine zk ?_;clear hK K
  refine zn ?_
  refine W.skip ?_
  refine z1 ?_;intro K hK
  refine⟨by omega,by omega,?_⟩
  refine zk ?_;clear hK K
  exact zR
 .refine zk ?_;clear hK K
  refine zn ?_
  refine W.skip ?_
  subst h
  refine z1 ?_;intro K hK;refine zk ?_;clear hK K
  exact zR
 .refine zk ?_;clear hK K
  refine zt ?_
  refine zs ?_
  refine zr ?_
  simp[h]
def Gw (k:Nat) (xs:List (List Int)):List AV:=AC true (xs.take k)++AC false (xs.drop k)
theorem U9 (k:Nat) (xs:List (List Int)):(Gw k xs).length=xs.length:=by simp[Gw];omega
theorem Kc (m:Bool) {k:Nat} {xs:List (List Int)} (h:k≤xs.length):(AC m (xs.take k)).length=k:=by simp[AC];omega
theorem Va {k:Nat} {xs:List (List Int)} (h:k<xs.length):(Gw k xs)[k]?=some (.ro xs[k].length (Ac xs[k])):=by
 have hl:=Kc true (Nat.le_of_lt h)
 unfold Gw
 rw[List.getElem?_append_right (by omega),hl,Nat.sub_self,List.drop_eq_getElem_cons h]
 rfl
theorem Vb {k:Nat} {xs:List (List Int)} (h:k<xs.length):(Gw k xs).set k (.own 1 xs[k].length (Ac xs[k]))=Gw (k+1) xs:=by
 have hl:=Kc true (Nat.le_of_lt h)
 have e:AC true (xs.take (k+1))=AC true (xs.take k)++[.own 1 xs[k].length (Ac xs[k])]:=by
  rw[List.take_succ_eq_append_getElem h];simp only[AC,List.map_append];rfl
 unfold Gw
 rw[List.set_append_right _ _ (by omega),hl,Nat.sub_self,List.drop_eq_getElem_cons h,e,List.append_assoc]
 rfl
theorem Jd (k n:Nat) (xs:List (List Int)):C4 n (Gw k xs)=true:=by simp[Gw]
theorem Yt (xs:List (List Int)):AC false xs=Gw 0 xs:=by simp[Gw]
theorem Vc {k:Nat} {xs:List (List Int)} (h:xs.length≤k):Gw k xs=AC true xs:=by
 unfold Gw
 rw[List.take_of_length_le h,List.drop_eq_nil_of_le h];simp
theorem Xo (g:Gr) (hg:EX g):Aa pg 136 [.agg (AU false g)] [] (fun r _=>r= .agg (AU true g)):=by
 have h1:=hg.1
 refine Aa.start (fn:=Tryz.f136) [.cell 2 51] tk rfl rfl rfl (by kernel_rfl) (Nat.le_of_ble_eq_true rfl) rfl (by kernel_rfl) ?_
 rw[Au]
 refine z2 ?_;intro K hK;refine zk ?_;clear hK K
 refine z0 ?_;intro K hK
 refine Ab.eqr (Ta g.out (by omega)) (by simp) ?_
 refine zx ?_
 refine zk ?_;clear hK K
 refine z0 ?_;intro K hK
 refine zk ?_;clear hK K
 rw[Yt g.out]
 (repeat refine W.seq ?_);refine W.block (W.loopS (fun k:Nat=> [(1,.ptr 0 0 0),(2,.ptr 1 0 0),(10,.int .i64 g.out.length),(11,.int .i64 k)]) (fun k=> [.live 0 [.int .i64 g.n,.tok 2 0 1 0 g.out.length],.live 0 [.int .i64 0,.own 1 0 []],.live 0 (Gw k g.out)]) (fun k=>g.out.length-k) (fun k=>k≤g.out.length) 0 (Wk.fr (by simp[Ad])) (by simp) ?_)
 intro k hk
 by_cases c1:k<g.out.length
 rotate_left
 .have c1' :¬(k:Int)<(g.out.length:Int):=by omega
  refine Ae c1' ?_;intro K hK
  refine zk ?_;clear hK K
  refine zn ?_
  refine W.exit ?_
  rw[Vc (by omega)]
  refine z0 ?_;intro K hK
  refine zk ?_;clear hK K
  exact zR
 have c1' :(k:Int)<(g.out.length:Int):=by omega
 refine Ae c1' ?_;intro K hK
 refine zk ?_;clear hK K
 refine zt ?_
 refine W.skip ?_
 refine zb ?_
 refine zs ?_
 have hg0:=Va c1
 have hml:=U9 k g.out
 have hg1:(Gw k g.out)[k]'(by omega)= .ro g.out[k].length (Ac g.out[k]):=by
  rw[List.getElem?_eq_getElem (by omega)] at hg0;simpa using hg0
 refine Bw (an c1 (an hg1 hml)) ?_;intro K hK
 refine Ah.eqr (GJ g.out[k] (by have:=hg.2 _ (List.getElem_mem c1);omega)) (by simp) ?_
 refine AR (an c1 hml) ?_
 refine zk ?_;clear hK K
 have hnm:=Jd k 3 g.out
 refine zs ?_
 refine⟨k+1,by omega,by omega,(Wk.intern (B:=2) (v:=0) (j:=k) (T:=3) (u:=0) (s:=1) (off:=0) (n:=g.out[k].length) (cs:=(Gw k g.out).set k (AV.tok 3 0 1 0 g.out[k].length)) (xs:=Ac g.out[k]) (by simp) (by rw[List.getElem?_set_self (by omega)]) (by simp) (by simp) (by simp) (by simp)).trans (Wk.cutM (k:=3) (by simp[Ad]) ?_ (by simp[Jd]) (by simp[Jd]) (by simp[Jd]) (by simp[Jd]))⟩
 rw[←Vb c1]
 simp
end Go.Abs
