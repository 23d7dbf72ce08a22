/- References: may a session be? -/
import Derived.Test.YtoklapibcmnaeaaGreatP12
import Derived.Test.YtoklapibcmnaeaaGreatRows
import Derived.JoinedOf
set_option linter.unusedVariables false
set_option linter.unusedSimpArgs false
set_option maxRecDepth 100000
namespace Go.Abs
open Go.Proofs
set_option maxHeartbeats 2000000 in
theorem RL (s:An) (l:List Obj) (x:CZ) (hs:AS s) (hlo:En l) (hx:Eb x) (hm:Ca l) (ho:x.opn=true) (hp:x.pin=0):Aa pg 69 [.agg (Ao false s),.ro l.length (Ac As l),.agg (Az false x)] [] (fun r _=>r= .bool (decide (AG s l x))):=by
 refine Aa.start (fn:=Tryz.f69) [.tmp 6] tk rfl rfl rfl (by kernel_rfl) (Nat.le_of_ble_eq_true rfl) rfl (by kernel_rfl) ?_
 rw[Bl]
 refine z2 ?_;intro K hK;refine zk ?_;clear hK K
 refine Af ho ?_;intro K hK
 refine zk ?_;clear hK K
 refine zn ?_
 refine W.skip ?_
 refine Af hp ?_;intro K hK
 refine zk ?_;clear hK K
 refine zn ?_
 refine W.skip ?_
 cases hon:x.on
 .by_cases hf:x.frm=0
  .by_cases hst:x.stage=AI
   .have spE:=FZ x.stage AI hx.1
    rw[decide_eq_true hst] at spE
    refine Bx (an hon hf) ?_;intro K hK
    refine Ah.eq spE (by simp[AI]) (by simp) ?_
    refine AX hon ?_
    refine zk ?_;clear hK K
    refine zn ?_
    refine W.skip ?_
    refine z0 ?_;intro K hK
    refine Ab.eq (Hj x.job CS hx.2) (by simp[CS]) (by simp) ?_
    by_cases hj:x.job=CS
    .rw[decide_eq_true hj]
     refine zx ?_
     refine zk ?_;clear hK K
     refine zt ?_
     refine zs ?_
     refine zr ?_
     simp[AG,ho,hp,hon,hf,hst,hj]
    .rw[decide_eq_false hj]
     refine zx ?_
     refine zk ?_;clear hK K
     refine zn ?_
     refine W.skip ?_
     refine Af hp ?_;intro K hK
     refine zk ?_;clear hK K
     refine zt ?_
     refine zs ?_
     refine zr ?_
     simp[AG,ho,hp,hon,hf,hst,hj]
   .have spE:=FZ x.stage AI hx.1
    rw[decide_eq_false hst] at spE
    refine Bx (an hon hf) ?_;intro K hK
    refine Ah.eq spE (by simp[AI]) (by simp) ?_
    refine AX hon ?_
    refine zk ?_;clear hK K
    refine zt ?_
    refine zs ?_
    refine zr ?_
    simp[AG,ho,hp,hon,hf,hst]
    try omega
  .refine Bx (an hon hf) ?_;intro K hK
   refine zk ?_;clear hK K
   refine zt ?_
   refine zs ?_
   refine zr ?_
   simp[AG,ho,hp,hon,hf]
   try omega
 .have spL:=Nt s hs
  have spN:=Jt x.frm (AN s.vers)
  by_cases hf:0<=x.frm/\x.frm<=AN s.vers
  rotate_left
  .rw[decide_eq_false hf] at spN
   have hf' :0<=x.frm->¬x.frm<=AN s.vers:=fun a b=>hf ⟨a,b⟩
   refine Bx hon ?_;intro K hK
   refine Ah.eq spL (by simp) (by simp) ?_
   refine zx ?_
   refine Ah.eq spN (by simp) (by simp) ?_
   refine zx ?_
   refine zk ?_;clear hK K
   refine zt ?_
   refine zs ?_
   refine zr ?_
   simp only[AG,ho,hon,Bool.true_eq_false,if_false,if_true]
   exact fun h=>hf' h.2.1.1 h.2.1.2.1
  rw[decide_eq_true hf] at spN
  have spG:=KI x.stage hx.1
  by_cases hst:A3 x.stage
  .rw[decide_eq_true hst] at spG
   have hf1:=hf.1
   have hf2:=hf.2
   refine Bx hon ?_;intro K hK
   refine Ah.eq spL (by simp) (by simp) ?_
   refine zx ?_
   refine Ah.eq spN (by simp) (by simp) ?_
   refine zx ?_
   refine Ah.eq spG (by simp) (by simp) ?_
   refine zx ?_
   refine zk ?_;clear hK K
   refine zn ?_
   refine W.skip ?_
   refine z0 ?_;intro K hK
   refine Ab.eq (Hj x.job CS hx.2) (by simp[CS]) (by simp) ?_
   by_cases hj:x.job=CS
   .rw[decide_eq_true hj]
    refine zx ?_
    refine zk ?_;clear hK K
    refine zt ?_
    refine zs ?_
    refine zr ?_
    simp[AG,ho,hp,hon,hf1,hf2,hst,hj]
   .rw[decide_eq_false hj]
    refine zx ?_
    refine zk ?_;clear hK K
    refine zn ?_
    refine W.skip ?_
    refine Af hp ?_;intro K hK
    refine zk ?_;clear hK K
    refine zt ?_
    refine zs ?_
    refine zr ?_
    simp[AG,ho,hp,hon,hf1,hf2,hst,hj]
  .rw[decide_eq_false hst] at spG
   refine Bx hon ?_;intro K hK
   refine Ah.eq spL (by simp) (by simp) ?_
   refine zx ?_
   refine Ah.eq spN (by simp) (by simp) ?_
   refine zx ?_
   refine Ah.eq spG (by simp) (by simp) ?_
   refine zx ?_
   refine zk ?_;clear hK K
   refine zt ?_
   refine zs ?_
   refine zr ?_
   simp[AG,ho,hp,hon,hst]
   try omega
set_option maxHeartbeats 2000000 in
theorem RM (s:An) (l:List Obj) (x:CZ) (hs:AS s) (hlo:En l) (hx:Eb x) (hm:Ca l) (ho:x.opn=true) (hp:¬x.pin=0) (hin:∃v∈s.vers,v.id=x.pin):Aa pg 69 [.agg (Ao false s),.ro l.length (Ac As l),.agg (Az false x)] [] (fun r _=>r= .bool (decide (AG s l x))):=by
 refine Aa.start (fn:=Tryz.f69) [.tmp 6] tk rfl rfl rfl (by kernel_rfl) (Nat.le_of_ble_eq_true rfl) rfl (by kernel_rfl) ?_
 rw[Bl]
 refine z2 ?_;intro K hK;refine zk ?_;clear hK K
 have spA:=aG s x.pin hs
 have hix:¬AL (fun v:AM=>decide (v.id=x.pin)) s.vers<0:=by
  have:=(CM (f:=fun v:AM=>decide (v.id=x.pin)) (l:=s.vers)).2 (by simpa using hin)
  omega
 have hin' :(∃v∈s.vers,v.id=x.pin)=True:=eq_true hin
 refine Af ho ?_;intro K hK
 refine zk ?_;clear hK K
 refine zn ?_
 refine W.skip ?_
 refine Af hp ?_;intro K hK
 refine Ab.eq spA (by simp) (by simp) ?_
 refine AX hix ?_
 refine zk ?_;clear hK K
 refine zn ?_
 refine W.skip ?_
 cases hon:x.on
 .by_cases hf:x.frm=0
  .by_cases hst:x.stage=AI
   .have spE:=FZ x.stage AI hx.1
    rw[decide_eq_true hst] at spE
    refine Bx (an hon hf) ?_;intro K hK
    refine Ah.eq spE (by simp[AI]) (by simp) ?_
    refine AX hon ?_
    refine zk ?_;clear hK K
    refine zn ?_
    refine W.skip ?_
    refine z0 ?_;intro K hK
    refine Ab.eq (Hj x.job CS hx.2) (by simp[CS]) (by simp) ?_
    by_cases hj:x.job=CS
    .rw[decide_eq_true hj]
     refine zx ?_
     refine zk ?_;clear hK K
     refine zt ?_
     refine zs ?_
     refine zr ?_
     simp[AG,ho,hp,hin',hon,hf,hst,hj]
    .rw[decide_eq_false hj]
     refine zx ?_
     refine zk ?_;clear hK K
     refine zn ?_
     refine W.skip ?_
     refine Af hp ?_;intro K hK
     refine zk ?_;clear hK K
     refine zn ?_
     refine W.skip ?_
     have hgm:=Dc l x.pin
     have hre:AG s l x↔(Du (AP l x.pin).1 x.job=true/\BY (AP l x.pin).1 x.job=false):=by simp[AG,ho,hp,hin',hon,hf,hst,hj]
     have spO:=HQ l x.pin hlo hm
     obtain⟨g,hg⟩:∃g,g=(AP l x.pin).1:=⟨_,rfl⟩
     obtain⟨e,hee⟩:∃e,e=(AP l x.pin).2:=⟨_,rfl⟩
     rw[<-hg,<-hee] at spO
     rw[<-hg] at hgm hre
     have hde:decide (AG s l x)=(Du g x.job&&!BY g x.job):=by rw[Bool.eq_iff_iff];simp[hre]
     rw[hde]
     have spJ:=Tg g x.job hgm hx.2
     refine z1 ?_;intro K hK
     refine Ab.eq spO (by simp) (by simp) ?_
     refine zx ?_
     (repeat refine⟨by first|assumption|omega,?_⟩);refine hK _ _ ?_;clear hK K
     cases hjo:Du g x.job
     .rw[hjo] at spJ
      refine z0 ?_;intro K hK
      refine Ab.eq spJ (by simp) (by simp) ?_
      refine zx ?_
      refine zk ?_;clear hK K
      refine W.ret ?_;simp only[CH,Ds,C0];refine CR (d:=0) ?_;simp -implicitDefEqProofs (maxSteps:=999999) (disch:=omega)
      (try simp[hjo])
     .rw[hjo] at spJ
      refine z0 ?_;intro K hK
      refine Ab.eq spJ (by simp) (by simp) ?_
      refine zx ?_
      refine Ab.eq (Nu g x.job (by have:=hx.2.1;omega)) (by simp) (by simp) ?_
      refine zx ?_
      refine zk ?_;clear hK K
      refine W.ret ?_;simp only[CH,Ds,C0];refine CR (d:=0) ?_;simp -implicitDefEqProofs (maxSteps:=999999) (disch:=omega)
      (try simp[hjo])
   .have spE:=FZ x.stage AI hx.1
    rw[decide_eq_false hst] at spE
    refine Bx (an hon hf) ?_;intro K hK
    refine Ah.eq spE (by simp[AI]) (by simp) ?_
    refine AX hon ?_
    refine zk ?_;clear hK K
    refine zt ?_
    refine zs ?_
    refine zr ?_
    simp[AG,ho,hp,hin',hon,hf,hst]
    try omega
  .refine Bx (an hon hf) ?_;intro K hK
   refine zk ?_;clear hK K
   refine zt ?_
   refine zs ?_
   refine zr ?_
   simp[AG,ho,hp,hin',hon,hf]
   try omega
 .have spL:=Nt s hs
  have spN:=Jt x.frm (AN s.vers)
  by_cases hf:0<=x.frm/\x.frm<=AN s.vers
  rotate_left
  .rw[decide_eq_false hf] at spN
   have hf' :0<=x.frm->¬x.frm<=AN s.vers:=fun a b=>hf ⟨a,b⟩
   refine Bx hon ?_;intro K hK
   refine Ah.eq spL (by simp) (by simp) ?_
   refine zx ?_
   refine Ah.eq spN (by simp) (by simp) ?_
   refine zx ?_
   refine zk ?_;clear hK K
   refine zt ?_
   refine zs ?_
   refine zr ?_
   simp only[AG,ho,hon,Bool.true_eq_false,if_false,if_true]
   exact fun h=>hf' h.2.1.1 h.2.1.2.1
  rw[decide_eq_true hf] at spN
  have spG:=KI x.stage hx.1
  by_cases hst:A3 x.stage
  .rw[decide_eq_true hst] at spG
   have hf1:=hf.1
   have hf2:=hf.2
   refine Bx hon ?_;intro K hK
   refine Ah.eq spL (by simp) (by simp) ?_
   refine zx ?_
   refine Ah.eq spN (by simp) (by simp) ?_
   refine zx ?_
   refine Ah.eq spG (by simp) (by simp) ?_
   refine zx ?_
   refine zk ?_;clear hK K
   refine zn ?_
   refine W.skip ?_
   refine z0 ?_;intro K hK
   refine Ab.eq (Hj x.job CS hx.2) (by simp[CS]) (by simp) ?_
   by_cases hj:x.job=CS
   .rw[decide_eq_true hj]
    refine zx ?_
    refine zk ?_;clear hK K
    refine zt ?_
    refine zs ?_
    refine zr ?_
    simp[AG,ho,hp,hin',hon,hf1,hf2,hst,hj]
   .rw[decide_eq_false hj]
    refine zx ?_
    refine zk ?_;clear hK K
    refine zn ?_
    refine W.skip ?_
    refine Af hp ?_;intro K hK
    refine zk ?_;clear hK K
    refine zn ?_
    refine W.skip ?_
    have hgm:=Dc l x.pin
    have hre:AG s l x↔(Du (AP l x.pin).1 x.job=true/\BY (AP l x.pin).1 x.job=false):=by simp[AG,ho,hp,hin',hon,hf1,hf2,hst,hj]
    have spO:=HQ l x.pin hlo hm
    obtain⟨g,hg⟩:∃g,g=(AP l x.pin).1:=⟨_,rfl⟩
    obtain⟨e,hee⟩:∃e,e=(AP l x.pin).2:=⟨_,rfl⟩
    rw[<-hg,<-hee] at spO
    rw[<-hg] at hgm hre
    have hde:decide (AG s l x)=(Du g x.job&&!BY g x.job):=by rw[Bool.eq_iff_iff];simp[hre]
    rw[hde]
    have spJ:=Tg g x.job hgm hx.2
    refine z1 ?_;intro K hK
    refine Ab.eq spO (by simp) (by simp) ?_
    refine zx ?_
    (repeat refine⟨by first|assumption|omega,?_⟩);refine hK _ _ ?_;clear hK K
    cases hjo:Du g x.job
    .rw[hjo] at spJ
     refine z0 ?_;intro K hK
     refine Ab.eq spJ (by simp) (by simp) ?_
     refine zx ?_
     refine zk ?_;clear hK K
     refine W.ret ?_;simp only[CH,Ds,C0];refine CR (d:=0) ?_;simp -implicitDefEqProofs (maxSteps:=999999) (disch:=omega)
     (try simp[hjo])
    .rw[hjo] at spJ
     refine z0 ?_;intro K hK
     refine Ab.eq spJ (by simp) (by simp) ?_
     refine zx ?_
     refine Ab.eq (Nu g x.job (by have:=hx.2.1;omega)) (by simp) (by simp) ?_
     refine zx ?_
     refine zk ?_;clear hK K
     refine W.ret ?_;simp only[CH,Ds,C0];refine CR (d:=0) ?_;simp -implicitDefEqProofs (maxSteps:=999999) (disch:=omega)
     (try simp[hjo])
  .rw[decide_eq_false hst] at spG
   refine Bx hon ?_;intro K hK
   refine Ah.eq spL (by simp) (by simp) ?_
   refine zx ?_
   refine Ah.eq spN (by simp) (by simp) ?_
   refine zx ?_
   refine Ah.eq spG (by simp) (by simp) ?_
   refine zx ?_
   refine zk ?_;clear hK K
   refine zt ?_
   refine zs ?_
   refine zr ?_
   simp[AG,ho,hp,hin',hon,hst]
   try omega
theorem RN (s:An) (l:List Obj) (x:CZ) (hs:AS s) (hlo:En l) (hx:Eb x) (hm:Ca l):Aa pg 69 [.agg (Ao false s),.ro l.length (Ac As l),.agg (Az false x)] [] (fun r _=>r= .bool (decide (AG s l x))):=by
 by_cases ho' :x.opn=false
 .have spE:=Lo x AR hx
  refine Aa.start (fn:=Tryz.f69) [.tmp 6] tk rfl rfl rfl (by kernel_rfl) (Nat.le_of_ble_eq_true rfl) rfl (by kernel_rfl) ?_
  rw[Bl]
  refine z2 ?_;intro K hK;refine zk ?_;clear hK K
  refine Af ho' ?_;intro K hK
  refine zk ?_;clear hK K
  refine zt ?_
  refine z0 ?_;intro K hK
  refine Ab.eq spE (by simp[AR,AI,CS,ho']) (by simp) ?_
  refine zx ?_
  refine zk ?_;clear hK K
  refine zr ?_
  simp[AG,ho']
 have ho:x.opn=true:=by cases h:x.opn<;>simp_all
 by_cases hp:x.pin=0
 .exact RL s l x hs hlo hx hm ho hp
 by_cases hin:∃v∈s.vers,v.id=x.pin
 .exact RM s l x hs hlo hx hm ho hp hin
 have spA:=aG s x.pin hs
 have hix:AL (fun v:AM=>decide (v.id=x.pin)) s.vers<0:=by
  have:=mt (CM (f:=fun v:AM=>decide (v.id=x.pin)) (l:=s.vers)).1 (by simpa using hin)
  omega
 have hin' :(∃v∈s.vers,v.id=x.pin)=False:=eq_false hin
 refine Aa.start (fn:=Tryz.f69) [.tmp 6] tk rfl rfl rfl (by kernel_rfl) (Nat.le_of_ble_eq_true rfl) rfl (by kernel_rfl) ?_
 rw[Bl]
 refine z2 ?_;intro K hK;refine zk ?_;clear hK K
 refine Af ho ?_;intro K hK
 refine zk ?_;clear hK K
 refine zn ?_
 refine W.skip ?_
 refine Af hp ?_;intro K hK
 refine Ab.eq spA (by simp) (by simp) ?_
 refine AX hix ?_
 refine zk ?_;clear hK K
 refine zt ?_
 refine zs ?_
 refine zr ?_
 simp only[AG,ho,hin',hp]
 simp
def L0 (s:An) (i:Nat) (h:i<s.vers.length):Prop:=(AP (Ai s) s.vers[i].id).2=0/\Gh s.vers[i]/\¬(s.vers[i].gone=true/\i+1=s.vers.length)
theorem JV (s:An):A2 s↔(1<=s.keep/\s.keep<=8)/\(1<=s.blocks/\s.blocks<=100)/\s.vers.length<=12/\s.sess.length=3/\Ca (Ai s)/\CL (Av s) s.blocks/\(∀i (h:i<s.vers.length),L0 s i h)/\∀x∈s.sess,AG s (Ai s) x:=by
 have hlast:Cy s.vers=false↔∀i (h:i<s.vers.length),¬(s.vers[i].gone=true/\i+1=s.vers.length):=by
  unfold Cy
  rw[List.getLast?_eq_getElem?]
  by_cases h0:s.vers.length=0
  .have:s.vers=[]:=List.eq_nil_of_length_eq_zero h0
   rw[this];simp
  .have hl:s.vers.length-1<s.vers.length:=by omega
   rw[List.getElem?_eq_getElem hl]
   simp only
   constructor
   .intro h i hi hg
    have:i=s.vers.length-1:=by omega
    subst this
    rw[h] at hg;simp at hg
   .intro h
    have:=h (s.vers.length-1) hl
    cases hg:(s.vers[s.vers.length-1]).gone
    .rfl
    .exact absurd ⟨hg,by omega⟩ this
 have hof:(∀o∈Ai s,(AP (Ai s) o.id).2=0)↔∀i (h:i<s.vers.length),(AP (Ai s) s.vers[i].id).2=0:=by
  constructor
  .intro h i hi
   exact h (Bm s.vers[i]) (List.mem_map.2 ⟨_,List.getElem_mem hi,rfl⟩)
  .intro h o ho
   obtain⟨v,hv,rfl⟩:=List.mem_map.1 ho
   obtain⟨i,hi,rfl⟩:=List.mem_iff_getElem.1 hv
   exact h i hi
 have hver:(∀v∈s.vers,Gh v)↔∀i (h:i<s.vers.length),Gh s.vers[i]:=by
  constructor
  .intro h i hi;exact h _ (List.getElem_mem hi)
  .intro h v hv
   obtain⟨i,hi,rfl⟩:=List.mem_iff_getElem.1 hv
   exact h i hi
 unfold A2 Ey GC
 rw[hlast,hof,hver]
 constructor
 .rintro⟨⟨⟨a1,a2,a3,a4,a5,a6,a7⟩,b,c,d⟩,e⟩
  exact⟨⟨a1,a2⟩,⟨a3,a4⟩,by have:=a7.1;simpa[Ai] using this,b,a7,e,fun i h=>⟨c i h,a5 i h,a6 i h⟩,d⟩
 .rintro⟨⟨a1,a2⟩,⟨a3,a4⟩,_,b,a7,e,f,d⟩
  exact⟨⟨⟨a1,a2,a3,a4,fun i h=>(f i h).2.1,fun i h=>(f i h).2.2,a7⟩,b,fun i h=>(f i h).1,d⟩,e⟩
set_option maxHeartbeats 2000000 in
theorem Va (s:An) (hs:AS s) (hx:Br s):Aa pg 13 [.agg (Ao false s)] [] (fun r _=>r= .bool (decide (A2 s))):=by
 have hi:=JV s
 have h1:=hs.1
 have h2:=hs.2.1
 have spK:=Fh s.keep 1 8
 have spB:=Fh s.blocks 1 100
 refine Aa.start (fn:=Tryz.f13) [.tmp 2] tk rfl rfl rfl (by kernel_rfl) (Nat.le_of_ble_eq_true rfl) rfl (by kernel_rfl) ?_
 rw[Ay]
 refine z1 ?_;intro K hK;refine zk ?_;clear hK K
 by_cases c1:1<=s.keep/\s.keep<=8
 rotate_left
 .rw[decide_eq_false c1] at spK
  refine z0 ?_;intro K hK
  refine Ab.eq spK (by simp) (by simp) ?_
  refine zx ?_
  refine zk ?_;clear hK K
  refine zt ?_
  refine zs ?_
  refine zr ?_
  exact fun h=>c1 (hi.1 h).1
 rw[decide_eq_true c1] at spK
 by_cases c2:1<=s.blocks/\s.blocks<=100
 rotate_left
 .rw[decide_eq_false c2] at spB
  refine z0 ?_;intro K hK
  refine Ab.eq spK (by simp) (by simp) ?_
  refine zx ?_
  refine Ab.eq spB (by simp) (by simp) ?_
  simp only[Fa];simp -implicitDefEqProofs (maxSteps:=999999) (disch:=omega) []
  refine zk ?_;clear hK K
  refine zt ?_
  refine zs ?_
  refine zr ?_
  exact fun h=>c2 (hi.1 h).2.1
 rw[decide_eq_true c2] at spB
 by_cases c3:s.vers.length<=12
 rotate_left
 .have c3' :(12:Int)<(s.vers.length:Int):=by omega
  refine z0 ?_;intro K hK
  refine Ab.eq spK (by simp) (by simp) ?_
  refine zx ?_
  refine Ab.eq spB (by simp) (by simp) ?_
  refine AX c3' ?_
  refine zk ?_;clear hK K
  refine zt ?_
  refine zs ?_
  refine zr ?_
  exact fun h=>c3 (hi.1 h).2.2.1
 have c3' :¬(12:Int)<(s.vers.length:Int):=by omega
 by_cases c4:s.sess.length=3
 rotate_left
 .have c4' :((s.sess.length:Int)=3)=False:=eq_false (by omega)
  refine z0 ?_;intro K hK
  refine Ab.eq spK (by simp) (by simp) ?_
  refine zx ?_
  refine Ab.eq spB (by simp) (by simp) ?_
  refine AX (an c3' c4') ?_
  refine zk ?_;clear hK K
  refine zt ?_
  refine zs ?_
  refine zr ?_
  exact fun h=>c4 (hi.1 h).2.2.2.1
 have c4' :((s.sess.length:Int)=3)=True:=eq_true (by omega)
 refine z0 ?_;intro K hK
 refine Ab.eq spK (by simp) (by simp) ?_
 refine zx ?_
 refine Ab.eq spB (by simp) (by simp) ?_
 refine AX (an c3' c4') ?_
 refine zk ?_;clear hK K
 refine zn ?_
 refine W.skip ?_
 have spO:=QZ s hs
 have spR:=Xq s hs
 have hlo:En (Ai s):=hs.objs
 have spM:=Te (Ai s) hlo
 have spP:=RK (Av s) s.blocks (by simp[Av];exact hs.1)
 obtain⟨l,hl⟩:∃l,l=Ai s:=⟨_,rfl⟩
 obtain⟨ps,hps⟩:∃ps,ps=Av s:=⟨_,rfl⟩
 have hll:l.length=s.vers.length:=by rw[hl];simp[Ai]
 rw[<-hl] at spO spM hlo
 rw[<-hps] at spR spP
 refine z0 ?_;intro K hK
 refine Ab.eq spO (by simp) (by simp) ?_
 refine zx ?_
 refine zk ?_;clear hK K
 by_cases c5:Ca l
 rotate_left
 .rw[decide_eq_false c5] at spM
  refine Cm ?_;intro K hK
  refine Ah.eq spM (by simp) (by simp) ?_
  refine zx ?_
  refine zk ?_;clear hK K
  refine zt ?_
  refine zs ?_
  refine zr ?_
  exact fun h=>c5 (by rw[hl];exact(hi.1 h).2.2.2.2.1)
 rw[decide_eq_true c5] at spM
 by_cases c6:CL ps s.blocks
 rotate_left
 .rw[decide_eq_false c6] at spP
  refine Cm ?_;intro K hK
  refine Ah.eq spM (by simp) (by simp) ?_
  refine zx ?_
  refine Ah.eq spR (by simp) (by simp) ?_
  refine zx ?_
  refine Ah.eq spP (by simp) (by simp) ?_
  refine zx ?_
  refine zk ?_;clear hK K
  refine zt ?_
  refine zs ?_
  refine zr ?_
  exact fun h=>c6 (by rw[hps];exact(hi.1 h).2.2.2.2.2.1)
 rw[decide_eq_true c6] at spP
 refine Cm ?_;intro K hK
 refine Ah.eq spM (by simp) (by simp) ?_
 refine zx ?_
 refine Ah.eq spR (by simp) (by simp) ?_
 refine zx ?_
 refine Ah.eq spP (by simp) (by simp) ?_
 refine zx ?_
 refine zk ?_;clear hK K
 refine zn ?_
 refine W.skip ?_
 refine zs ?_
 (repeat refine W.seq ?_);refine W.block (W.loopS (fun k:Nat=> [(1,.ptr 0 0 0),(3,.tok 1 0 4 0 l.length),(4,.int .i64 k)]) (fun _=> [.live 0 (Ao false s),.live 0 (Ac As l)]) (fun k=>s.vers.length-k) (fun k=>k<=s.vers.length/\∀i (h:i<s.vers.length),i<k->L0 s i h) 0 (Wk.cutM (k:=2) (by simp[Ad]) (by simp) (by simp) (by simp) (by simp) (by simp)) ⟨by omega,fun i h h2=>by omega⟩ ?_)
 rintro k ⟨hk,hok⟩
 refine zs ?_
 refine zc ?_ ?_<;>intro h
 .refine W.skip ?_
  have hlt:k<s.vers.length:=by omega
  have bad:¬L0 s k hlt->¬A2 s:=fun g w=>g ((hi.1 w).2.2.2.2.2.2.1 k hlt)
  have spV:=HQ l s.vers[k].id hlo c5
  have spN:=Jt s.vers[k].parent (s.vers[k].id-1)
  have hidb:1<=s.vers[k].id/\s.vers[k].id<=1048576:=by
   have:=c5.2.1 (Bm s.vers[k]) (by rw[hl];exact List.mem_map.2 ⟨_,List.getElem_mem hlt,rfl⟩)
   exact⟨this.1,this.2.1⟩
  obtain⟨g,hg⟩:∃g,g=(AP l s.vers[k].id).1:=⟨_,rfl⟩
  obtain⟨e,he⟩:∃e,e=(AP l s.vers[k].id).2:=⟨_,rfl⟩
  rw[<-hg,<-he] at spV
  refine zb ?_
  (repeat refine W.seq ?_);refine W.reg 1 rfl fun K hK=>?_;simp -implicitDefEqProofs (maxSteps:=999999) (disch:=omega) [hlt]
  refine zk ?_;clear hK K
  refine z1 ?_;intro K hK
  refine Ab.eq spV (by simp) (by simp) ?_
  refine zx ?_
  refine zk ?_;clear hK K
  (repeat refine W.seq ?_);refine W.midS (fun b:Bool=> [(1,.ptr 0 0 0),(3,.tok 1 0 4 0 l.length),(4,.int .i64 k),(93,.bool b)]) (fun _=> [.live 0 (Ao false s),.live 0 (Ac As l)]) (fun b=>b=false↔L0 s k hlt) ?_ ?_
  .by_cases d1:e=0
   rotate_left
   .refine Af d1 ?_;intro K hK
    refine zk ?_;clear hK K
    exact⟨true,by simp only[Bool.true_eq_false,false_iff];exact fun h=>d1 (by rw[he,hl];exact h.1),Wk.cutM (k:=2) (by simp[Ad]) (by simp) (by simp) (by simp) (by simp) (by simp)⟩
   by_cases d2:0<=s.vers[k].parent/\s.vers[k].parent<=s.vers[k].id-1
   rotate_left
   .rw[decide_eq_false d2] at spN
    refine Af d1 ?_;intro K hK
    refine Ab.eq spN (by simp) (by simp) ?_
    refine zx ?_
    refine zk ?_;clear hK K
    exact⟨true,by simp only[Bool.true_eq_false,false_iff];exact fun h=>d2 ⟨h.2.1.1,by have:=h.2.1.2.1;omega⟩,Wk.cutM (k:=2) (by simp[Ad]) (by simp) (by simp) (by simp) (by simp) (by simp)⟩
   rw[decide_eq_true d2] at spN
   cases d3:s.vers[k].gone
   .refine Af (an d1 d3) ?_;intro K hK
    refine Ab.eq spN (by simp) (by simp) ?_
    cases d4:s.vers[k].tag
    all_goals (
     refine AX (an d3 d4) ?_
     refine zk ?_;clear hK K
     exact⟨false,by simp only[true_iff];exact⟨by rw[<-hl,<-he];exact d1,⟨d2.1,by have:=d2.2;omega,by simp[d3]⟩,by simp[d3]⟩,Wk.cutM (k:=2) (by simp[Ad]) (by simp) (by simp) (by simp) (by simp) (by simp)⟩)
   .cases d4:s.vers[k].tag
    rotate_left
    .refine Af (an d1 d3) ?_;intro K hK
     refine Ab.eq spN (by simp) (by simp) ?_
     refine AX (an d3 d4) ?_
     refine zk ?_;clear hK K
     exact⟨true,by simp only[Bool.true_eq_false,false_iff];exact fun h=>h.2.1.2.2 ⟨d4,d3⟩,Wk.cutM (k:=2) (by simp[Ad]) (by simp) (by simp) (by simp) (by simp) (by simp)⟩
    .by_cases d5:k+1=s.vers.length
     .have d5' :((k:Int)=(s.vers.length:Int)-1)=True:=eq_true (by omega)
      refine Af (an d1 d3) ?_;intro K hK
      refine Ab.eq spN (by simp) (by simp) ?_
      refine AX (an d3 (an d4 d5')) ?_
      refine zk ?_;clear hK K
      exact⟨true,by simp only[Bool.true_eq_false,false_iff];exact fun h=>h.2.2 ⟨d3,d5⟩,Wk.cutM (k:=2) (by simp[Ad]) (by simp) (by simp) (by simp) (by simp) (by simp)⟩
     .have d5' :((k:Int)=(s.vers.length:Int)-1)=False:=eq_false (by omega)
      refine Af (an d1 d3) ?_;intro K hK
      refine Ab.eq spN (by simp) (by simp) ?_
      refine AX (an d3 (an d4 d5')) ?_
      refine zk ?_;clear hK K
      exact⟨false,by simp only[true_iff];exact⟨by rw[<-hl,<-he];exact d1,⟨d2.1,by have:=d2.2;omega,by simp[d4]⟩,fun h=>d5 h.2⟩,Wk.cutM (k:=2) (by simp[Ad]) (by simp) (by simp) (by simp) (by simp) (by simp)⟩
  .intro b hb
   cases b
   .refine zn ?_
    refine W.skip ?_
    refine zs ?_
    refine⟨k+1,by omega,⟨by omega,fun i hi' h2=>?_⟩,Wk.fr (by simp[Ad])⟩
    by_cases ee:i=k
    .subst ee;exact hb.1 rfl
    .exact hok i hi' (by omega)
   .refine zt ?_
    refine zs ?_
    refine zr ?_
    exact bad (fun g=>by have:=hb.2 g;simp at this)
 .refine W.exit ?_
  have hk' :k=s.vers.length:=by omega
  subst hk'
  have hall:∀i (h:i<s.vers.length),L0 s i h:=fun i h=>hok i h h
  refine zs ?_
  (repeat refine W.seq ?_);refine W.block (W.loopS (fun k:Nat=> [(1,.ptr 0 0 0),(3,.tok 1 0 4 0 l.length),(8,.int .i64 k)]) (fun _=> [.live 0 (Ao false s),.live 0 (Ac As l)]) (fun k=>s.sess.length-k) (fun k=>k<=s.sess.length/\∀i (h:i<s.sess.length),i<k->AG s l s.sess[i]) 0 (Wk.fr (by simp[Ad])) ⟨by omega,fun i h h2=>by omega⟩ ?_)
  rintro k ⟨hk,hso⟩
  refine zs ?_
  refine zc ?_ ?_<;>intro h
  .refine W.skip ?_
   have hlt:k<s.sess.length:=by omega
   have spS:=RN s l s.sess[k] hs hlo (hx _ (List.getElem_mem hlt)) c5
   refine zb ?_
   by_cases d:AG s l s.sess[k]
   .rw[decide_eq_true d] at spS
    (repeat refine W.seq ?_);refine W.regd 0 rfl true Cz (by kernel_rfl) fun K hK=>?_;simp -implicitDefEqProofs (maxSteps:=999999) (disch:=omega) [hlt]
    refine Ah.eq spS (by simp) (by simp) ?_
    refine zx ?_
    refine zk ?_;clear hK K
    refine zn ?_
    refine W.skip ?_
    refine zs ?_
    refine⟨k+1,by omega,⟨by omega,fun i hi' h2=>?_⟩,Wk.fr (by simp[Ad])⟩
    by_cases ee:i=k
    .subst ee;exact d
    .exact hso i hi' (by omega)
   .rw[decide_eq_false d] at spS
    (repeat refine W.seq ?_);refine W.regd 0 rfl true Cz (by kernel_rfl) fun K hK=>?_;simp -implicitDefEqProofs (maxSteps:=999999) (disch:=omega) [hlt]
    refine Ah.eq spS (by simp) (by simp) ?_
    refine zx ?_
    refine zk ?_;clear hK K
    refine zt ?_
    refine zs ?_
    refine zr ?_
    exact fun h=>d (by rw[hl];exact(hi.1 h).2.2.2.2.2.2.2 _ (List.getElem_mem hlt))
  .refine W.exit ?_
   refine zs ?_
   refine zr ?_
   refine hi.2 ⟨c1,c2,c3,c4,by rw[<-hl];exact c5,by rw[<-hps];exact c6,hall,fun x hxm=>?_⟩
   obtain⟨i,hi',rfl⟩:=List.mem_iff_getElem.1 hxm
   rw[<-hl]
   exact hso i hi' (by omega)
abbrev Bt:Nat:=281474976710656
def WN (B:Nat) (P:Nat->Prop):AV->List Ag->Prop:=fun r _=>∃n:Nat,r= .int .i64 n/\n<B/\(n<1048576->P n)
theorem Q0 (xs:List (List Int)) (h1:xs.length<Bt) (h2:∀l∈xs,l.length<Bt):Aa pg 101 [.ro xs.length (AA false xs)] [] (WN 562949953421312 fun n=>xs.length<=n/\∀l∈xs,l.length<=n):=by
 simp only[Bt] at h1 h2
 refine Aa.start (fn:=Tryz.f101) [.tmp 2] tk rfl rfl rfl (by kernel_rfl) (Nat.le_of_ble_eq_true rfl) rfl (by kernel_rfl) ?_
 rw[Ay]
 refine zs ?_
 refine zs ?_
 refine zs ?_
 (repeat refine W.seq ?_);refine W.block (W.loopS (fun s:Nat×Nat=> [(0,.ro xs.length (AA false xs)),(3,.int .i64 (s.2:Nat)),(4,.int .i64 (s.1:Nat))]) (fun _=> []) (fun s=>xs.length-s.1) (fun s=>s.1<=xs.length/\xs.length<=s.2/\s.2<562949953421312/\∀l∈xs.take s.1,l.length<=s.2) (0,xs.length) (Wk.fr (by simp[Ad])) ⟨by simp,by simp,by simp only;omega,by simp⟩ ?_)
 rintro⟨i,n⟩ ⟨hi,hn,hb,hl⟩
 simp only at hi hn hb hl
 by_cases c1:i<xs.length
 .by_cases c2:n<1048576
  .have c2' :(n:Int)<1048576:=by omega
   have hto:xs.take (i+1)=xs.take i++[xs[i]]:=by rw[List.take_add_one];simp[c1]
   have hli:=h2 _ (List.getElem_mem c1)
   refine Af (an c1 c2') ?_;intro K hK
   refine zk ?_;clear hK K
   refine zt ?_
   refine W.skip ?_
   refine zb ?_
   (repeat refine W.seq ?_);refine W.reg 0 rfl fun K hK=>?_;simp -implicitDefEqProofs (maxSteps:=999999) (disch:=omega) [c1]
   refine zk ?_;clear hK K
   refine zs ?_
   refine⟨(i+1,n+xs[i].length),by simp only;omega,⟨by simp only;omega,by simp only;omega,by simp only;omega,fun l hlm=>?_⟩,Wk.fr (by simp[Ad])⟩
   rw[hto] at hlm
   simp only[List.mem_append,List.mem_singleton] at hlm
   rcases hlm with hlm|rfl
   .have:=hl l hlm;simp only;omega
   .simp only;omega
  .have c2' :¬(n:Int)<1048576:=by omega
   refine Af (an c1 c2') ?_;intro K hK
   refine zk ?_;clear hK K
   refine zn ?_
   refine W.exit ?_
   refine zs ?_
   refine zr ?_
   exact⟨n,rfl,by omega,fun h=>by omega⟩
 .refine Af c1 ?_;intro K hK
  refine zk ?_;clear hK K
  refine zn ?_
  refine W.exit ?_
  have:i=xs.length:=by omega
  subst this
  rw[List.take_length] at hl
  refine zs ?_
  refine zr ?_
  exact⟨n,rfl,by omega,fun h=>⟨hn,hl⟩⟩
theorem Qq (j:Cu) (h1:j.list.length<Bt) (h2:j.out.length<Bt):Aa pg 102 [.agg (B4 false j)] [] (fun r _=>r= .int .i64 ((j.list.length:Int)+j.out.length)):=by
 simp only[Bt] at h1 h2
 refine Aa.start (fn:=Tryz.f102) [.tmp 2] tk rfl rfl rfl (by kernel_rfl) (Nat.le_of_ble_eq_true rfl) rfl (by kernel_rfl) ?_
 rw[Ay]
 refine z1 ?_;intro K hK;refine zk ?_;clear hK K
 refine zs ?_
 exact zR
def Ez (n:Nat) (l:List Obj):Prop:=l.length<=n/\∀o∈l,o.data.data.size/4<=n
theorem Ez.mono {n m:Nat} (h:n<=m) {l:List Obj} (k:Ez n l):Ez m l:=⟨by have:=k.1;omega,fun o ho=>by have:=k.2 o ho;omega⟩
theorem L1 (xs:List Obj) (h1:xs.length<Bt) (h2:∀o∈xs,o.data.data.size<Bt):Aa pg 103 [.ro xs.length (Ac As xs)] [] (WN 562949953421312 fun n=>Ez n xs):=by
 simp only[Bt] at h1 h2
 refine Aa.start (fn:=Tryz.f103) [.tmp 2] tk rfl rfl rfl (by kernel_rfl) (Nat.le_of_ble_eq_true rfl) rfl (by kernel_rfl) ?_
 rw[Ay]
 refine zs ?_
 refine zs ?_
 refine zs ?_
 (repeat refine W.seq ?_);refine W.block (W.loopS (fun s:Nat×Nat=> [(0,.ro xs.length (Ac As xs)),(3,.int .i64 (s.2:Nat)),(4,.int .i64 (s.1:Nat))]) (fun _=> []) (fun s=>xs.length-s.1) (fun s=>s.1<=xs.length/\xs.length<=s.2/\s.2<562949953421312/\∀o∈xs.take s.1,o.data.data.size/4<=s.2) (0,xs.length) (Wk.fr (by simp[Ad])) ⟨by simp,by simp,by simp only;omega,by simp⟩ ?_)
 rintro⟨i,n⟩ ⟨hi,hn,hb,hl⟩
 simp only at hi hn hb hl
 by_cases c1:i<xs.length
 .by_cases c2:n<1048576
  .have c2' :(n:Int)<1048576:=by omega
   have hto:xs.take (i+1)=xs.take i++[xs[i]]:=by rw[List.take_add_one];simp[c1]
   have hli:=h2 _ (List.getElem_mem c1)
   refine Af (an c1 c2') ?_;intro K hK
   refine zk ?_;clear hK K
   refine zt ?_
   refine W.skip ?_
   refine zb ?_
   (repeat refine W.seq ?_);refine W.reg 0 rfl fun K hK=>?_;simp -implicitDefEqProofs (maxSteps:=999999) (disch:=omega) [c1]
   refine zk ?_;clear hK K
   refine zs ?_
   refine⟨(i+1,n+xs[i].data.data.size/4),by simp only;omega,⟨by simp only;omega,by simp only;omega,by simp only;omega,fun o hom=>?_⟩,Wk.fr (by simp[Ad])⟩
   rw[hto] at hom
   simp only[List.mem_append,List.mem_singleton] at hom
   rcases hom with hom|rfl
   .have:=hl o hom;simp only;omega
   .simp only;omega
  .have c2' :¬(n:Int)<1048576:=by omega
   refine Af (an c1 c2') ?_;intro K hK
   refine zk ?_;clear hK K
   refine zn ?_
   refine W.exit ?_
   refine zs ?_
   refine zr ?_
   exact⟨n,rfl,by omega,fun h=>absurd h c2⟩
 .refine Af c1 ?_;intro K hK
  refine zk ?_;clear hK K
  refine zn ?_
  refine W.exit ?_
  have:i=xs.length:=by omega
  subst this
  rw[List.take_length] at hl
  refine zs ?_
  refine zr ?_
  exact⟨n,rfl,by omega,fun h=>⟨hn,hl⟩⟩
def JW (g:Gr):Prop:=g.out.length<Bt/\∀l∈g.out,l.length<Bt
def cV (x:CZ):Prop:=JW x.stage/\x.job.list.length<Bt/\x.job.out.length<Bt
def Lx (s:An):Prop:=s.vers.length<Bt/\s.sess.length<Bt/\(∀v∈s.vers,v.data.data.size<Bt)/\∀x∈s.sess,cV x
def Gn (n:Nat) (x:CZ):Prop:=x.stage.out.length<=n/\(∀l∈x.stage.out,l.length<=n)/\x.job.list.length<=n/\x.job.out.length<=n
def E4 (n:Nat) (s:An):Prop:=s.vers.length<=n/\s.sess.length<=n/\(∀v∈s.vers,v.data.data.size/4<=n)/\∀x∈s.sess,Gn n x
theorem Gn.mono {n m:Nat} (h:n<=m) {x:CZ} (k:Gn n x):Gn m x:=⟨by have:=k.1;omega,fun l hl=>by have:=k.2.1 l hl;omega,by have:=k.2.2.1;omega,by have:=k.2.2.2;omega⟩
theorem E4.mono {n m:Nat} (h:n<=m) {s:An} (k:E4 n s):E4 m s:=⟨by have:=k.1;omega,by have:=k.2.1;omega,fun v hv=>by have:=k.2.2.1 v hv;omega,fun x hx=>(k.2.2.2 x hx).mono h⟩
def Gp (n:Nat) (g:Gr):Prop:=g.out.length<=n/\∀l∈g.out,l.length<=n
theorem Gp.mono {n m:Nat} (h:n<=m) {g:Gr} (k:Gp n g):Gp m g:=⟨by have:=k.1;omega,fun o ho=>by have:=k.2 o ho;omega⟩
theorem M7 (xs:List Gr) (h1:xs.length<Bt) (h2:∀g∈xs,JW g):Aa pg 141 [.ro xs.length (Ac (Ba false) xs)] [] (WN 1125899906842624 fun n=>xs.length<=n/\∀g∈xs,Gp n g):=by
 simp only[Bt] at h1
 refine Aa.start (fn:=Tryz.f141) [.tmp 2] tk rfl rfl rfl (by kernel_rfl) (Nat.le_of_ble_eq_true rfl) rfl (by kernel_rfl) ?_
 rw[Ay]
 refine zs ?_
 refine zs ?_
 refine zs ?_
 (repeat refine W.seq ?_);refine W.block (W.loopS (fun s:Nat×Nat=> [(0,.ro xs.length (Ac (Ba false) xs)),(3,.int .i64 (s.2:Nat)),(4,.int .i64 (s.1:Nat))]) (fun _=> []) (fun s=>xs.length-s.1) (fun s=>s.1<=xs.length/\xs.length<=s.2/\s.2<1125899906842624/\(s.2<1048576->∀g∈xs.take s.1,Gp s.2 g)) (0,xs.length) (Wk.fr (by simp[Ad])) ⟨by simp,by simp,by simp only;omega,by simp⟩ ?_)
 rintro⟨i,n⟩ ⟨hi,hn,hb,hl⟩
 simp only at hi hn hb hl
 by_cases c1:i<xs.length
 .by_cases c2:n<1048576
  .have c2' :(n:Int)<1048576:=by omega
   have hto:xs.take (i+1)=xs.take i++[xs[i]]:=by rw[List.take_add_one];simp[c1]
   have hli:=h2 _ (List.getElem_mem c1)
   refine Af (an c1 c2') ?_;intro K hK
   refine zk ?_;clear hK K
   refine zt ?_
   refine W.skip ?_
   refine zb ?_
   have cg:(Ac (Ba false) xs)[i*2+1]?=some (.ro xs[i].out.length (AA false xs[i].out)):=Bk (f:=Ba false) (s:=2) (fun _=>rfl) c1 (i:=1) (by omega)
   refine Af (an c1 cg) ?_;intro K hK
   refine Ab.bor (Q0 xs[i].out hli.1 hli.2) (by simp) ?_
   rintro r ⟨m,rfl,hm,hsm⟩
   refine⟨by simp,?_⟩
   refine zx ?_
   refine zk ?_;clear hK K
   refine zs ?_
   refine⟨(i+1,n+m),by simp only;omega,⟨by simp only;omega,by simp only;omega,by simp only;omega,fun hlt o hom=>?_⟩,Wk.fr (by simp[Ad])⟩
   rw[hto] at hom
   simp only at hlt
   simp only[List.mem_append,List.mem_singleton] at hom
   rcases hom with hom|rfl
   .exact(hl c2 o hom).mono (by simp only;omega)
   .exact Gp.mono (n:=m) (by simp only;omega) (hsm (by omega))
  .have c2' :¬(n:Int)<1048576:=by omega
   refine Af (an c1 c2') ?_;intro K hK
   refine zk ?_;clear hK K
   refine zn ?_
   refine W.exit ?_
   refine zs ?_
   refine zr ?_
   exact⟨n,rfl,by omega,fun h=>absurd h c2⟩
 .refine Af c1 ?_;intro K hK
  refine zk ?_;clear hK K
  refine zn ?_
  refine W.exit ?_
  have:i=xs.length:=by omega
  subst this
  rw[List.take_length] at hl
  refine zs ?_
  refine zr ?_
  exact⟨n,rfl,by omega,fun h=>⟨hn,hl h⟩⟩
theorem OA (s:An) (h:Lx s):Aa pg 64 [.agg (Ao false s)] [] (fun r _=>∃n:Nat,r= .int .i64 n/\n<4503599627370496/\(n<1048576->E4 n s)):=by
 obtain⟨h1,h2,h3,h4⟩:=h
 simp only[Bt] at h1 h2 h3
 refine Aa.start (fn:=Tryz.f64) [.tmp 2] tk rfl rfl rfl (by kernel_rfl) (Nat.le_of_ble_eq_true rfl) rfl (by kernel_rfl) ?_
 rw[Ay]
 refine z1 ?_;intro K hK;refine zk ?_;clear hK K
 refine zs ?_
 refine zs ?_
 (repeat refine W.seq ?_);refine W.block (W.loopS (fun z:Nat×Nat=> [(1,.ptr 0 0 0),(3,.int .i64 (z.2:Nat)),(4,.int .i64 (z.1:Nat))]) (fun _=> [.live 0 (Ao false s)]) (fun z=>s.vers.length-z.1) (fun z=>z.1<=s.vers.length/\s.vers.length+s.sess.length<=z.2/\z.2<1125899906842624/\∀v∈s.vers.take z.1,v.data.data.size/4<=z.2) (0,s.vers.length+s.sess.length) (Wk.fr (by simp[Ad])) ⟨by simp,by simp,by simp only;omega,by simp⟩ ?_)
 rintro⟨i,n⟩ ⟨hi,hn,hb,hl⟩
 simp only at hi hn hb hl
 by_cases c:i<s.vers.length/\n<1048576
 .obtain⟨c1,c2⟩:=c
  have c2' :(n:Int)<1048576:=by omega
  have hto:s.vers.take (i+1)=s.vers.take i++[s.vers[i]]:=by rw[List.take_add_one];simp[c1]
  have hli:=h3 _ (List.getElem_mem c1)
  refine Af (an c1 c2') ?_;intro K hK
  refine zk ?_;clear hK K
  refine zt ?_
  refine W.skip ?_
  refine zb ?_
  (repeat refine W.seq ?_);refine W.reg 0 rfl fun K hK=>?_;simp -implicitDefEqProofs (maxSteps:=999999) (disch:=omega) [c1]
  refine zk ?_;clear hK K
  refine zs ?_
  refine⟨(i+1,n+s.vers[i].data.data.size/4),by simp only;omega,⟨by simp only;omega,by simp only;omega,by simp only;omega,fun v hv=>?_⟩,Wk.fr (by simp[Ad])⟩
  rw[hto] at hv
  simp only[List.mem_append,List.mem_singleton] at hv
  rcases hv with hv|rfl
  .have:=hl v hv;simp only;omega
  .simp only;omega
 .have hend:n<1048576->∀v∈s.vers,v.data.data.size/4<=n:=fun hh v hv=>hl v (by rw[List.take_of_length_le (by omega)];exact hv)
  (repeat refine W.seq ?_);refine W.midS (fun _:Unit=> [(1,.ptr 0 0 0),(3,.int .i64 (n:Nat)),(21,.bool false)]) (fun _=> [.live 0 (Ao false s)]) (fun _=>True) ?_ ?_
  .by_cases c1:i<s.vers.length
   .have c2' :¬(n:Int)<1048576:=by omega
    refine Af (an c1 c2') ?_;intro K hK
    refine zk ?_;clear hK K
    exact⟨(),trivial,Wk.fr (by simp[Ad])⟩
   .refine Af c1 ?_;intro K hK
    refine zk ?_;clear hK K
    exact⟨(),trivial,Wk.fr (by simp[Ad])⟩
  rintro _ _
  refine zn ?_
  refine W.exit ?_
  refine zs ?_
  clear hl
  (repeat refine W.seq ?_);refine W.block (W.loopS (fun z:Nat×Nat=> [(1,.ptr 0 0 0),(3,.int .i64 (z.2:Nat)),(5,.int .i64 (z.1:Nat))]) (fun _=> [.live 0 (Ao false s)]) (fun z=>s.sess.length-z.1) (fun z=>z.1<=s.sess.length/\n<=z.2/\z.2<4503599627370496/\∀x∈s.sess.take z.1,z.2<1048576->Gn z.2 x) (0,n) (Wk.fr (by simp[Ad])) ⟨by simp,by simp,by simp only;omega,by simp⟩ ?_)
  rintro⟨k,m⟩ ⟨hk,hm,hmb,hsm⟩
  simp only at hk hm hmb hsm
  by_cases d:k<s.sess.length/\m<1048576
  .obtain⟨d1,d2⟩:=d
   have d2' :(m:Int)<1048576:=by omega
   have hto:s.sess.take (k+1)=s.sess.take k++[s.sess[k]]:=by rw[List.take_add_one];simp[d1]
   obtain⟨b1,b2,b3⟩:=h4 _ (List.getElem_mem d1)
   have spJ:=Qq s.sess[k].job b2 b3
   have spL:=Q0 s.sess[k].stage.out b1.1 b1.2
   simp only[Bt] at b2 b3
   refine Af (an d1 d2') ?_;intro K hK
   refine zk ?_;clear hK K
   refine zt ?_
   refine W.skip ?_
   refine zb ?_
   (repeat refine W.seq ?_);refine W.regd 0 rfl true Cz (by kernel_rfl) fun K hK=>?_;simp -implicitDefEqProofs (maxSteps:=999999) (disch:=omega) [d1]
   refine⟨_,_,spL,.inl ⟨rfl,⟨[],by simp[Bw]⟩,?_⟩⟩
   rintro r ⟨q,rfl,hq,hqs⟩
   refine⟨by simp,?_⟩
   simp only[Fa];simp -implicitDefEqProofs (maxSteps:=999999) (disch:=omega) [d1]
   refine Ah.eq spJ (by simp) (by simp) ?_
   refine zx ?_
   refine zk ?_;clear hK K
   refine zs ?_
   refine⟨(k+1,m+q+(s.sess[k].job.list.length+s.sess[k].job.out.length)),by simp only;omega,⟨by simp only;omega,by simp only;omega,by simp only;omega,fun x hx=>?_⟩,Wk.fr (by simp[Ad];try omega)⟩
   rw[hto] at hx
   simp only[List.mem_append,List.mem_singleton] at hx
   rcases hx with hx|rfl
   .intro hlt
    exact(hsm x hx (by simp only at hlt;omega)).mono (by simp only;omega)
   .intro hlt
    simp only at hlt
    obtain⟨q1,q2⟩:=hqs (by omega)
    exact⟨by simp only;omega,fun l hl=>by have:=q2 l hl;simp only;omega,by simp only;omega,by simp only;omega⟩
  .have hend2:m<1048576->∀x∈s.sess,Gn m x:=fun hh x hx=>hsm x (by rw[List.take_of_length_le (by omega)];exact hx) hh
   (repeat refine W.seq ?_);refine W.midS (fun _:Unit=> [(1,.ptr 0 0 0),(3,.int .i64 (m:Nat)),(43,.bool false)]) (fun _=> [.live 0 (Ao false s)]) (fun _=>True) ?_ ?_
   .by_cases c1:k<s.sess.length
    .have c2' :¬(m:Int)<1048576:=by omega
     refine Af (an c1 c2') ?_;intro K hK
     refine zk ?_;clear hK K
     exact⟨(),trivial,Wk.fr (by simp[Ad])⟩
    .refine Af c1 ?_;intro K hK
     refine zk ?_;clear hK K
     exact⟨(),trivial,Wk.fr (by simp[Ad])⟩
   rintro _ _
   refine zn ?_
   refine W.exit ?_
   refine zs ?_
   refine zr ?_
   exact⟨m,rfl,by omega,fun hh=>⟨by omega,by omega,fun v hv=>by have:=hend (by omega) v hv;omega,hend2 hh⟩⟩
def DV (L:List (List Obj)):List AV:=L.map fun l=>AV.ro l.length (Ac As l)
section
variable (xs:List (List Obj)) (k:Nat)
@[simp] theorem bR (i:Nat):(DV xs)[i]?=(xs[i]?).map fun l=>AV.ro l.length (Ac As l):=by simp[DV]
@[simp] theorem bS:(DV xs).length=xs.length:=by simp[DV]
@[simp] theorem aQ:(DV xs).drop k=DV (xs.drop k):=by simp[DV,List.map_drop]
end
def IW (G:List Gr) (na:Nat):List AV:=[.ro G.length (Ac (Ba false) G),.ro na []]
def IX (L:List (List Obj)) (G:List Gr) (na nn:Nat):List AV:= .ro L.length (DV L)::(IW G na++[.ro nn []])
def M8 (S:List An) (L:List (List Obj)) (G:List Gr) (na nn:Nat):List AV:= .ro S.length (Ac (Ao false) S)::IX L G na nn
def O8 (G:List Gr):Prop:=G.length<=1200/\∀g∈G,Gp 1200 g
def Th (L:List (List Obj)):Prop:=L.length<=700/\∀l∈L,Ez 700 l
def WK (P:Prop):AV->List Ag->Prop:=fun r _=>∃b:Bool,r= .bool b/\(b=false->P)
theorem Vb (G:List Gr) (na:Nat) (h1:G.length<Bt) (h2:∀g∈G,JW g) (h3:na<Bt):Aa pg 104 [.agg (IW G na)] [] (WK (O8 G)):=by
 have sp:=M7 G h1 h2
 simp only[Bt] at h1 h3
 simp only[IW]
 refine Aa.start (fn:=Tryz.f104) [.tmp 2] tk rfl rfl rfl (by kernel_rfl) (Nat.le_of_ble_eq_true rfl) rfl (by kernel_rfl) ?_
 rw[Ay]
 refine z1 ?_;intro K hK;refine zk ?_;clear hK K
 refine Cm ?_;intro K hK
 refine⟨_,_,sp,.inl ⟨rfl,⟨[],by simp[Bw]⟩,?_⟩⟩
 rintro r ⟨q,rfl,hq,hqs⟩
 refine⟨by simp,?_⟩
 refine zx ?_
 refine zk ?_;clear hK K
 refine zr ?_
 refine⟨_,rfl,fun h=>?_⟩
 have h:¬_:=of_decide_eq_false h
 have hs:=hqs (by omega)
 exact⟨by omega,fun g hg=>(hs.2 g hg).mono (by omega)⟩
theorem Vc (L:List (List Obj)) (G:List Gr) (na nn:Nat) (h1:G.length<Bt) (h2:∀g∈G,JW g) (h3:na<Bt) (h4:nn<Bt) (h5:L.length<Bt) (h6:∀l∈L,l.length<Bt/\∀o∈l,o.data.data.size<Bt):Aa pg 65 [.agg (IX L G na nn)] [] (WK (Th L/\O8 G)):=by
 have sp6:=Vb G na h1 h2 h3
 simp only[Bt] at h3 h4 h5
 simp only[IW] at sp6
 simp only[IX,IW,List.cons_append,List.nil_append]
 refine Aa.start (fn:=Tryz.f65) [.tmp 2] tk rfl rfl rfl (by kernel_rfl) (Nat.le_of_ble_eq_true rfl) rfl (by kernel_rfl) ?_
 rw[Ay]
 refine z1 ?_;intro K hK;refine zk ?_;clear hK K
 refine zs ?_
 refine zs ?_
 (repeat refine W.seq ?_);refine W.block (W.loopS (fun s:Nat×Nat=> [(1,.ptr 0 0 0),(3,.int .i64 (s.2:Nat)),(4,.int .i64 (s.1:Nat))]) (fun _=> [.live 0 [.ro L.length (DV L),.ro G.length (Ac (Ba false) G),.ro na [],.ro nn []]]) (fun s=>L.length-s.1) (fun s=>s.1<=L.length/\L.length<=s.2/\s.2<1125899906842624/\(s.2<1048576->∀l∈L.take s.1,Ez s.2 l)) (0,nn+L.length) (Wk.fr (by simp[Ad])) ⟨by simp,by simp,by simp only;omega,by simp⟩ ?_)
 rintro⟨i,n⟩ ⟨hi,hn,hb,hl⟩
 simp only at hi hn hb hl
 by_cases c:i<L.length/\n<1048576
 .obtain⟨c1,c2⟩:=c
  have c2' :(n:Int)<1048576:=by omega
  have hto:L.take (i+1)=L.take i++[L[i]]:=by rw[List.take_add_one];simp[c1]
  have hli:=h6 _ (List.getElem_mem c1)
  refine Af (an c1 c2') ?_;intro K hK
  refine zk ?_;clear hK K
  refine zt ?_
  refine W.skip ?_
  refine zb ?_
  (repeat refine W.seq ?_);refine W.reg 0 rfl fun K hK=>?_;simp -implicitDefEqProofs (maxSteps:=999999) (disch:=omega) [c1]
  refine Ab.bor (L1 L[i] hli.1 hli.2) (by simp) ?_
  rintro r ⟨m,rfl,hm,hsm⟩
  refine⟨by simp,?_⟩
  refine zx ?_
  refine zk ?_;clear hK K
  refine zs ?_
  refine⟨(i+1,n+m),by simp only;omega,⟨by simp only;omega,by simp only;omega,by simp only;omega,fun hlt o hom=>?_⟩,Wk.fr (by simp[Ad])⟩
  rw[hto] at hom
  simp only at hlt
  simp only[List.mem_append,List.mem_singleton] at hom
  rcases hom with hom|rfl
  .exact(hl c2 o hom).mono (by simp only;omega)
  .exact Ez.mono (n:=m) (by simp only;omega) (hsm (by omega))
 .have hend:n<1048576->∀l∈L,Ez n l:=fun hh l hll=>hl hh l (by rw[List.take_of_length_le (by omega)];exact hll)
  (repeat refine W.seq ?_);refine W.midS (fun _:Unit=> [(1,.ptr 0 0 0),(3,.int .i64 (n:Nat)),(20,.bool false)]) (fun _=> [.live 0 [.ro L.length (DV L),.ro G.length (Ac (Ba false) G),.ro na [],.ro nn []]]) (fun _=>True) ?_ ?_
  .by_cases c1:i<L.length
   .have c2' :¬(n:Int)<1048576:=by omega
    refine Af (an c1 c2') ?_;intro K hK
    refine zk ?_;clear hK K
    exact⟨(),trivial,Wk.fr (by simp[Ad])⟩
   .refine Af c1 ?_;intro K hK
    refine zk ?_;clear hK K
    exact⟨(),trivial,Wk.fr (by simp[Ad])⟩
  rintro _ _
  refine zn ?_
  refine W.exit ?_
  by_cases d:(700:Int)<n
  .refine Af d ?_;intro K hK
   refine zk ?_;clear hK K
   refine zr ?_
   exact⟨true,rfl,fun h=>by simp at h⟩
  .refine Af d ?_;intro K hK
   refine Ab.bor sp6 (by simp) ?_
   rintro r ⟨b,rfl,hg⟩
   refine⟨by simp,?_⟩
   refine zx ?_
   refine zk ?_;clear hK K
   refine zr ?_
   exact⟨b,rfl,fun h=>⟨⟨by omega,fun l hll=>(hend (by omega) l hll).mono (by omega)⟩,hg h⟩⟩
theorem Xr (S:List An) (L:List (List Obj)) (G:List Gr) (na nn:Nat) (h0:S.length<Bt) (hS:∀s∈S,Lx s) (h1:G.length<Bt) (h2:∀g∈G,JW g) (h3:na<Bt) (h4:nn<Bt) (h5:L.length<Bt) (h6:∀l∈L,l.length<Bt/\∀o∈l,o.data.data.size<Bt):Aa pg 12 [.agg (M8 S L G na nn)] [] (fun r _=>∃b:Bool,r= .bool b/\(b=false->(S.length<=1500/\∀s∈S,E4 1500 s)/\Th L/\O8 G)):=by
 have sp9:=Vc L G na nn h1 h2 h3 h4 h5 h6
 simp only[Bt] at h0
 simp only[IX,IW,List.cons_append,List.nil_append] at sp9
 simp only[M8,IX,IW,List.cons_append,List.nil_append]
 refine Aa.start (fn:=Tryz.f12) [.tmp 2] tk rfl rfl rfl (by kernel_rfl) (Nat.le_of_ble_eq_true rfl) rfl (by kernel_rfl) ?_
 rw[Ay]
 refine z1 ?_;intro K hK;refine zk ?_;clear hK K
 refine zs ?_
 refine zs ?_
 (repeat refine W.seq ?_);refine W.block (W.loopS (fun z:Nat×Nat=> [(1,.ptr 0 0 0),(3,.int .i64 (z.2:Nat)),(4,.int .i64 (z.1:Nat))]) (fun _=> [.live 0 [.ro S.length (Ac (Ao false) S),.ro L.length (DV L),.ro G.length (Ac (Ba false) G),.ro na [],.ro nn []]]) (fun z=>S.length-z.1) (fun z=>z.1<=S.length/\S.length<=z.2/\z.2<9007199254740992/\(z.2<1048576->∀s∈S.take z.1,E4 z.2 s)) (0,S.length) (Wk.fr (by simp[Ad])) ⟨by simp,by simp,by simp only;omega,by simp⟩ ?_)
 rintro⟨i,n⟩ ⟨hi,hn,hb,hs⟩
 simp only at hi hn hb hs
 by_cases c:i<S.length/\n<1048576
 .obtain⟨c1,c2⟩:=c
  have c2' :(n:Int)<1048576:=by omega
  have hto:S.take (i+1)=S.take i++[S[i]]:=by rw[List.take_add_one];simp[c1]
  have spW:=OA S[i] (hS _ (List.getElem_mem c1))
  have k0:(Ac (Ao false) S)[i*4]?=some (.int .i64 S[i].keep):=Bk (f:=Ao false) (s:=4) (fun _=>rfl) c1 (i:=0) (by omega)
  have k1:(Ac (Ao false) S)[i*4+1]?=some (.int .i64 S[i].blocks):=Bk (f:=Ao false) (s:=4) (fun _=>rfl) c1 (i:=1) (by omega)
  have k2:(Ac (Ao false) S)[i*4+1+1]?=some (.ro S[i].vers.length (Ac Au S[i].vers)):=Bk (f:=Ao false) (s:=4) (fun _=>rfl) c1 (i:=2) (by omega)
  have k3:(Ac (Ao false) S)[i*4+1+1+1]?=some (.ro S[i].sess.length (Ac (Az false) S[i].sess)):=Bk (f:=Ao false) (s:=4) (fun _=>rfl) c1 (i:=3) (by omega)
  refine Af (an c1 c2') ?_;intro K hK
  refine zk ?_;clear hK K
  refine zt ?_
  refine W.skip ?_
  refine zb ?_
  refine Af (an c1 (an k0 (an k1 (an k2 k3)))) ?_;intro K hK
  refine Ab.bor spW (by simp) ?_
  rintro r ⟨m,rfl,hm,hsm⟩
  refine⟨by simp,?_⟩
  refine zx ?_
  refine zk ?_;clear hK K
  refine zs ?_
  refine⟨(i+1,n+m),by simp only;omega,⟨by simp only;omega,by simp only;omega,by simp only;omega,fun hlt s hsm' =>?_⟩,Wk.fr (by simp[Ad])⟩
  rw[hto] at hsm'
  simp only at hlt
  simp only[List.mem_append,List.mem_singleton] at hsm'
  rcases hsm' with hs' |rfl
  .exact(hs c2 s hs').mono (by simp only;omega)
  .exact(hsm (by omega)).mono (by simp only;omega)
 .have hend:n<1048576->∀s∈S,E4 n s:=fun hh s hss=>hs hh s (by rw[List.take_of_length_le (by omega)];exact hss)
  (repeat refine W.seq ?_);refine W.midS (fun _:Unit=> [(1,.ptr 0 0 0),(3,.int .i64 (n:Nat)),(16,.bool false)]) (fun _=> [.live 0 [.ro S.length (Ac (Ao false) S),.ro L.length (DV L),.ro G.length (Ac (Ba false) G),.ro na [],.ro nn []]]) (fun _=>True) ?_ ?_
  .by_cases c1:i<S.length
   .have c2' :¬(n:Int)<1048576:=by omega
    refine Af (an c1 c2') ?_;intro K hK
    refine zk ?_;clear hK K
    exact⟨(),trivial,Wk.fr (by simp[Ad])⟩
   .refine Af c1 ?_;intro K hK
    refine zk ?_;clear hK K
    exact⟨(),trivial,Wk.fr (by simp[Ad])⟩
  rintro _ _
  refine zn ?_
  refine W.exit ?_
  by_cases d:(1500:Int)<n
  . (repeat refine W.seq ?_);refine W.reg 0 rfl fun K hK=>?_;simp -implicitDefEqProofs (maxSteps:=999999) (disch:=omega) [d]
    refine zk ?_;clear hK K
    refine W.ret ?_;simp only[CH,Ds,C0];refine CR (d:=0) ?_;simp -implicitDefEqProofs (maxSteps:=999999) (disch:=omega)
    (try exact⟨true,rfl,fun h=>by simp at h⟩)
  .refine Af d ?_;intro K hK
   refine Ab.bor sp9 (by simp) ?_
   rintro r ⟨b,rfl,hlg⟩
   refine⟨by simp,?_⟩
   refine zx ?_
   refine zk ?_;clear hK K
   refine zr ?_
   exact fun h=>⟨⟨by omega,fun s hss=>(hend (by omega) s hss).mono (by omega)⟩,hlg h⟩
theorem Zz:DT []=F0:=by funext t;simp[DT,F0]
def ik (s:An) (keep:Int) (k:Nat) (tag gone:Bool):An:={s with keep:=keep,vers:=match s.vers[k]? with|some v=>s.vers.set k {v with tag:=tag,gone:=gone} |none=>s.vers}
theorem L2 (l m:List AM) (h:l.map (fun v=>v.id)=m.map fun v=>v.id):AN l=AN m:=by
 have:=congrArg List.getLast? h
 rw[List.getLast?_map,List.getLast?_map] at this
 unfold AN
 cases hl:l.getLast?<;>cases hm:m.getLast?<;>simp_all
theorem Iq (l:List AM) (i:Int):(∃v∈l,v.id=i)↔i∈l.map fun v=>v.id:=by simp
theorem ZA {s:An} (h:A2 s):(s.vers.map fun v=>v.id).Pairwise (·<·):=by
 have:=((JV s).1 h).2.2.2.2.1.2.2
 rw[List.pairwise_map]
 have h2:(s.vers.map Bm).Pairwise fun a b=>a.id<b.id:=this
 rw[List.pairwise_map] at h2
 exact h2
theorem Q1 {s:An} (h:A2 s) {i j:Nat} (hi:i<s.vers.length) (hj:j<s.vers.length) (e:s.vers[i].id=s.vers[j].id):i=j:=by
 have hp:=ZA h
 rw[List.pairwise_iff_getElem] at hp
 rcases Nat.lt_trichotomy i j with hlt|heq|hgt
 .have:=hp i j (by simpa using hi) (by simpa using hj) hlt
  simp at this;omega
 .exact heq
 .have:=hp j i (by simpa using hj) (by simpa using hi) hgt
  simp at this;omega
theorem L3 (s:An) (i:Int):i∈A4 s true↔∃v∈s.vers,Dp s v=true/\v.id=i:=by
 simp[A4,CU,and_assoc]
theorem Vd {s:An} (h:E4 1500 s):AS s/\Br s:=by
 obtain⟨h1,h2,h3,h4⟩:=h
 refine⟨⟨by omega,by omega,fun v hv=>by have:=h3 v hv;omega⟩,fun x hx=>?_⟩
 obtain⟨k1,k2,k3,k4⟩:=h4 x hx
 exact⟨⟨by omega,fun l hl=>by have:=k2 l hl;omega⟩,by omega,by omega⟩
theorem c3:pg.cellsOf 3=1:=by kernel_rfl
theorem c4:pg.cellsOf 4=1:=by kernel_rfl
theorem c9:pg.cellsOf 9=1:=by kernel_rfl
theorem il:pg.cellsOf 22=1:=by kernel_rfl
theorem im:pg.cellsOf 23=1:=by kernel_rfl
theorem io:pg.cellsOf 24=1:=by kernel_rfl
theorem ip:pg.cellsOf 25=1:=by kernel_rfl
theorem iq:pg.cellsOf 27=2:=by kernel_rfl
theorem ZB:pg.cellsOf 28=1:=by kernel_rfl
theorem ir:pg.cellsOf 30=4:=by kernel_rfl
theorem it:pg.cellsOf 35=1:=by kernel_rfl
theorem iu:pg.cellsOf 36=1:=by kernel_rfl
theorem bT:pg.cellsOf 40=2:=by kernel_rfl
theorem iv:pg.cellsOf 49=1:=by kernel_rfl
theorem iw:pg.cellsOf 51=2:=by kernel_rfl
theorem iy:pg.cellsOf 53=6:=by kernel_rfl
def WL (n:Int):Prop:=-9223372036854775808<=n/\n<=9223372036854775807
theorem ZC {n:Int} (h:(Lit.int .i64 n).wf=true):WL n:=by
 have h:=(by simpa[Lit.wf] using h:IntKind.i64.min<=n/\n<=9223372036854775807)
 exact h
def Gq (o:Obj):Prop:=o.data.data.size<Bt/\WL o.id
section
variable {H:Type} {enc:TypeId×Value->H} {w:World}
theorem Hp:Bd enc pg w 3 (fun n:Int=> [.int .i64 n]) fun _=>True:=Bd.int Tryz.underlying3
theorem Ti:Bd enc pg w 4 (fun b:Bool=> [.bool b]) fun _=>True:=Bd.bool Tryz.underlying4
theorem iz:Bd enc pg w 9 (fun s:ByteArray=> [.str s]) fun s=>s.size<=reachBytes:=Bd.str Tryz.underlying9
theorem ZD:Bd enc pg w 40 CI fun b=>b.data.size<=reachBytes:=
 Bd.map (Bd.struct Tryz.underlying40 (.cons iz c9 rfl (.cons Hp c3 rfl .nil)) (by kernel_rfl)) (fun x=>⟨x.1,x.2.1⟩) (fun _=>rfl) fun _ h=>h.1
theorem cW:Bd enc pg w 42 Au fun v=>v.data.data.size<=reachBytes:=
 Bd.map (Bd.struct Tryz.underlying42 (.cons Hp c3 rfl (.cons Hp c3 rfl (.cons Hp c3 rfl (.cons ZD bT rfl (.cons Hp c3 rfl (.cons Ti c4 rfl (.cons Ti c4 rfl .nil))))))) (by kernel_rfl)) (fun x=>⟨x.1,x.2.1,x.2.2.1,x.2.2.2.1,x.2.2.2.2.1,x.2.2.2.2.2.1,x.2.2.2.2.2.2.1⟩) (fun _=>rfl) fun _ h=>h.2.2.2.1
theorem Tj (xs:List Int):Ac (fun n:Int=> [AV.int .i64 n]) xs=Ae xs:=by
 induction xs with
 |nil=>rfl
 |cons x xs ih=>simp only[Ax,ih];rfl
theorem Ve:Bd enc pg w 28 (fun l:List Int=> [Gg false l]) fun l=>l.length<=reachBytes:=
 Bd.map (Bd.slice Hp Tryz.underlying28 (Nat.le_of_ble_eq_true (by kernel_rfl))) id (fun l=>by rw[Tj];rfl) fun _ h=>h.1
theorem RO (xs:List (List Int)):Ac (fun l:List Int=> [Gg false l]) xs=AA false xs:=by
 induction xs with
 |nil=>rfl
 |cons x xs ih=>simp only[Ax,ih];rfl
theorem cY:Bd enc pg w 49 (fun l:List (List Int)=> [Ev false l]) fun l=>l.length<=reachBytes/\∀x∈l,x.length<=reachBytes:=
 Bd.map (Bd.slice Ve Tryz.underlying49 (Nat.le_of_ble_eq_true (by kernel_rfl))) id (fun l=>by rw[RO];rfl) fun _ h=>h
theorem ZE:Bd enc pg w 51 (Ba false) fun g=>g.out.length<=reachBytes/\∀x∈g.out,x.length<=reachBytes:=
 Bd.map (Bd.struct Tryz.underlying51 (.cons Hp c3 rfl (.cons cY iv rfl .nil)) (by kernel_rfl)) (fun x=>⟨x.1,x.2.1⟩) (fun _=>rfl) fun _ h=>h.2.1
theorem cZ:Bd enc pg w 53 (B4 false) fun j=>j.list.length<=reachBytes/\j.out.length<=reachBytes:=
 Bd.map (Bd.struct Tryz.underlying53 (.cons Hp c3 rfl (.cons Hp c3 rfl (.cons Hp c3 rfl (.cons Ti c4 rfl (.cons Ve ZB rfl (.cons Ve ZB rfl .nil)))))) (by kernel_rfl)) (fun x=>⟨x.1,x.2.1,x.2.2.1,x.2.2.2.1,x.2.2.2.2.1,x.2.2.2.2.2.1⟩) (fun _=>rfl) fun _ h=>⟨h.2.2.2.2.1,h.2.2.2.2.2.1⟩
theorem c8:Bd enc pg w 55 (Az false) fun s=>(s.stage.out.length<=reachBytes/\∀x∈s.stage.out,x.length<=reachBytes)/\s.job.list.length<=reachBytes/\s.job.out.length<=reachBytes:=
 Bd.map (Bd.struct Tryz.underlying55 (.cons Ti c4 rfl (.cons Hp c3 rfl (.cons Ti c4 rfl (.cons Hp c3 rfl (.cons ZE iw rfl (.cons cZ iy rfl .nil)))))) (by kernel_rfl)) (fun x=>⟨x.1,x.2.1,x.2.2.1,x.2.2.2.1,x.2.2.2.2.1,x.2.2.2.2.2.1⟩) (fun _=>rfl) fun _ h=>⟨h.2.2.2.2.1,h.2.2.2.2.2.1⟩
theorem da:Bd enc pg w 35 (fun l:List AM=> [FE false l]) fun l=>l.length<=reachBytes/\∀v∈l,v.data.data.size<=reachBytes:=
 Bd.map (Bd.slice cW Tryz.underlying35 (Nat.le_of_ble_eq_true (by kernel_rfl))) id (fun _=>rfl) fun _ h=>h
theorem db:Bd enc pg w 36 (fun l:List CZ=> [KU false l]) fun l=>l.length<=reachBytes/\∀s∈l,(s.stage.out.length<=reachBytes/\∀x∈s.stage.out,x.length<=reachBytes)/\s.job.list.length<=reachBytes/\s.job.out.length<=reachBytes:=
 Bd.map (Bd.slice c8 Tryz.underlying36 (Nat.le_of_ble_eq_true (by kernel_rfl))) id (fun _=>rfl) fun _ h=>h
theorem Cq {n:Nat} (h:n<=reachBytes):n<Bt:=by
 have:=reachBytes_lt;simp only[Bt];omega
theorem dc:Bd enc pg w 38 (Ao false) Lx:=
 Bd.map (Bd.struct Tryz.underlying38 (.cons Hp c3 rfl (.cons Hp c3 rfl (.cons da it rfl (.cons db iu rfl .nil)))) (by kernel_rfl)) (fun x=>⟨x.1,x.2.1,x.2.2.1,x.2.2.2.1⟩) (fun _=>rfl) fun _ h=>
  ⟨Cq h.2.2.1.1,Cq h.2.2.2.1.1,fun v hv=>Cq (h.2.2.1.2 v hv),fun x hx=>⟨⟨Cq (h.2.2.2.1.2 x hx).1.1,fun l hl=>Cq ((h.2.2.2.1.2 x hx).1.2 l hl)⟩,Cq (h.2.2.2.1.2 x hx).2.1,Cq (h.2.2.2.1.2 x hx).2.2⟩⟩
theorem de:Bd enc pg w 22 (fun l:List An=> [.ro l.length (Ac (Ao false) l)]) fun l=>l.length<Bt/\∀s∈l,Lx s:=
 Bd.map (Bd.slice dc Tryz.underlying22 (Nat.le_of_ble_eq_true (by kernel_rfl))) id (fun _=>rfl) fun _ h=>⟨Cq h.1,h.2⟩
theorem dg:Bd enc pg w 3 (fun n:Int=> [.int .i64 n]) fun n=>WL n:=Bd.map (Bd.intR Tryz.underlying3) id (fun _=>rfl) fun n h=>ZC h
theorem dh:Bd enc pg w 60 As fun o=>Gq o:=
 Bd.map (Bd.struct Tryz.underlying60 (.cons dg c3 rfl (.cons Hp c3 rfl (.cons ZD bT rfl .nil))) (by kernel_rfl)) (fun x=>⟨x.1,x.2.1,x.2.2.1⟩) (fun _=>rfl) fun _ h=>⟨Cq h.2.2.1,h.1⟩
theorem di:Bd enc pg w 65 (fun l:List Obj=> [AV.ro l.length (Ac As l)]) fun l=>l.length<Bt/\∀o∈l,Gq o:=
 Bd.map (Bd.slice dh Tryz.underlying65 (Nat.le_of_ble_eq_true (by kernel_rfl))) id (fun _=>rfl) fun _ h=>⟨Cq h.1,h.2⟩
theorem RP (xs:List (List Obj)):Ac (fun l:List Obj=> [AV.ro l.length (Ac As l)]) xs=DV xs:=by
 induction xs with
 |nil=>rfl
 |cons x xs ih=>simp only[Ax,ih];rfl
theorem dj:Bd enc pg w 23 (fun l:List (List Obj)=> [AV.ro l.length (DV l)]) fun l=>l.length<Bt/\∀x∈l,x.length<Bt/\∀o∈x,Gq o:=
 Bd.map (Bd.slice di Tryz.underlying23 (Nat.le_of_ble_eq_true (by kernel_rfl))) id (fun l=>by rw[RP];rfl) fun _ h=>⟨Cq h.1,h.2⟩
theorem dk:Bd enc pg w 24 (fun l:List Gr=> [AV.ro l.length (Ac (Ba false) l)]) fun l=>l.length<Bt/\∀g∈l,JW g:=
 Bd.map (Bd.slice ZE Tryz.underlying24 (Nat.le_of_ble_eq_true (by kernel_rfl))) id (fun _=>rfl) fun _ h=>⟨Cq h.1,fun g hg=>⟨Cq (h.2 g hg).1,fun l hl=>Cq ((h.2 g hg).2 l hl)⟩⟩
theorem dl:Bd enc pg w 25 (fun n:Nat=> [AV.ro n []]) fun n=>n<Bt:=
 Bd.map (Bd.len Tryz.underlying25 (Nat.le_of_ble_eq_true (by kernel_rfl))) id (fun _=>rfl) fun _ h=>Cq h
theorem aR:Bd enc pg w 28 (fun n:Nat=> [AV.ro n []]) fun n=>n<Bt:=
 Bd.map (Bd.len Tryz.underlying28 (Nat.le_of_ble_eq_true (by kernel_rfl))) id (fun _=>rfl) fun _ h=>Cq h
theorem dm:Bd enc pg w 27 (fun x:List Gr×Nat=>IW x.1 x.2) fun x=>(x.1.length<Bt/\∀g∈x.1,JW g)/\x.2<Bt:=
 Bd.map (Bd.struct Tryz.underlying27 (.cons dk io rfl (.cons dl ip rfl .nil)) (by kernel_rfl)) (fun x=>⟨x.1,x.2.1⟩) (fun _=>rfl) fun _ h=>⟨h.1,h.2.1⟩
theorem dp:Bd enc pg w 30 (fun x:List (List Obj)×(List Gr×Nat)×Nat=>IX x.1 x.2.1.1 x.2.1.2 x.2.2) fun x=>(x.1.length<Bt/\∀l∈x.1,l.length<Bt/\∀o∈l,Gq o)/\((x.2.1.1.length<Bt/\∀g∈x.2.1.1,JW g)/\x.2.1.2<Bt)/\x.2.2<Bt:=
 Bd.map (Bd.struct Tryz.underlying30 (.cons dj im rfl (.cons dm iq rfl (.cons aR ZB rfl .nil))) (by kernel_rfl)) (fun x=>⟨x.1,x.2.1,x.2.2.1⟩) (fun _=>rfl) fun _ h=>⟨h.1,h.2.1,h.2.2.1⟩
theorem dq:Bd enc pg w 32 (fun x:List An×List (List Obj)×(List Gr×Nat)×Nat=>M8 x.1 x.2.1 x.2.2.1.1 x.2.2.1.2 x.2.2.2) fun x=>(x.1.length<Bt/\∀s∈x.1,Lx s)/\(x.2.1.length<Bt/\∀l∈x.2.1,l.length<Bt/\∀o∈l,Gq o)/\((x.2.2.1.1.length<Bt/\∀g∈x.2.2.1.1,JW g)/\x.2.2.1.2<Bt)/\x.2.2.2<Bt:=
 Bd.map (Bd.struct Tryz.underlying32 (.cons de il rfl (.cons dp ir rfl .nil)) (by kernel_rfl)) (fun x=>⟨x.1,x.2.1⟩) (fun _=>rfl) fun _ h=>⟨h.1,h.2.1⟩
end
open Go.Proofs Go.ChangeShapes Go.WideShapes Go.ChangeAt Go.RowKit
theorem own0:ownKnob pg.godebug=none:=by kernel_rfl
theorem aS:laidOutB pg=true:=by kernel_rfl
theorem ZF:mapsRowed pg=true:=by kernel_rfl
theorem aT:Kids pg (·<pg.types.size):=kids_rows aS ZF
theorem aU:∀t e,t<pg.types.size->pg.underlying t=some (.slice e)->0<pg.cellsOf e:=slices_full_of pg (by kernel_rfl)
theorem aV (w:World):B7 w (UC w) σ0 (fun _=>none) []:=⟨fun T B h=>by simp at h,fun _ _ _=>rfl⟩
theorem Fx.kept {w w' :World} {own' :Nat->Option Nat} (h:Fx w w' (fun _=>none) own'):w.keptBut w' (fun _=>False):=by
 have hb:∀i,i<w.heap.size->w'.heap[i]?=w.heap[i]?:=fun i hi=>h.block i hi rfl
 refine⟨h.os,h.output,fun i hi=>?_⟩
 rw[hb i hi]
 cases hw:w.heap[i]? with
 |none=>trivial
 |some o=>cases o<;>simp
section
variable {H:Type} {enc:TypeId×Value->H}
theorem Jv {P:Program} {w w' :World} {base:Nat} {spare:Nat->Bool} {Es:Bool}:∀{ts:List TypeId} {vs:List Value} {ds:List (DataW H)} {ps:List MemPlace},DataW.TrodAll enc P w base spare Es ts vs ds ps->(∀p∈ps,w.sameAt w' p)->DataW.TrodAll enc P w' base spare Es ts vs ds ps
 | [],[],[],_,h,_=>h
 |_::_,_::_,_::_,_,⟨p,q,⟨n,h1⟩,h2,e⟩,hs=>⟨p,q,⟨n,DataW.trod_carry n _ _ _ h1 fun x hx=>hs x (by rw[e];exact List.mem_append_left _ hx)⟩,Jv h2 (fun x hx=>hs x (by rw[e];exact List.mem_append_right _ hx)),e⟩
theorem Tk {f:Func} {s:ChangeSpec} {fresh handsOn again:Bool} {W W' :World} {args:Array Value} {v:Value} {ds gs:List (DataW H)} {before:List MemPlace} {own' :Nat->Option Nat}
 (hW:DataW.Whole enc pg f.params.toList s.vars false W args.toList ds gs before) (hT:∀t∈f.params.toList,t<pg.types.size) (hv:s.vars=[]) (hE:Fx W W' (fun _=>none) own') (hs:s.fn H (ds++gs)={results:=[.lit (.bool true)],args:=ds})
 (hr:f.resultTypes= #[4]) (he:v= .bool true):s.post enc pg f false fresh handsOn again W args v W' :=by
 have hold:∀p∈before,(fun b=>decide (b<W.heap.size)) p.block=true:=fun p hp=>by simpa using hW.lt p hp
 have hlt:=fun p hp=>hW.lt p hp
 have hW0:=hW
 obtain⟨p,q,hA,hV,rfl,hz,hn⟩:=hW
 rw[hv] at hV
 obtain⟨rfl,rfl⟩:=trodVars_none hV
 simp only[List.append_nil] at*
 have hargs:∀sp:Nat->Bool,(∀x∈p,sp x.block=true)->DataW.TrodAll enc pg W' 0 sp true f.params.toList args.toList ds p:=fun sp hsp=>by
  refine DataW.TrodAll.respare aT aU hT ?_ hsp
  refine Jv hA fun x hx=>?_
  have hb:=hE.block _ (hlt x hx) rfl
  cases x with
  |cell b off=>exact World.cell?_of_block hb
  |map b=>exact hb
 have hres:∀(b:Nat) (sp:Nat->Bool) (hd:Bool),DataW.TrodAll enc pg W' b sp hd f.resultTypes.toList (v.resultList f.resultTypes.size) [.lit (.bool true)] []:=fun b sp hd=>by
  subst he;rw[hr]
  exact trodAll_mk1 (shut_bool Tryz.underlying4 true)
 have hvars:∀sp:Nat->Bool,DataW.TrodVars enc pg W' sp s.vars [] []:=fun sp=>by rw[hv];rfl
 refine⟨ds,[],p,[],p,[],by simpa using hW0,?_,?_,?_,World.keptBut_mono (fun x hx=>hx.elim) hE.kept,fun _=>?_⟩
 .simp only[List.append_nil,hs];exact hres _ _ _
 .simp only[List.append_nil,hs];exact hargs _ hold
 .simp only[List.append_nil,hs];exact hvars _
 .refine⟨ok_one (P:=pg) (f:=f) (t:=4) hr (by subst he;rfl) (by subst he;exact okWide_bool_mk Tryz.underlying4 true),?_⟩
  refine⟨[.lit (.bool true)]++ds,[],[]++p,⟨[]++p,[],?_,hvars _,by simp,fun b off hp=>?_,fun h=>by cases h⟩,fun x hx _=>by simpa using hx⟩
  .exact trodAll_append (hargs (fun _=>true) (fun _ _=>rfl)) (hres 0 (fun _=>true) true)
  .have hp' :MemPlace.cell b off∈p:=by simpa using hp
   have:=hz b off hp'
   rw[World.frozen?_of_block (w:=W) (hE.block _ (hlt _ hp') rfl)]
   exact this
theorem O9 {f:Nat} {fn:Func} {s:ChangeSpec} {fresh handsOn again:Bool} (hp:fn.params= #[32]) (hr:fn.resultTypes= #[4]) (hv:s.vars=[]) (hs:∀(H:Type) (d:DataW H),s.fn H [d]={results:=[.lit (.bool true)],args:=[d]})
 (hc:∀(S:List An) (L:List (List Obj)) (G:List Gr) (na nn:Nat),S.length<Bt->(∀s∈S,Lx s)->G.length<Bt->(∀g∈G,JW g)->na<Bt->nn<Bt->L.length<Bt->(∀l∈L,l.length<Bt/\∀o∈l,Gq o)->Aa pg f [.agg (M8 S L G na nn)] [] fun r _=>r= .bool true)
 (W:World) (base:Nat) (args:Array Value) (ds gs:List (DataW H)) (before:List MemPlace) (hval:∀(j:Nat) t v,fn.params[j]?=some t->args[j]?=some v->Value.okWide pg W .any base t v)
 (hW:DataW.Whole enc pg fn.params.toList s.vars false W args.toList ds gs before) (hsz:(DataW.weightsEach pg (fn.params.toList++s.plain.varTypes pg) (ds++gs)).all (·<=reachBytes)=true):
 Calls pg f args W fun e W' =>∃v,e= .returned v/\s.post enc pg fn false fresh handsOn again W args v W' :=by
 have hW0:=hW
 obtain⟨p,q,hA,hV,rfl,hz,hn⟩:=hW
 rw[hv] at hV
 obtain⟨rfl,rfl⟩:=trodVars_none hV
 rw[hp] at hA hval hsz
 obtain⟨v0,d0,ha,rfl,fuel,h0⟩:=trodAll_one hA
 obtain rfl:args= #[v0]:=by cases args;simp_all
 have hok:=hval 0 32 v0 rfl rfl
 unfold Value.okWide at hok
 rw[Tryz.underlying32] at hok
 obtain⟨cs,rfl,_,_⟩:=hok
 obtain⟨⟨S,L,⟨G,na⟩,nn⟩,hvr,⟨g1,g2⟩,⟨g3,g4⟩,⟨⟨g5,g6⟩,g7⟩,g8⟩:=dq fuel cs.toList _ h0 (fun n hn' =>by
  have:=List.all_eq_true.1 hsz n (DataW.weights_mem_each (j:=0) (t:=32) (d:=d0) rfl rfl n hn')
  simpa using this)
 refine((hc S L G na nn g1 g2 g5 g6 g7 g8 g3 g4).2 W (UC W) σ0 (fun _=>none) #[.agg cs] (MF ⟨cs,rfl,hvr⟩) (aV W) (fun g hg=>⟨rfl,hg⟩)).mono ?_
 rintro e W' ⟨r,v,M',σ',own',fpr,rfl,rfl,_,hvv,_,_,_,hE,_⟩
 have hvt:v= .bool true:=hvv.1
 exact⟨v,rfl,Tk hW0 (by rw[hp];intro t ht;simp at ht;subst ht;exact of_decide_eq_true (by kernel_rfl)) hv hE (by simpa using hs H d0) hr hvt⟩
end
def Bo:List Bool->Int->Int->List (Int×Int)
 | [],i,a=>if a<i then [(a,i-a)] else []
 |false::t,i,a=>Bo t (i+1) a
 |true::t,i,a=>(if a<i then [(a,i-a)] else [])++Bo t (i+1) (i+1)
theorem HR:∀(t:List Bool) (i a:Int),(Bo t i a).length<=t.length+1
 | [],i,a=>by unfold Bo;split<;>simp
 |false::t,i,a=>by have:=HR t (i+1) a;unfold Bo;simp;omega
 |true::t,i,a=>by
  have:=HR t (i+1) (i+1)
  unfold Bo
  split<;>simp<;>omega
theorem Tl {t:List Bool} {i:Nat} (h:i<t.length) (b:t[i]=true) (a:Int):Bo (t.drop i) i a=(if a<i then [(a,(i:Int)-a)] else [])++Bo (t.drop (i+1)) ((i:Int)+1) ((i:Int)+1):=by
 rw[List.drop_eq_getElem_cons h,b,Bo]
theorem RQ {t:List Bool} {i:Nat} (h:i<t.length) (b:t[i]=false) (a:Int):Bo (t.drop i) i a=Bo (t.drop (i+1)) ((i:Int)+1) a:=by
 rw[List.drop_eq_getElem_cons h,b,Bo]
theorem JX {t:List Bool} {i:Nat} (h:t.length<=i) (i' a:Int):Bo (t.drop i) i' a=if a<i' then [(a,i' -a)] else []:=by
 rw[List.drop_eq_nil_of_le h,Bo]
theorem ZG (t:List Bool) (ht:t.length<1000000000):Aa pg 122 [.ro t.length (AO t)] [] (fun r _=>r= .own 2 (Bo t 0 0).length (Ac AC (Bo t 0 0))):=by
 refine Aa.start (fn:=Tryz.f122) [.tmp 2] tk rfl rfl rfl (by kernel_rfl) (Nat.le_of_ble_eq_true rfl) rfl (by kernel_rfl) ?_
 rw[Ay]
 refine zs ?_
 refine zs ?_
 obtain⟨g,hg⟩:∃g,g=Bo t 0 0:=⟨_,rfl⟩
 have hgl:g.length<=t.length+1:=by rw[hg];exact HR ..
 rw[<-hg]
 (repeat refine W.seq ?_);refine W.block (W.loopS (fun x:Nat×Nat=> [(0,.ro t.length (AO t)),(2,.tok 0 x.2 2 0 x.2),(3,.int .i64 x.1)]) (fun x=> [.live x.2 (Ac AC (g.take x.2))]) (fun x=>t.length+1-x.1) (fun x=>x.1<=t.length+1/\x.2<=x.1/\x.2<=g.length/\g.drop x.2=Bo (t.drop x.1) x.1 x.1) (0,0) ((Wk.nil (t:=2) (s:=2) (by simp)).trans (Wk.fr (by simp[Ad]))) ⟨by omega,by omega,by omega,by simp[hg]⟩ ?_)
 rintro⟨i,k⟩ ⟨hi,hki,hkg,hk⟩
 simp only at hi hki hkg hk |-
 by_cases c1:i<t.length
 rotate_left
 .refine Af c1 ?_;intro K hK
  refine zk ?_;clear hK K
  refine zn ?_
  refine W.exit ?_
  have:k=g.length:=by
   rw[JX (by omega),if_neg (by omega)] at hk
   have:=congrArg List.length hk
   simp at this;omega
  subst this
  rw[List.take_length]
  refine zs ?_
  exact zR
 refine Af c1 ?_;intro K hK
 refine zk ?_;clear hK K
 refine zt ?_
 refine W.skip ?_
 refine zb ?_
 refine zs ?_
 (repeat refine W.seq ?_);refine W.block (W.loopS (fun j:Nat=> [(0,.ro t.length (AO t)),(2,.tok 0 k 2 0 k),(3,.int .i64 j),(4,.int .i64 i)]) (fun _=> [.live k (Ac AC (g.take k))]) (fun j=>t.length-j) (fun j=>i<=j/\j<=t.length/\g.drop k=Bo (t.drop j) j i) i (Wk.fr (by simp[Ad])) ⟨by omega,by omega,hk⟩ ?_)
 rintro j ⟨hij,hjl,hj⟩
 by_cases c2:∃h:j<t.length,t[j]=false
 .obtain⟨c2,c3⟩:=c2
  refine Af (an c2 c3) ?_;intro K hK
  refine zk ?_;clear hK K
  refine zt ?_
  refine W.skip ?_
  refine zb ?_
  refine zs ?_
  exact⟨j+1,by omega,⟨by omega,by omega,by rw[hj,RQ c2 c3];simp⟩,Wk.fr (by simp[Ad])⟩
 have hrest:∃l,g.drop k=(if i<j then [((i:Int),(j:Int)-i)] else [])++l/\l=Bo (t.drop (j+1)) ((j:Int)+1) ((j:Int)+1):=by
  refine⟨_,?_,rfl⟩
  rw[hj]
  by_cases c3:j<t.length
  .have c4:t[j]=true:=by
    cases e:t[j]
    .exact absurd ⟨c3,e⟩ c2
    .rfl
   rw[Tl c3 c4]
   by_cases e:i<j<;>simp[e]
  .rw[JX (by omega),JX (by omega),if_neg (show¬((j:Int)+1<(j:Int)+1) by omega),List.append_nil]
   by_cases e:i<j<;>simp[e]
 obtain⟨l,hl,hle⟩:=hrest
 (repeat refine W.seq ?_);refine W.midS (fun _:Unit=> [(0,.ro t.length (AO t)),(2,.tok 0 k 2 0 k),(3,.int .i64 j),(4,.int .i64 i),(22,.bool false)]) (fun _=> [.live k (Ac AC (g.take k))]) (fun _=>True) ?_ ?_
 .by_cases c3:j<t.length
  .have c4:t[j]=true:=by
    cases e:t[j]
    .exact absurd ⟨c3,e⟩ c2
    .rfl
   refine Af (an c3 c4) ?_;intro K hK
   refine zk ?_;clear hK K
   exact⟨(),trivial,Wk.fr (by simp[Ad])⟩
  .refine Af c3 ?_;intro K hK
   refine zk ?_;clear hK K
   exact⟨(),trivial,Wk.fr (by simp[Ad])⟩
 rintro _ _
 refine zn ?_
 refine W.exit ?_
 by_cases c5:i<j
 .have c5' :(i:Int)<(j:Int):=by omega
  rw[if_pos c5] at hl
  have hkl:k<g.length:=by
   have:=congrArg List.length hl
   simp at this;omega
  have hgk:g[k]=((i:Int),(j:Int)-i):=by
   have:=List.drop_eq_getElem_cons hkl
   rw[hl] at this
   simpa using (List.cons.inj this).1.symm
  have hdl:g.drop (k+1)=l:=by
   have:=List.drop_eq_getElem_cons hkl
   rw[hl] at this
   simpa using (List.cons.inj this).2.symm
  have hto:g.take (k+1)=g.take k++[((i:Int),(j:Int)-i)]:=by
   rw[List.take_add_one];simp[hkl,hgk]
  refine Af c5' ?_;intro K hK
  refine zk ?_;clear hK K
  refine zt ?_
  refine MG hkl ?_;intro K hK
  refine⟨by omega,by omega,?_⟩
  refine zk ?_;clear hK K
  refine zs ?_
  refine⟨(j+1,k+1),by simp only;omega,⟨by simp only;omega,by simp only;omega,by simp only;omega,by simp only;rw[hdl,hle];simp⟩,Wk.cutM (k:=1) (by simp[Ad]) ?_ (by simp) (by simp) (by simp) (by simp)⟩
  rw[hto]
  simp[Ck,Ax,AC]
 .have c5' :¬(i:Int)<(j:Int):=by omega
  rw[if_neg c5,List.nil_append] at hl
  refine Af c5' ?_;intro K hK
  refine zk ?_;clear hK K
  refine zn ?_
  refine W.skip ?_
  refine zs ?_
  refine⟨(j+1,k),by simp only;omega,⟨by simp only;omega,by simp only;omega,hkg,by simp only;rw[hl,hle];simp⟩,Wk.fr (by simp[Ad])⟩
def DW (l:List (Int×Int)) (blocks n:Int):Int×Int:=
 if CL l blocks/\(1<=n/\n<=100) then match (Bo (BE l blocks.toNat) 0 0).find? fun x=>decide (n<=x.2) with
  |some x=>(x.1,0)
  |none=>(0,5)
 else(0,1)
theorem Ly {α:Type} {p:α->Bool} {g:List α} {k:Nat} (hk:k<g.length) (h:∀x∈g.take k,p x=false) (hp:p g[k]=true):g.find? p=some g[k]:=by
 have e:g=g.take k++g[k]::g.drop (k+1):=by rw[<-List.drop_eq_getElem_cons hk,List.take_append_drop]
 have e2:(g.take k++g[k]::g.drop (k+1)).find? p=some g[k]:=by
  rw[List.find?_append,List.find?_eq_none.2 (by intro x hx;simpa using h x hx)]
  simp only[Option.none_or,List.find?_cons,hp]
 exact(congrArg (List.find? p) e).trans e2
theorem NE {α:Type} {p:α->Bool} {g:List α} {k:Nat} (hk:k<g.length) (h:∀x∈g.take k,p x=false) (hp:p g[k]=false):∀x∈g.take (k+1),p x=false:=by
 intro x hx
 rw[List.take_succ_eq_append_getElem hk,List.mem_append] at hx
 rcases hx with hx|hx
 .exact h x hx
 .simp at hx;subst hx;exact hp
theorem ZH (l:List (Int×Int)) (blocks n:Int) (hl:l.length<1000000000):Aa pg 119 [.ro l.length (Ac AC l),.int .i64 blocks,.int .i64 n] [] (fun r _=>r= .tup [.int .i64 (DW l blocks n).1,.int .i64 (DW l blocks n).2]):=by
 have sp:=RG l blocks hl
 refine Aa.start (fn:=Tryz.f119) [.tmp 6,.tmp 7] tk rfl rfl rfl (by kernel_rfl) (Nat.le_of_ble_eq_true rfl) rfl (by kernel_rfl) ?_
 rw[Bl]
 refine zs ?_
 by_cases c1:CL l blocks
 rotate_left
 .rw[HH,if_neg c1] at sp
  refine z0 ?_;intro K hK
  refine Ab.eq sp (by simp) (by simp) ?_
  refine zx ?_
  refine zk ?_;clear hK K
  refine zs ?_
  refine zt ?_
  refine zs ?_
  refine zr ?_
  simp[DW,c1]
 rw[HH,if_pos c1] at sp
 have hn:blocks.toNat<=100:=by have:=c1.2.1;omega
 refine z0 ?_;intro K hK
 refine Ab.eq sp (by simp) (by simp) ?_
 refine zx ?_
 refine zk ?_;clear hK K
 refine z0 ?_;intro K hK
 refine Ab.eq (Qi n) (by simp) (by simp) ?_
 by_cases c2:1<=n/\n<=100
 rotate_left
 .rw[decide_eq_false c2]
  refine zx ?_
  refine zk ?_;clear hK K
  refine zt ?_
  refine zs ?_
  refine zr ?_
  simp[DW,c2]
 rw[decide_eq_true c2]
 refine zx ?_
 refine zk ?_;clear hK K
 refine zn ?_
 refine W.skip ?_
 have spg:=ZG (BE l blocks.toNat) (by simp;omega)
 rw[MV] at spg
 obtain⟨g,hg⟩:∃g,g=Bo (BE l blocks.toNat) 0 0:=⟨_,rfl⟩
 have hgl:g.length<=blocks.toNat+1:=by have:=HR (BE l blocks.toNat) 0 0;rw[hg];simpa using this
 have hfs:DW l blocks n=match g.find? fun x=>decide (n<=x.2) with|some x=>(x.1,0) |none=>(0,5):=by
  unfold DW;rw[if_pos ⟨c1,c2⟩,hg]
 rw[<-hg] at spg
 refine z0 ?_;intro K hK
 refine Ab.eq spg (by simp) (by simp) ?_
 refine zx ?_
 refine zk ?_;clear hK K
 (repeat refine W.seq ?_);refine W.block (W.loopS (fun k:Nat=> [(2,.int .i64 n),(26,.tok 1 0 2 0 g.length),(27,.int .i64 g.length),(28,.int .i64 k)]) (fun _=> [.live 0 (AO (BE l blocks.toNat)),.live 0 (Ac AC g)]) (fun k=>g.length-k) (fun k=>k<=g.length/\∀x∈g.take k,decide (n<=x.2)=false) 0 (Wk.fr (by simp[Ad])) ⟨by omega,by simp⟩ ?_)
 rintro k ⟨hk,hm⟩
 by_cases c3:k<g.length
 rotate_left
 .have c3' :¬(k:Int)<(g.length:Int):=by omega
  refine Af c3' ?_;intro K hK
  refine zk ?_;clear hK K
  refine zn ?_
  refine W.exit ?_
  rw[List.take_of_length_le (by omega)] at hm
  rw[List.find?_eq_none.2 (by intro x hx;simpa using hm x hx)] at hfs
  refine zs ?_
  refine zr ?_
  simp[hfs]
 have c3' :(k:Int)<(g.length:Int):=by omega
 refine Af c3' ?_;intro K hK
 refine zk ?_;clear hK K
 refine zt ?_
 refine W.skip ?_
 refine zb ?_
 have k0:(Ac AC g)[k*2]?=some (.int .i64 g[k].1):=Bk (f:=AC) (s:=2) (fun _=>rfl) c3 (i:=0) (by omega)
 have k1:(Ac AC g)[k*2+1]?=some (.int .i64 g[k].2):=Bk (f:=AC) (s:=2) (fun _=>rfl) c3 (i:=1) (by omega)
 refine MG (an c3 (an k0 k1)) ?_;intro K hK
 refine zk ?_;clear hK K
 by_cases c4:n<=g[k].2
 .rw[Ly (p:=fun x=>decide (n<=x.2)) c3 hm (by simpa using c4)] at hfs
  refine Af c4 ?_;intro K hK
  refine zk ?_;clear hK K
  refine zt ?_
  refine z0 ?_;intro K hK
  refine zk ?_;clear hK K
  refine zr ?_
  simp[hfs]
 .refine Af c4 ?_;intro K hK
  refine zk ?_;clear hK K
  refine zn ?_
  refine W.skip ?_
  refine zs ?_
  refine⟨k+1,by omega,⟨by omega,NE c3 hm (by simpa using c4)⟩,Wk.cutM (k:=2) (by simp[Ad]) (by simp) (by simp) (by simp) (by simp) (by simp)⟩
def RS (l:List (Int×Int)) (blocks:Int):Int×Int:=
 if CL l blocks then(((Bo (BE l blocks.toNat) 0 0).map fun x=>x.2).sum,0) else(0,1)
theorem Vf (xs:List AM) (hx:xs.length<1000000000):Aa pg 134 [.ro xs.length (Ac Au xs)] [] (fun r _=>r= .own 8 xs.length (Ac Au xs)):=by
 refine Aa.start (fn:=Tryz.f134) [.tmp 2] tk rfl rfl rfl (by kernel_rfl) (Nat.le_of_ble_eq_true rfl) rfl (by kernel_rfl) ?_
 rw[Ay]
 refine zs ?_
 refine z0 ?_;intro K hK
 refine⟨fun h=>?_,fun h=>⟨?_,?_⟩⟩
 .refine zk ?_;clear hK K
  refine zn ?_
  refine W.skip ?_
  refine z1 ?_;intro K hK
  refine⟨by omega,by omega,?_⟩
  refine zk ?_;clear hK K
  exact zR
 .refine zk ?_;clear hK K
  refine zn ?_
  refine W.skip ?_
  subst h
  refine z1 ?_;intro K hK;refine zk ?_;clear hK K
  exact zR
 .refine zk ?_;clear hK K
  refine zt ?_
  refine zs ?_
  refine zr ?_
  simp[h]
theorem Vg (xs:List CZ) (hx:xs.length<1000000000):Aa pg 135 [.ro xs.length (Ac (Az false) xs)] [] (fun r _=>r= .own 12 xs.length (Ac (Az false) xs)):=by
 refine Aa.start (fn:=Tryz.f135) [.tmp 2] tk rfl rfl rfl (by kernel_rfl) (Nat.le_of_ble_eq_true rfl) rfl (by kernel_rfl) ?_
 rw[Ay]
 refine zs ?_
 refine z0 ?_;intro K hK
 refine⟨fun h=>?_,fun h=>⟨?_,?_⟩⟩
 .refine zk ?_;clear hK K
  refine zn ?_
  refine W.skip ?_
  refine z1 ?_;intro K hK
  refine⟨by omega,by omega,?_⟩
  refine zk ?_;clear hK K
  exact zR
 .refine zk ?_;clear hK K
  refine zn ?_
  refine W.skip ?_
  subst h
  refine z1 ?_;intro K hK;refine zk ?_;clear hK K
  exact zR
 .refine zk ?_;clear hK K
  refine zt ?_
  refine zs ?_
  refine zr ?_
  simp[h]
theorem Vh (xs:List (List Int)) (hx:xs.length<1000000000):Aa pg 169 [.ro xs.length (AA false xs)] [] (fun r _=>r= .own 1 xs.length (AA false xs)):=by
 refine Aa.start (fn:=Tryz.f169) [.tmp 2] tk rfl rfl rfl (by kernel_rfl) (Nat.le_of_ble_eq_true rfl) rfl (by kernel_rfl) ?_
 rw[Ay]
 refine zs ?_
 refine z0 ?_;intro K hK
 refine⟨fun h=>?_,fun h=>⟨?_,?_⟩⟩
 .refine zk ?_;clear hK K
  refine zn ?_
  refine W.skip ?_
  refine z1 ?_;intro K hK
  refine⟨by omega,by omega,?_⟩
  refine zk ?_;clear hK K
  exact zR
 .refine zk ?_;clear hK K
  refine zn ?_
  refine W.skip ?_
  subst h
  refine z1 ?_;intro K hK;refine zk ?_;clear hK K
  exact zR
 .refine zk ?_;clear hK K
  refine zt ?_
  refine zs ?_
  refine zr ?_
  simp[h]
def G5 (k:Nat) (xs:List (List Int)):List AV:=AA true (xs.take k)++AA false (xs.drop k)
theorem Xt (k:Nat) (xs:List (List Int)):(G5 k xs).length=xs.length:=by simp[G5];omega
theorem K7 (m:Bool) {k:Nat} {xs:List (List Int)} (h:k<=xs.length):(AA m (xs.take k)).length=k:=by simp[AA];omega
theorem Xu {k:Nat} {xs:List (List Int)} (h:k<xs.length):(G5 k xs)[k]?=some (.ro xs[k].length (Ae xs[k])):=by
 have hl:=K7 true (Nat.le_of_lt h)
 unfold G5
 rw[List.getElem?_append_right (by omega),hl,Nat.sub_self,List.drop_eq_getElem_cons h]
 rfl
theorem Xv {k:Nat} {xs:List (List Int)} (h:k<xs.length):(G5 k xs).set k (.own 1 xs[k].length (Ae xs[k]))=G5 (k+1) xs:=by
 have hl:=K7 true (Nat.le_of_lt h)
 have e:AA true (xs.take (k+1))=AA true (xs.take k)++[.own 1 xs[k].length (Ae xs[k])]:=by
  rw[List.take_succ_eq_append_getElem h];simp only[AA,List.map_append];rfl
 unfold G5
 rw[List.set_append_right _ _ (by omega),hl,Nat.sub_self,List.drop_eq_getElem_cons h,e,List.append_assoc]
 rfl
theorem JY (k n:Nat) (xs:List (List Int)):Dg n (G5 k xs)=true:=by simp[G5]
theorem aW (xs:List (List Int)):AA false xs=G5 0 xs:=by simp[G5]
theorem Xw {k:Nat} {xs:List (List Int)} (h:xs.length<=k):G5 k xs=AA true xs:=by
 unfold G5
 rw[List.take_of_length_le h,List.drop_eq_nil_of_le h];simp
theorem ZI (g:Gr) (hg:FL g):Aa pg 136 [.agg (Ba false g)] [] (fun r _=>r= .agg (Ba true g)):=by
 have h1:=hg.1
 refine Aa.start (fn:=Tryz.f136) [.cell 2 51] tk rfl rfl rfl (by kernel_rfl) (Nat.le_of_ble_eq_true rfl) rfl (by kernel_rfl) ?_
 rw[Ay]
 refine z2 ?_;intro K hK;refine zk ?_;clear hK K
 refine z0 ?_;intro K hK
 refine Ab.eqr (Vh g.out (by omega)) (by simp) ?_
 refine zx ?_
 refine zk ?_;clear hK K
 refine z0 ?_;intro K hK
 refine zk ?_;clear hK K
 rw[aW g.out]
 (repeat refine W.seq ?_);refine W.block (W.loopS (fun k:Nat=> [(1,.ptr 0 0 0),(2,.ptr 1 0 0),(10,.int .i64 g.out.length),(11,.int .i64 k)]) (fun k=> [.live 0 [.int .i64 g.n,.tok 2 0 1 0 g.out.length],.live 0 [.int .i64 0,.own 1 0 []],.live 0 (G5 k g.out)]) (fun k=>g.out.length-k) (fun k=>k<=g.out.length) 0 (Wk.fr (by simp[Ad])) (by simp) ?_)
 intro k hk
 by_cases c1:k<g.out.length
 rotate_left
 .have c1' :¬(k:Int)<(g.out.length:Int):=by omega
  refine Af c1' ?_;intro K hK
  refine zk ?_;clear hK K
  refine zn ?_
  refine W.exit ?_
  rw[Xw (by omega)]
  refine z0 ?_;intro K hK
  refine zk ?_;clear hK K
  exact zR
 have c1' :(k:Int)<(g.out.length:Int):=by omega
 refine Af c1' ?_;intro K hK
 refine zk ?_;clear hK K
 refine zt ?_
 refine W.skip ?_
 refine zb ?_
 refine zs ?_
 have hg0:=Xu c1
 have hml:=Xt k g.out
 have hg1:(G5 k g.out)[k]'(by omega)= .ro g.out[k].length (Ae g.out[k]):=by
  rw[List.getElem?_eq_getElem (by omega)] at hg0;simpa using hg0
 refine Bx (an c1 (an hg1 hml)) ?_;intro K hK
 refine Ah.eqr (Hh g.out[k] (by have:=hg.2 _ (List.getElem_mem c1);omega)) (by simp) ?_
 refine AX (an c1 hml) ?_
 refine zk ?_;clear hK K
 have hnm:=JY k 3 g.out
 refine zs ?_
 refine⟨k+1,by omega,by omega,(Wk.intern (B:=2) (v:=0) (j:=k) (T:=3) (u:=0) (s:=1) (off:=0) (n:=g.out[k].length) (cs:=(G5 k g.out).set k (AV.tok 3 0 1 0 g.out[k].length)) (xs:=Ae g.out[k]) (by simp) (by rw[List.getElem?_set_self (by omega)]) (by simp) (by simp) (by simp) (by simp)).trans (Wk.cutM (k:=3) (by simp[Ad]) ?_ (by simp[JY]) (by simp[JY]) (by simp[JY]) (by simp[JY]))⟩
 rw[<-Xv c1]
 simp
end Go.Abs
