/- Codes laid: logarithms, signs folded, gamma codes, lists by gaps. -/
import Derived.Test.YtoklapibcmnaeaaGreatP14
set_option linter.unusedVariables false
set_option linter.unusedSimpArgs false
set_option maxRecDepth 100000
namespace Go.Abs
open Go.Proofs
theorem Vo (f:Nat):Lib.bitLenAux f 0=0:=by cases f<;>simp[Lib.bitLenAux]
theorem Ma:∀(f x:Nat),x<2^f->x≠0->Lib.bitLenAux f x=Nat.log2 x+1
 |0,x,h,h0=>by simp at h;omega
 |f+1,x,h,h0=>by
  rw[Lib.bitLenAux,if_neg h0]
  by_cases h2:x/2=0
  .have:x=1:=by omega
   subst this
   rw[h2,Vo];decide
  .rw[Ma f (x/2) (by rw[Nat.pow_succ] at h;omega) h2]
   obtain⟨a,b⟩:=H4 (n:=x/2) (by omega)
   rw[Kv (n:=x) (q:=Nat.log2 (x/2)+1) (by rw[Nat.pow_succ];omega) (by rw[Nat.pow_succ];omega)]
   omega
theorem ZO (n:Nat) (h:1<=n) (h2:n<1099511627776):Aa pg 232 [.int .i64 n] [] (fun r _=>r= .int .i64 (Nat.log2 n)):=by
 have hlg:=(Nat.log2_lt (n:=n) (k:=40) (by omega)).2 (by omega)
 have hb:=Ol n (by omega)
 rw[show Lib.bitLen n=Nat.log2 n+1 from Ma 64 n (Nat.lt_trans h2 (by decide)) (by omega)] at hb
 have w1:IntKind.u64.wrap (n:Int)=(n:Int):=by unfold IntKind.wrap;simp;omega
 refine Aa.start (fn:=Tryz.f232) [.tmp 2] tk rfl rfl rfl (by kernel_rfl) (Nat.le_of_ble_eq_true rfl) rfl (by kernel_rfl) ?_
 rw[Ay]
 refine zs ?_
 refine Af w1 ?_;intro K hK
 refine Ab.eq hb (by simp) (by simp) ?_
 refine zx ?_
 refine zk ?_;clear hK K
 exact zR
theorem Tu (n:Int) (h:-1000000<=n/\n<=1000000):Aa pg 246 [.int .i64 n] [] (fun r _=>r= .int .i64 (BX n)):=by
 refine Aa.start (fn:=Tryz.f246) [.tmp 2] tk rfl rfl rfl (by kernel_rfl) (Nat.le_of_ble_eq_true rfl) rfl (by kernel_rfl) ?_
 rw[Ay]
 refine zs ?_
 refine zs ?_
 refine zc ?_ ?_<;>intro h
 .refine z0 ?_;intro K hK
  refine zk ?_;clear hK K
  refine zr ?_
  simp[BX];omega
 .refine W.skip ?_
  refine z0 ?_;intro K hK
  refine zk ?_;clear hK K
  refine zr ?_
  simp[BX];omega
theorem E5 (l:List Bool) (n:Nat) (hl:l.length<10000000) (h1:1<=n) (h2:n<1099511627776):Aa pg 212 [.ptr 0 0 0,.int .i64 2,.int .i64 n] [.live 0 (Ch l)] (fun r M=>r= .tup []/\M=[.live 0 (Ch (l++AD n))]):=by
 have hlg:=(Nat.log2_lt (n:=n) (k:=40) (by omega)).2 (by omega)
 have spL:=ZO n h1 h2
 obtain⟨g,hg⟩:∃g,g=Nat.log2 n:=⟨_,rfl⟩
 have e:l++AD n=(l++A9 0 g)++A9 n (g+1):=by rw[hg];simp[AD]
 rw[e]
 rw[<-hg] at spL hlg
 obtain⟨g1,hg1⟩:∃g1,g1=g+1:=⟨_,rfl⟩
 have hgi:(g:Int)+1=(g1:Int):=by omega
 rw[<-hg1]
 refine Aa.start (fn:=Tryz.f212) [] tk rfl rfl rfl (by kernel_rfl) (Nat.le_of_ble_eq_true rfl) rfl (by kernel_rfl) ?_
 rw[Bl]
 refine zs ?_
 refine zb ?_
 refine zs ?_
 refine zn ?_
 refine zs ?_
 refine zt ?_
 refine z0 ?_;intro K hK
 refine Ab.eq spL (by simp) (by simp) ?_
 refine zx ?_
 refine Ab.pass [0] (Pg l 0 g (by omega) (by omega) (by omega)) (by simp) (by simp) (by simp) (by simp) ?_
 rintro r M ⟨rfl,rfl⟩ _
 refine zx ?_
 refine zk ?_;clear hK K
 refine z0 ?_;intro K hK
 refine Ab.eq spL (by simp) (by simp) ?_
 refine AX hgi ?_
 refine Ab.pass [0] (Pg (l++A9 0 g) n g1 (by simp;omega) (by omega) (by omega)) (by simp) (by simp) (by simp) (by simp) ?_
 rintro r M ⟨rfl,rfl⟩ _
 refine zx ?_
 refine zk ?_;clear hK K
 (try simp only[Cs,Ct,Dk,Dl,if_true]);refine Fw (d:=0) ?_;simp -implicitDefEqProofs (maxSteps:=999999) (disch:=omega)
theorem ZP (xs:List Bool) (v:Int) (l:List Int) (hx:xs.length<1000000) (hv:0<=v/\v<=16) (hl:AJ l):Aa pg 247 [.ptr 0 0 0,.int .i64 v,.ro l.length (Ae l)] [.live 0 (Ch xs)] (fun r M=>r= .tup []/\M=[.live 0 (Ch (xs++Cx v l))]):=by
 have hll:=Bq hl
 have hg0:=DP (l.length+1) (by omega)
 obtain⟨m,hm⟩:∃m,m=l.length+1:=⟨_,rfl⟩
 have hn1:(l.length:Int)+1=(m:Int):=by omega
 rw[<-hm] at hg0
 refine Aa.start (fn:=Tryz.f247) [] tk rfl rfl rfl (by kernel_rfl) (Nat.le_of_ble_eq_true rfl) rfl (by kernel_rfl) ?_
 rw[Bl]
 refine Af hn1 ?_;intro K hK
 refine Ab.pass [0] (E5 xs m (by omega) (by omega) (by omega)) (by simp) (by simp) (by simp) (by simp) ?_
 rintro r M ⟨rfl,rfl⟩ _
 refine zx ?_
 refine zk ?_;clear hK K
 refine zs ?_
 (repeat refine W.seq ?_);refine W.block (W.loopS (fun z:Nat×List Bool=> [(0,.ptr 0 0 0),(1,.int .i64 v),(2,.ro l.length (Ae l)),(13,.ro l.length (Ae l)),(14,.int .i64 l.length),(15,.int .i64 (z.1:Nat))]) (fun z=> [.live 0 (Ch z.2)]) (fun z=>l.length-z.1) (fun z=>z.1<=l.length/\z.2=xs++(AD m++B3 v (l.take z.1) true 0)/\z.2.length<=xs.length+81*(z.1+1)) (0,xs++AD m) (Wk.fr (by simp[Ad])) ⟨by simp,by simp[B3],by simp;omega⟩ ?_)
 rintro⟨i,B⟩ ⟨hi,hB,hBl⟩
 simp only at hi hB hBl
 by_cases hlt:i<l.length
 rotate_left
 .have hi' :i=l.length:=by omega
  subst hi'
  rw[List.take_length] at hB
  refine z0 ?_;intro K hK
  refine zk ?_;clear hK K
  refine zn ?_
  refine W.exit ?_
  (try simp only[Cs,Ct,Dk,Dl,if_true]);refine Fw (d:=0) ?_;simp -implicitDefEqProofs (maxSteps:=999999) (disch:=omega)
  rw[hB,hm];simp[Cx]
 have hto:=IP v l i true 0 hlt
 have hbd:=hl.1 _ (List.getElem_mem hlt)
 refine Af hlt ?_;intro K hK
 refine zk ?_;clear hK K
 refine zt ?_
 refine W.skip ?_
 refine zb ?_
 by_cases h0:i=0
 .subst h0
  have hz:=Dv (l[0]-v)
  have hz2:BX (l[0]-v)<=100:=by unfold BX;split<;>omega
  obtain⟨c,hc⟩:=Int.eq_ofNat_of_zero_le (show 0<=BX (l[0]-v)+1 by omega)
  have hcl:=DP c (by omega)
  (repeat refine W.seq ?_);refine W.reg 0 rfl fun K hK=>?_;simp -implicitDefEqProofs (maxSteps:=999999) (disch:=omega) [hlt]
  refine zk ?_;clear hK K
  refine z0 ?_;intro K hK
  refine zk ?_;clear hK K
  refine zt ?_
  refine z0 ?_;intro K hK
  refine Ab.eq (Tu (l[0]-v) (by omega)) (by simp) (by simp) ?_
  refine AX hc ?_
  refine Ab.pass [0] (E5 B c (by omega) (by omega) (by omega)) (by simp) (by simp) (by simp) (by simp) ?_
  rintro r M ⟨rfl,rfl⟩ _
  refine zx ?_
  refine zk ?_;clear hK K
  refine zs ?_
  refine⟨(1,B++AD c),by simp only;omega,⟨by simp only;omega,?_,by simp;omega⟩,Wk.fr (by simp[Ad])⟩
  simp only[hto,if_true,hc,Int.toNat_natCast]
  rw[hB];simp[B3]
 .have hup:=List.pairwise_iff_getElem.1 hl.2 (i-1) i (by omega) hlt (by omega)
  have hbd2:=hl.1 _ (List.getElem_mem (show i-1<l.length by omega))
  obtain⟨c,hc⟩:=Int.eq_ofNat_of_zero_le (show 0<=l[i]-l[i-1] by omega)
  have hcl:=DP c (by omega)
  obtain⟨j,hj⟩:∃j,j=i-1:=⟨_,rfl⟩
  have hi1:(i:Int)-1=(j:Int):=by omega
  have hlt2:j<l.length:=by omega
  simp only[<-hj] at hc hup hbd2
  (repeat refine W.seq ?_);refine W.reg 0 rfl fun K hK=>?_;simp -implicitDefEqProofs (maxSteps:=999999) (disch:=omega) [hlt]
  refine zk ?_;clear hK K
  refine Af h0 ?_;intro K hK
  refine zk ?_;clear hK K
  refine zn ?_
  refine Af (an hi1 (an hlt2 hc)) ?_;intro K hK
  refine Ab.pass [0] (E5 B c (by omega) (by omega) (by omega)) (by simp) (by simp) (by simp) (by simp) ?_
  rintro r M ⟨rfl,rfl⟩ _
  refine zx ?_
  refine zk ?_;clear hK K
  refine zs ?_
  refine⟨(i+1,B++AD c),by simp only;omega,⟨by simp only;omega,?_,by simp;omega⟩,Wk.fr (by simp[Ad])⟩
  simp only[<-hj] at hto
  simp only[hto,if_neg h0,hc,Int.toNat_natCast]
  rw[hB];simp
set_option maxHeartbeats 2000000 in
theorem Q6 (xs:List Bool) (v:Int) (l:List Int) (hx:xs.length<100000) (hv:0<=v/\v<=16) (hl:AJ l):Aa pg 230 [.ptr 0 0 0,.int .i64 v,.ro l.length (Ae l)] [.live 0 (Ch xs)] (fun r M=>r= .tup []/\M=[.live 0 (Ch (xs++AY v l))]):=by
 have hll:=Bq hl
 have spS:=Ry l (by omega) (fun x hx=>by have:=hl.1 x hx;omega)
 obtain⟨p1,p2,p3,p4⟩:=D1 l.length l true 0 (Nat.le_refl _) hl.2 (.inl rfl)
 have pin:=Ho l.length l (Nat.le_refl _)
 have hbits:AY v l=AD ((Am l).1.length+1)++BL v (Am l).1 true 0++Cx v (Am l).2:=rfl
 rw[hbits]
 clear hbits
 obtain⟨rs,hrs⟩:∃rs,rs=(Am l).1:=⟨_,rfl⟩
 obtain⟨rest,hrest⟩:∃rest,rest=(Am l).2:=⟨_,rfl⟩
 simp only[Oj] at spS
 rw[<-hrs,<-hrest] at spS |-
 rw[<-hrs] at p1 p2 pin
 rw[<-hrest] at p3 p4
 have hpos:=KH rs true 0 p1
 have hrm:AJ rest:=⟨fun x hx=>hl.1 x (p4 x hx),p3⟩
 have hrl:=Bq hrm
 have hbnd:∀(i:Nat) (h:i<rs.length),0<=rs[i].1/\rs[i].1<16/\rs[i].2<=16:=fun i h=>by
  have:=pin _ (List.getElem_mem h)
  have h2:=hl.1 _ this.1
  omega
 obtain⟨m,hm⟩:∃m,m=rs.length+1:=⟨_,rfl⟩
 have hn1:(rs.length:Int)+1=(m:Int):=by omega
 have hg0:=DP m (by omega)
 rw[<-hm]
 refine Aa.start (fn:=Tryz.f230) [] tk rfl rfl rfl (by kernel_rfl) (Nat.le_of_ble_eq_true rfl) rfl (by kernel_rfl) ?_
 rw[Bl]
 refine z0 ?_;intro K hK
 refine Ab.eq spS (by simp) (by simp) ?_
 refine zx ?_
 refine zk ?_;clear hK K
 refine Af hn1 ?_;intro K hK
 refine Ab.pass [0] (E5 xs m (by omega) (by omega) (by omega)) (by simp) (by simp) (by simp) (by simp) ?_
 rintro r M ⟨rfl,rfl⟩ _
 refine zx ?_
 refine zk ?_;clear hK K
 refine zs ?_
 refine zs ?_
 (repeat refine W.seq ?_);refine W.block (W.loopS (fun z:Nat×List Bool×Int=> [(0,.ptr 0 0 0),(1,.int .i64 v),(7,.tok 2 0 1 0 rest.length),(8,.int .i64 z.2.2),(21,.tok 1 0 2 0 rs.length),(22,.int .i64 rs.length),(23,.int .i64 (z.1:Nat))]) (fun z=> [.live 0 (Ch z.2.1),.live 0 (Ac AC rs),.live 0 (Ae rest)]) (fun z=>rs.length-z.1) (fun z=>z.1<=rs.length/\z.2.1=xs++(AD m++BL v (rs.take z.1) true 0)/\z.2.1.length<=xs.length+162*(z.1+1)/\∀h:z.1-1<rs.length,0<z.1->z.2.2=rs[z.1-1].1+rs[z.1-1].2) (0,xs++AD m,0) (Wk.fr (by simp[Ad])) ⟨by simp,by simp[BL],by simp;omega,by simp⟩ ?_)
 rintro⟨i,B,E⟩ ⟨hi,hB,hBl,hE⟩
 simp only at hi hB hBl hE |-
 by_cases hlt:i<rs.length
 rotate_left
 .have hi' :i=rs.length:=by omega
  subst hi'
  rw[List.take_length] at hB
  refine z0 ?_;intro K hK
  refine zk ?_;clear hK K
  refine zn ?_
  refine W.exit ?_
  refine z0 ?_;intro K hK
  refine Ab.pass [0] (ZP B v rest (by omega) hv hrm) (by simp) (by simp) (by simp) (by simp) ?_
  rintro r M ⟨rfl,rfl⟩ _
  refine zx ?_
  refine zk ?_;clear hK K
  (try simp only[Cs,Ct,Dk,Dl,if_true]);refine Fw (d:=0) ?_;simp -implicitDefEqProofs (maxSteps:=999999) (disch:=omega)
  rw[hB];simp
 have hto:=IT v rs i true 0 hlt
 have hb:=hbnd i hlt
 have hp:=hpos i hlt
 have ca:(Ac AC rs)[i*2]?=some (.int .i64 rs[i].1):=Bk (f:=AC) (s:=2) (fun _=>rfl) hlt (i:=0) (by omega)
 have cl:(Ac AC rs)[i*2+1]?=some (.int .i64 rs[i].2):=Bk (f:=AC) (s:=2) (fun _=>rfl) hlt (i:=1) (by omega)
 obtain⟨d,hd⟩:=Int.eq_ofNat_of_zero_le (show 0<=rs[i].2-3+1 by omega)
 have hdl:=DP d (by omega)
 refine Af hlt ?_;intro K hK
 refine zk ?_;clear hK K
 refine zt ?_
 refine W.skip ?_
 refine zb ?_
 refine MG (an hlt (an ca cl)) ?_;intro K hK
 refine zk ?_;clear hK K
 have key:∃c:Nat,(if i=0 then BX (rs[i].1-v)+1 else rs[i].1-E)=(c:Int)/\1<=c/\c<1000:=by
  by_cases h0:i=0
  .have hz:=Dv (rs[i].1-v)
   have hz2:BX (rs[i].1-v)<=100:=by unfold BX;split<;>omega
   rw[if_pos h0]
   exact⟨(BX (rs[i].1-v)+1).toNat,by omega,by omega,by omega⟩
  .have hp2:=hp.2 (by omega)
   have hE2:=hE (by omega) (by omega)
   have hb2:=hbnd (i-1) (by omega)
   have hp3:=hpos (i-1) (by omega)
   rw[if_neg h0]
   exact⟨(rs[i].1-E).toNat,by omega,by omega,by omega⟩
 obtain⟨c,hc,hc1,hc2⟩:=key
 have hcl:=DP c (by omega)
 refine z0 ?_;intro K hK
 refine zk ?_;clear hK K
 refine W.midS (fun _:Unit=> [(0,.ptr 0 0 0),(1,.int .i64 v),(7,.tok 2 0 1 0 rest.length),(10,.ptr 3 0 0),(21,.tok 1 0 2 0 rs.length),(22,.int .i64 rs.length),(23,.int .i64 i)]) (fun _=> [.live 0 (Ch (B++AD c)),.live 0 (Ac AC rs),.live 0 (Ae rest),.live 0 [.int .i64 rs[i].1,.int .i64 rs[i].2]]) (fun _=>True) ?_ ?_
 .refine zc ?_ ?_<;>intro h
  .rw[if_pos h] at hc
   refine z0 ?_;intro K hK
   refine Ab.eq (Tu (rs[i].1-v) (by omega)) (by simp) (by simp) ?_
   refine AX hc ?_
   refine Ab.pass [0] (E5 B c (by omega) (by omega) (by omega)) (by simp) (by simp) (by simp) (by simp) ?_
   rintro r M ⟨rfl,rfl⟩ _
   refine zx ?_
   refine zk ?_;clear hK K
   exact⟨(),trivial,Wk.fr (by simp[Ad])⟩
  .rw[if_neg h] at hc
   refine Af hc ?_;intro K hK
   refine Ab.pass [0] (E5 B c (by omega) (by omega) (by omega)) (by simp) (by simp) (by simp) (by simp) ?_
   rintro r M ⟨rfl,rfl⟩ _
   refine zx ?_
   refine zk ?_;clear hK K
   exact⟨(),trivial,Wk.fr (by simp[Ad])⟩
 rintro _ _
 refine Af hd ?_;intro K hK
 refine Ab.pass [0] (E5 (B++AD c) d (by simp;omega) (by omega) (by omega)) (by simp) (by simp) (by simp) (by simp) ?_
 rintro r M ⟨rfl,rfl⟩ _
 refine zx ?_
 refine zk ?_;clear hK K
 refine z0 ?_;intro K hK
 refine zk ?_;clear hK K
 refine zs ?_
 refine⟨(i+1,(B++AD c)++AD d,rs[i].1+rs[i].2),by simp only;omega,⟨by simp only;omega,?_,by simp;omega,fun _ _=>by simp⟩,Wk.cutM (k:=3) (by simp[Ad]) (by simp) (by simp) (by simp) (by simp) (by simp)⟩
 have hc' :(if i=0 then(if true=true then BX (rs[i].1-v)+1 else rs[i].1-0) else rs[i].1-(rs[i-1].1+rs[i-1].2))=(c:Int):=by
  rw[<-hc]
  by_cases h0:i=0
  .simp[h0]
  .rw[if_neg h0,if_neg h0,hE (by omega) (by omega)]
 rw[hto,hc',hd,hB]
 simp
set_option maxHeartbeats 2000000 in
theorem XB (xs:List Bool) (v:Int) (ref l:List Int) (hx:xs.length<90000) (hv:0<=v/\v<=16) (hr:ref.length<=16) (hl:AJ l):Aa pg 213 [.ptr 0 0 0,.int .i64 v,.ro ref.length (Ae ref),.ro l.length (Ae l)] [.live 0 (Ch xs)] (fun r M=>r= .tup []/\M=[.live 0 (Ch (xs++C3 v ref l))]):=by
 have hll:=Bq hl
 have hbl:=G9 ref l
 have hbd:=JZ ref l
 have hom:=Ha (ref:=ref) hl
 have hbits:C3 v ref l=AD ((blocks ref l).length+1)++C7 (blocks ref l) true++AY v (Bh ref l):=rfl
 rw[hbits]
 clear hbits
 have spC:=Qa ref l (by omega) (by omega)
 simp only[UI] at spC
 obtain⟨bl,hb⟩:∃bl,bl=blocks ref l:=⟨_,rfl⟩
 obtain⟨rest,hrest⟩:∃rest,rest=Bh ref l:=⟨_,rfl⟩
 rw[<-hb,<-hrest] at spC |-
 rw[<-hb] at hbl
 rw[<-hrest] at hom
 have hbd' :∀(j:Nat) (h:j<bl.length),0<=bl[j]/\bl[j]<=16/\(0<j->1<=bl[j]):=fun j h=>by
  subst hb
  have:=hbd j h
  omega
 obtain⟨m,hm⟩:∃m,m=bl.length+1:=⟨_,rfl⟩
 have hn1:(bl.length:Int)+1=(m:Int):=by omega
 have hg0:=DP m (by omega)
 rw[<-hm]
 refine Aa.start (fn:=Tryz.f213) [] tk rfl rfl rfl (by kernel_rfl) (Nat.le_of_ble_eq_true rfl) rfl (by kernel_rfl) ?_
 rw[Iz]
 refine z0 ?_;intro K hK
 refine Ab.eq spC (by simp) (by simp) ?_
 refine zx ?_
 refine zk ?_;clear hK K
 refine Af hn1 ?_;intro K hK
 refine Ab.pass [0] (E5 xs m (by omega) (by omega) (by omega)) (by simp) (by simp) (by simp) (by simp) ?_
 rintro r M ⟨rfl,rfl⟩ _
 refine zx ?_
 refine zk ?_;clear hK K
 refine zs ?_
 (repeat refine W.seq ?_);refine W.block (W.loopS (fun z:Nat×List Bool=> [(0,.ptr 0 0 0),(1,.int .i64 v),(9,.tok 2 0 1 0 rest.length),(23,.tok 1 0 1 0 bl.length),(24,.int .i64 bl.length),(25,.int .i64 (z.1:Nat))]) (fun z=> [.live 0 (Ch z.2),.live 0 (Ae bl),.live 0 (Ae rest)]) (fun z=>bl.length-z.1) (fun z=>z.1<=bl.length/\z.2=xs++(AD m++C7 (bl.take z.1) true)/\z.2.length<=xs.length+81*(z.1+1)) (0,xs++AD m) (Wk.fr (by simp[Ad])) ⟨by simp,by simp[C7],by simp;omega⟩ ?_)
 rintro⟨i,B⟩ ⟨hi,hB,hBl⟩
 simp only at hi hB hBl |-
 by_cases hlt:i<bl.length
 rotate_left
 .have hi' :i=bl.length:=by omega
  subst hi'
  rw[List.take_length] at hB
  refine z0 ?_;intro K hK
  refine zk ?_;clear hK K
  refine zn ?_
  refine W.exit ?_
  refine z0 ?_;intro K hK
  refine Ab.pass [0] (Q6 B v rest (by omega) hv hom) (by simp) (by simp) (by simp) (by simp) ?_
  rintro r M ⟨rfl,rfl⟩ _
  refine zx ?_
  refine zk ?_;clear hK K
  (try simp only[Cs,Ct,Dk,Dl,if_true]);refine Fw (d:=0) ?_;simp -implicitDefEqProofs (maxSteps:=999999) (disch:=omega)
  rw[hB];simp
 have hto:=L6 bl i true hlt
 have hb3:=hbd' i hlt
 refine Af hlt ?_;intro K hK
 refine zk ?_;clear hK K
 refine zt ?_
 refine W.skip ?_
 refine zb ?_
 (repeat refine W.seq ?_);refine W.reg 0 rfl fun K hK=>?_;simp -implicitDefEqProofs (maxSteps:=999999) (disch:=omega) [hlt]
 refine zk ?_;clear hK K
 have key:∃c:Nat,(if i=0 then bl[i]+1 else bl[i])=(c:Int)/\1<=c/\c<1000:=by
  by_cases h0:i=0
  .rw[if_pos h0];exact⟨(bl[i]+1).toNat,by omega,by omega,by omega⟩
  .have:=hb3.2.2 (by omega)
   rw[if_neg h0];exact⟨(bl[i]).toNat,by omega,by omega,by omega⟩
 obtain⟨c,hc,hc1,hc2⟩:=key
 have hcl:=DP c (by omega)
 refine z0 ?_;intro K hK
 refine zk ?_;clear hK K
 refine W.midS (fun _:Unit=> [(0,.ptr 0 0 0),(1,.int .i64 v),(9,.tok 2 0 1 0 rest.length),(11,.int .i64 c),(23,.tok 1 0 1 0 bl.length),(24,.int .i64 bl.length),(25,.int .i64 i)]) (fun _=> [.live 0 (Ch B),.live 0 (Ae bl),.live 0 (Ae rest)]) (fun _=>True) ?_ ?_
 .refine zc ?_ ?_<;>intro h
  .rw[if_pos h] at hc
   refine Af hc ?_;intro K hK
   refine zk ?_;clear hK K
   exact⟨(),trivial,Wk.fr (by simp[Ad])⟩
  .rw[if_neg h] at hc
   refine W.skip ?_
   exact⟨(),trivial,Wk.fr (by simp[Ad,hc])⟩
 rintro _ _
 refine z0 ?_;intro K hK
 refine Ab.pass [0] (E5 B c (by omega) (by omega) (by omega)) (by simp) (by simp) (by simp) (by simp) ?_
 rintro r M ⟨rfl,rfl⟩ _
 refine zx ?_
 refine zk ?_;clear hK K
 refine zs ?_
 refine⟨(i+1,B++AD c),by simp only;omega,⟨by simp only;omega,?_,by simp;omega⟩,Wk.fr (by simp[Ad])⟩
 have hc' :(if i=0/\true=true then bl[i]+1 else bl[i])=(c:Int):=by
  rw[<-hc];by_cases h0:i=0<;>simp[h0]
 rw[hto,hc',hB]
 simp
theorem NJ (l:List Bool) (hl:l.length<=6000):Aa pg 209 [.ptr 0 0 0] [.live 0 (Ch l)] (fun r M=>r= .tup [.agg (CI (Ek l)),.int .i64 0]/\M=[.live 0 (Ch l)]):=by
 have hcr:Ch l=[.own 1 (pk l).length (Bz (pk l)),.int .i64 l.length]:=rfl
 have hpk:Ek l=⟨D0 (Bz (pk l)),l.length⟩:=rfl
 have hpl:=L9 l
 have hgt:¬(6000:Int)<(l.length:Int):=by omega
 refine Aa.start (fn:=Tryz.f209) [.cell 2 40,.tmp 3] tk rfl rfl rfl (by kernel_rfl) (Nat.le_of_ble_eq_true rfl) rfl (by kernel_rfl) ?_
 rw[Ay]
 refine z1 ?_;intro K hK
 refine zk ?_;clear hK K
 rw[hcr]
 refine W.weak (Wk.thaw (B:=0) (v:=0) (j:=0) (s:=1) (n:=(pk l).length) (xs:=Bz (pk l)) (by rfl) (by rfl)) ?_
 refine Af hgt ?_;intro K hK
 refine zk ?_;clear hK K
 refine zn ?_
 refine W.skip ?_
 have tkm:List.take (pk l).length (pk l)=pk l:=List.take_of_length_le (by omega)
 refine Bx tkm ?_;intro K hK
 refine zk ?_;clear hK K
 refine W.weak (Wk.intern (B:=0) (v:=0) (j:=0) (T:=2) (u:=0) (s:=1) (off:=0) (n:=(pk l).length) (xs:=Bz (pk l)) (by rfl) (by simp[Aj]) (by simp) (by simp) (by simp) (by simp)) ?_
 refine zr ?_
 rw[hpk]
 first|done|simp[tkm]
theorem Tv (l:List Bool) (hl:l.length<1000000):Aa pg 229 [.ptr 0 0 0] [.live 0 (Ch l)] (fun r M=>r= .int .i64 l.length/\M=[.live 0 (Ch l)]):=by
 have hcr:Ch l=[.own 1 (pk l).length (Bz (pk l)),.int .i64 l.length]:=rfl
 refine Aa.start (fn:=Tryz.f229) [.tmp 2] tk rfl rfl rfl (by kernel_rfl) (Nat.le_of_ble_eq_true rfl) rfl (by kernel_rfl) ?_
 rw[Ay]
 refine zs ?_
 rw[hcr]
 refine z0 ?_;intro K hK
 refine zk ?_;clear hK K
 exact zR
theorem Ph:[AV.own 1 0 [],AV.int .i64 0]=Ch []:=by simp[Ch,pk,FB]
set_option maxHeartbeats 2000000 in
theorem XC (g:Gr) (hg:A3 g):Aa pg 208 [.agg (Ba false g)] [] (fun r _=>∃ats:List Int,r= .tup [.optr (Ch (Cr g)),.own 1 ats.length (Ae ats)]):=by
 obtain⟨n,hn⟩:=Int.eq_ofNat_of_zero_le hg.1
 have hn16:n<=16:=by have:=hg.2.1;omega
 have hout:g.out.length=n:=by have:=hg.2.2.1;omega
 obtain⟨c,hc⟩:∃c:Nat,c=n+1:=⟨_,rfl⟩
 have hg0:=GT (n:=c) (by omega)
 have en:(n:Int)+1=(c:Int):=by omega
 have sp0:=E5 [] c (by simp) (by omega) (by omega)
 have hfb:Cr g=AD c++Co AY 0 g.out:=by unfold Cr;rw[hn,Int.toNat_natCast,hc]
 refine Aa.start (fn:=Tryz.f208) [.tmp 2,.tmp 3] tk rfl rfl rfl (by kernel_rfl) (Nat.le_of_ble_eq_true rfl) rfl (by kernel_rfl) ?_
 rw[Ay]
 refine z1 ?_;intro K hK;refine zk ?_;clear hK K
 rw[hn]
 refine z1 ?_;intro K hK
 rw[Ph]
 refine zk ?_;clear hK K
 refine Af en ?_;intro K hK
 refine Ab.pass [1] sp0 (by simp) (by simp) (by simp) (by simp) ?_
 rintro r M ⟨rfl,rfl⟩ _
 refine zx ?_
 refine zk ?_;clear hK K
 refine zs ?_
 refine zs ?_
 (repeat refine W.seq ?_);refine W.block (W.loopS (fun z:Nat×List Bool×List Int=> [(4,.ptr 1 0 0),(5,.tok 2 z.1 1 0 z.1),(16,.ro n (AA false g.out)),(17,.int .i64 n),(18,.int .i64 z.1)]) (fun z=> [.live 0 [.int .i64 n,.ro g.out.length (AA false g.out)],.live 0 (Ch z.2.1),.live z.1 (Ae z.2.2)]) (fun z=>n-z.1) (fun z=>z.1<=n/\z.2.1=AD c++Co AY 0 (g.out.take z.1)/\z.2.1.length<=9+166*z.1/\z.2.2.length=z.1) (0,AD c,[]) ((Wk.nil (t:=5) (s:=1) (by simp)).trans (Wk.fr (by simp[Ad,hout]))) ⟨by simp,by simp[Co],by simp;omega,rfl⟩ ?_)
 rintro⟨i,B,ats⟩ ⟨hi,hB,hBl,hal⟩
 simp only at hi hB hBl hal |-
 by_cases c1:i<n
 rotate_left
 .have hi' :i=n:=by omega
  subst hi'
  rw[List.take_of_length_le (by omega)] at hB
  rw[<-hfb] at hB
  subst hB
  refine Af c1 ?_;intro K hK
  refine zk ?_;clear hK K
  refine zn ?_
  refine W.exit ?_
  refine zs ?_
  refine zr ?_
  refine⟨ats,?_⟩
  rw[hal,List.take_of_length_le (by omega)]
  simp
 have hlt:i<g.out.length:=by omega
 have hml:=(hg.2.2.2.1 _ (List.getElem_mem hlt)).1
 have hto:=L5 AY hlt
 have hrl:=Hr (v:=(i:Int)) ⟨by omega,by omega⟩ hml
 refine Af c1 ?_;intro K hK
 refine zk ?_;clear hK K
 refine zt ?_
 refine W.skip ?_
 refine zb ?_
 refine Af (an hlt c1) ?_;intro K hK
 refine zk ?_;clear hK K
 refine z1 ?_;intro K hK
 refine Ab.pass [1] (Tv B (by omega)) (by simp) (by simp) (by simp) (by simp) ?_
 rintro r M ⟨rfl,rfl⟩ _
 refine zx ?_
 refine⟨by omega,by omega,?_⟩
 refine zk ?_;clear hK K
 refine z0 ?_;intro K hK
 refine Ab.pass [1] (Q6 B i g.out[i] (by omega) ⟨by omega,by omega⟩ hml) (by simp) (by simp) (by simp) (by simp) ?_
 rintro r M ⟨rfl,rfl⟩ _
 refine zx ?_
 refine zk ?_;clear hK K
 refine zs ?_
 refine⟨(i+1,B++AY i g.out[i],ats++[(B.length:Int)]),by simp only;omega,⟨by simp only;omega,?_,by simp;omega,by simp;exact hal⟩,Wk.cutM (k:=3) (by simp[Ad]) (by simp[Cj,Ae]) (by simp) (by simp) (by simp) (by simp)⟩
 simp only[hto];rw[hB];simp
theorem Vp (g:Gr) (hg:A3 g):Aa pg 173 [.agg (Ba false g)] [] (fun r _=>r= .agg (CI (Ek (Cr g)))):=by
 have hl:=Jy hg
 refine Aa.start (fn:=Tryz.f173) [.cell 2 40] tk rfl rfl rfl (by kernel_rfl) (Nat.le_of_ble_eq_true rfl) rfl (by kernel_rfl) ?_
 rw[Ay]
 refine z2 ?_;intro K hK;refine zk ?_;clear hK K
 refine z0 ?_;intro K hK
 refine Ab.bor (XC g hg) (by simp) ?_
 rintro r ⟨ats,rfl⟩
 refine⟨by simp,?_⟩
 refine zx ?_
 refine zk ?_;clear hK K
 refine z1 ?_;intro K hK
 refine Ab.pass [2] (NJ (Cr g) hl) (by simp) (by simp) (by simp) (by simp) ?_
 rintro r M ⟨rfl,rfl⟩ _
 refine zx ?_
 refine zk ?_;clear hK K
 refine z0 ?_;intro K hK
 refine zk ?_;clear hK K
 exact zR
set_option maxHeartbeats 2000000 in
theorem XD (a g:Gr) (ha:A3 a) (hg:A3 g):Aa pg 175 [.agg (Ba false a),.agg (Ba false g)] [] (fun r _=>r= .agg (CI (Ek (CE a g)))):=by
 obtain⟨n,hn⟩:=Int.eq_ofNat_of_zero_le hg.1
 have hn16:n<=16:=by have:=hg.2.1;omega
 have hout:g.out.length=n:=by have:=hg.2.2.1;omega
 obtain⟨c,hc⟩:∃c:Nat,c=n+1:=⟨_,rfl⟩
 have hg0:=GT (n:=c) (by omega)
 have en:(n:Int)+1=(c:Int):=by omega
 have sp0:=E5 [] c (by simp) (by omega) (by omega)
 have hfb:CE a g=AD c++Co (fun v l=>C3 v (AH a v) l) 0 g.out:=by unfold CE;rw[hn,Int.toNat_natCast,hc]
 refine Aa.start (fn:=Tryz.f175) [.cell 4 40] tk rfl rfl rfl (by kernel_rfl) (Nat.le_of_ble_eq_true rfl) rfl (by kernel_rfl) ?_
 rw[At]
 refine z3 ?_;intro K hK;refine zk ?_;clear hK K
 rw[hn]
 refine z1 ?_;intro K hK
 rw[Ph]
 refine zk ?_;clear hK K
 refine Af en ?_;intro K hK
 refine Ab.pass [3] sp0 (by simp) (by simp) (by simp) (by simp) ?_
 rintro r M ⟨rfl,rfl⟩ _
 refine zx ?_
 refine zk ?_;clear hK K
 refine zs ?_
 (repeat refine W.seq ?_);refine W.block (W.loopS (fun z:Nat×List Bool=> [(2,.ptr 0 0 0),(4,.ptr 2 0 0),(5,.ptr 3 0 0),(18,.ro n (AA false g.out)),(19,.int .i64 n),(20,.int .i64 z.1)]) (fun z=> [.live 0 [.int .i64 a.n,.ro a.out.length (AA false a.out)],.live 0 [.int .i64 n,.ro g.out.length (AA false g.out)],.live 0 [.str ByteArray.empty,.int .i64 0],.live 0 (Ch z.2)]) (fun z=>n-z.1) (fun z=>z.1<=n/\z.2=AD c++Co (fun v l=>C3 v (AH a v) l) 0 (g.out.take z.1)/\z.2.length<=9+330*z.1) (0,AD c) (Wk.fr (by simp[Ad,hout])) ⟨by simp,by simp[Co],by simp;omega⟩ ?_)
 rintro⟨i,B⟩ ⟨hi,hB,hBl⟩
 simp only at hi hB hBl |-
 by_cases c1:i<n
 rotate_left
 .have hi' :i=n:=by omega
  subst hi'
  rw[List.take_of_length_le (by omega)] at hB
  rw[<-hfb] at hB
  subst hB
  refine Af c1 ?_;intro K hK
  refine zk ?_;clear hK K
  refine zn ?_
  refine W.exit ?_
  refine z1 ?_;intro K hK
  refine Ab.pass [3] (NJ (CE a g) (Jz ha hg)) (by simp) (by simp) (by simp) (by simp) ?_
  rintro r M ⟨rfl,rfl⟩ _
  refine zx ?_
  refine zk ?_;clear hK K
  refine z0 ?_;intro K hK
  refine zk ?_;clear hK K
  exact zR
 have hlt:i<g.out.length:=by omega
 have hml:=(hg.2.2.2.1 _ (List.getElem_mem hlt)).1
 have hto:=L5 (fun v l=>C3 v (AH a v) l) hlt
 have hrl:=L8 (v:=(i:Int)) ⟨by omega,by omega⟩ (Cp ha i) hml
 have hbl:=Cp ha i
 have spC:=XB B i (AH a i) g.out[i] (by omega) ⟨by omega,by omega⟩ hbl hml
 refine Af c1 ?_;intro K hK
 refine zk ?_;clear hK K
 refine zt ?_
 refine W.skip ?_
 refine zb ?_
 refine Af (an hlt c1) ?_;intro K hK
 refine zk ?_;clear hK K
 refine z0 ?_;intro K hK
 refine Ab.ro (RD a i (by omega) ha.2.2.1) (by simp) ?_
 rintro r (rfl| ⟨h1,rfl⟩)
 .refine zx ?_
  refine Ab.pass [3] spC (by simp) (by simp) (by simp) (by simp) ?_
  rintro r M ⟨rfl,rfl⟩ _
  refine zx ?_
  refine zk ?_;clear hK K
  refine zs ?_
  refine⟨(i+1,B++C3 i (AH a i) g.out[i]),by simp only;omega,⟨by simp only;omega,?_,by simp;omega⟩,Wk.fr (by simp[Ad])⟩
  simp only[hto];rw[hB];simp
 .rw[h1] at spC
  refine zx ?_
  refine Ab.pass [3] spC (by simp) (by simp[h1]) (by simp[h1]) (by simp[h1]) ?_
  rintro r M ⟨rfl,rfl⟩ _
  refine AX h1 ?_
  refine zk ?_;clear hK K
  refine zs ?_
  refine⟨(i+1,B++C3 i (AH a i) g.out[i]),by simp only;omega,⟨by simp only;omega,?_,by simp;omega⟩,Wk.cutM (k:=4) (by simp[Ad]) (by simp[h1]) (by simp) (by simp) (by simp) (by simp)⟩
  simp only[hto];rw[hB];simp
theorem Pi:∀(ns:List Nat) (r:ByteArray),((Bz ns).foldl (fun r c=>r.push (JL c)) r).data.toList=r.data.toList++ns.map UInt8.ofNat
 | [],r=>by simp[Bz]
 |n::ns,r=>by
  have:=Pi ns (r.push (UInt8.ofNat n))
  simp only[Bz,List.map_cons,List.foldl_cons] at this |-
  have e:JL (F9 n)=UInt8.ofNat n:=by simp[F9,JL]
  rw[e,this];simp[ByteArray.push]
theorem Mb (ns:List Nat):(D0 (Bz ns)).data.toList=ns.map UInt8.ofNat:=by
 have:=Pi ns ByteArray.empty
 unfold D0
 rw[this];rfl
theorem Mc (ns:List Nat):(D0 (Bz ns)).size=ns.length:=by
 have e:(D0 (Bz ns)).size=(D0 (Bz ns)).data.toList.length:=(Array.length_toList).symm
 rw[e,Mb,List.length_map]
theorem RW (ns:List Nat) (i:Nat) (h:i<ns.length) (hb:ns[i]<256):Db (D0 (Bz ns)) i=ns[i]:=by
 have hs:=Mc ns
 unfold Db
 rw[dif_pos (by omega)]
 have h1:(D0 (Bz ns)).data.toList[i]?=some (UInt8.ofNat ns[i]):=by rw[Mb];simp[h]
 have h2:(D0 (Bz ns)).data.toList[i]?=some (D0 (Bz ns))[i]:=by
  have:i<(D0 (Bz ns)).data.size:=by have:(D0 (Bz ns)).size=(D0 (Bz ns)).data.size:=rfl;omega
  rw[Array.getElem?_toList,Array.getElem?_eq_getElem this];rfl
 rw[h1] at h2
 have h3:(D0 (Bz ns))[i]=UInt8.ofNat ns[i]:=by simpa using h2.symm
 rw[h3]
 simp[UInt8.toNat_ofNat'];omega
theorem Tw (k:Nat):BH (List.replicate k false)=0:=by
 induction k with
 |zero=>rfl
 |succ k ih=>rw[List.replicate_succ,Ff,ih];simp
theorem Tx {c:List Bool} (h:c.length<=8) {j:Nat} (hj:j<8):decide (Fl c/2^(7-j)%2=1)=c.getD j false:=by
 have e:Fl c=BH (c++List.replicate (8-c.length) false):=by rw[P0,Tw];simp[Fl]
 have hl:(c++List.replicate (8-c.length) false).length=8:=by simp;omega
 have hb:=Ii (c++List.replicate (8-c.length) false)
 rw[hl] at hb
 have h1:(A9 (Fl c) 8)[j]?=(c++List.replicate (8-c.length) false)[j]?:=by rw[e,hb]
 have h2:(A9 (Fl c) 8)[j]?=some (decide (Fl c/2^(7-j)%2=1)):=by simp[A9,hj]
 rw[h2] at h1
 rw[List.getD_eq_getElem?_getD]
 by_cases hc:j<c.length
 .rw[List.getElem?_append_left hc] at h1;rw[<-h1];rfl
 .rw[List.getElem?_append_right (by omega)] at h1
  have:(List.replicate (8-c.length) false)[j-c.length]?=some false:=by rw[List.getElem?_replicate,if_pos (by omega)]
  rw[this] at h1
  rw[List.getElem?_eq_none (by omega)];simpa using h1
theorem NK (l:List Bool) (i:Nat) (h:i/8<(l.length+7)/8):EK (Ek l).data i=l.getD i false:=by
 have hk:i/8<(pk l).length:=by simpa[pk] using h
 have hlt:(pk l)[i/8]<256:=Tt h
 unfold EK Ek
 rw[RW (pk l) (i/8) hk hlt]
 simp only[pk,FB,List.getElem_map,List.getElem_range]
 have:=Tx (c:=(l.drop (8*(i/8))).take 8) (by simp;omega) (j:=i%8) (Nat.mod_lt _ (by omega))
 rw[this]
 simp only[List.getD_eq_getElem?_getD,List.getElem?_take,List.getElem?_drop]
 rw[if_pos (Nat.mod_lt _ (by omega)),Nat.div_add_mod]
@[simp] theorem XE (l:List Bool):(Ek l).n=l.length:=rfl
theorem Hb (l:List Bool):(Ek l).data.size=(l.length+7)/8:=by simp[Ek,Mc,pk]
theorem Md (l:List Bool):Aq (Ek l)=l:=by
 unfold Aq
 refine List.ext_getElem (by simp) fun i h1 h2=>?_
 simp only[List.getElem_map,List.getElem_range]
 rw[NK _ _ (by omega),List.getD_eq_getElem?_getD,List.getElem?_eq_getElem h2];rfl
theorem Q7 {l:List Bool} (h:l.length<=6000):Di (Ek l):=by
 refine⟨by simp,by simp;omega,by rw[Hb,XE];omega,fun i hi hn=>?_⟩
 rw[Hb] at hi
 rw[NK _ _ (by omega),List.getD_eq_getElem?_getD,List.getElem?_eq_none (by simpa using hn)];rfl
def On (bs:List Bool) (p:Nat) (x:List Bool):Prop:=∃s,bs.drop p=x++s
theorem On.app {bs:List Bool} {p:Nat} {x y:List Bool} (h:On bs p (x++y)):On bs p x/\On bs (p+x.length) y:=by
 obtain⟨s,h⟩:=h
 refine⟨⟨y++s,by rw[h,List.append_assoc]⟩,s,?_⟩
 rw[<-List.drop_drop,h,List.append_assoc,List.drop_left]
theorem On.code {bs:List Bool} {p n:Nat} (h:On bs p (AD n)) (h1:1<=n) (h2:n<=1073741824):A5 bs p=some (n,p+(AD n).length):=by
 obtain⟨s,h⟩:=h
 have hl:=Dz n
 have hp:p<=bs.length:=by
  have:=congrArg List.length h
  simp at this;omega
 have:=QF (l:=bs) (pre:=bs.take p) (suf:=s) h1 h2 (by rw[List.append_assoc,<-h,List.take_append_drop])
 rwa [List.length_take_of_le hp] at this
theorem NL {bs:List Bool} {v:Int} (hv:0<=v/\v<=16):∀(l:List Int) (f:Bool) (p:Nat) (e:Int),(∀x∈l,0<=x/\x<16)->Lr l f e->(f=true->e=v)->(f=false->0<=e)->On bs p (B3 v l f e)->Cd bs l.length f p e=some (l,p+(B3 v l f e).length)
 | [],f,p,e,_,_,_,_,_=>by simp[Cd,B3]
 |x::l,f,p,e,hx,hp,h1,h2,ho=>by
  rw[B3] at ho |-
  obtain⟨o1,o2⟩:=ho.app
  have hx0:=hx x (by simp)
  have hn:1<=(if f=true then BX (x-v)+1 else x-e).toNat/\(if f=true then BX (x-v)+1 else x-e).toNat<=1073741824:=by
   cases f
   .have:=hp.1;simp at this |-;have:=h2 rfl;omega
   .have:=Dv (x-v)
    simp only[if_true]
    have:BX (x-v)<=100:=by unfold BX;split<;>omega
    omega
  have hy:e+(if f=true then CO (((if f=true then BX (x-v)+1 else x-e).toNat:Int)-1) else((if f=true then BX (x-v)+1 else x-e).toNat:Int))=x:=by
   cases f
   .have:=hp.1;simp at this |-;omega
   .have z:=Dv (x-v)
    simp only[if_true]
    rw[show((BX (x-v)+1).toNat:Int)-1=BX (x-v) by omega,KW,h1 rfl];omega
  rw[List.length_cons]
  simp only[Cd]
  rw[o1.code hn.1 hn.2]
  simp only
  rw[hy,if_pos hx0,NL hv l false _ x (fun y hy=>hx y (by simp[hy])) hp.2 (by simp) (fun _=>hx0.1) o2]
  simp;omega
theorem NM {bs:List Bool} {v:Int} (hv:0<=v/\v<=16):∀(l:List (Int×Int)) (f:Bool) (p:Nat) (e:Int),(∀x∈l,0<=x.1/\x.1<16/\x.2<=16)->FG l f e->(f=true->e=v)->(f=false->0<=e)->On bs p (BL v l f e)->CJ bs l.length f p e=some (l,p+(BL v l f e).length)
 | [],f,p,e,_,_,_,_,_=>by simp[CJ,BL]
 | (x,k)::l,f,p,e,hx,hp,h1,h2,ho=>by
   rw[BL,List.append_assoc] at ho
   rw[BL]
   obtain⟨o1,o2⟩:=ho.app
   obtain⟨o2,o3⟩:=o2.app
   have hx0:=hx (x,k) (by simp)
   simp only[FG] at hx0 hp
   have hn:1<=(if f=true then BX (x-v)+1 else x-e).toNat/\(if f=true then BX (x-v)+1 else x-e).toNat<=1073741824:=by
    cases f
    .have:=hp.1;simp at this |-;have:=h2 rfl;omega
    .have:=Dv (x-v)
     simp only[if_true]
     have:BX (x-v)<=100:=by unfold BX;split<;>omega
     omega
   have hy:e+(if f=true then CO (((if f=true then BX (x-v)+1 else x-e).toNat:Int)-1) else((if f=true then BX (x-v)+1 else x-e).toNat:Int))=x:=by
    cases f
    .have:=hp.1;simp at this |-;omega
    .have z:=Dv (x-v)
     simp only[if_true]
     rw[show((BX (x-v)+1).toNat:Int)-1=BX (x-v) by omega,KW,h1 rfl];omega
   rw[List.length_cons]
   simp only[CJ]
   rw[o1.code hn.1 hn.2]
   simp only
   rw[o2.code (by omega) (by omega)]
   simp only
   rw[hy,show((k-3+1).toNat:Int)-1+3=k by omega,NM hv l false _ (x+k) (fun y hy=>hx y (by simp[hy])) hp.2.2 (by simp) (fun _=>by omega) o3]
   simp;omega
theorem Ty {bs:List Bool} {v:Int} {l:List Int} {p:Nat} (hv:0<=v/\v<=16) (hl:AJ l) (h:On bs p (Cx v l)):DI bs p v=some (l,p+(Cx v l).length):=by
 unfold Cx at h |-
 obtain⟨o1,o2⟩:=h.app
 have:=Bq hl
 unfold DI
 rw[o1.code (by omega) (by omega)]
 simp only
 rw[QU v l 0 v] at o2 |-
 rw[if_pos (by omega),Nat.add_sub_cancel,NL hv l true _ v hl.1 (In l true v hl.2 (.inl rfl)) (fun _=>rfl) (by simp) o2]
 simp;omega
theorem Lz:∀(l:List Int) (x:Int) (y:Int),y∈(x::l).take (AZ (x::l))↔x<=y/\y<x+(AZ (x::l):Nat)
 | [],x,y=>by simp[AZ];omega
 |z::t,x,y=>by
  simp only[AZ]
  split
  .rename_i e
   subst e
   have:=Lz t (x+1) y
   rw[List.take_succ_cons,List.mem_cons,this];omega
  .simp;omega
theorem K8 (a n:Int) (r:List (Int×Int)) (i:Int):Bu ((a,n)::r) i=true↔(a<=i/\i<a+n)\/Bu r i=true:=by simp[Bu]
theorem NN:∀(n:Nat) (l:List Int),l.length<=n->l.Pairwise (·<·)->(∀y,y∈l↔y∈(Am l).2\/Bu (Am l).1 y=true)/\∀y∈(Am l).2,Bu (Am l).1 y=false
 |_,[],_,_=>by simp[Am,Bu]
 |0,x::l,h,_=>by simp at h
 |n+1,x::l,h,hp=>by
  have h1:=EL x l
  have h2:=Fb (x::l)
  have h3:((x::l).drop (AZ (x::l))).length=(x::l).length-AZ (x::l):=by simp
  have hd:=hp.sublist (List.drop_sublist (AZ (x::l)) (x::l))
  have hn:=GE l x hp
  obtain⟨i1,i2⟩:=NN n ((x::l).drop (AZ (x::l))) (by omega) hd
  have ht:=Lz l x
  have hm:∀y,y∈x::l↔y∈(x::l).take (AZ (x::l))\/y∈(x::l).drop (AZ (x::l)):=fun y=>by
   rw[<-List.mem_append,List.take_append_drop]
  have hr:∀y,Bu (Am ((x::l).drop (AZ (x::l)))).1 y=true->x+(AZ (x::l):Nat)<y:=fun y hy=>hn y ((i1 y).2 (.inr hy))
  rw[Am]
  split
  .refine⟨fun y=>?_,fun y hy=>?_⟩
   .rw[hm y,ht y,i1 y,K8]
    simp only
    constructor
    .rintro(h|h|h)
     .exact .inr (.inl h)
     .exact .inl h
     .exact .inr (.inr h)
    .rintro(h|h|h)
     .exact .inr (.inl h)
     .exact .inl h
     .exact .inr (.inr h)
   .have a1:=hn y ((i1 y).2 (.inl hy))
    have a2:=i2 y hy
    rw[Bool.eq_false_iff] at a2 |-
    intro c
    rw[K8] at c
    rcases c with c|c
    .omega
    .exact a2 c
  .refine⟨fun y=>?_,fun y hy=>?_⟩
   .rw[hm y,i1 y,List.mem_append]
    simp only
    rw[or_assoc]
   .simp only at hy |-
    rw[List.mem_append] at hy
    rcases hy with hy|hy
    .rw[Bool.eq_false_iff]
     intro c
     have a1:=hr y c
     have a2:=(ht y).1 hy
     omega
    .exact i2 y hy
theorem IY:∀(n:Nat) (l:List Int) (e:Int),l.length<=n->AJ l->(∀x∈l,e<x)->Dx (Am l).1 e
 |_,[],_,_,_,_=>by simp[Am,Dx]
 |0,x::l,_,h,_,_=>by simp at h
 |n+1,x::l,e,h,hl,he=>by
  have h1:=EL x l
  have h2:=Fb (x::l)
  have h3:((x::l).drop (AZ (x::l))).length=(x::l).length-AZ (x::l):=by simp
  have hd:AJ ((x::l).drop (AZ (x::l))):=⟨fun y hy=>hl.1 y (List.mem_of_mem_drop hy),hl.2.sublist (List.drop_sublist _ _)⟩
  have hn:=GE l x hl.2
  have ht:=(Lz l x (x+(AZ (x::l):Nat)-1)).2 (by omega)
  have hx:=hl.1 x (by simp)
  have hx2:=hl.1 _ (List.mem_of_mem_take ht)
  have hxe:=he x (by simp)
  rw[Am]
  split
  .exact⟨hx.1,hx.2,by omega,by omega,hxe,IY n _ _ (by omega) hd hn⟩
  .exact IY n _ _ (by omega) hd fun y hy=>by have:=hn y hy;omega
theorem Qr {l:List Int} (hl:AJ l):EQ (Am l).1 (Am l).2=some l:=by
 have hle:=Nat.le_refl l.length
 obtain⟨W,w1,w2,w3,w4,w5⟩:=GF (Am l).1 (-1) (IY l.length l (-1) hle hl fun x hx=>by have:=(hl.1 x hx).1;omega)
 obtain⟨m1,m2⟩:=NN l.length l hle hl.2
 obtain⟨_,_,p3,p4⟩:=D1 l.length l true 0 hle hl.2 (.inl rfl)
 have hr:AJ (Am l).2:=⟨fun x hx=>hl.1 x (p4 x hx),p3⟩
 have hs:AJ (B6 ((Am l).2++W)):=by
  rw[Hm]
  refine⟨fun x hx=>?_,?_⟩
  .rcases List.mem_append.1 hx with h|h
   .exact hr.1 x h
   .exact w5 x h
  .rw[List.nodup_append]
   refine⟨E1 p3,E1 w2,fun a ha b hb e=>?_⟩
   subst e
   have c1:=m2 a ha
   have c2:=(w4 a).1 hb
   rw[c1] at c2;simp at c2
 have he:B6 ((Am l).2++W)=l:=Io _ _ hs.2 hl.2 fun x=>by
  rw[FS,List.mem_append,w4 x,m1 x]
 unfold EQ
 rw[w1]
 simp only
 rw[he,if_pos ⟨hr,hl⟩]
theorem NO {bs:List Bool} {v:Int} {l:List Int} {p:Nat} (hv:0<=v/\v<=16) (hl:AJ l) (h:On bs p (AY v l)):De bs p v=some (l,p+(AY v l).length):=by
 have hle:=Nat.le_refl l.length
 have hll:=Bq hl
 obtain⟨p1,p2,p3,p4⟩:=D1 l.length l true v hle hl.2 (.inl rfl)
 have pin:=Ho l.length l hle
 unfold AY at h |-
 rw[List.append_assoc] at h
 obtain⟨o1,o2⟩:=h.app
 obtain⟨o2,o3⟩:=o2.app
 rw[M6 v _ 0 v] at o2 o3 |-
 unfold De
 rw[o1.code (by omega) (by omega)]
 simp only
 rw[if_pos (by omega),Nat.add_sub_cancel,NM hv (Am l).1 true _ v (fun q hq=>by
  have h1:=pin q hq
  have h2:=hl.1 _ h1.1
  omega) p1 (fun _=>rfl) (by simp) o2]
 simp only
 rw[Ty hv ⟨fun x hx=>hl.1 x (p4 x hx),p3⟩ o3]
 simp only
 rw[Qr hl]
 simp;omega
theorem Id (l:List Int):∀(ref pre:List Int) (i:Bool) (n:Nat),pre.length=n->Bi ((AU l ref i n).map fun n=>((n:Nat):Int)) (pre++ref) i=some ((if i=true then pre else [])++ref.filter fun x=>l.contains x)
 | [],pre,i,n,h=>by simp[AU,Bi]
 |x::ref,pre,i,n,h=>by
  simp only[AU]
  split
  .rename_i e
   have:=Id l ref (pre++[x]) i (n+1) (by simp[h])
   rw[List.append_assoc,List.singleton_append] at this
   rw[this]
   cases i
   .simp[List.filter_cons];intro c;simp[c] at e
   .simp[List.filter_cons];simp at e;simp[e]
  .rename_i e
   have:=Id l ref [x] (!i) 1 rfl
   rw[List.singleton_append] at this
   simp only[List.map_cons,Bi]
   rw[if_neg (by simp[h];omega),Int.toNat_natCast,<-h,List.drop_left,this,List.take_left]
   simp only[Option.some.injEq]
   cases i
   .simp at e;simp[List.filter_cons,e]
   .simp at e;simp[List.filter_cons,e]
theorem Tz {ref l:List Int} (hr:AJ ref) (hl:AJ l):Cv ref (blocks ref l) (Bh ref l)=some l:=by
 have hc:=Id l ref [] true 0 rfl
 simp only[List.nil_append,if_true] at hc
 have he:B6 (Bh ref l++ref.filter fun x=>l.contains x)=l:=by
  refine Io _ _ ((OT _).2 ?_) hl.2 fun x=>?_
  .rw[List.nodup_append]
   refine⟨(E1 hl.2).filter _,(E1 hr.2).filter _,fun a ha b hb e=>?_⟩
   subst e
   simp[Bh] at ha hb
   exact ha.2 hb.1
  .rw[FS,List.mem_append]
   simp[Bh]
   by_cases h:x∈l<;>by_cases h2:x∈ref<;>simp[h,h2]
 unfold Cv blocks
 rw[hc]
 simp only
 rw[he,if_pos ⟨hl,rfl,rfl⟩]
theorem NP {bs:List Bool}:∀(l:List Int) (f:Bool) (p:Nat),(∀(j:Nat) (h:j<l.length),0<=l[j]/\l[j]<=100/\(f=true->j=0\/1<=l[j])/\(f=false->1<=l[j]))->On bs p (C7 l f)->B9 bs l.length f p=some (l,p+(C7 l f).length)
 | [],f,p,_,_=>by simp[B9,C7]
 |x::l,f,p,hx,ho=>by
  rw[C7] at ho |-
  obtain⟨o1,o2⟩:=ho.app
  have hx0:=hx 0 (by simp)
  simp at hx0
  have hn:1<=(if f=true then x+1 else x).toNat/\(if f=true then x+1 else x).toNat<=1073741824:=by
   cases f
   .have:=hx0.2.2 rfl;simp;omega
   .simp;omega
  rw[List.length_cons]
  simp only[B9]
  rw[o1.code hn.1 hn.2]
  simp only
  rw[NP l false _ (fun j hj=>by
   have:=hx (j+1) (by simpa using hj)
   simp at this
   refine⟨this.1,this.2.1,by simp,fun _=>?_⟩
   cases f
   .exact this.2.2.2 rfl
   .exact this.2.2.1 rfl) o2]
  cases f
  .have:=hx0.2.2 rfl
   simp;omega
  .simp;omega
theorem Qs {bs:List Bool} {v:Int} {ref l:List Int} {p:Nat} (hv:0<=v/\v<=16) (hr:AJ ref) (hl:AJ l) (h:On bs p (C3 v ref l)):CA bs p v ref=some (l,p+(C3 v ref l).length):=by
 have hrl:=Bq hr
 have hb:=G9 ref l
 unfold C3 at h |-
 rw[List.append_assoc] at h
 obtain⟨o1,o2⟩:=h.app
 obtain⟨o2,o3⟩:=o2.app
 unfold CA
 rw[o1.code (by omega) (by omega)]
 simp only
 rw[if_pos (by omega),Nat.add_sub_cancel,NP (blocks ref l) true _ (fun j hj=>by
  have:=JZ ref l j hj
  refine⟨this.1,by omega,fun _=>?_,by simp⟩
  rcases Nat.eq_zero_or_pos j with h|h
  .exact .inl h
  .exact .inr (this.2.2 h)) o2]
 simp only
 rw[NO hv (Ha hl) o3]
 simp only
 rw[Tz hr hl]
 simp;omega
theorem Mf {bs:List Bool} {rd:Rd} {f:Int->List Int->List Bool}:∀(ls:List (List Int)) (v:Int) (p:Nat),(∀(i:Nat) (h:i<ls.length) (q:Nat),On bs q (f (v+i) ls[i])->rd q (v+i)=some (ls[i],q+(f (v+i) ls[i]).length))->On bs p (Co f v ls)->Be rd ls.length v p=some (ls,p+(Co f v ls).length)
 | [],v,p,_,_=>by simp[Be,Co]
 |l::ls,v,p,h,ho=>by
  rw[Co] at ho |-
  obtain⟨o1,o2⟩:=ho.app
  have h0:=h 0 (by simp) p
  simp at h0
  rw[List.length_cons]
  simp only[Be]
  rw[h0 o1]
  simp only
  rw[Mf ls (v+1) _ (fun i hi q=>by
   have:=h (i+1) (by simpa using hi) q
   simp only[List.getElem_cons_succ] at this
   rw[show v+1+(i:Int)=v+((i+1:Nat):Int) by omega];exact this) o2]
  simp;omega
theorem Mg {g:Gr} {rd:Rd} {f:Int->List Int->List Bool} (hg:A3 g) (h:∀(i:Nat) (h:i<g.out.length) (q:Nat),On (AD (g.n.toNat+1)++Co f 0 g.out) q (f i g.out[i])->rd q i=some (g.out[i],q+(f i g.out[i]).length)):CK (AD (g.n.toNat+1)++Co f 0 g.out) rd=some g:=by
 have h1:=hg.1
 have h2:=hg.2.1
 have h3:=hg.2.2.1
 have ho:On (AD (g.n.toNat+1)++Co f 0 g.out) 0 (AD (g.n.toNat+1)++Co f 0 g.out):=⟨[],by simp⟩
 obtain⟨o1,o2⟩:=ho.app
 unfold CK
 rw[o1.code (by omega) (by omega)]
 simp only
 have hl:=Mf (rd:=rd) (f:=f) g.out 0 _ (fun i hi q hq=>by
  have:=h i hi q
  simp only[Int.zero_add] at hq |-
  exact this hq) o2
 rw[if_pos (by omega),Nat.add_sub_cancel,show g.n.toNat=g.out.length by omega] at*
 rw[hl]
 simp only
 have e:(((g.out.length+1:Nat):Int)-1)=g.n:=by omega
 rw[e,if_pos ⟨by simp,hg⟩]
theorem RX {g:Gr} (hg:A3 g):BD (Cr g)=some g:=by
 have h2:=hg.2.1
 have h3:=hg.2.2.1
 unfold BD Cr
 exact Mg hg fun i hi q ho=>NO ⟨by omega,by omega⟩ (hg.2.2.2.1 _ (List.getElem_mem hi)).1 ho
theorem RY {a g:Gr} (ha:A3 a) (hg:A3 g):BK a (CE a g)=some g:=by
 have h2:=hg.2.1
 have h3:=hg.2.2.1
 unfold BK CE
 exact Mg (f:=fun v l=>C3 v (AH a v) l) hg fun i hi q ho=>Qs ⟨by omega,by omega⟩ (HO ha _) (hg.2.2.2.1 _ (List.getElem_mem hi)).1 ho
theorem XF (s:An) (hs:AS s) (hk0:0<=s.keep/\s.keep<=1000000):Aa pg 77 [.agg (Ao false s)] [] (fun r _=>r= .own 1 (A4 s false).length (Ae (A4 s false))):=by
 refine Aa.start (fn:=Tryz.f77) [.tmp 2] tk rfl rfl rfl (by kernel_rfl) (Nat.le_of_ble_eq_true rfl) rfl (by kernel_rfl) ?_
 rw[Ay]
 refine z1 ?_;intro K hK;refine zk ?_;clear hK K
 refine z0 ?_;intro K hK
 refine Ab.eq (WC s false hs hk0) (by simp) (by simp) ?_
 refine zx ?_
 refine zk ?_;clear hK K
 exact zR
theorem FV:∀(t:List Bool) (i a:Int),a<=i->∀x∈Bo t i a,1<=x.2/\a<=x.1/\x.1+x.2<=i+t.length
 | [],i,a,h,x,hx=>by
   simp only[Bo] at hx
   split at hx
   .simp at hx;subst hx;simp;omega
   .simp at hx
 |true::t,i,a,h,x,hx=>by
  simp only[Bo,List.mem_append] at hx
  rcases hx with hx|hx
  .split at hx
   .simp at hx;subst hx;simp;omega
   .simp at hx
  .have:=FV t (i+1) (i+1) (Int.le_refl _) x hx
   simp;omega
 |false::t,i,a,h,x,hx=>by
  simp only[Bo] at hx
  have:=FV t (i+1) a (by omega) x hx
  simp;omega
def iH (s:An) (id:Int):Gr×Int:=
 if A2 s then(if id=0 then(AI,0) else if AL (fun v=>decide (v.id=id)) s.vers<0 then(AI,3) else((AP (Ai s) id).1,0)) else(AI,1)
def kX (y:List (Int×Int)) (a:Nat) (k:Nat):List (Int×Int):=y++if a<k then [((a:Int),(k:Int)-a)] else []
theorem XG {C:Bn} {T:Nat->Option TI} (tk:BI C.P T) {t e es eb:Nat} {ez:List AV} (htd:Ar T t= .slice e es eb ez) {a:Option Addr} {n c l h:Nat} {lo hi:Option (IntKind×Int)} (hnc:n<=c) (h1:FO (hi.map fun x=> .int x.1 x.2) n n=some h) (h2:FO (lo.map fun x=> .int x.1 x.2) 0 h=some l) (w:World):
 (Instr.sliceAt t (.slice a n c) (lo.map fun x=> .int x.1 x.2) (hi.map fun x=> .int x.1 x.2) none).run C.P w= .ok (.slice (if c=l then a else a.map (·.add (l*es))) (h-l) (c-l)) w:=by
 obtain⟨hD,E,z,hE,hs,_⟩:=Cf tk htd
 have hh:∀(x:Option (IntKind×Int)) (y:AV),(x.map fun x=>AV.int x.1 x.2)=some y->∃u,(x.map fun x=>Value.int x.1 x.2)=some u/\VR w C.sh (fun _ _=>none) y u (fun _=>0):=by
  intro x y hy
  cases x with
  |none=>simp at hy
  |some x=>simp at hy;subst hy;exact⟨_,rfl,rfl,fun _=>rfl⟩
 have hb:=(FP (P:=C.P) (w:=w) (σ:=fun _ _=>none) (C:=C) true (hh lo) (by cases lo<;>simp) (hh hi) (by cases hi<;>simp) hnc h1 h2).1
 simp only[Instr.sliceAt,Sem.run_bind,run_underlying hD,Result.andThen_ok,Instr.slice,hb,BZ hE,hs,Sem.run_pure]
theorem TA {C:Bn} {T:Nat->Option TI} (tk:BI C.P T) {F:Fr} {M:List Ag} {a:Act} {w:World} {σ:Nat->Nat->Option St} {own:Nat->Option Nat} (R:AK C F M a w σ own) {t e eb:Nat} {ez:List AV} (htd:Ar T t= .slice e 1 eb ez) {B v off n tx ty d ty' :Nat} {pos:String} {af:Array Edge} {cs ys:List AV} (hb:Aj M B v=some cs) (hx:F tx= .tok B v 1 off n) (hxn:tx<C.n) (hyn:ty<C.n)
 {m:Nat} (hyc:C2 M (F ty)=some (m,ys)) (hyl:ys.length=m*1) (hyo:ys.all Da=true) (hle:off+n<=cs.length) (hn:0<n) (hm:0<m) {next:Act->World->Prop} {Q:Exit->Act->World->Prop}
 (hK:∀a' w',AK C (Bg F d (.int .i64 (min m n:Nat))) (M.set B (.live v (CP cs off (ys.take (min m n))))) a' w' σ own->(∀t,t≠d->a'.tmps.getD t undef=a.tmps.getD t undef)->next a' w'):
 Oper.wpIn (FX C) 0 C.P {dst:=some d,op:= .call {callee:= .builtin .copy,args:= #[.tmp tx,.tmp ty],argTypes:= #[t,t]},type:=ty',pos:=pos,after:=af,guard:=none} a w next Q:=by
 have e1:=R.tmp tx hxn;rw[hx] at e1
 obtain⟨w',hrun,R'⟩:=R.copy (ty:=ty') tk htd hb e1 (R.tmp ty hyn) hyc hyl hyo hle hn hm
 refine Oper.wp_value (fun _ h=>by cases h) (v:= .int .i64 (min m n:Nat)) (w' :=w') ?_ (hK _ _ (R'.put (some d) (av:= .int .i64 (min m n:Nat)) ⟨rfl,fun _=>rfl⟩) fun t ht=>BA ht)
 have e2:∀t,a.eval (.tmp t)=a.tmps.getD t undef:=fun _=>rfl
 simp only[execOp,resolve,invoke,builtin,e2,List.map_toArray,List.map_cons,List.map_nil,Sem.run_bind,hrun,Result.andThen_ok,Sem.run_pure]
theorem TB {C:Bn} (hrd:C.rd=none) {K:Act->World->Prop} {ops:Array Oper} {i d fuel:Nat} {listed:Array Bool} {F:Fr} {M:List Ag} {a:Act} {w:World} {σ:Nat->Nat->Option St} {own:Nat->Option Nat} {o:Oper} {v:Value} {av:AV} (R:AK C F M a w σ own) (ho:ops[i]?=some o) (hd:o.dst=some d) (hg:o.guard=none) (hs:Region.noSelect ops=true) (hf:Region.free .any ops listed i=true) (hr:(Region.ready .any ops listed).contains i=true)
 (hv:VR w C.sh σ av v (fun _=>0)) (hrun:∀w,(execOp a.eval o).run C.P w= .ok (.value v) w) (hab:∀w,o.about C.P w a.eval=none) (next:∀a',AK C (Bg F d av) M a' w σ own->wpAnyIn (FX C) 0 C.P .any ops (fun e a w=>e= .normal/\K a w) fuel (listed.setIfInBounds i true) a' w):wpAnyIn (FX C) 0 C.P .any ops (fun e a w=>e= .normal/\K a w) (fuel+1) listed a w:=by
 refine wpAnyIn_take (i:=i) (v:=v) (by simp[FX,hrd]) ho hs hf hr (fun _ _ _ h=>by cases h.1) ⟨.inl ⟨by simp[Region.wanted,hg],hrun⟩,hab⟩ ?_
 rw[hd]
 exact next _ (R.put (some d) hv)
theorem Hu {C:Bn} (hrd:C.rd=none) {K:Act->World->Prop} {ops:Array Oper} {i d s ty fuel:Nat} {pos:String} {af:Array Edge} {listed:Array Bool} {F:Fr} {M:List Ag} {a:Act} {w:World} {σ:Nat->Nat->Option St} {own:Nat->Option Nat} (R:AK C F M a w σ own) (ho:ops[i]?=some {dst:=some d,op:= .move (.tmp s),type:=ty,pos:=pos,after:=af,guard:=none}) (hs:Region.noSelect ops=true) (hf:Region.free .any ops listed i=true) (hr:(Region.ready .any ops listed).contains i=true) (hn:s<C.n)
 (next:∀a',AK C (Bg F d (F s)) M a' w σ own->wpAnyIn (FX C) 0 C.P .any ops (fun e a w=>e= .normal/\K a w) fuel (listed.setIfInBounds i true) a' w):wpAnyIn (FX C) 0 C.P .any ops (fun e a w=>e= .normal/\K a w) (fuel+1) listed a w:=
 TB hrd R ho rfl rfl hs hf hr (R.tmp s hn) (fun w=>by simp only[execOp];rfl) (fun _=>rfl) next
theorem NQ {C:Bn} {T:Nat->Option TI} (tk:BI C.P T) (hrd:C.rd=none) {K:Act->World->Prop} {ops:Array Oper} {i d s ty t e es eb fuel B v n l h:Nat} {ez:List AV} {lo hi:Option (Nat×IntKind×Int)} {pos:String} {af:Array Edge} {listed:Array Bool} {F:Fr} {M:List Ag} {a:Act} {w:World} {σ:Nat->Nat->Option St} {own:Nat->Option Nat} (R:AK C F M a w σ own) (ho:ops[i]?=some {dst:=some d,op:= .slice t (.tmp s) (lo.map fun x=> .tmp x.1) (hi.map fun x=> .tmp x.1) none,type:=ty,pos:=pos,after:=af,guard:=none}) (hs:Region.noSelect ops=true) (hf:Region.free .any ops listed i=true) (hr:(Region.ready .any ops listed).contains i=true) (hn:s<C.n) (htd:Ar T t= .slice e es eb ez) (hF:F s= .tok B v es 0 n) (hb:(Aj M B v).isSome) (hlo:∀x,lo=some x->x.1<C.n/\F x.1= .int x.2.1 x.2.2) (hhi:∀x,hi=some x->x.1<C.n/\F x.1= .int x.2.1 x.2.2)
 (h1:FO (hi.map fun x=> .int x.2.1 x.2.2) n n=some h) (h2:FO (lo.map fun x=> .int x.2.1 x.2.2) 0 h=some l)
 (next:∀a',AK C (Bg F d (.tok B v es (l*es) (h-l))) M a' w σ own->wpAnyIn (FX C) 0 C.P .any ops (fun e a w=>e= .normal/\K a w) fuel (listed.setIfInBounds i true) a' w):wpAnyIn (FX C) 0 C.P .any ops (fun e a w=>e= .normal/\K a w) (fuel+1) listed a w:=by
 have hx:=R.tmp s hn
 rw[hF] at hx
 obtain⟨cs,hcs⟩:=Option.isSome_iff_exists.1 hb
 obtain⟨_,fp,hB,_⟩:=BS R.mem hcs
 have hx2:=hx
 simp only[VR] at hx2
 obtain⟨_,⟨ad,c,hval⟩,st,hst,hnil,hloc⟩:=hx2
 have hnc:n<=c:=by
  simp only[BR] at hB
  rcases hB.2 with⟨h1,_,_⟩ | ⟨g,b,cur,e',fp',h1,_⟩
  .rw[h1] at hst;simp at hst;subst hst
   have:=(hnil rfl).2.2;omega
  .rw[h1] at hst;simp at hst;subst hst
   obtain⟨a2,c2,e2,_,e3,_⟩:=hloc _ _ _ rfl
   rw[hval] at e2;cases e2;exact e3
 have el:(lo.map fun x=>Operand.tmp x.1).map a.eval=(lo.map fun x=>x.2).map fun x=>Value.int x.1 x.2:=by
  cases lo with
  |none=>rfl
  |some x=>
   obtain⟨h3,h4⟩:=hlo x rfl
   have:=R.tmp x.1 h3;rw[h4] at this
   simp only[Option.map_some];exact congrArg some this.1
 have eh:(hi.map fun x=>Operand.tmp x.1).map a.eval=(hi.map fun x=>x.2).map fun x=>Value.int x.1 x.2:=by
  cases hi with
  |none=>rfl
  |some x=>
   obtain⟨h3,h4⟩:=hhi x rfl
   have:=R.tmp x.1 h3;rw[h4] at this
   simp only[Option.map_some];exact congrArg some this.1
 have e1:a.eval (.tmp s)= .slice ad n c:=hval
 have hall:=XG tk htd (a:=ad) (lo:=lo.map fun x=>x.2) (hi:=hi.map fun x=>x.2) hnc (by rw[Option.map_map];exact h1) (by rw[Option.map_map];exact h2)
 obtain⟨u,hu,hv⟩:=S0 R.mem tk (t:=t) (lo:=lo.map fun x=>AV.int x.2.1 x.2.2) (hi:=hi.map fun x=>AV.int x.2.1 x.2.2) (mx:=none) (vl:=(lo.map fun x=>x.2).map fun x=>Value.int x.1 x.2) (vh:=(hi.map fun x=>x.2).map fun x=>Value.int x.1 x.2) (vm:=none) hx (by
  intro y hy;cases lo with
  |none=>simp at hy
  |some x=>simp at hy;subst hy;exact⟨_,rfl,rfl,fun _=>rfl⟩) (by cases lo<;>simp) (by
  intro y hy;cases hi with
  |none=>simp at hy
  |some x=>simp at hy;subst hy;exact⟨_,rfl,rfl,fun _=>rfl⟩) (by cases hi<;>simp) (by simp) (by simp) (r:= .tok B v es (0+l*es) (h-l)) (by
  unfold Ju
  simp only[htd]
  rw[if_pos ⟨trivial,hb⟩]
  simp only[h1,h2])
 rw[hval] at hu
 have h5:=hall w
 rw[h5] at hu
 cases hu
 refine TB hrd R ho rfl rfl hs hf hr (by simpa using hv) (fun w=>?_) (fun _=>rfl) next
 simp only[execOp,e1,el,eh,Option.map_none,Sem.run_bind,hall,Result.andThen_ok,Sem.run_pure]
theorem ZQ {C:Bn} {T:Nat->Option TI} (tk:BI C.P T) {F:Fr} {M:List Ag} {a:Act} {w:World} {σ:Nat->Nat->Option St} {own:Nat->Option Nat} {o:Oper} {next:Act->World->Prop} {Q:Exit->Act->World->Prop} (R:AK C F M a w σ own) (hb:By C.n o=true) (hnd:∀c,o.op≠ .defer c) {r:AV} (hv:pv T M F o=some r)
 (h:∀a',AK C (Al F o.dst r) M a' w σ own->next a' w):o.wpIn (FX C) 0 C.P a w next Q:=by
 obtain⟨u,hu,hr⟩:=Sg tk R hb hv
 exact Oper.wp_value hnd hu (h _ (R.put _ hr))
theorem Q8 (a b:Int):∀(j k m:Nat),j<=m->CP (Ae (List.replicate k a++List.replicate m b)) k (Ae (List.replicate j a))=Ae (List.replicate (k+j) a++List.replicate (m-j) b)
 |0,k,m,_=>by simp[CP,Ae]
 |j+1,k,m,h=>by
  obtain⟨m,rfl⟩:∃m',m=m' +1:=⟨m-1,by omega⟩
  have ih:=Q8 a b j (k+1) m (by omega)
  have e:(Ae (List.replicate k a++List.replicate (m+1) b)).set k (.int .i64 a)=Ae (List.replicate (k+1) a++List.replicate m b):=by
   rw[List.replicate_succ,List.replicate_succ',List.append_assoc]
   simp only[Ae,List.map_append,List.map_cons]
   rw[List.set_append_right _ _ (by simp)]
   simp
  have e2:Ae (List.replicate (j+1) a)= .int .i64 a::Ae (List.replicate j a):=by simp[Ae,List.replicate_succ]
  rw[e2,CP,e,ih,show k+1+j=k+(j+1) by omega,show m+1-(j+1)=m-j by omega]
theorem Vq (n:Nat) (hn1:1<=n) (hn:n<1000):Aa pg 250 [.ro 1 [.int .i64 (-1)],.int .i64 n] [] (fun r _=>r= .own 1 n (Ae (List.replicate n (-1)))):=by
 refine Aa.enterA (fn:=Tryz.f250) tk rfl rfl rfl (Nat.le_of_ble_eq_true rfl) (by kernel_rfl) ?_
 intro C hC hp hnC hrd hdf
 have hp0:C.p<=0:=Nat.le_of_eq hp
 have hn48:C.n=48:=hnC
 show AW C _ _ _ (Hd tT [.tmp 4] 0 _)
 rw[At]
 refine AW.seqW tk hC hp0 (by rw[hn48];kernel_rfl) ?_
 refine zs ?_
 refine AW.seqW tk hC hp0 (by rw[hn48];kernel_rfl) ?_
 refine zs ?_
 refine zn ?_
 refine W.skip ?_
 refine AW.seqW tk hC hp0 (by rw[hn48];kernel_rfl) ?_
 refine z0 ?_;intro K hK
 refine Ab.eq (aP n hn) (by simp) (by simp) ?_
 refine zx ?_
 refine zk ?_;clear hK K
 refine AW.seqW tk hC hp0 (by rw[hn48];kernel_rfl) ?_
 have z1:¬(9223372036854775807<(n:Int)):=by omega
 refine Af z1 ?_;intro K hK
 refine zk ?_;clear hK K
 refine zn ?_
 refine W.skip ?_
 refine AW.seqW tk hC hp0 (by rw[hn48];kernel_rfl) ?_
 (repeat refine W.seq ?_);refine W.reg 1 rfl fun K hK=>?_;simp -implicitDefEqProofs (maxSteps:=999999) (disch:=omega)
 refine zk ?_;clear hK K
 have hz:CF n [AV.int .i64 0]=Ae (List.replicate n 0):=by
  simp only[CF,Ae]
  clear z1 hn1 hn
  induction n with
  |zero=>rfl
  |succ n ih=>simp[List.replicate_succ,ih]
 rw[hz]
 refine AW.seq ?_
 intro a w hr
 refine wpIn_region_lit ?_
 refine(FI (hC ▸ tk) (K:=fun F' M' =>Wk 0 F' M' (fr [(7,.tok 0 0 1 0 n),(31,.tok 0 0 1 0 n),(32,.ro 1 [.int .i64 (-1)])]) [.live 0 (Ae (List.replicate n 0))]) ?_ [_,_] 1 _ _ a w ?_ ?_ ?_ hr:wpListIn _ _ _ _ _ ([_,_]++[_,_]) a w)
 rotate_left
 .rw[hn48];kernel_rfl
 .rw[hn48];kernel_rfl
 .refine D4 (call:=Ab pg) (call' :=DG C) (fun f args M K K' hk hc=>(hc C hC).mono hk) (fun _ _ h=>h) _ _ _ _ ?_
  simp -implicitDefEqProofs (maxSteps:=999999) (disch:=omega)
  exact Wk.fr (by simp[Ad])
 clear hr a w
 intro F' M' a w hwk hr
 obtain⟨σ,own,R⟩:=hwk C hp0 a w hr
 clear hr hwk
 simp only[wpListIn]
 rw[if_pos (by simp[Region.wanted])]
 refine TA (hC ▸ tk) R (t:=28) (e:=3) (eb:=8) (ez:=[.int .i64 0]) rfl (cs:=Ae (List.replicate n 0)) (B:=0) (v:=0) (off:=0) (n:=n) (m:=1) (ys:=[.int .i64 (-1)]) rfl rfl (by omega) (by omega) rfl rfl rfl (by simp) (by omega) (by omega) ?_
 intro a' w' R' _
 rw[if_pos (by simp[Region.wanted])]
 have e33:a'.eval (.tmp 33)= .int .i64 (min 1 n:Nat):=by
  have:=R'.tmp 33 (by omega)
  have h2:a'.tmps.getD 33 undef= .int .i64 (min 1 n:Nat):=by simpa[Bg,VR,fr] using this.1
  exact h2
 have hmin:min 1 n=1:=by omega
 rw[hmin] at R' e33
 refine Oper.wp_value (fun _ h=>by cases h) (v:= .int .i64 (1:Nat)) (w' :=w') (by simp only[execOp,e33];rfl) (.inl ⟨_,_,?_,σ,own,R'.put (some 8) (av:= .int .i64 (1:Nat)) ⟨rfl,fun _=>rfl⟩⟩)
 have hset:[Ag.live 0 (Ae (List.replicate n 0))].set 0 (.live 0 (CP (Ae (List.replicate n 0)) 0 (List.take 1 [AV.int .i64 (-1)])))=[.live 0 (Ae (List.replicate 1 (-1)++List.replicate (n-1) 0))]:=by
  obtain⟨j,rfl⟩:∃j,n=j+1:=⟨n-1,by omega⟩
  simp[Ae,CP,List.replicate_succ]
 rw[hset]
 clear R' e33 hset R
 refine AW.weak (Wk.fr (S:=[(7,.tok 0 0 1 0 n),(8,.int .i64 (1:Nat))]) (by simp[Ad,Bg]) C hp0) ?_
 refine AW.seq ?_
 refine AW.block ?_
 refine AW.loop (fun m F M=>∃k,m=n-k/\1<=k/\k<=n/\F=fr [(7,.tok 0 0 1 0 n),(8,.int .i64 k)]/\M=[.live 0 (Ae (List.replicate k (-1)++List.replicate (n-k) 0))]) (n-1) _ _ (CD.refl _ _ _) ⟨1,rfl,by omega,by omega,rfl,rfl⟩ ?_
 rintro m F M ⟨k,rfl,hk1,hkn,rfl,rfl⟩
 refine AW.seqW tk hC hp0 (by rw[hn48];kernel_rfl) ?_
 by_cases hlt:k<n
 rotate_left
 .refine Af hlt ?_;intro K hK
  refine zk ?_;clear hK K
  refine zn ?_
  refine W.exit ?_
  have ek:k=n:=by omega
  subst ek
  refine AW.seqW tk hC hp0 (by rw[hn48];kernel_rfl) ?_
  refine zs ?_
  refine AW.ret ?_
  simp only[CH,Ds,C0]
  refine CR (d:=0) ?_
  simp -implicitDefEqProofs (maxSteps:=999999) (disch:=omega)
 refine Af hlt ?_;intro K hK
 refine zk ?_;clear hK K
 refine zt ?_
 refine W.skip ?_
 refine AW.block ?_
 generalize hF:Bg (Bg _ _ _) _ _=F1
 have f7:F1 7= .tok 0 0 1 0 n:=by rw[<-hF];simp[Bg,fr]
 have f8:F1 8= .int .i64 k:=by rw[<-hF];simp[Bg,fr]
 clear hF
 intro a w hr
 refine wpIn_mono (Q:=fun e a w=>e= .normal/\C1 C (fr [(7,.tok 0 0 1 0 n),(8,.int .i64 ((k+min k (n-k):Nat):Int))]) [.live 0 (Ae (List.replicate (k+min k (n-k)) (-1)++List.replicate (n-(k+min k (n-k))) 0))] a w) ?_ ?_
 rotate_left
 .rintro e a w ⟨rfl,hr⟩
  refine .inl ⟨_,_,?_,hr⟩
  exact⟨n-(k+min k (n-k)),_,_,by omega,CD.refl _ _ _,k+min k (n-k),rfl,by omega,by omega,rfl,rfl⟩
 refine wpIn_region_any (hC ▸ Cz) ?_
 obtain⟨σ,own,R⟩:=hr
 have R:=R.drew
 show wpAnyIn _ _ _ _ _ _ 10 _ a w.drew
 generalize w.drew=w at*
 refine Hu hrd R (i:=0) rfl (by kernel_rfl) (by kernel_rfl) (by kernel_rfl) (by omega) fun a R=>?_
 refine Hu hrd R (i:=1) rfl (by kernel_rfl) (by kernel_rfl) (by kernel_rfl) (by omega) fun a R=>?_
 refine Hu hrd R (i:=2) rfl (by kernel_rfl) (by kernel_rfl) (by kernel_rfl) (by omega) fun a R=>?_
 refine NQ (hC ▸ tk) hrd R (i:=3) (lo:=some (40,.i64,k)) (hi:=none) rfl (by kernel_rfl) (by kernel_rfl) (by kernel_rfl) (by omega) (t:=28) (e:=3) (es:=1) (eb:=8) (ez:=[.int .i64 0]) (n:=n) (h:=n) (l:=k) rfl (by simp[Bg,f7];exact⟨rfl,rfl⟩) rfl (by simp[Bg,f8];omega) (by simp) rfl (by simp[FO];omega) fun a R=>?_
 refine Hu hrd R (i:=4) rfl (by kernel_rfl) (by kernel_rfl) (by kernel_rfl) (by omega) fun a R=>?_
 refine Hu hrd R (i:=5) rfl (by kernel_rfl) (by kernel_rfl) (by kernel_rfl) (by omega) fun a R=>?_
 refine NQ (hC ▸ tk) hrd R (i:=6) (lo:=none) (hi:=some (43,.i64,k)) rfl (by kernel_rfl) (by kernel_rfl) (by kernel_rfl) (by omega) (t:=28) (e:=3) (es:=1) (eb:=8) (ez:=[.int .i64 0]) (n:=n) (h:=k) (l:=0) rfl (by simp[Bg,f7];exact⟨rfl,rfl⟩) rfl (by simp) (by simp[Bg,f8];omega) (by simp[FO];omega) rfl fun a R=>?_
 refine wpAnyIn_ready (rs:=[7]) (by kernel_rfl) (by simp) (AllReadyIn.cons rfl (fun K' hK=>?_) AllReadyIn.nil)
 rw[if_pos (by simp[Region.wanted])]
 refine TA (hC ▸ tk) R (t:=28) (e:=3) (eb:=8) (ez:=[.int .i64 0]) rfl (cs:=Ae (List.replicate k (-1)++List.replicate (n-k) 0)) (B:=0) (v:=0) (off:=k) (n:=n-k) (m:=k) (ys:=Ae (List.replicate k (-1))) rfl (by simp[Bg]) (by omega) (by omega) ?_ (by simp) (by simp) (by simp) (by omega) (by omega) ?_
 .simp[Bg,C2,Aj]
 intro a' w' R' _
 refine hK _ _ ?_
 refine wpAnyIn_ready (rs:=[8]) (by kernel_rfl) (by simp) (AllReadyIn.cons rfl (fun K' hK=>?_) AllReadyIn.nil)
 rw[if_pos (by simp[Region.wanted])]
 refine ZQ (hC ▸ tk) R' (by rw[hn48];kernel_rfl) (fun _ h=>by cases h) (r:= .int .i64 ((k+min k (n-k):Nat):Int)) (by simp(disch:=omega) [pv,Bg,f8]) fun a R=>hK _ _ ?_
 refine wpAnyIn_ready (rs:=[9]) (by kernel_rfl) (by simp) (AllReadyIn.cons rfl (fun K' hK=>?_) AllReadyIn.nil)
 rw[if_pos (by simp[Region.wanted])]
 refine ZQ (hC ▸ tk) R (by rw[hn48];kernel_rfl) (fun _ h=>by cases h) (r:= .int .i64 ((k+min k (n-k):Nat):Int)) (by simp(disch:=omega) [pv,Bg,f8,Al]) fun a R=>hK _ _ ?_
 refine wpAnyIn_done (by kernel_rfl) ⟨rfl,?_⟩ _
 have hm:CP (Ae (List.replicate k (-1)++List.replicate (n-k) 0)) k ((Ae (List.replicate k (-1))).take (min k (n-k)))=Ae (List.replicate (k+min k (n-k)) (-1)++List.replicate (n-(k+min k (n-k))) 0):=by
  have e:(Ae (List.replicate k (-1))).take (min k (n-k))=Ae (List.replicate (min k (n-k)) (-1)):=by
   simp only[Ae,<-List.map_take,List.take_replicate]
   rw[Nat.min_eq_left (by omega)]
  rw[e,Q8 _ _ _ _ _ (by omega),show n-k-min k (n-k)=n-(k+min k (n-k)) by omega]
 have hr:=Wk.fr (p:=0) (S:=[(7,.tok 0 0 1 0 n),(8,.int .i64 ((k+min k (n-k):Nat):Int))]) (by simp[Ad,Bg,Al,f7]) C hp0 a _ ⟨σ,own,R⟩
 simp only[List.set_cons_zero,hm] at hr
 exact hr
theorem TC:BT:=fun n h1 h2=>Vq n h1 h2
abbrev HT:List AV:=[.int .i64 0,.int .i64 0,.int .i64 0,.str ByteArray.empty,.int .i64 0,.int .i64 0,.bool false,.bool false]
theorem XH {cs:List AV} (h:cs.all Da=true) (i j:Nat):((cs.drop i).take j).all Da=true:=by
 rw[List.all_eq_true] at h |-
 exact fun x hx=>h x (List.mem_of_mem_drop (List.mem_of_mem_take hx))
theorem Nb:∀(ys cs:List AV) (o:Nat),o+ys.length<=cs.length->CP cs o ys=cs.take o++ys++cs.drop (o+ys.length)
 | [],cs,o,_=>by simp[CP]
 |y::ys,cs,o,h=>by
  simp only[List.length_cons] at h
  rw[CP,Nb ys _ _ (by simp;omega),List.length_cons]
  have e:(cs.set o y).take (o+1)=cs.take o++[y]:=by
   rw[List.take_add_one,List.take_set_of_le (Nat.le_refl _),List.getElem?_set_self (by omega)];rfl
  rw[e,List.drop_set_of_lt (by omega)]
  simp[Nat.add_assoc,Nat.add_comm 1]
theorem Vr (cs:List AV) (u n i:Nat) (hi:i<n) (hn:n<1000000000000) (hl:cs.length=n*8) (hpl:cs.all Da=true) (htf:DX cs=true):Aa pg 133 [.tok 0 u 8 0 n,.int .i64 i,.int .i64 ((i+1:Nat):Int)] [.live u cs] (fun r M=>r= .own 8 (n-1) (cs.take (i*8)++cs.drop ((i+1)*8))/\M=[.dead]):=by
 refine Aa.enterA (fn:=Tryz.f133) tk rfl rfl rfl (Nat.le_of_ble_eq_true rfl) (by kernel_rfl) ?_
 intro C hC hp hnC hrd hdf
 have hp0:C.p<=1:=Nat.le_of_eq hp
 have hn33:C.n=33:=hnC
 show AW C _ _ _ (Hd tT [.tmp 6] 1 _)
 rw[Bl]
 refine AW.seqW tk hC hp0 (by rw[hn33];kernel_rfl) ?_
 refine zs ?_
 refine AW.seq ?_
 intro a w hr
 refine wpIn_region_lit ?_
 refine(FI (hC ▸ tk) (K:=fun F' M' =>Wk 1 F' M' (fr [(0,.tok 0 u 8 0 n),(1,.int .i64 i),(2,.int .i64 ((i+1:Nat):Int)),(8,.tok 0 u 8 0 n),(9,.int .i64 i),(10,.int .i64 ((i+1:Nat):Int)),(12,.int .i64 n)]) [.live u cs]) ?_ [_,_,_,_,_] 1 _ _ a w ?_ ?_ ?_ hr:wpListIn _ _ _ _ _ ([_,_,_,_,_]++[_]) a w)
 rotate_left
 .rw[hn33];kernel_rfl
 .rw[hn33];kernel_rfl
 .refine D4 (call:=Ab pg) (call' :=DG C) (fun f args M K K' hk hc=>(hc C hC).mono hk) (fun _ _ h=>h) _ _ _ _ ?_
  simp -implicitDefEqProofs (maxSteps:=999999) (disch:=omega)
  exact Wk.fr (by simp[Ad])
 clear hr a w
 intro F' M' a w hwk hr
 obtain⟨σ,own,R⟩:=hwk C hp0 a w hr
 clear hr hwk
 simp only[wpListIn]
 rw[if_pos (by simp[Region.wanted])]
 obtain⟨h8,b8',sz,c,hst,hv8,hnc,hcm,hsz⟩:=UA R (t:=8) (B:=0) (u:=u) (s:=8) (off:=0) (n:=n) (cs:=cs) (by omega) rfl (by simp[Aj]) (by omega)
 have e9:a.eval (.tmp 9)= .int .i64 i:=(R.tmp 9 (by omega)).1
 have e10:a.eval (.tmp 10)= .int .i64 ((i+1:Nat):Int):=(R.tmp 10 (by omega)).1
 have e12:a.eval (.tmp 12)= .int .i64 n:=(R.tmp 12 (by omega)).1
 have e8:a.eval (.tmp 8)=_:=hv8
 obtain⟨v,hv⟩:=ar (hC ▸ tk) (t:=35) (e:=42) (es:=8) (eb:=64) (ez:=HT) rfl (ad:=some ⟨h8,b8' +0,none⟩) (n:=n) (c:=c) (l:=i) (h:=i+1) (m:=n) (by omega) (by omega) hnc w
 refine Oper.wp_value (fun _ h=>by cases h) (v:=v) (w' :=w) ?_ (.inl ⟨_,_,?_,σ,own,R.put (some 13) (av:= .any) (fun _=>rfl)⟩)
 .simp only[execOp,e8,e9,e10,e12,Option.map_some,Sem.run_bind]
  rw[hv]
  simp only[Result.andThen_ok,Sem.run_pure]
 refine AW.weak (Wk.fr (S:=[(0,.tok 0 u 8 0 n),(1,.int .i64 i),(2,.int .i64 ((i+1:Nat):Int))]) (by simp[Ad,Bg]) C hp0) ?_
 clear hv e8 e9 e10 e12 v hv8 hst R
 refine AW.seqW tk hC hp0 (by rw[hn33];kernel_rfl) ?_
 have z1:¬(i:Int)=((i+1:Nat):Int):=by omega
 refine Af z1 ?_;intro K hK
 refine zk ?_;clear hK K
 refine zn ?_
 refine W.skip ?_
 refine AW.seqW tk hC hp0 (by rw[hn33];kernel_rfl) ?_
 refine zs ?_
 refine AW.weak (Wk.fr (S:=[(0,.tok 0 u 8 0 n),(1,.int .i64 i),(2,.int .i64 ((i+1:Nat):Int)),(7,.int .i64 n)]) (by simp[Ad,Bg]) C hp0) ?_
 clear hnc hcm hsz h8 b8' sz c own σ a w M' F'
 obtain⟨m,hm⟩:∃m,m=n-(i+1):=⟨_,rfl⟩
 have hys:((cs.drop ((i+1)*8)).take (m*8)).length=m*8:=by simp;omega
 have hcs:CP cs (i*8) ((cs.drop ((i+1)*8)).take (m*8))=cs.take (i*8)++cs.drop ((i+1)*8)++cs.drop ((n-1)*8):=by
  rw[Nb _ _ _ (by rw[hys];omega),hys,show i*8+m*8=(n-1)*8 by omega,List.take_of_length_le (l:=cs.drop ((i+1)*8)) (by simp;omega)]
 intro a w hr
 refine wpIn_seq (wpIn_mono (Q:=fun e a w=>e= .normal/\∃F σ own h b sz c,F 0= .tok 0 u 8 0 (n-1)/\F 7= .int .i64 n/\AK C F [.live u (cs.take (i*8)++cs.drop ((i+1)*8)++cs.drop ((n-1)*8))] a w σ own/\σ 0 u=some (.loc h b sz)/\a.tmps.getD 0 undef= .slice (some ⟨h,b,none⟩) (n-1) c/\n<=c/\c<=maxLen/\b+c*8<=sz) ?_ ?_)
 rotate_left
 .rintro e a w ⟨rfl,F,σ,own,h0,b0,sz,c,f0,f7,R,hst,hv0,hnc,hcm,hsz⟩
  obtain⟨cs2,hc2⟩:∃cs2,cs2=cs.take (i*8)++cs.drop ((i+1)*8)++cs.drop ((n-1)*8):=⟨_,rfl⟩
  have hl2:cs2.length=n*8:=by rw[hc2];simp;omega
  have ht2:cs2.take ((n-1)*8)=cs.take (i*8)++cs.drop ((i+1)*8):=by
   rw[hc2,List.take_left' (by simp;omega)]
  have hq:DX (cs2.take ((n-1)*8))=true:=by
   rw[ht2]
   unfold DX at htf |-
   rw[List.all_eq_true] at htf |-
   intro x hx
   rcases List.mem_append.1 hx with h|h
   .exact htf x (List.mem_of_mem_take h)
   .exact htf x (List.mem_of_mem_drop h)
  rw[<-ht2]
  rw[<-hc2] at R
  clear hc2 ht2 hcs hys hr
  refine wpIn_seq (wpIn_region_lit ?_)
  simp only[wpListIn]
  have e7:a.tmps.getD 7 undef= .int .i64 n:=by have:=R.tmp 7 (by omega);rw[f7] at this;exact this.1
  have r0:=R.tmp 0 (by omega)
  rw[f0,hv0] at r0
  rw[if_pos (by simp[Region.wanted])]
  refine KS R (fun _ h=>by cases h) rfl (by omega) (v:= .slice (some ⟨h0,b0,none⟩) (n-1) c) (av:= .tok 0 u 8 0 (n-1)) r0 (by rw[<-hv0];rfl) fun a1 R v1 k1=>?_
  rw[if_pos (by simp[Region.wanted])]
  refine KS R (fun _ h=>by cases h) rfl (by omega) (v:= .slice (some ⟨h0,b0,none⟩) (n-1) c) (av:= .tok 0 u 8 0 (n-1)) r0 (by rw[<-hv0,<-k1 0 (by decide)];rfl) fun a2 R v2 k2=>?_
  rw[if_pos (by simp[Region.wanted])]
  have e28:a2.eval (.tmp 28)= .slice (some ⟨h0,b0,none⟩) (n-1) c:=v2
  refine KS R (fun _ h=>by cases h) rfl (by omega) (v:= .int .i64 ((n-1:Nat):Int)) (av:= .int .i64 ((n-1:Nat):Int)) ⟨rfl,fun _=>rfl⟩ ?_ fun a3 R v3 k3=>?_
  .have hD:=(Cf (P:=C.P) (hC ▸ tk:BI C.P tT) (t:=35) (e:=42) (es:=8) (eb:=64) (ez:=HT) rfl).1
   simp[execOp,resolve,invoke,builtin,e28,Builtin.len_,run_underlying hD,goInt]
  rw[if_pos (by simp[Region.wanted])]
  refine KS R (fun _ h=>by cases h) rfl (by omega) (v:= .int .i64 n) (av:= .int .i64 n) ⟨rfl,fun _=>rfl⟩ (by rw[<-e7,<-k1 7 (by decide),<-k2 7 (by decide),<-k3 7 (by decide)];rfl) fun a4 R v4 k4=>?_
  rw[if_pos (by simp[Region.wanted])]
  have e27:a4.eval (.tmp 27)= .slice (some ⟨h0,b0,none⟩) (n-1) c:=by
   show a4.tmps.getD 27 undef=_
   rw[k4 _ (by decide),k3 _ (by decide),k2 _ (by decide),v1]
  have e29:a4.eval (.tmp 29)= .int .i64 ((n-1:Nat):Int):=by
   show a4.tmps.getD 29 undef=_
   rw[k4 _ (by decide),v3]
  have e30:a4.eval (.tmp 30)= .int .i64 n:=v4
  have hs31:=WT (hC ▸ tk) (t:=35) (e:=42) (es:=8) (eb:=64) (ez:=HT) rfl (ad:=some ⟨h0,b0,none⟩) (n:=n-1) (c:=c) (lo:=some (n-1)) (hi:=some n) (l:=n-1) (h:=n) rfl rfl (by omega) hnc w
  have hne:¬c=n-1:=by omega
  simp only[Option.map_some,hne,if_false,show n-(n-1)=1 by omega] at hs31
  refine KS R (fun _ h=>by cases h) rfl (by omega) (v:= .slice (some (Addr.add ⟨h0,b0,none⟩ ((n-1)*8))) 1 (c-(n-1))) (av:= .any) (fun _=>rfl) ?_ fun a5 R v5 k5=>?_
  .simp only[execOp,e27,e29,e30,Option.map_some,Option.map_none,Sem.run_bind]
   rw[hs31]
   simp only[Result.andThen_ok,Sem.run_pure]
  rw[show(some (Addr.add ⟨h0,b0,none⟩ ((n-1)*8)))=some ⟨h0,b0+(n-1)*8,none⟩ by simp[Addr.add]] at v5
  rw[if_pos (by simp[Region.wanted])]
  refine bI (hC ▸ tk) R (t:=35) (e:=42) (s:=8) (eb:=64) (ez:=HT) rfl (B:=0) (u:=u) (h:=h0) (b:=b0) (sz:=sz) (cs:=cs2) (off:=(n-1)*8) (n:=1) (by simp[Aj]) hst v5 (by rfl) (by omega) (by omega) fun a w R=>?_
  clear hs31 e27 e29 e30 e28 v1 v2 v3 v4 v5 k1 k2 k3 k4 k5 r0 e7 hv0 hst
  have hl1:(CF 1 HT).length=8:=rfl
  rw[show([Ag.live u cs2].set 0 (.live u (CP cs2 ((n-1)*8) (CF 1 HT))))=[Ag.live u (CP cs2 ((n-1)*8) (CF 1 HT))] from rfl,Nb _ _ _ (by rw[hl1];omega)] at R
  have ht3:cs2.take ((n-1)*8)=(cs2.take ((n-1)*8)++CF 1 HT++cs2.drop ((n-1)*8+(CF 1 HT).length)).take ((n-1)*8):=by
   rw[List.append_assoc,List.take_left' (by simp;omega)]
  have hl3:(n-1)*8<=(cs2.take ((n-1)*8)++CF 1 HT++cs2.drop ((n-1)*8+(CF 1 HT).length)).length:=by
   simp only[List.length_append,List.length_take];omega
  generalize cs2.take ((n-1)*8)++CF 1 HT++cs2.drop ((n-1)*8+(CF 1 HT).length)=cs3 at ht3 hl3 R
  rw[ht3] at hq |-
  have hw:=Wk.fr (p:=1) (S:=[(0,.tok 0 u 8 0 (n-1))]) (by simp[Ad,Bg,f0]) C hp0 a _ ⟨σ,own,R⟩
  refine AW.seqW (Q:=Hd tT [.tmp 6] 1 _) tk hC hp0 (by rw[hn33];kernel_rfl) ?_ a w hw
  refine zs ?_
  refine AW.ret ?_
  simp only[CH,Ds,C0]
  refine CR (d:=0) ?_
  simp -implicitDefEqProofs (maxSteps:=999999) (disch:=omega) [hq]
 refine wpIn_region_any (hC ▸ Cz) ?_
 obtain⟨σ,own,R⟩:=hr
 have R:=R.drew
 show wpAnyIn _ _ _ _ _ _ 8 _ a w.drew
 generalize w.drew=w at*
 obtain⟨h0,b0,sz,c,hst,hv0,hnc,hcm,hsz⟩:=UA R (t:=0) (B:=0) (u:=u) (s:=8) (off:=0) (n:=n) (cs:=cs) (by omega) rfl (by simp[Aj]) (by omega)
 have e1:a.tmps.getD 1 undef= .int .i64 i:=(R.tmp 1 (by omega)).1
 have e2:a.tmps.getD 2 undef= .int .i64 ((i+1:Nat):Int):=(R.tmp 2 (by omega)).1
 simp only[Nat.add_zero] at hv0 hsz
 refine H0 hrd R (i:=0) rfl (by kernel_rfl) (by kernel_rfl) (by kernel_rfl) (by omega) (by omega) fun a1 R v1 k1=>?_
 rw[hv0] at v1
 refine H0 hrd R (i:=1) rfl (by kernel_rfl) (by kernel_rfl) (by kernel_rfl) (by omega) (by omega) fun a2 R v2 k2=>?_
 rw[k1 _ (by decide),e1] at v2
 refine MC (hC ▸ tk) hrd R (i:=2) (lo:=none) (hi:=some (21,i)) (u:=u) (B:=0) (n:=n) (c:=c) (hp:=h0) (b:=b0) (sz:=sz) (h:=i) (l:=0) (es:=8) rfl (by kernel_rfl) (by kernel_rfl) (by kernel_rfl) (by omega) (t:=35) rfl hst (by rw[k2 _ (by decide),v1]) hcm hsz (by simp) (by rintro x ⟨⟩;exact v2) rfl rfl (by omega) (by omega) fun a3 R v3 k3=>?_
 refine H0 hrd R (i:=3) rfl (by kernel_rfl) (by kernel_rfl) (by kernel_rfl) (by omega) (by omega) fun a4 R v4 k4=>?_
 rw[k3 _ (by decide),k2 _ (by decide),k1 _ (by decide),hv0] at v4
 refine H0 hrd R (i:=4) rfl (by kernel_rfl) (by kernel_rfl) (by kernel_rfl) (by omega) (by omega) fun a5 R v5 k5=>?_
 rw[k4 _ (by decide),k3 _ (by decide),k2 _ (by decide),k1 _ (by decide),e2] at v5
 refine MC (hC ▸ tk) hrd R (i:=5) (lo:=some (24,i+1)) (hi:=none) (u:=u) (B:=0) (n:=n) (c:=c) (hp:=h0) (b:=b0) (sz:=sz) (h:=n) (l:=i+1) (es:=8) rfl (by kernel_rfl) (by kernel_rfl) (by kernel_rfl) (by omega) (t:=35) rfl hst (by rw[k5 _ (by decide),v4]) hcm hsz (by rintro x ⟨⟩;exact v5) (by simp) rfl rfl (by omega) (by omega) fun a6 R v6 k6=>?_
 rw[show(if c=0 then(some ⟨h0,b0,none⟩:Option Addr) else some ⟨h0,b0+0*8,none⟩)=some ⟨h0,b0,none⟩ by split<;>simp] at v3
 have e22:a6.tmps.getD 22 undef= .slice (some ⟨h0,b0,none⟩) i c:=by
  have:a6.tmps.getD 22 undef= .slice (some ⟨h0,b0,none⟩) (i-0) (c-0):=by rw[k6 _ (by decide),k5 _ (by decide),k4 _ (by decide)];exact v3
  exact this
 refine wpAnyIn_ready (rs:=[6]) (by kernel_rfl) (by simp) (AllReadyIn.cons rfl (fun K' hK=>?_) AllReadyIn.nil)
 rw[if_pos (by simp[Region.wanted])]
 refine bH (hC ▸ tk) R (t:=35) (e:=42) (s:=8) (eb:=64) (ez:=HT) rfl (B:=0) (u:=u) (h:=h0) (b:=b0) (sz:=sz) (cs:=cs) (by simp[Aj]) hst e22 (by omega) (m:=m) (ys:=(cs.drop ((i+1)*8)).take (m*8)) (n:=i) (c:=c) (by simp[Bg,C2,Aj,hm]) hys (XH hpl _ _) (by omega) (by omega) hcm hsz (by omega) fun a7 w' R' v7=>hK _ _ ?_
 rw[hcs,show i+m=n-1 by omega] at R'
 rw[show i+m=n-1 by omega] at v7
 refine wpAnyIn_ready (rs:=[7]) (by kernel_rfl) (by simp) (AllReadyIn.cons rfl (fun K' hK=>?_) AllReadyIn.nil)
 rw[if_pos (by simp[Region.wanted])]
 refine KS R' (fun _ h=>by cases h) rfl (by omega) (v:= .slice (some ⟨h0,b0,none⟩) (n-1) c) (av:= .tok 0 u 8 0 (n-1)) (MB hst (by omega) hcm (by omega) (fun _=>rfl)) (by rw[<-v7];rfl) fun a R v8 k8=>hK _ _ ?_
 refine wpAnyIn_done (by kernel_rfl) ⟨rfl,?_⟩ _
 exact⟨_,σ,own,h0,b0,sz,c,by simp[Bg],by simp[Bg,fr],R,hst,v8,hnc,hcm,hsz⟩
end Go.Abs
