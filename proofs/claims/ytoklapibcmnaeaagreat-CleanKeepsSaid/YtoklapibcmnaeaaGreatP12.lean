/- References: graphs that may be; new ones; where an object is. -/
import Derived.Test.YtoklapibcmnaeaaGreatP11
set_option linter.unusedVariables false
set_option linter.unusedSimpArgs false
set_option maxRecDepth 100000
namespace Go.Abs
open Go.Proofs
theorem Xh (g:Gr) (h1:g.out.length<1000000000) (h2:C8 g.out<4611686018427387904):Aa pg 88 [.agg (Ba false g)] [] (fun r _=>r= .int .i64 (C8 g.out)):=by
 refine Aa.start (fn:=Tryz.f88) [.tmp 2] tk rfl rfl rfl (by kernel_rfl) (Nat.le_of_ble_eq_true rfl) rfl (by kernel_rfl) ?_
 rw[Ay]
 refine z1 ?_;intro K hK;refine zk ?_;clear hK K
 refine zs ?_
 refine zs ?_
 (repeat refine W.seq ?_);refine W.block (W.loopS (fun k:Nat=> [(1,.ptr 0 0 0),(3,.int .i64 (C8 (g.out.take k))),(4,.int .i64 k)]) (fun _=> [.live 0 (Ba false g)]) (fun k=>g.out.length-k) (fun k=>k<=g.out.length) 0 (Wk.fr (by simp[Ad,C8])) (by simp) ?_)
 intro k hk
 refine zs ?_
 refine zc ?_ ?_<;>intro h
 .refine W.skip ?_
  have hlt:k<g.out.length:=by omega
  have hs:=ML hlt
  have ht:=MK g.out (k+1)
  refine zb ?_
  (repeat refine W.seq ?_);refine W.reg 0 rfl fun K hK=>?_;simp -implicitDefEqProofs (maxSteps:=999999) (disch:=omega) [hlt]
  refine zk ?_;clear hK K
  refine zs ?_
  refine⟨k+1,by omega,by omega,Wk.fr (by simp[Ad,hs])⟩
 .refine W.exit ?_
  have:k=g.out.length:=by omega
  subst this
  refine zs ?_
  exact zR
theorem KI (g:Gr) (hg:FL g):Aa pg 44 [.agg (Ba false g)] [] (fun r _=>r= .bool (decide (A3 g))):=by
 obtain⟨h1,h2⟩:=hg
 have spN:=Jt g.n 16
 refine Aa.start (fn:=Tryz.f44) [.tmp 2] tk rfl rfl rfl (by kernel_rfl) (Nat.le_of_ble_eq_true rfl) rfl (by kernel_rfl) ?_
 rw[Ay]
 refine z1 ?_;intro K hK;refine zk ?_;clear hK K
 by_cases c1:0<=g.n/\g.n<=16
 rotate_left
 .rw[decide_eq_false c1] at spN
  refine z0 ?_;intro K hK
  refine Ab.eq spN (by simp) (by simp) ?_
  refine zx ?_
  refine zk ?_;clear hK K
  refine zt ?_
  refine zs ?_
  refine zr ?_
  exact fun h=>c1 ⟨h.1,h.2.1⟩
 rw[decide_eq_true c1] at spN
 by_cases c2:(g.out.length:Int)=g.n
 rotate_left
 .refine z0 ?_;intro K hK
  refine Ab.eq spN (by simp) (by simp) ?_
  refine AX c2 ?_
  refine zk ?_;clear hK K
  refine zt ?_
  refine zs ?_
  refine zr ?_
  exact fun h=>c2 h.2.2.1
 refine z0 ?_;intro K hK
 refine Ab.eq spN (by simp) (by simp) ?_
 refine AX c2 ?_
 refine zk ?_;clear hK K
 refine zn ?_
 refine W.skip ?_
 refine zs ?_
 (repeat refine W.seq ?_);refine W.block (W.loopS (fun k:Nat=> [(1,.ptr 0 0 0),(3,.int .i64 k)]) (fun _=> [.live 0 (Ba false g)]) (fun k=>g.out.length-k) (fun k=>k<=g.out.length/\∀l∈g.out.take k,Gk g.n l) 0 (Wk.fr (by simp[Ad])) (by simp) ?_)
 rintro k ⟨hk,hinv⟩
 by_cases hlt:k<g.out.length
 .have hlt2:(k:Int)<g.n:=by omega
  refine Af hlt2 ?_;intro K hK
  refine zk ?_;clear hK K
  refine zt ?_
  refine W.skip ?_
  have hl2:=h2 _ (List.getElem_mem hlt)
  have hmem:=List.getElem_mem hlt
  refine zb ?_
  have hmi:=JE hlt
  obtain⟨l,hl⟩:∃l,l=g.out[k]:=⟨_,rfl⟩
  rw[<-hl] at hl2 hmem hmi
  (repeat refine W.seq ?_);refine W.midS (fun b:Bool=> [(1,.ptr 0 0 0),(3,.int .i64 k),(56,.bool b)]) (fun _=> [.live 0 (Ba false g)]) (fun b=>b=false↔Gk g.n l) ?_ ?_
  .by_cases hm:AJ l
   .by_cases h0:0<l.length
    .have hla:=Ot (n:=g.n) hm h0
     have h0' :(0:Int)<(l.length:Int):=by omega
     have spM:=G2 l (by omega)
     rw[decide_eq_true hm] at spM
     (repeat refine W.seq ?_);refine W.regd 0 rfl true Cz (by kernel_rfl) fun K hK=>?_;simp -implicitDefEqProofs (maxSteps:=999999) (disch:=omega) [hlt,<-hl]
     refine Ah.eq spM (by simp) (by simp) ?_
     simp only[Fa];simp -implicitDefEqProofs (maxSteps:=999999) (disch:=omega) [hlt,<-hl,h0]
     refine⟨by omega,?_⟩
     refine zk ?_;clear hK K
     exact⟨decide (g.n<=l[l.length-1]),by rw[hla];simp,Wk.fr (by simp[Ad])⟩
    .have hl0:l=[]:=List.eq_nil_of_length_eq_zero (by omega)
     have spM:=G2 l (by omega)
     rw[decide_eq_true hm] at spM
     (repeat refine W.seq ?_);refine W.regd 0 rfl true Cz (by kernel_rfl) fun K hK=>?_;simp -implicitDefEqProofs (maxSteps:=999999) (disch:=omega) [hlt,<-hl]
     refine Ah.eq spM (by simp) (by simp) ?_
     simp only[Fa];simp -implicitDefEqProofs (maxSteps:=999999) (disch:=omega) [hlt,<-hl,h0]
     refine zk ?_;clear hK K
     exact⟨false,by rw[hl0];simp[Gk,AJ],Wk.fr (by simp[Ad])⟩
   .have spM:=G2 l (by omega)
    rw[decide_eq_false hm] at spM
    (repeat refine W.seq ?_);refine W.regd 0 rfl true Cz (by kernel_rfl) fun K hK=>?_;simp -implicitDefEqProofs (maxSteps:=999999) (disch:=omega) [hlt,<-hl]
    refine Ah.eq spM (by simp) (by simp) ?_
    refine zx ?_
    refine zk ?_;clear hK K
    exact⟨true,by simp[Gk,hm],Wk.fr (by simp[Ad])⟩
  .intro b hb
   refine zc ?_ ?_<;>intro h
   .refine zs ?_
    refine zr ?_
    intro h'
    have h3:=h'.2.2.2.1 l hmem
    have h4:=hb.2 h3
    have h5:b=true:=by assumption
    rw[h4] at h5;cases h5
   .refine W.skip ?_
    refine zs ?_
    refine⟨k+1,by omega,⟨by omega,fun x hx=>?_⟩,Wk.fr (by simp[Ad])⟩
    rcases(hmi x).1 hx with h6|h6
    .exact hinv x h6
    .rw[h6];exact hb.1 (by assumption)
 .have:k=g.out.length:=by omega
  subst this
  rw[List.take_length] at hinv
  have hge:¬(g.out.length:Int)<g.n:=by omega
  refine Af hge ?_;intro K hK
  refine zk ?_;clear hK K
  refine zn ?_
  refine W.exit ?_
  refine z0 ?_;intro K hK
  refine Ab.eq (Xh g h1 (by have:=Ky hinv;omega)) (by simp) (by simp) ?_
  refine zx ?_
  refine zk ?_;clear hK K
  refine zr ?_
  exact⟨fun h=>⟨c1.1,c1.2,c2,hinv,by omega⟩,fun h=>by have:=h.2.2.2.2;omega⟩
theorem Td (n:Nat) (hn:n<1000000):Aa pg 144 [.int .i64 n] [] (fun r _=>r= .agg (Ba true ⟨n,List.replicate n []⟩)):=by
 refine Aa.start (fn:=Tryz.f144) [.cell 2 51] tk rfl rfl rfl (by kernel_rfl) (Nat.le_of_ble_eq_true rfl) rfl (by kernel_rfl) ?_
 rw[Ay]
 refine z1 ?_;intro K hK;refine zk ?_;clear hK K
 refine z1 ?_;intro K hK
 refine zk ?_;clear hK K
 refine zr ?_
 simp[Qc]
theorem U5 (g:Gr) (v:Nat) (h:v<g.out.length) (h2:(v:Int)<g.n):Aa pg 147 [.agg (Ba false g),.int .i64 v] [] (fun r _=>r= .ro g.out[v].length (Ae g.out[v])):=by
 refine Aa.start (fn:=Tryz.f147) [.tmp 4] tk rfl rfl rfl (by kernel_rfl) (Nat.le_of_ble_eq_true rfl) rfl (by kernel_rfl) ?_
 rw[At]
 refine z1 ?_;intro K hK;refine zk ?_;clear hK K
 refine Af h2 ?_;intro K hK
 refine zk ?_;clear hK K
 refine zt ?_
 (repeat refine W.seq ?_);refine W.reg 0 rfl fun K hK=>?_;simp -implicitDefEqProofs (maxSteps:=999999) (disch:=omega) [h]
 refine zk ?_;clear hK K
 exact zR
theorem U6 (g:Gr) (v:Nat) (h2:g.n<=(v:Int)):Aa pg 147 [.agg (Ba false g),.int .i64 v] [] (fun r _=>r= .own 1 0 []):=by
 have h3:¬(v:Int)<g.n:=by omega
 refine Aa.start (fn:=Tryz.f147) [.tmp 4] tk rfl rfl rfl (by kernel_rfl) (Nat.le_of_ble_eq_true rfl) rfl (by kernel_rfl) ?_
 rw[At]
 refine z1 ?_;intro K hK;refine zk ?_;clear hK K
 refine Af h3 ?_;intro K hK
 refine zk ?_;clear hK K
 refine zn ?_
 refine W.skip ?_
 refine zs ?_
 exact zR
theorem OE (l:List Obj) (id:Int) (hl:l.length<1000000000):Aa pg 105 [.ro l.length (Ac As l),.int .i64 id] [] (fun r _=>r= .int .i64 (AL (fun o=>decide (o.id=id)) l)):=by
 refine Aa.start (fn:=Tryz.f105) [.tmp 4] tk rfl rfl rfl (by kernel_rfl) (Nat.le_of_ble_eq_true rfl) rfl (by kernel_rfl) ?_
 rw[At]
 refine zs ?_
 refine zs ?_
 (repeat refine W.seq ?_);refine W.block (W.loopS (fun k:Nat=> [(0,.ro l.length (Ac As l)),(1,.int .i64 id),(5,.int .i64 k)]) (fun _=> []) (fun k=>l.length-k) (fun k=>k<=l.length/\∀i (h:i<l.length),i<k->l[i].id≠id) 0 (Wk.fr (by simp[Ad])) (by simp) ?_)
 rintro k ⟨hk,ht⟩
 refine zs ?_
 refine zc ?_ ?_<;>intro h
 .refine W.skip ?_
  have hlt:k<l.length:=by omega
  refine zb ?_
  (repeat refine W.seq ?_);refine W.reg 0 rfl fun K hK=>?_;simp -implicitDefEqProofs (maxSteps:=999999) (disch:=omega) [hlt]
  refine zk ?_;clear hK K
  refine zc ?_ ?_<;>intro h
  .refine zs ?_
   refine zr ?_
   exact(Ei hlt (by simp[h]) fun i hi hik=>by simpa using ht i hi hik).symm
  .refine W.skip ?_
   refine zs ?_
   refine⟨k+1,by omega,⟨by omega,?_⟩,Wk.fr (by simp[Ad])⟩
   intro i hi hik
   by_cases e:i=k
   .subst e;exact fun e=>h e
   .exact ht i hi (by omega)
 .refine W.exit ?_
  refine zs ?_
  refine zr ?_
  exact(EC fun i hi=>by simpa using ht i hi (by omega)).symm
def F8 (o:Option Gr):AV:=match o with|some g=> .tup [.agg (Ba true g),.bool true] |none=> .tup [.agg (Ba true AI),.bool false]
theorem Qo (bs:List Bool) (hb:bs.length<1000000000):Aa pg 108 [.ro bs.length (A8 bs)] [] (fun r _=>r=F8 (Fc bs)):=by
 refine Aa.start (fn:=Tryz.f108) [.cell 2 51,.tmp 3] tk rfl rfl rfl (by kernel_rfl) (Nat.le_of_ble_eq_true rfl) rfl (by kernel_rfl) ?_
 rw[Ay]
 refine z1 ?_;intro K hK;refine zk ?_;clear hK K
 refine z0 ?_;intro K hK
 have sp:=Fk bs 0 hb (Nat.zero_le _)
 have hbad0:∀c:Prop,c->c:=fun _ h=>h
 cases hg:A5 bs 0 with
 |none=>
  simp only[hg,FR] at sp
  refine Ab.eq sp (by simp) (by simp) ?_
  refine zx ?_
  refine zk ?_;clear hK K
  refine zs ?_
  refine zt ?_
  refine zs ?_
  refine W.weak (Wk.thaw (B:=0) (v:=0) (j:=1) (s:=1) (n:=0) (cs:=[.int .i64 0,.own 1 0 []]) (xs:=[]) rfl rfl) ?_
  refine zr ?_
  simp[Fc,CK,hg,F8,AI]
 |some x=>
  simp only[hg,FR] at sp
  obtain⟨hx1,hx2,hx3,hx4,_⟩:=A0 hg
  refine Ab.eq sp (by simp) (by simp) ?_
  refine zx ?_
  refine zk ?_;clear hK K
  by_cases hle:x.1<=17
  rotate_left
  .have h1:¬(x.1:Int)<1:=by omega
   have h2:(16:Int)<(x.1:Int)-1:=by omega
   refine Af (an h1 h2) ?_;intro K hK
   refine zk ?_;clear hK K
   refine zt ?_
   refine zs ?_
   refine W.weak (Wk.thaw (B:=0) (v:=0) (j:=1) (s:=1) (n:=0) (cs:=[.int .i64 0,.own 1 0 []]) (xs:=[]) rfl rfl) ?_
   refine zr ?_
   simp only[Fc,CK,hg];rw[if_neg hle];simp[F8,AI]
  have h1:¬(x.1:Int)<1:=by omega
  have h2:¬(16:Int)<(x.1:Int)-1:=by omega
  obtain⟨n,hn⟩:∃n,x.1=n+1:=⟨x.1-1,by omega⟩
  have hxn:(x.1:Int)-1=(n:Int):=by omega
  have hgr:Fc bs=match Be (BU bs) n 0 x.2 with
   |none=>none
   |some r=>if r.2=bs.length/\A3 ⟨(n:Int),r.1⟩ then some ⟨(n:Int),r.1⟩ else none:=by
   simp only[Fc,CK,hg]
   rw[if_pos hle,hn,Nat.add_sub_cancel]
   simp only[Int.natCast_add,Int.natCast_one,Int.add_sub_cancel]
   rfl
  rw[hgr]
  clear hgr
  refine Af (an h1 h2) ?_;intro K hK
  refine zk ?_;clear hK K
  refine zn ?_
  refine W.skip ?_
  refine z1 ?_;intro K hK
  refine Ab.eq (Td n (by omega)) (by simp[hxn]) (by simp) ?_
  refine zx ?_
  refine zk ?_;clear hK K
  refine zs ?_
  (repeat refine W.seq ?_);refine W.block (W.loopS (fun s:Nat×List (List Int)×Nat=> [(0,.ro bs.length (A8 bs)),(2,.ptr 0 0 0),(6,.ptr 1 0 0),(5,.int .i64 s.2.2),(7,.int .i64 s.1)]) (fun s=> [.live 0 [.int .i64 0,.own 1 0 []],.live 0 [.int .i64 n,.tok 2 0 1 0 n],.live 0 (AA true (s.2.1++List.replicate (n-s.1) []))]) (fun s=>n-s.1)
    (fun s=>s.1<=n/\s.2.1.length=s.1/\s.2.2<=bs.length/\(∀l∈s.2.1,AJ l)/\Be (BU bs) n 0 x.2=(Be (BU bs) (n-s.1) s.1 s.2.2).map fun r=>(s.2.1++r.1,r.2)) (0,[],x.2) (Wk.fr (by simp[Ad])) ⟨by simp,rfl,hx4,by simp,by simp⟩ ?_)
  rintro⟨k,acc,q⟩ ⟨hk,hacc,hq,hml,hinv⟩
  simp only at hk hacc hq hml hinv
  refine zs ?_
  refine zc ?_ ?_<;>intro h
  .refine W.skip ?_
   have hkn:k<n:=by omega
   obtain⟨m,hm⟩:∃m,n-k=m+1:=⟨n-k-1,by omega⟩
   have hm' :n-(k+1)=m:=by omega
   rw[hm] at hinv
   refine zb ?_
   have spR:=LZ bs q k hb hq (by omega)
   cases hr:(BU bs) q k with
   |none=>
    rw[hr] at spR
    simp only[DA] at spR
    have hnone:Be (BU bs) n 0 x.2=none:=by rw[hinv,Be,hr];rfl
    rw[hnone]
    refine z0 ?_;intro K hK
    refine Ab.eq spR (by simp) (by simp) ?_
    refine zx ?_
    refine zk ?_;clear hK K
    refine zs ?_
    refine zt ?_
    refine zs ?_
    refine W.weak (Wk.thaw (B:=0) (v:=0) (j:=1) (s:=1) (n:=0) (cs:=[.int .i64 0,.own 1 0 []]) (xs:=[]) (by rfl) (by rfl)) ?_
    refine zr ?_
    simp[F8,AI]
   |some g=>
    rw[hr] at spR
    simp only[DA] at spR
    obtain⟨g1,g2,g3,g4⟩:=K6 (by omega) hr
    simp only[Be,hr] at hinv
    refine z0 ?_;intro K hK
    refine Ab.eq spR (by simp) (by simp) ?_
    refine zx ?_
    refine zk ?_;clear hK K
    refine zs ?_
    refine zn ?_
    refine W.skip ?_
    rw[hm]
    have hkl:k<n:=by omega
    have hll:(AA true (acc++List.replicate (m+1) [])).length=n:=by simp[hacc];omega
    refine Af hkl ?_;intro K hK
    refine zk ?_;clear hK K
    refine zs ?_
    refine⟨(k+1,acc++[g.1],g.2),by simp only;omega,⟨by simp only;omega,by simp[hacc],g4,?_,?_⟩,?_⟩
    .intro w hw
     simp only[List.mem_append,List.mem_singleton] at hw
     rcases hw with hw|rfl
     .exact hml w hw
     .exact g1
    .rw[hinv,hm']
     simp only
     have:(k:Int)+1=((k+1:Nat):Int):=by omega
     rw[this]
     cases Be (BU bs) m ((k+1:Nat):Int) g.2<;>simp
    .subst hacc
     refine Wk.trans (Wk.intern (B:=2) (v:=0) (j:=acc.length) (T:=3) (u:=0) (s:=1) (off:=0) (n:=g.1.length) (xs:=Ae g.1) (by rfl) (by simp) (by rfl) (by simp) (by simp) (by simp)) ?_
     refine Wk.cutM (k:=3) (by simp[Ad]) ?_ (by simp) (by simp) (by simp) (by simp)
     simp only[hm']
     simp[List.replicate_succ,AA]
  .refine W.exit ?_
   have hkn:k=n:=by omega
   subst hkn
   rw[Nat.sub_self] at hinv |-
   simp only[Be,Option.map_some,List.append_nil] at hinv
   rw[hinv]
   simp only[List.replicate_zero,List.append_nil]
   subst hacc
   have hGi:FL ⟨(acc.length:Int),acc⟩:=⟨by simp only;omega,fun l hl=>by have:=Bq (hml l hl);omega⟩
   have spG:=KI ⟨(acc.length:Int),acc⟩ hGi
   by_cases hqb:q=bs.length
   rotate_left
   .have hqb' :¬(q:Int)=(bs.length:Int):=by omega
    refine Af hqb' ?_;intro K hK
    refine zk ?_;clear hK K
    refine zt ?_
    refine zs ?_
    refine W.weak (Wk.thaw (B:=0) (v:=0) (j:=1) (s:=1) (n:=0) (cs:=[.int .i64 0,.own 1 0 []]) (xs:=[]) (by rfl) (by rfl)) ?_
    refine zr ?_
    rw[if_neg (fun h=>hqb h.1)];simp[F8,AI]
   subst hqb
   by_cases hmg:A3 ⟨(acc.length:Int),acc⟩
   .rw[decide_eq_true hmg] at spG
    refine z0 ?_;intro K hK
    refine Ab.eq spG (by simp) (by simp) ?_
    refine zx ?_
    refine zk ?_;clear hK K
    refine zn ?_
    refine W.skip ?_
    refine zs ?_
    refine zr ?_
    simp[hmg,F8]
   .rw[decide_eq_false hmg] at spG
    refine z0 ?_;intro K hK
    refine Ab.eq spG (by simp) (by simp) ?_
    refine zx ?_
    refine zk ?_;clear hK K
    refine zt ?_
    refine zs ?_
    refine W.weak (Wk.thaw (B:=0) (v:=0) (j:=1) (s:=1) (n:=0) (cs:=[.int .i64 0,.own 1 0 []]) (xs:=[]) (by rfl) (by rfl)) ?_
    refine zr ?_
    simp[hmg,F8,AI]
theorem ND {a:Gr} {bs:List Bool} {p:Nat} {v:Int} {r:List Int×Nat} (ha:A3 a) (hv:-100000<=v/\v<=100000) (h:Ex bs p v (AH a v)=some r):AJ r.1/\r.1.length<=16/\r.2<=r.2/\r.2<=bs.length:=by
 rw[NB _ _ _ _ (HO ha v)] at h
 have:=MO hv h
 exact⟨this.1,this.2.1,Nat.le_refl _,this.2.2⟩
theorem Qp (a:Gr) (bs:List Bool) (hb:bs.length<1000000000) (ha:A3 a):Aa pg 109 [.agg (Ba false a),.ro bs.length (A8 bs)] [] (fun r _=>r=F8 (H3 a bs)):=by
 refine Aa.start (fn:=Tryz.f109) [.cell 4 51,.tmp 5] tk rfl rfl rfl (by kernel_rfl) (Nat.le_of_ble_eq_true rfl) rfl (by kernel_rfl) ?_
 rw[At]
 obtain⟨rd,hrdd⟩:∃rd:Rd,rd=fun p v=>Ex bs p v (AH a v):=⟨_,rfl⟩
 have hrd:∀q v,rd q v=Ex bs q v (AH a v):=fun q v=>by rw[hrdd]
 have htd:H3 a bs=CK bs rd:=by rw[hrdd];rfl
 rw[htd]
 clear htd hrdd
 refine z2 ?_;intro K hK;refine zk ?_;clear hK K
 refine z0 ?_;intro K hK
 have sp:=Fk bs 0 hb (Nat.zero_le _)
 have hbad0:∀c:Prop,c->c:=fun _ h=>h
 cases hg:A5 bs 0 with
 |none=>
  simp only[hg,FR] at sp
  refine Ab.eq sp (by simp) (by simp) ?_
  refine zx ?_
  refine zk ?_;clear hK K
  refine zs ?_
  refine zt ?_
  refine zs ?_
  refine W.weak (Wk.thaw (B:=1) (v:=0) (j:=1) (s:=1) (n:=0) (cs:=[.int .i64 0,.own 1 0 []]) (xs:=[]) rfl rfl) ?_
  refine zr ?_
  simp[CK,CK,hg,F8,AI]
 |some x=>
  simp only[hg,FR] at sp
  obtain⟨hx1,hx2,hx3,hx4,_⟩:=A0 hg
  refine Ab.eq sp (by simp) (by simp) ?_
  refine zx ?_
  refine zk ?_;clear hK K
  by_cases hle:x.1<=17
  rotate_left
  .have h1:¬(x.1:Int)<1:=by omega
   have h2:(16:Int)<(x.1:Int)-1:=by omega
   refine Af (an h1 h2) ?_;intro K hK
   refine zk ?_;clear hK K
   refine zt ?_
   refine zs ?_
   refine W.weak (Wk.thaw (B:=1) (v:=0) (j:=1) (s:=1) (n:=0) (cs:=[.int .i64 0,.own 1 0 []]) (xs:=[]) rfl rfl) ?_
   refine zr ?_
   simp only[CK,CK,hg];rw[if_neg hle];simp[F8,AI]
  have h1:¬(x.1:Int)<1:=by omega
  have h2:¬(16:Int)<(x.1:Int)-1:=by omega
  obtain⟨n,hn⟩:∃n,x.1=n+1:=⟨x.1-1,by omega⟩
  have hxn:(x.1:Int)-1=(n:Int):=by omega
  have hgr:CK bs rd=match Be rd n 0 x.2 with
   |none=>none
   |some r=>if r.2=bs.length/\A3 ⟨(n:Int),r.1⟩ then some ⟨(n:Int),r.1⟩ else none:=by
   simp only[CK,CK,hg]
   rw[if_pos hle,hn,Nat.add_sub_cancel]
   simp only[Int.natCast_add,Int.natCast_one,Int.add_sub_cancel]
   rfl
  rw[hgr]
  clear hgr
  refine Af (an h1 h2) ?_;intro K hK
  refine zk ?_;clear hK K
  refine zn ?_
  refine W.skip ?_
  refine z1 ?_;intro K hK
  refine Ab.eq (Td n (by omega)) (by simp[hxn]) (by simp) ?_
  refine zx ?_
  refine zk ?_;clear hK K
  refine zs ?_
  (repeat refine W.seq ?_);refine W.block (W.loopS (fun s:Nat×List (List Int)×Nat=> [(1,.ro bs.length (A8 bs)),(2,.ptr 0 0 0),(4,.ptr 1 0 0),(8,.ptr 2 0 0),(7,.int .i64 s.2.2),(9,.int .i64 s.1)]) (fun s=> [.live 0 (Ba false a),.live 0 [.int .i64 0,.own 1 0 []],.live 0 [.int .i64 n,.tok 3 0 1 0 n],.live 0 (AA true (s.2.1++List.replicate (n-s.1) []))]) (fun s=>n-s.1)
    (fun s=>s.1<=n/\s.2.1.length=s.1/\s.2.2<=bs.length/\(∀l∈s.2.1,AJ l)/\Be rd n 0 x.2=(Be rd (n-s.1) s.1 s.2.2).map fun r=>(s.2.1++r.1,r.2)) (0,[],x.2) (Wk.fr (by simp[Ad])) ⟨by simp,rfl,hx4,by simp,by simp⟩ ?_)
  rintro⟨k,acc,q⟩ ⟨hk,hacc,hq,hml,hinv⟩
  simp only at hk hacc hq hml hinv
  refine zs ?_
  refine zc ?_ ?_<;>intro h
  .refine W.skip ?_
   have hkn:k<n:=by omega
   obtain⟨m,hm⟩:∃m,n-k=m+1:=⟨n-k-1,by omega⟩
   have hm' :n-(k+1)=m:=by omega
   rw[hm] at hinv
   refine zb ?_
   have hba:(AH a k).length<1000000:=by have:=Cp ha (k:Int);omega
   have spR:=U4 bs q k (AH a k) hb hq (by omega) hba
   rw[<-hrd] at spR
   have spB:(∃_:k<a.out.length,Aa pg 147 [.agg (Ba false a),.int .i64 k] [] (fun r _=>r= .ro (AH a k).length (Ae (AH a k))))\/(AH a k=[]/\Aa pg 147 [.agg (Ba false a),.int .i64 k] [] (fun r _=>r= .own 1 0 [])):=by
    have han:=ha.2.2.1
    by_cases h:k<a.out.length
    .left
     rw[BC h]
     exact⟨h,U5 a k h (by omega)⟩
    .right
     exact⟨by simp[AH,List.getD_eq_getElem?_getD,List.getElem?_eq_none (show a.out.length<=k by omega)],U6 a k (by omega)⟩
   rcases spB with⟨hk3,spB⟩ | ⟨hbe,spB⟩
   .cases hr:rd q k with
    |none=>
     rw[hr] at spR
     simp only[DA] at spR
     have hnone:Be rd n 0 x.2=none:=by rw[hinv,Be,hr];rfl
     rw[hnone]
     refine z0 ?_;intro K hK
     refine Ab.eqr spB (by simp) ?_
     refine zx ?_
     refine Ab.eq spR (by simp) (by simp) ?_
     refine zx ?_
     refine zk ?_;clear hK K
     refine zs ?_
     refine zt ?_
     refine zs ?_
     refine W.weak (Wk.thaw (B:=1) (v:=0) (j:=1) (s:=1) (n:=0) (cs:=[.int .i64 0,.own 1 0 []]) (xs:=[]) (by rfl) (by rfl)) ?_
     refine zr ?_
     simp[F8,AI]
    |some g=>
     rw[hr] at spR
     simp only[DA] at spR
     obtain⟨g1,g2,g3,g4⟩:=ND ha (show-100000<=(k:Int)/\(k:Int)<=100000 by omega) (hrd q k ▸ hr)
     simp only[Be,hr] at hinv
     refine z0 ?_;intro K hK
     refine Ab.eqr spB (by simp) ?_
     refine zx ?_
     refine Ab.eq spR (by simp) (by simp) ?_
     refine zx ?_
     refine zk ?_;clear hK K
     refine zs ?_
     refine zn ?_
     refine W.skip ?_
     rw[hm]
     have hkl:k<n:=by omega
     have hll:(AA true (acc++List.replicate (m+1) [])).length=n:=by simp[hacc];omega
     refine Af hkl ?_;intro K hK
     refine zk ?_;clear hK K
     refine zs ?_
     refine⟨(k+1,acc++[g.1],g.2),by simp only;omega,⟨by simp only;omega,by simp[hacc],g4,?_,?_⟩,?_⟩
     .intro w hw
      simp only[List.mem_append,List.mem_singleton] at hw
      rcases hw with hw|rfl
      .exact hml w hw
      .exact g1
     .rw[hinv,hm']
      simp only
      have:(k:Int)+1=((k+1:Nat):Int):=by omega
      rw[this]
      cases Be rd m ((k+1:Nat):Int) g.2<;>simp
     .subst hacc
      refine Wk.trans (Wk.intern (B:=3) (v:=0) (j:=acc.length) (T:=4) (u:=0) (s:=1) (off:=0) (n:=g.1.length) (xs:=Ae g.1) (by rfl) (by simp) (by rfl) (by simp) (by simp) (by simp)) ?_
      refine Wk.cutM (k:=4) (by simp[Ad]) ?_ (by simp) (by simp) (by simp) (by simp)
      simp only[hm']
      simp[List.replicate_succ,AA]
   .cases hr:rd q k with
    |none=>
     rw[hr] at spR
     simp only[DA] at spR
     have hnone:Be rd n 0 x.2=none:=by rw[hinv,Be,hr];rfl
     rw[hnone]
     refine z0 ?_;intro K hK
     refine Ab.eq spB (by simp) (by simp) ?_
     refine zx ?_
     refine Ab.eq spR (by simp[hbe]) (by simp) ?_
     refine zx ?_
     refine zk ?_;clear hK K
     refine zs ?_
     refine zt ?_
     refine zs ?_
     refine W.weak (Wk.thaw (B:=1) (v:=0) (j:=1) (s:=1) (n:=0) (cs:=[.int .i64 0,.own 1 0 []]) (xs:=[]) (by rfl) (by rfl)) ?_
     refine zr ?_
     simp[F8,AI]
    |some g=>
     rw[hr] at spR
     simp only[DA] at spR
     obtain⟨g1,g2,g3,g4⟩:=ND ha (show-100000<=(k:Int)/\(k:Int)<=100000 by omega) (hrd q k ▸ hr)
     simp only[Be,hr] at hinv
     refine z0 ?_;intro K hK
     refine Ab.eq spB (by simp) (by simp) ?_
     refine zx ?_
     refine Ab.eq spR (by simp[hbe]) (by simp) ?_
     refine zx ?_
     refine zk ?_;clear hK K
     refine zs ?_
     refine zn ?_
     refine W.skip ?_
     rw[hm]
     have hkl:k<n:=by omega
     have hll:(AA true (acc++List.replicate (m+1) [])).length=n:=by simp[hacc];omega
     refine Af hkl ?_;intro K hK
     refine zk ?_;clear hK K
     refine zs ?_
     refine⟨(k+1,acc++[g.1],g.2),by simp only;omega,⟨by simp only;omega,by simp[hacc],g4,?_,?_⟩,?_⟩
     .intro w hw
      simp only[List.mem_append,List.mem_singleton] at hw
      rcases hw with hw|rfl
      .exact hml w hw
      .exact g1
     .rw[hinv,hm']
      simp only
      have:(k:Int)+1=((k+1:Nat):Int):=by omega
      rw[this]
      cases Be rd m ((k+1:Nat):Int) g.2<;>simp
     .subst hacc
      refine Wk.trans (Wk.intern (B:=3) (v:=0) (j:=acc.length) (T:=5) (u:=0) (s:=1) (off:=0) (n:=g.1.length) (xs:=Ae g.1) (by rfl) (by simp) (by rfl) (by simp) (by simp) (by simp)) ?_
      refine Wk.cutM (k:=4) (by simp[Ad]) ?_ (by simp) (by simp) (by simp) (by simp)
      simp only[hm']
      simp[List.replicate_succ,AA]
  .refine W.exit ?_
   have hkn:k=n:=by omega
   subst hkn
   rw[Nat.sub_self] at hinv |-
   simp only[Be,Option.map_some,List.append_nil] at hinv
   rw[hinv]
   simp only[List.replicate_zero,List.append_nil]
   subst hacc
   have hGi:FL ⟨(acc.length:Int),acc⟩:=⟨by simp only;omega,fun l hl=>by have:=Bq (hml l hl);omega⟩
   have spG:=KI ⟨(acc.length:Int),acc⟩ hGi
   by_cases hqb:q=bs.length
   rotate_left
   .have hqb' :¬(q:Int)=(bs.length:Int):=by omega
    refine Af hqb' ?_;intro K hK
    refine zk ?_;clear hK K
    refine zt ?_
    refine zs ?_
    refine W.weak (Wk.thaw (B:=1) (v:=0) (j:=1) (s:=1) (n:=0) (cs:=[.int .i64 0,.own 1 0 []]) (xs:=[]) (by rfl) (by rfl)) ?_
    refine zr ?_
    rw[if_neg (fun h=>hqb h.1)];simp[F8,AI]
   subst hqb
   by_cases hmg:A3 ⟨(acc.length:Int),acc⟩
   .rw[decide_eq_true hmg] at spG
    refine z0 ?_;intro K hK
    refine Ab.eq spG (by simp) (by simp) ?_
    refine zx ?_
    refine zk ?_;clear hK K
    refine zn ?_
    refine W.skip ?_
    refine zs ?_
    refine zr ?_
    simp[hmg,F8]
   .rw[decide_eq_false hmg] at spG
    refine z0 ?_;intro K hK
    refine Ab.eq spG (by simp) (by simp) ?_
    refine zx ?_
    refine zk ?_;clear hK K
    refine zt ?_
    refine zs ?_
    refine W.weak (Wk.thaw (B:=1) (v:=0) (j:=1) (s:=1) (n:=0) (cs:=[.int .i64 0,.own 1 0 []]) (xs:=[]) (by rfl) (by rfl)) ?_
    refine zr ?_
    simp[hmg,F8,AI]
theorem Zw (l:List Obj) (id:Int):(0<=AL (fun o=>decide (o.id=id)) l)↔∃q∈l,q.id=id:=by
 rw[CM];simp
set_option maxHeartbeats 2000000 in
theorem Te (l:List Obj) (hl:En l):Aa pg 66 [.ro l.length (Ac As l)] [] (fun r _=>r= .bool (decide (Ca l))):=by
 have hl1:=hl.1
 refine Aa.start (fn:=Tryz.f66) [.tmp 2] tk rfl rfl rfl (by kernel_rfl) (Nat.le_of_ble_eq_true rfl) rfl (by kernel_rfl) ?_
 rw[Ay]
 refine zs ?_
 by_cases c0:l.length<=12
 rotate_left
 .have c0' :(12:Int)<(l.length:Int):=by omega
  refine Af c0' ?_;intro K hK
  refine zk ?_;clear hK K
  refine zt ?_
  refine zs ?_
  refine zr ?_
  exact fun h=>c0 h.1
 have c0' :¬(12:Int)<(l.length:Int):=by omega
 have hmi:=LJ l
 refine Af c0' ?_;intro K hK
 refine zk ?_;clear hK K
 refine zn ?_
 refine W.skip ?_
 refine zs ?_
 (repeat refine W.seq ?_);refine W.block (W.loopS (fun k:Nat=> [(0,.ro l.length (Ac As l)),(3,.int .i64 k)]) (fun _=> []) (fun k=>l.length-k) (fun k=>k<=l.length/\∀i (h:i<l.length),i<k->MR l l[i]/\(0<i->l[i-1].id<l[i].id)) 0 (Wk.fr (by simp[Ad])) ⟨by simp,fun i h h2=>by omega⟩ ?_)
 rintro k ⟨hk,hok⟩
 refine zs ?_
 refine zc ?_ ?_<;>intro h
 .refine W.skip ?_
  have hlt:k<l.length:=by omega
  refine zb ?_
  (repeat refine W.seq ?_);refine W.reg 1 rfl fun K hK=>?_;simp -implicitDefEqProofs (maxSteps:=999999) (disch:=omega) [hlt]
  refine zk ?_;clear hK K
  have hsz:=hl.2 _ (List.getElem_mem hlt)
  have spB:=Fh l[k].id 1 1048576
  have spA:=OE l l[k].base (by omega)
  have hA:=Zw l l[k].base
  obtain⟨z,hz⟩:∃z,z=AL (fun o=>decide (o.id=l[k].base)) l:=⟨_,rfl⟩
  rw[<-hz] at spA hA
  have spD:=Zb l[k].data hsz
  (repeat refine W.seq ?_);refine W.midS (fun b:Bool=> [(0,.ro l.length (Ac As l)),(3,.int .i64 k),(61,.bool b)]) (fun _=> []) (fun b=>b=false↔MR l l[k]/\(0<k->l[k-1].id<l[k].id)) ?_ ?_
  .by_cases c1:1<=l[k].id/\l[k].id<=1048576
   rotate_left
   .rw[decide_eq_false c1] at spB
    refine Cm ?_;intro K hK
    refine Ah.eq spB (by simp) (by simp) ?_
    refine zx ?_
    refine zk ?_;clear hK K
    exact⟨true,by simp only[Bool.true_eq_false,false_iff];exact fun h=>c1 ⟨h.1.1,h.1.2.1⟩,Wk.cutM (k:=0) (by simp[Ad]) (by simp) (by simp) (by simp) (by simp) (by simp)⟩
   rw[decide_eq_true c1] at spB
   by_cases c2:0<k
   .by_cases c3:l[k].id<=l[k-1].id
    .refine Cm ?_;intro K hK
     refine Ah.eq spB (by simp) (by simp) ?_
     refine AX (an c2 (an c3 hlt)) ?_
     refine⟨by omega,?_⟩
     refine zk ?_;clear hK K
     exact⟨true,by simp only[Bool.true_eq_false,false_iff];exact fun h=>by have:=h.2 c2;omega,Wk.cutM (k:=0) (by simp[Ad]) (by simp) (by simp) (by simp) (by simp) (by simp)⟩
    .by_cases c4:l[k].base=l[k].id
     .refine Cm ?_;intro K hK
      refine Ah.eq spB (by simp) (by simp) ?_
      refine AX (an c2 (an c3 (an hlt c4))) ?_
      refine⟨by omega,?_⟩
      refine zk ?_;clear hK K
      exact⟨true,by simp only[Bool.true_eq_false,false_iff];exact fun h=>h.1.2.2.2.1 c4,Wk.cutM (k:=0) (by simp[Ad]) (by simp) (by simp) (by simp) (by simp) (by simp)⟩
     by_cases c5:l[k].base=0
     .by_cases c7:Di l[k].data
      .rw[decide_eq_true c7] at spD
       refine Cm ?_;intro K hK
       refine Ah.eq spB (by simp) (by simp) ?_
       refine AX (an c2 (an c3 (an hlt (an c4 c5)))) ?_
       refine⟨by omega,?_⟩
       refine Ah.eq spD (by simp) (by simp) ?_
       refine zx ?_
       refine zk ?_;clear hK K
       exact⟨false,by simp only[true_iff];exact⟨⟨c1.1,c1.2,c7,c4,.inl c5⟩,fun _=>by omega⟩,Wk.cutM (k:=0) (by simp[Ad]) (by simp) (by simp) (by simp) (by simp) (by simp)⟩
      .rw[decide_eq_false c7] at spD
       refine Cm ?_;intro K hK
       refine Ah.eq spB (by simp) (by simp) ?_
       refine AX (an c2 (an c3 (an hlt (an c4 c5)))) ?_
       refine⟨by omega,?_⟩
       refine Ah.eq spD (by simp) (by simp) ?_
       refine zx ?_
       refine zk ?_;clear hK K
       exact⟨true,by simp only[Bool.true_eq_false,false_iff];exact fun h=>c7 h.1.2.2.1,Wk.cutM (k:=0) (by simp[Ad]) (by simp) (by simp) (by simp) (by simp) (by simp)⟩
     by_cases c6:z<0
     .refine Cm ?_;intro K hK
      refine Ah.eq spB (by simp) (by simp) ?_
      refine AX (an c2 (an c3 (an hlt (an c4 (an c5 hlt))))) ?_
      refine⟨by omega,?_⟩
      refine Ah.eq spA (by simp) (by simp) ?_
      refine AX c6 ?_
      refine zk ?_;clear hK K
      exact⟨true,by simp only[Bool.true_eq_false,false_iff];exact fun h=>by rcases h.1.2.2.2.2 with h|h;exact c5 h;have:=hA.2 h;omega,Wk.cutM (k:=0) (by simp[Ad]) (by simp) (by simp) (by simp) (by simp) (by simp)⟩
     by_cases c7:Di l[k].data
     .rw[decide_eq_true c7] at spD
      refine Cm ?_;intro K hK
      refine Ah.eq spB (by simp) (by simp) ?_
      refine AX (an c2 (an c3 (an hlt (an c4 (an c5 hlt))))) ?_
      refine⟨by omega,?_⟩
      refine Ah.eq spA (by simp) (by simp) ?_
      refine AX c6 ?_
      refine Ah.eq spD (by simp) (by simp) ?_
      refine zx ?_
      refine zk ?_;clear hK K
      exact⟨false,by simp only[true_iff];exact⟨⟨c1.1,c1.2,c7,c4,.inr (hA.1 (by omega))⟩,fun _=>by omega⟩,Wk.cutM (k:=0) (by simp[Ad]) (by simp) (by simp) (by simp) (by simp) (by simp)⟩
     .rw[decide_eq_false c7] at spD
      refine Cm ?_;intro K hK
      refine Ah.eq spB (by simp) (by simp) ?_
      refine AX (an c2 (an c3 (an hlt (an c4 (an c5 hlt))))) ?_
      refine⟨by omega,?_⟩
      refine Ah.eq spA (by simp) (by simp) ?_
      refine AX c6 ?_
      refine Ah.eq spD (by simp) (by simp) ?_
      refine zx ?_
      refine zk ?_;clear hK K
      exact⟨true,by simp only[Bool.true_eq_false,false_iff];exact fun h=>c7 h.1.2.2.1,Wk.cutM (k:=0) (by simp[Ad]) (by simp) (by simp) (by simp) (by simp) (by simp)⟩
   .by_cases c4:l[k].base=l[k].id
    .refine Cm ?_;intro K hK
     refine Ah.eq spB (by simp) (by simp) ?_
     refine AX (an c2 c4) ?_
     refine zk ?_;clear hK K
     exact⟨true,by simp only[Bool.true_eq_false,false_iff];exact fun h=>h.1.2.2.2.1 c4,Wk.cutM (k:=0) (by simp[Ad]) (by simp) (by simp) (by simp) (by simp) (by simp)⟩
    by_cases c5:l[k].base=0
    .by_cases c7:Di l[k].data
     .rw[decide_eq_true c7] at spD
      refine Cm ?_;intro K hK
      refine Ah.eq spB (by simp) (by simp) ?_
      refine AX (an c2 (an c4 c5)) ?_
      refine Ah.eq spD (by simp) (by simp) ?_
      refine zx ?_
      refine zk ?_;clear hK K
      exact⟨false,by simp only[true_iff];exact⟨⟨c1.1,c1.2,c7,c4,.inl c5⟩,fun h=>absurd h c2⟩,Wk.cutM (k:=0) (by simp[Ad]) (by simp) (by simp) (by simp) (by simp) (by simp)⟩
     .rw[decide_eq_false c7] at spD
      refine Cm ?_;intro K hK
      refine Ah.eq spB (by simp) (by simp) ?_
      refine AX (an c2 (an c4 c5)) ?_
      refine Ah.eq spD (by simp) (by simp) ?_
      refine zx ?_
      refine zk ?_;clear hK K
      exact⟨true,by simp only[Bool.true_eq_false,false_iff];exact fun h=>c7 h.1.2.2.1,Wk.cutM (k:=0) (by simp[Ad]) (by simp) (by simp) (by simp) (by simp) (by simp)⟩
    by_cases c6:z<0
    .refine Cm ?_;intro K hK
     refine Ah.eq spB (by simp) (by simp) ?_
     refine AX (an c2 (an c4 (an c5 hlt))) ?_
     refine Ah.eq spA (by simp) (by simp) ?_
     refine AX c6 ?_
     refine zk ?_;clear hK K
     exact⟨true,by simp only[Bool.true_eq_false,false_iff];exact fun h=>by rcases h.1.2.2.2.2 with h|h;exact c5 h;have:=hA.2 h;omega,Wk.cutM (k:=0) (by simp[Ad]) (by simp) (by simp) (by simp) (by simp) (by simp)⟩
    by_cases c7:Di l[k].data
    .rw[decide_eq_true c7] at spD
     refine Cm ?_;intro K hK
     refine Ah.eq spB (by simp) (by simp) ?_
     refine AX (an c2 (an c4 (an c5 hlt))) ?_
     refine Ah.eq spA (by simp) (by simp) ?_
     refine AX c6 ?_
     refine Ah.eq spD (by simp) (by simp) ?_
     refine zx ?_
     refine zk ?_;clear hK K
     exact⟨false,by simp only[true_iff];exact⟨⟨c1.1,c1.2,c7,c4,.inr (hA.1 (by omega))⟩,fun h=>absurd h c2⟩,Wk.cutM (k:=0) (by simp[Ad]) (by simp) (by simp) (by simp) (by simp) (by simp)⟩
    .rw[decide_eq_false c7] at spD
     refine Cm ?_;intro K hK
     refine Ah.eq spB (by simp) (by simp) ?_
     refine AX (an c2 (an c4 (an c5 hlt))) ?_
     refine Ah.eq spA (by simp) (by simp) ?_
     refine AX c6 ?_
     refine Ah.eq spD (by simp) (by simp) ?_
     refine zx ?_
     refine zk ?_;clear hK K
     exact⟨true,by simp only[Bool.true_eq_false,false_iff];exact fun h=>c7 h.1.2.2.1,Wk.cutM (k:=0) (by simp[Ad]) (by simp) (by simp) (by simp) (by simp) (by simp)⟩
  .intro b hb
   refine zc ?_ ?_<;>intro h
   .refine zs ?_
    refine zr ?_
    intro hM
    have h3:=(hmi.1 hM).2 k hlt
    have h4:=hb.2 h3
    have h5:b=true:=by assumption
    rw[h4] at h5;cases h5
   .refine W.skip ?_
    refine zs ?_
    refine⟨k+1,by omega,⟨by omega,fun i hi h2=>?_⟩,Wk.fr (by simp[Ad])⟩
    by_cases e:i=k
    .subst e;exact hb.1 (by assumption)
    .exact hok i hi (by omega)
 .refine W.exit ?_
  refine zs ?_
  refine zr ?_
  exact hmi.2 ⟨c0,fun i h=>hok i h (by omega)⟩
theorem O6 (l:List Obj):∀(k:Nat) (id:Int),(AQ l (k+1) id).length<=k->AQ l (k+1) id=AQ l k id
 |0,id,h=>by
  have:AQ l (0+1) id=[]:=List.eq_nil_of_length_eq_zero (by omega)
  rw[this];rfl
 |k+1,id,h=>by
  rw[AQ] at h |-
  conv=>rhs;rw[AQ]
  by_cases h0:id=0
  .rw[if_pos h0,if_pos h0]
  .rw[if_neg h0] at h |-
   rw[if_neg h0]
   cases hf:A7 l id with
   |none=>rfl
   |some o=>
    rw[hf] at h
    simp only at h |-
    rw[O6 l k o.base (by simpa using h)]
theorem Xi (l:List Obj) (id:Int) (hl:En l) (hm:Ca l):Aa pg 89 [.ro l.length (Ac As l),.int .i64 id] [] (fun r _=>r= .tup [.int .i64 (AE l id).1,.int .i64 (AE l id).2]):=by
 have hl12:=hm.1
 have spA:=OE l id (by omega)
 refine Aa.start (fn:=Tryz.f89) [.tmp 4,.tmp 5] tk rfl rfl rfl (by kernel_rfl) (Nat.le_of_ble_eq_true rfl) rfl (by kernel_rfl) ?_
 rw[At]
 refine zs ?_
 cases hf:A7 l id with
 |none=>
  rw[MT hf] at spA
  refine z0 ?_;intro K hK
  refine Ab.eq spA (by simp) (by simp) ?_
  refine zx ?_
  refine zk ?_;clear hK K
  refine zt ?_
  refine zs ?_
  refine zr ?_
  simp[AE,hf]
 |some o=>
  obtain⟨k,hk,hi,ho,Bw⟩:=ED hf
  rw[hi] at spA
  have hde:AE l id=if 3<(AQ l 4 id).length then(0,2) else(((AQ l 4 id).length:Int),0):=by simp only[AE,hf]
  rw[hde]
  have hneg:¬(k:Int)<0:=by omega
  refine z0 ?_;intro K hK
  refine Ab.eq spA (by simp) (by simp) ?_
  refine AX hneg ?_
  refine zk ?_;clear hK K
  refine zn ?_
  refine W.skip ?_
  refine zs ?_
  (repeat refine W.seq ?_);refine W.block (W.loopS (fun s:Nat×Int=> [(0,.ro l.length (Ac As l)),(1,.int .i64 s.2),(6,.int .i64 s.1)]) (fun _=> []) (fun s=>4-s.1) (fun s=>s.1<=3/\(AQ l 4 id).length=s.1+(AQ l (4-s.1) s.2).length/\(s.2=0\/∃q∈l,q.id=s.2)) (0,id) (Wk.fr (by simp[Ad])) ⟨by simp,by simp,.inr ⟨o,D9 hf,Bw⟩⟩ ?_)
  rintro⟨n,j⟩ ⟨hn,hw,hj⟩
  simp only at hn hw hj
  by_cases h0:j=0
  .refine Af h0 ?_;intro K hK
   refine zk ?_;clear hK K
   refine zn ?_
   refine W.exit ?_
   have hwl:(AQ l 4 id).length=n:=by
    rw[hw]
    obtain⟨m,hm'⟩:∃m,4-n=m+1:=⟨3-n,by omega⟩
    rw[hm',AQ,if_pos h0];rfl
   refine zs ?_
   refine zr ?_
   rw[if_neg (by omega),hwl]
   simp
  .obtain⟨p,hp⟩:=Jq (hj.resolve_left h0)
   obtain⟨z,hz,hiz,hpz,hpid⟩:=ED hp
   have hpm:=D9 hp
   have spJ:=OE l j (by omega)
   rw[hiz] at spJ
   obtain⟨m,hm'⟩:∃m,4-n=m+1:=⟨3-n,by omega⟩
   have hwj:AQ l (4-n) j=p::AQ l m p.base:=by rw[hm',AQ,if_neg h0,hp]
   rw[hwj,List.length_cons] at hw
   refine Af h0 ?_;intro K hK
   refine zk ?_;clear hK K
   refine zt ?_
   refine W.skip ?_
   refine zb ?_
   refine zs ?_
   by_cases h3:n=3
   .have h3' :(3:Int)<(n:Int)+1:=by omega
    refine Af h3' ?_;intro K hK
    refine zk ?_;clear hK K
    refine zt ?_
    refine zs ?_
    refine zr ?_
    rw[if_pos (by omega)]
    simp
   .have h3' :¬(3:Int)<(n:Int)+1:=by omega
    refine Af h3' ?_;intro K hK
    refine zk ?_;clear hK K
    refine zn ?_
    refine W.skip ?_
    refine z0 ?_;intro K hK
    refine Ab.eq spJ (by simp) (by simp) ?_
    refine AX (an hz hpz) ?_
    refine zk ?_;clear hK K
    refine⟨(n+1,p.base),by simp only;omega,⟨by simp only;omega,by simp only;rw[show 4-(n+1)=m by omega];omega,?_⟩,Wk.fr (by simp[Ad])⟩
    have:=(hm.2.1 p hpm).2.2.2.2
    exact this
theorem O7 (l:List Obj):∀(k:Nat) (id:Int),(AQ l k id).length<k->AQ l (k+1) id=AQ l k id
 |0,id,h=>by simp[AQ] at h
 |k+1,id,h=>by
  rw[AQ] at h
  rw[AQ]
  conv=>rhs;rw[AQ]
  by_cases h0:id=0
  .rw[if_pos h0,if_pos h0]
  .rw[if_neg h0] at h |-
   rw[if_neg h0]
   cases hf:A7 l id with
   |none=>rfl
   |some o=>
    rw[hf] at h
    simp only at h |-
    rw[O7 l k o.base (by simpa using h)]
theorem Zx {l:List Obj} (hm:Ca l) {id:Int} {o:Obj} (h:A7 l id=some o):id≠0:=by
 obtain⟨k,hk,_,ho,Bw⟩:=ED h
 have:=(hm.2.1 o (D9 h)).1
 omega
theorem U7 {l:List Obj} (hm:Ca l) {id:Int} {o:Obj} (h:A7 l id=some o) (hd:(AE l id).2=0):
 (o.base=0->AP l id=match BD (Aq o.data) with|some g=>(g,0) |none=>(AI,9))/\
 (o.base≠0->(AQ l 4 o.base).length<(AQ l 4 id).length/\AP l id=if (AP l o.base).2≠0 then(AI,(AP l o.base).2) else match BK (AP l o.base).1 (Aq o.data) with|some g=>(g,0) |none=>(AI,9)):=by
 have Bw:=Zx hm h
 have hw:∀k,AQ l (k+1) id=o::AQ l k o.base:=fun k=>by rw[AQ,if_neg Bw,h]
 have hlen:(AQ l 4 id).length<=3:=by
  simp only[AE,h] at hd
  split at hd
  .simp at hd
  .omega
 have hof:AP l id=match C9 BD BK (AQ l 3 id) with|some g=>(g,0) |none=>(AI,9):=by
  simp[AP,hd];rfl
 rw[hw] at hlen
 simp only[List.length_cons] at hlen
 constructor
 .intro hb
  rw[hof,hw,C9,if_pos hb]
 .intro hb
  obtain⟨q,hq⟩:=Jq ((hm.2.1 o (D9 h)).2.2.2.2.resolve_left hb)
  have e1:=O7 l 3 o.base (by omega)
  have e2:=O6 l 2 o.base (by show(AQ l 3 o.base).length<=2;omega)
  refine⟨by rw[e1,hw];simp,?_⟩
  have hdb:(AE l o.base).2=0:=by
   simp only[AE,hq]
   rw[if_neg (by rw[e1];omega)]
  have hofb:AP l o.base=match C9 BD BK (AQ l 3 o.base) with|some g=>(g,0) |none=>(AI,9):=by
   simp[AP,hdb];rfl
  rw[hof,hw,C9,if_neg hb,hofb,e2]
  cases C9 BD BK (AQ l 2 o.base) with
  |none=>simp
  |some a=>simp
theorem Tf (l:List Obj) (hl:En l) (hm:Ca l):∀(m:Nat) (id:Int),(AQ l 4 id).length<m->Aa pg 68 [.ro l.length (Ac As l),.int .i64 id] [] (fun r _=>r= .tup [.agg (Ba true (AP l id).1),.int .i64 (AP l id).2]):=by
 intro m
 induction m with
 |zero=>
  intro id hw
  omega
 |succ m ih=>
  intro id hw
  have hl12:=hm.1
  have spD:=Xi l id hl hm
  refine Aa.start (fn:=Tryz.f68) [.cell 4 51,.tmp 5] tk rfl rfl rfl (by kernel_rfl) (Nat.le_of_ble_eq_true rfl) rfl (by kernel_rfl) ?_
  rw[At]
  refine z1 ?_;intro K hK;refine zk ?_;clear hK K
  by_cases hd:(AE l id).2=0
  rotate_left
  .obtain⟨d,hdd⟩:∃d,d=AE l id:=⟨_,rfl⟩
   have hof:AP l id=(AI,d.2):=by rw[hdd];simp[AP,hd]
   rw[hof]
   rw[<-hdd] at spD hd
   refine z0 ?_;intro K hK
   refine Ab.eq spD (by simp) (by simp) ?_
   refine zx ?_
   refine zk ?_;clear hK K
   refine Af hd ?_;intro K hK
   refine zk ?_;clear hK K
   refine zt ?_
   refine zs ?_
   refine W.weak (Wk.thaw (B:=0) (v:=0) (j:=1) (s:=1) (n:=0) (cs:=[.int .i64 0,.own 1 0 []]) (xs:=[]) (by rfl) (by rfl)) ?_
   refine zr ?_
   simp[AI]
  obtain⟨o,hf⟩:∃o,A7 l id=some o:=by
   cases hf:A7 l id with
   |some o=>exact⟨o,rfl⟩
   |none=>simp[AE,hf] at hd
  obtain⟨k,hk,hi,ho,Bw⟩:=ED hf
  have hom:=D9 hf
  have hbo:=(hm.2.1 o hom).2.2.1
  have hsz:=hl.2 o hom
  have spA:=OE l id (by omega)
  rw[hi] at spA
  obtain⟨st1,st2⟩:=U7 hm hf hd
  obtain⟨d1,hd1⟩:∃d1,d1=(AE l id).1:=⟨_,rfl⟩
  rw[<-hd1,hd] at spD
  have spO:=aF o.data hbo.1 (by have:=hbo.2.2.1;omega) hsz
  obtain⟨bs,hbs⟩:∃bs,bs=Aq o.data:=⟨_,rfl⟩
  rw[<-hbs] at spO st1 st2
  have hbl:bs.length<1000000000:=by
   have:=Cw o.data
   have:=hbo.2.1
   rw[hbs];omega
  refine z0 ?_;intro K hK
  refine Ab.eq spD (by simp) (by simp) ?_
  refine zx ?_
  refine zk ?_;clear hK K
  refine zs ?_
  refine zn ?_
  refine W.skip ?_
  refine z1 ?_;intro K hK
  refine Ab.eq spA (by simp) (by simp) ?_
  refine AX (an hk ho) ?_
  refine zk ?_;clear hK K
  refine z0 ?_;intro K hK
  refine Ab.eq spO (by simp) (by simp) ?_
  refine zx ?_
  refine zk ?_;clear hK K
  refine z1 ?_;intro K hK;refine zk ?_;clear hK K
  refine zs ?_
  by_cases hb:o.base=0
  .refine Af hb ?_;intro K hK
   refine zk ?_;clear hK K
   refine zt ?_
   have spF:=Qo bs hbl
   rw[OV] at spF
   rw[st1 hb]
   cases hfr:BD bs with
   |none=>
    rw[hfr] at spF
    simp only[F8] at spF
    refine z0 ?_;intro K hK
    refine Ab.eq spF (by simp) (by simp[AI]) ?_
    refine zx ?_
    refine zk ?_;clear hK K
    refine zs ?_
    refine zt ?_
    refine zs ?_
    refine W.weak (Wk.thaw (B:=0) (v:=0) (j:=1) (s:=1) (n:=0) (cs:=[.int .i64 0,.own 1 0 []]) (xs:=[]) (by rfl) (by rfl)) ?_
    refine zr ?_
    simp[AI]
   |some g=>
    rw[hfr] at spF
    simp only[F8] at spF
    refine z0 ?_;intro K hK
    refine Ab.eq spF (by simp) (by simp) ?_
    refine zx ?_
    refine zk ?_;clear hK K
    refine zs ?_
    refine zn ?_
    refine W.skip ?_
    refine zs ?_
    exact zR
  .obtain⟨st3,st4⟩:=st2 hb
   have spR:=ih o.base (by omega)
   rw[st4]
   have hma:=Dc l o.base
   obtain⟨a,ha⟩:∃a,a=AP l o.base:=⟨_,rfl⟩
   rw[<-ha] at spR hma |-
   refine Af hb ?_;intro K hK
   refine zk ?_;clear hK K
   refine zn ?_
   by_cases he:a.2=0
   rotate_left
   .refine z1 ?_;intro K hK
    refine Ab.eq spR (by simp) (by simp) ?_
    refine zx ?_
    refine zk ?_;clear hK K
    refine Af he ?_;intro K hK
    refine zk ?_;clear hK K
    refine zt ?_
    refine zs ?_
    refine W.weak (Wk.thaw (B:=0) (v:=0) (j:=1) (s:=1) (n:=0) (cs:=[.int .i64 0,.own 1 0 []]) (xs:=[]) (by rfl) (by rfl)) ?_
    refine zr ?_
    simp[AI,he]
   rw[he] at spR
   refine z1 ?_;intro K hK
   refine Ab.eq spR (by simp) (by simp) ?_
   refine zx ?_
   refine zk ?_;clear hK K
   refine zs ?_
   refine zn ?_
   refine W.skip ?_
   have spT:=Qp a.1 bs hbl hma
   rw[OW _ _ hma] at spT
   rw[if_neg (by simp[he])]
   cases hfr:BK a.1 bs with
   |none=>
    rw[hfr] at spT
    simp only[F8] at spT
    refine z0 ?_;intro K hK
    refine Ab.eq spT (by simp) (by simp[AI]) ?_
    refine zx ?_
    refine zk ?_;clear hK K
    refine zs ?_
    refine zt ?_
    refine zs ?_
    refine W.weak (Wk.thaw (B:=0) (v:=0) (j:=1) (s:=1) (n:=0) (cs:=[.int .i64 0,.own 1 0 []]) (xs:=[]) (by rfl) (by rfl)) ?_
    refine zr ?_
    simp[AI]
   |some g=>
    rw[hfr] at spT
    simp only[F8] at spT
    refine z0 ?_;intro K hK
    refine Ab.eq spT (by simp) (by simp) ?_
    refine zx ?_
    refine zk ?_;clear hK K
    refine zs ?_
    refine zn ?_
    refine W.skip ?_
    refine zs ?_
    exact zR
theorem HQ (l:List Obj) (id:Int) (hl:En l) (hm:Ca l):Aa pg 68 [.ro l.length (Ac As l),.int .i64 id] [] (fun r _=>r= .tup [.agg (Ba true (AP l id).1),.int .i64 (AP l id).2]):=Tf l hl hm ((AQ l 4 id).length+1) id (Nat.lt_succ_self _)
theorem Zy (g:Gr) (k a:Int) (hn:-1000000000<=g.n/\g.n<=1000000000):Aa pg 148 [.agg (Ba false g),.int .i64 k,.int .i64 a] [] (fun r _=>r= .int .i64 (DK g k a)):=by
 have spB:=Fh k 1 6
 have spN:=LL k
 have spM:=Jt a (g.n-1)
 refine Aa.start (fn:=Tryz.f148) [.tmp 6] tk rfl rfl rfl (by kernel_rfl) (Nat.le_of_ble_eq_true rfl) rfl (by kernel_rfl) ?_
 rw[Bl]
 refine z1 ?_;intro K hK;refine zk ?_;clear hK K
 by_cases h1:1<=k/\k<=6
 rotate_left
 .rw[decide_eq_false h1] at spB
  refine z0 ?_;intro K hK
  refine Ab.eq spB (by simp) (by simp) ?_
  refine zx ?_
  refine zk ?_;clear hK K
  refine zt ?_
  refine zs ?_
  refine zr ?_
  rw[DK,if_pos h1]
 rw[decide_eq_true h1] at spB
 have e0:DK g k a=if named k=true/\¬(0<=a/\a<g.n) then 3 else 0:=by rw[DK,if_neg (fun h=>h h1)]
 rw[e0]
 refine z0 ?_;intro K hK
 refine Ab.eq spB (by simp) (by simp) ?_
 refine zx ?_
 refine zk ?_;clear hK K
 refine zn ?_
 refine W.skip ?_
 cases hnm:named k
 .rw[hnm] at spN
  refine z0 ?_;intro K hK
  refine Ab.eq spN (by simp) (by simp) ?_
  refine zx ?_
  refine zk ?_;clear hK K
  refine zn ?_
  refine W.skip ?_
  refine zs ?_
  exact zR
 .rw[hnm] at spN
  by_cases h2:0<=a/\a<g.n
  .rw[decide_eq_true (show 0<=a/\a<=g.n-1 by omega)] at spM
   refine z0 ?_;intro K hK
   refine Ab.eq spN (by simp) (by simp) ?_
   refine zx ?_
   refine Ab.eq spM (by simp) (by simp) ?_
   refine zx ?_
   refine zk ?_;clear hK K
   refine zn ?_
   refine W.skip ?_
   refine zs ?_
   refine zr ?_
   (try simp[h2]);(try omega)
  .rw[decide_eq_false (show¬(0<=a/\a<=g.n-1) by omega)] at spM
   refine z0 ?_;intro K hK
   refine Ab.eq spN (by simp) (by simp) ?_
   refine zx ?_
   refine Ab.eq spM (by simp) (by simp) ?_
   refine zx ?_
   refine zk ?_;clear hK K
   refine zt ?_
   refine zs ?_
   refine zr ?_
   (try omega)
   (try (intro h3;exact Classical.byContradiction fun h4=>h2 ⟨h3,by omega⟩))
theorem U8 (g:Gr) (k a:Int) (hm:A3 g) (hk:DK g k a=0):Aa pg 150 [.agg (Ba false g),.int .i64 k,.int .i64 a] [] (fun r _=>r= .agg (B4 true (CC g k a))):=by
 obtain⟨n,hn⟩:=Int.eq_ofNat_of_zero_le hm.1
 have hn16:n<=16:=by have:=hm.2.1;omega
 have hka:named k=true->0<=a/\a<g.n:=by
  intro hnm
  unfold DK at hk
  split at hk
  .simp at hk
  .split at hk
   .simp at hk
   .rename_i h;exact Classical.byContradiction fun g=>h ⟨hnm,g⟩
 have spN:=LL k
 refine Aa.start (fn:=Tryz.f150) [.cell 6 53] tk rfl rfl rfl (by kernel_rfl) (Nat.le_of_ble_eq_true rfl) rfl (by kernel_rfl) ?_
 rw[Bl]
 refine z2 ?_;intro K hK;refine zk ?_;clear hK K
 refine z1 ?_;intro K hK;refine zk ?_;clear hK K
 cases hnm:named k
 .rw[hnm] at spN
  have h4:¬k=4:=fun e=>by simp[named,e] at hnm
  refine z0 ?_;intro K hK
  refine Ab.eq spN (by simp) (by simp) ?_
  refine zx ?_
  refine zk ?_;clear hK K
  refine zn ?_
  refine W.skip ?_
  refine zs ?_
  refine W.weak (Wk.thaw (B:=2) (v:=0) (j:=4) (s:=1) (n:=0) (xs:=[]) (by rfl) (by rfl)) ?_
  refine W.weak (Wk.thaw (B:=2) (v:=0) (j:=5) (s:=1) (n:=0) (xs:=[]) (by rfl) (by rfl)) ?_
  rw[hn]
  by_cases h5:k=5
  .rw[show(List.nil:List AV)=Ae (Kt 0) from rfl]
   (repeat refine W.seq ?_);refine W.block (W.loopS (fun i:Nat=> [(1,.int .i64 k),(2,.int .i64 a),(3,.ptr 0 0 0),(6,.ptr 1 0 0),(7,.ptr 2 0 0),(8,.int .i64 i)]) (fun i=> [.live 0 [.int .i64 n,Ev false g.out],.live 0 [.int .i64 0,.int .i64 0,.int .i64 0,.bool false,.own 1 0 [],.own 1 0 []],.live 0 [.int .i64 k,.int .i64 0,.int .i64 0,.bool false,.tok 3 0 1 0 0,.tok 4 i 1 0 i],.live 0 [],.live i (Ae (Kt i))]) (fun i=>n-i) (fun i=>i<=n) 0 (Wk.fr (by simp[Ad])) (Nat.zero_le _) ?_)
   intro i hi
   refine zs ?_
   refine zc ?_ ?_<;>intro h
   .refine W.skip ?_
    refine zb ?_
    refine zs ?_
    refine zb ?_
    refine Af h4 ?_;intro K hK
    refine zk ?_;clear hK K
    refine zn ?_
    refine Af h5 ?_;intro K hK
    refine zk ?_;clear hK K
    refine zt ?_
    refine z1 ?_;intro K hK
    refine⟨by omega,by omega,?_⟩
    refine zk ?_;clear hK K
    refine zs ?_
    refine⟨i+1,by omega,by omega,Wk.cutM (k:=5) (by simp[Ad];try omega) ?_ (by simp) (by simp) (by simp) (by simp)⟩
    rw[OX]
    simp[Ae]
    (try omega)
   .refine W.exit ?_
    have:i=n:=by omega
    subst this
    refine Af h4 ?_;intro K hK
    refine zk ?_;clear hK K
    refine zn ?_
    refine W.skip ?_
    refine zs ?_
    refine zr ?_
    simp[CC,hnm,h4,h5,hn]
    exact⟨by simp[named],by rw[List.take_of_length_le (by simp)]⟩
  .rw[show(List.nil:List AV)=Ae ([]) from rfl]
   (repeat refine W.seq ?_);refine W.block (W.loopS (fun i:Nat=> [(1,.int .i64 k),(2,.int .i64 a),(3,.ptr 0 0 0),(6,.ptr 1 0 0),(7,.ptr 2 0 0),(8,.int .i64 i)]) (fun i=> [.live 0 [.int .i64 n,Ev false g.out],.live 0 [.int .i64 0,.int .i64 0,.int .i64 0,.bool false,.own 1 0 [],.own 1 0 []],.live 0 [.int .i64 k,.int .i64 0,.int .i64 0,.bool false,.tok 3 0 1 0 0,.tok 4 0 1 0 0],.live 0 [],.live 0 (Ae ([]))]) (fun i=>n-i) (fun i=>i<=n) 0 (Wk.fr (by simp[Ad])) (Nat.zero_le _) ?_)
   intro i hi
   refine zs ?_
   refine zc ?_ ?_<;>intro h
   .refine W.skip ?_
    refine zb ?_
    refine zs ?_
    refine zb ?_
    refine Af h4 ?_;intro K hK
    refine zk ?_;clear hK K
    refine zn ?_
    refine Af h5 ?_;intro K hK
    refine zk ?_;clear hK K
    refine zn ?_
    refine W.skip ?_
    refine zs ?_
    exact⟨i+1,by omega,by omega,Wk.fr (by simp[Ad])⟩
   .refine W.exit ?_
    have:i=n:=by omega
    subst this
    refine Af h4 ?_;intro K hK
    refine zk ?_;clear hK K
    refine zn ?_
    refine W.skip ?_
    refine zs ?_
    refine zr ?_
    simp[CC,hnm,h4,h5,hn]
 .rw[hnm] at spN
  have ha:=hka hnm
  obtain⟨b,hb⟩:=Int.eq_ofNat_of_zero_le ha.1
  have hbn:b<n:=by omega
  have h5:¬k=5:=fun e=>by simp[named,e] at hnm
  refine z0 ?_;intro K hK
  refine Ab.eq spN (by simp) (by simp) ?_
  refine zx ?_
  refine zk ?_;clear hK K
  refine zt ?_
  refine zs ?_
  refine zs ?_
  refine W.weak (Wk.thaw (B:=2) (v:=0) (j:=4) (s:=1) (n:=0) (xs:=[]) (by rfl) (by rfl)) ?_
  refine W.weak (Wk.thaw (B:=2) (v:=0) (j:=5) (s:=1) (n:=0) (xs:=[]) (by rfl) (by rfl)) ?_
  rw[hn]
  by_cases h4:k=4
  .rw[show(List.nil:List AV)=Ae (List.replicate 0 (-1)) from rfl]
   (repeat refine W.seq ?_);refine W.block (W.loopS (fun i:Nat=> [(1,.int .i64 k),(2,.int .i64 a),(3,.ptr 0 0 0),(6,.ptr 1 0 0),(7,.ptr 2 0 0),(8,.int .i64 i)]) (fun i=> [.live 0 [.int .i64 n,Ev false g.out],.live 0 [.int .i64 0,.int .i64 0,.int .i64 0,.bool false,.own 1 0 [],.own 1 0 []],.live 0 [.int .i64 k,.int .i64 a,.int .i64 0,.bool false,.tok 3 0 1 0 0,.tok 4 i 1 0 i],.live 0 [],.live i (Ae (List.replicate i (-1)))]) (fun i=>n-i) (fun i=>i<=n) 0 (Wk.fr (by simp[Ad])) (Nat.zero_le _) ?_)
   intro i hi
   refine zs ?_
   refine zc ?_ ?_<;>intro h
   .refine W.skip ?_
    refine zb ?_
    refine zs ?_
    refine zb ?_
    refine Af h4 ?_;intro K hK
    refine zk ?_;clear hK K
    refine zt ?_
    refine z1 ?_;intro K hK
    refine⟨by omega,by omega,?_⟩
    refine zk ?_;clear hK K
    refine zs ?_
    refine⟨i+1,by omega,by omega,Wk.cutM (k:=5) (by simp[Ad];try omega) ?_ (by simp) (by simp) (by simp) (by simp)⟩
    rw[List.replicate_succ']
    simp[Ae]
    (try omega)
   .refine W.exit ?_
    have:i=n:=by omega
    subst this
    refine Af h4 ?_;intro K hK
    refine zk ?_;clear hK K
    refine zt ?_
    refine Af (an hbn hb) ?_;intro K hK
    refine⟨by omega,?_⟩
    rw[DQ]
    refine zk ?_;clear hK K
    refine z1 ?_;intro K hK
    refine zk ?_;clear hK K
    refine zs ?_
    refine zr ?_
    simp[CC,hnm,h4,hn,si,hb]
    exact⟨by simp[named],by simp[Ae],by rw[List.take_of_length_le (by simp)]⟩
  .rw[show(List.nil:List AV)=Ae ([]) from rfl]
   (repeat refine W.seq ?_);refine W.block (W.loopS (fun i:Nat=> [(1,.int .i64 k),(2,.int .i64 a),(3,.ptr 0 0 0),(6,.ptr 1 0 0),(7,.ptr 2 0 0),(8,.int .i64 i)]) (fun i=> [.live 0 [.int .i64 n,Ev false g.out],.live 0 [.int .i64 0,.int .i64 0,.int .i64 0,.bool false,.own 1 0 [],.own 1 0 []],.live 0 [.int .i64 k,.int .i64 a,.int .i64 0,.bool false,.tok 3 0 1 0 0,.tok 4 0 1 0 0],.live 0 [],.live 0 (Ae ([]))]) (fun i=>n-i) (fun i=>i<=n) 0 (Wk.fr (by simp[Ad])) (Nat.zero_le _) ?_)
   intro i hi
   refine zs ?_
   refine zc ?_ ?_<;>intro h
   .refine W.skip ?_
    refine zb ?_
    refine zs ?_
    refine zb ?_
    refine Af h4 ?_;intro K hK
    refine zk ?_;clear hK K
    refine zn ?_
    refine Af h5 ?_;intro K hK
    refine zk ?_;clear hK K
    refine zn ?_
    refine W.skip ?_
    refine zs ?_
    exact⟨i+1,by omega,by omega,Wk.fr (by simp[Ad])⟩
   .refine W.exit ?_
    have:i=n:=by omega
    subst this
    refine Af h4 ?_;intro K hK
    refine zk ?_;clear hK K
    refine zn ?_
    refine W.skip ?_
    refine zs ?_
    refine zr ?_
    simp[CC,hnm,h4,h5,hn]
theorem Xj (g:Gr) (j:Cu) (hg:A3 g) (h:Gl g j) (ho:BY g j=false) (h1:j.kind=1):Aa pg 151 [.agg (Ba false g),.agg (B4 false j)] [] (fun r _=>r= .agg (B4 true (Bc g j))):=by
 obtain⟨n,hn⟩:=Int.eq_ofNat_of_zero_le hg.1
 obtain⟨v,hv⟩:=Int.eq_ofNat_of_zero_le h.a0
 have hn16:n<=16:=by have:=hg.2.1;omega
 have hvn:v<=n:=by have:=h.an;omega
 have hout:g.out.length=n:=by have:=hg.2.2.1;omega
 have hsm:=h.small hg
 have hwl:∀i (hi:i<g.out.length),g.out[i].length<=16:=fun i hi=>by rw[<-BC hi];exact Cp hg _
 have ha:=h.na (by rw[h1];rfl)
 obtain⟨a,hae⟩:=Int.eq_ofNat_of_zero_le ha.1
 have hal:a<g.out.length:=by omega
 have hvis:Bc g j={j with at_:=(v:Int)+1,out:=g.out[a]}:=by
  simp[Bc,h1,hv,hae,BC hal]
 rw[hvis]
 refine Aa.start (fn:=Tryz.f151) [.cell 4 53] tk rfl rfl rfl (by kernel_rfl) (Nat.le_of_ble_eq_true rfl) rfl (by kernel_rfl) ?_
 rw[At]
 refine z3 ?_;intro K hK;refine zk ?_;clear hK K
 refine z0 ?_;intro K hK
 refine Ab.eq (Fj j ⟨by omega,by omega⟩) (by simp) (by simp) ?_
 refine zx ?_
 refine zk ?_;clear hK K
 refine Af hv ?_;intro K hK
 refine zk ?_;clear hK K
 refine Af hv ?_;intro K hK
 refine zk ?_;clear hK K
 refine Af h1 ?_;intro K hK
 refine zk ?_;clear hK K
 refine zb ?_
 refine Af h1 ?_;intro K hK
 refine zk ?_;clear hK K
 refine zt ?_
 refine Af (an hae hal) ?_;intro K hK
 refine Ab.eq (EJ g.out[a] (by have:=hwl a hal;omega)) (by simp) (by simp) ?_
 refine zx ?_
 refine zk ?_;clear hK K
 refine zs ?_
 refine zr ?_
 simp[h1,hae]
theorem Xk (g:Gr) (j:Cu) (hg:A3 g) (h:Gl g j) (ho:BY g j=false) (h2:j.kind=2):Aa pg 151 [.agg (Ba false g),.agg (B4 false j)] [] (fun r _=>r= .agg (B4 true (Bc g j))):=by
 obtain⟨n,hn⟩:=Int.eq_ofNat_of_zero_le hg.1
 obtain⟨v,hv⟩:=Int.eq_ofNat_of_zero_le h.a0
 have hn16:n<=16:=by have:=hg.2.1;omega
 have hvn:v<=n:=by have:=h.an;omega
 have hout:g.out.length=n:=by have:=hg.2.2.1;omega
 have hsm:=h.small hg
 have hwl:∀i (hi:i<g.out.length),g.out[i].length<=16:=fun i hi=>by rw[<-BC hi];exact Cp hg _
 have hvl:v<g.out.length:=by
  unfold BY at ho
  simp[h2] at ho
  omega
 have hc2:=h.c2 h2
 have hvis:Bc g j={j with at_:=(v:Int)+1,out:=j.out++if g.out[v].contains j.a=true then [(v:Int)] else []}:=by
  simp[Bc,h2,hv,BC hvl]
 rw[hvis]
 have sp:=WD g.out[v] j.a (by have:=hwl v hvl;omega)
 have hix:=Lw g.out[v] j.a
 obtain⟨z,hz⟩:∃z,z=AL (fun y=>decide (y=j.a)) g.out[v]:=⟨_,rfl⟩
 rw[<-hz] at sp hix
 refine Aa.start (fn:=Tryz.f151) [.cell 4 53] tk rfl rfl rfl (by kernel_rfl) (Nat.le_of_ble_eq_true rfl) rfl (by kernel_rfl) ?_
 rw[At]
 refine z3 ?_;intro K hK;refine zk ?_;clear hK K
 refine z0 ?_;intro K hK
 refine Ab.eq (Fj j ⟨by omega,by omega⟩) (by simp) (by simp) ?_
 refine zx ?_
 refine zk ?_;clear hK K
 refine Af hv ?_;intro K hK
 refine zk ?_;clear hK K
 refine Af hv ?_;intro K hK
 refine zk ?_;clear hK K
 refine Af h2 ?_;intro K hK
 refine zk ?_;clear hK K
 refine zb ?_
 refine Af h2 ?_;intro K hK
 refine zk ?_;clear hK K
 refine zn ?_
 refine Af h2 ?_;intro K hK
 refine zk ?_;clear hK K
 refine zt ?_
 (repeat refine W.seq ?_);refine W.regd 0 rfl true Cz (by kernel_rfl) fun K hK=>?_;simp -implicitDefEqProofs (maxSteps:=999999) (disch:=omega) [hvl]
 refine Ah.eq sp (by simp) (by simp) ?_
 cases hc:g.out[v].contains j.a
 .have hz0:¬0<=z:=by rw[hix,hc];simp
  have hc' :¬j.a∈g.out[v]:=by simpa using hc
  refine AX hz0 ?_
  refine zk ?_;clear hK K
  refine zn ?_
  refine W.skip ?_
  refine zs ?_
  refine zr ?_
  simp[h2,hc']
 .have hz0:0<=z:=by rw[hix,hc]
  have hc' :j.a∈g.out[v]:=by simpa using hc
  refine AX hz0 ?_
  refine zk ?_;clear hK K
  refine zt ?_
  refine z1 ?_;intro K hK
  refine⟨by omega,by omega,?_⟩
  refine zk ?_;clear hK K
  have e:Ae j.out++[AV.int .i64 v]=Ae (j.out++[(v:Int)]):=by simp[Ae]
  rw[e]
  refine zs ?_
  refine zr ?_
  simp[h2,hc']
  rw[List.take_of_length_le (by simp)]
theorem Xl (g:Gr) (j:Cu) (hg:A3 g) (h:Gl g j) (ho:BY g j=false) (h3:j.kind=3):Aa pg 151 [.agg (Ba false g),.agg (B4 false j)] [] (fun r _=>r= .agg (B4 true (Bc g j))):=by
 obtain⟨n,hn⟩:=Int.eq_ofNat_of_zero_le hg.1
 obtain⟨v,hv⟩:=Int.eq_ofNat_of_zero_le h.a0
 have hn16:n<=16:=by have:=hg.2.1;omega
 have hvn:v<=n:=by have:=h.an;omega
 have hout:g.out.length=n:=by have:=hg.2.2.1;omega
 have hsm:=h.small hg
 have hwl:∀i (hi:i<g.out.length),g.out[i].length<=16:=fun i hi=>by rw[<-BC hi];exact Cp hg _
 have hvl:v<g.out.length:=by
  unfold BY at ho
  simp[h3] at ho
  omega
 obtain⟨hc3,hc3b⟩:=h.c3 h3
 obtain⟨m,hm⟩:∃m,m=g.out[v].length:=⟨_,rfl⟩
 have hm16:m<=16:=by have:=hwl v hvl;omega
 have hvis:Bc g j={j with at_:=(v:Int)+1,out:=si (Dy j.out m) m (gi (Dy j.out m) m+1)}:=by
  simp[Bc,h3,hv,BC hvl,hm]
 rw[hvis]
 refine Aa.start (fn:=Tryz.f151) [.cell 4 53] tk rfl rfl rfl (by kernel_rfl) (Nat.le_of_ble_eq_true rfl) rfl (by kernel_rfl) ?_
 rw[At]
 refine z3 ?_;intro K hK;refine zk ?_;clear hK K
 refine z0 ?_;intro K hK
 refine Ab.eq (Fj j ⟨by omega,by omega⟩) (by simp) (by simp) ?_
 refine zx ?_
 refine zk ?_;clear hK K
 refine Af hv ?_;intro K hK
 refine zk ?_;clear hK K
 refine Af hv ?_;intro K hK
 refine zk ?_;clear hK K
 refine Af h3 ?_;intro K hK
 refine zk ?_;clear hK K
 refine zb ?_
 refine Af h3 ?_;intro K hK
 refine zk ?_;clear hK K
 refine zn ?_
 refine Af h3 ?_;intro K hK
 refine zk ?_;clear hK K
 refine zn ?_
 refine Af h3 ?_;intro K hK
 refine zk ?_;clear hK K
 refine zt ?_
 rw[show Ae j.out=Ae (j.out++List.replicate 0 0) by simp]
 (repeat refine W.seq ?_);refine W.block (W.loopS (fun k:Nat=> [(2,.ptr 0 0 0),(3,.ptr 1 0 0),(4,.ptr 2 0 0),(5,.int .i64 v)]) (fun k=> [.live 0 (Ba false g),.live 0 [.int .i64 3,.int .i64 j.a,.int .i64 ((v:Int)+1),.bool j.move,.tok 3 0 1 0 j.list.length,.tok 4 k 1 0 (j.out.length+k)],.live 0 [.int .i64 0,.int .i64 0,.int .i64 0,.bool false,.own 1 0 [],.own 1 0 []],.live 0 (Ae j.list),.live k (Ae (j.out++List.replicate k 0))]) (fun k=>m+1-(j.out.length+k)) (fun k=>k=0\/j.out.length+k<=m+1) 0 (Wk.fr (by simp[Ad])) (.inl rfl) ?_)
 intro k hk
 by_cases hle:j.out.length+k<=g.out[v].length
 .refine Bx (an hvl hle) ?_;intro K hK
  refine zk ?_;clear hK K
  refine zt ?_
  refine W.skip ?_
  refine zb ?_
  refine z1 ?_;intro K hK
  refine⟨by omega,by omega,?_⟩
  refine zk ?_;clear hK K
  have e:Ae (j.out++List.replicate k 0)++[AV.int .i64 0]=Ae (j.out++List.replicate (k+1) 0):=by rw[List.replicate_succ'];simp[Ae]
  refine⟨k+1,by omega,.inr (by omega),Wk.cutM (k:=5) (by simp[Ad]) ?_ (by simp) (by simp) (by simp) (by simp)⟩
  rw[<-e];rfl
 .refine Bx (an hvl hle) ?_;intro K hK
  refine zk ?_;clear hK K
  refine zn ?_
  refine W.exit ?_
  have hU:j.out++List.replicate k 0=Dy j.out m:=by rw[Dy,show m+1-j.out.length=k by omega]
  have hUl:(Dy j.out m).length=j.out.length+k:=by rw[<-hU];simp
  have hml:m<(Dy j.out m).length:=by omega
  have hUb:∀y∈Dy j.out m,0<=y/\y<=j.at_:=fun y hy=>by
   rcases Lu hy with hy|rfl
   .exact hc3b y hy
   .exact⟨Int.le_refl _,h.a0⟩
  have hb:=hUb _ (List.getElem_mem hml)
  rw[hU,DF hml,si]
  simp only[Int.toNat_natCast]
  generalize Dy j.out m=U at*
  subst hm
  refine Bx (an hvl hml) ?_;intro K hK
  refine zk ?_;clear hK K
  rw[DQ]
  refine zs ?_
  refine zr ?_
  simp[h3,hUl]
  rw[List.take_of_length_le (by simp;omega)]
theorem Xm (g:Gr) (j:Cu) (hg:A3 g) (h:Gl g j) (ho:BY g j=false) (h6:j.kind=6):Aa pg 151 [.agg (Ba false g),.agg (B4 false j)] [] (fun r _=>r= .agg (B4 true (Bc g j))):=by
 obtain⟨n,hn⟩:=Int.eq_ofNat_of_zero_le hg.1
 obtain⟨v,hv⟩:=Int.eq_ofNat_of_zero_le h.a0
 have hn16:n<=16:=by have:=hg.2.1;omega
 have hvn:v<=n:=by have:=h.an;omega
 have hout:g.out.length=n:=by have:=hg.2.2.1;omega
 have hsm:=h.small hg
 have hwl:∀i (hi:i<g.out.length),g.out[i].length<=16:=fun i hi=>by rw[<-BC hi];exact Cp hg _
 have hvl:v<g.out.length:=by
  unfold BY at ho
  simp[h6] at ho
  omega
 have hc6:=h.c6 h6
 have hvis:Bc g j={j with at_:=(v:Int)+1,out:=j.out++Ft v g.out[v]}:=by
  simp[Bc,h6,hv,BC hvl,Ft]
 rw[hvis]
 have hvv:=hwl v hvl
 refine Aa.start (fn:=Tryz.f151) [.cell 4 53] tk rfl rfl rfl (by kernel_rfl) (Nat.le_of_ble_eq_true rfl) rfl (by kernel_rfl) ?_
 rw[At]
 refine z3 ?_;intro K hK;refine zk ?_;clear hK K
 refine z0 ?_;intro K hK
 refine Ab.eq (Fj j ⟨by omega,by omega⟩) (by simp) (by simp) ?_
 refine zx ?_
 refine zk ?_;clear hK K
 refine Af hv ?_;intro K hK
 refine zk ?_;clear hK K
 refine Af hv ?_;intro K hK
 refine zk ?_;clear hK K
 refine Af h6 ?_;intro K hK
 refine zk ?_;clear hK K
 refine zb ?_
 refine Af h6 ?_;intro K hK
 refine zk ?_;clear hK K
 refine zn ?_
 refine Af h6 ?_;intro K hK
 refine zk ?_;clear hK K
 refine zn ?_
 refine Af h6 ?_;intro K hK
 refine zk ?_;clear hK K
 refine zn ?_
 refine Af h6 ?_;intro K hK
 refine zk ?_;clear hK K
 refine zt ?_
 refine zs ?_
 rw[show Ae j.out=Ae (j.out++Ft v (g.out[v].take 0)) by simp[Ft]]
 (repeat refine W.seq ?_);refine W.block (W.loopS (fun k:Nat=> [(2,.ptr 0 0 0),(3,.ptr 1 0 0),(4,.ptr 2 0 0),(5,.int .i64 v),(6,.int .i64 k)]) (fun k=> [.live 0 (Ba false g),.live 0 [.int .i64 6,.int .i64 j.a,.int .i64 ((v:Int)+1),.bool j.move,.tok 3 0 1 0 j.list.length,.tok 4 k 1 0 (j.out.length+2*k)],.live 0 [.int .i64 0,.int .i64 0,.int .i64 0,.bool false,.own 1 0 [],.own 1 0 []],.live 0 (Ae j.list),.live k (Ae (j.out++Ft v (g.out[v].take k)))]) (fun k=>g.out[v].length-k) (fun k=>k<=g.out[v].length) 0 (Wk.fr (by simp[Ad])) (by simp) ?_)
 intro k hk
 (repeat refine W.seq ?_);refine W.reg 0 rfl fun K hK=>?_;simp -implicitDefEqProofs (maxSteps:=999999) (disch:=omega) [hvl]
 refine zk ?_;clear hK K
 refine zc ?_ ?_<;>intro h
 .refine W.skip ?_
  have hlt:k<g.out[v].length:=by omega
  have hto:g.out[v].take (k+1)=g.out[v].take k++[g.out[v][k]]:=by rw[List.take_add_one];simp[hlt]
  have hr2:CF 2 [AV.int .i64 0]=[AV.int .i64 0,AV.int .i64 0]:=rfl
  have hpk:(Ft v (g.out[v].take k)).length=2*k:=by rw[KG];simp;omega
  refine zb ?_
  (repeat refine W.seq ?_);refine W.regd 1 rfl true Cz (by kernel_rfl) fun K hK=>?_;simp -implicitDefEqProofs (maxSteps:=999999) (disch:=omega) [hr2,hpk,hvl,hlt]
  refine⟨by omega,by omega,?_⟩
  refine zk ?_;clear hK K
  refine zs ?_
  have e:Ae (j.out++Ft v (g.out[v].take k))++[AV.int .i64 v,AV.int .i64 g.out[v][k]]=Ae (j.out++Ft v (g.out[v].take (k+1))):=by rw[hto,O1];simp[Ae]
  refine⟨k+1,by omega,by omega,Wk.cutM (k:=5) (by simp[Ad]) ?_ (by simp) (by simp) (by simp) (by simp)⟩
  rw[<-e];rfl
 .refine W.exit ?_
  have hk' :k=g.out[v].length:=by omega
  subst hk'
  rw[List.take_length]
  have hfl:=KG (v:Int) g.out[v]
  refine zs ?_
  refine zr ?_
  refine⟨h6.symm,?_,?_⟩
  .rw[hfl]
  .rw[List.take_of_length_le (by rw[List.length_append,hfl];exact Nat.le_refl _)]
theorem Xn (g:Gr) (j:Cu) (hg:A3 g) (h:Gl g j) (ho:BY g j=false) (h4:j.kind=4):Aa pg 151 [.agg (Ba false g),.agg (B4 false j)] [] (fun r _=>r= .agg (B4 true (Bc g j))):=by
 obtain⟨n,hn⟩:=Int.eq_ofNat_of_zero_le hg.1
 obtain⟨v,hv⟩:=Int.eq_ofNat_of_zero_le h.a0
 have hn16:n<=16:=by have:=hg.2.1;omega
 have hvn:v<=n:=by have:=h.an;omega
 have hout:g.out.length=n:=by have:=hg.2.2.1;omega
 have hsm:=h.small hg
 have hwl:∀i (hi:i<g.out.length),g.out[i].length<=16:=fun i hi=>by rw[<-BC hi];exact Cp hg _
 obtain⟨c1,c2,c3,c4,c5⟩:=h.c4 h4
 have hvl:v<j.list.length:=by simp[BY,h4] at ho;omega
 have hm:=c4 _ (List.getElem_mem hvl)
 obtain⟨u,hu⟩:=Int.eq_ofNat_of_zero_le hm.1
 rw[hu] at hm
 have hul:u<g.out.length:=by omega
 have hul2:=hwl u hul
 have hws:∀w∈g.out[u],0<=w/\w<g.n:=fun w hw=>FT hg (v:=(u:Int)) (by rw[BC hul];exact hw)
 have hf:=fun k=>IQ (n:=g.n) (v:=(u:Int)) ⟨hm.1,hm.2.1⟩ (g.out[u].take k) (j.out,j.list) (fun w hw=>hws w (List.mem_of_mem_take hw)) hm.2.2 c1 c2 c4 c5
 have hvis:Bc g j={j with at_:=(v:Int)+1,out:=(g.out[u].foldl (Bj u) (j.out,j.list)).1,list:=(g.out[u].foldl (Bj u) (j.out,j.list)).2}:=by
  have e:gi j.list (v:Int)=(u:Int):=by rw[DF hvl,hu]
  simp[Bc,h4,hv,e,BC hul]
 rw[hvis]
 refine Aa.start (fn:=Tryz.f151) [.cell 4 53] tk rfl rfl rfl (by kernel_rfl) (Nat.le_of_ble_eq_true rfl) rfl (by kernel_rfl) ?_
 rw[At]
 refine z3 ?_;intro K hK;refine zk ?_;clear hK K
 refine z0 ?_;intro K hK
 refine Ab.eq (Fj j ⟨by omega,by omega⟩) (by simp) (by simp) ?_
 refine zx ?_
 refine zk ?_;clear hK K
 refine Af hv ?_;intro K hK
 refine zk ?_;clear hK K
 refine Af hv ?_;intro K hK
 refine zk ?_;clear hK K
 refine Af h4 ?_;intro K hK
 refine zk ?_;clear hK K
 refine zb ?_
 refine Af h4 ?_;intro K hK
 refine zk ?_;clear hK K
 refine zn ?_
 refine Af h4 ?_;intro K hK
 refine zk ?_;clear hK K
 refine zn ?_
 refine Af h4 ?_;intro K hK
 refine zk ?_;clear hK K
 refine zn ?_
 refine Af h4 ?_;intro K hK
 refine zk ?_;clear hK K
 refine zn ?_
 refine Af h4 ?_;intro K hK
 refine zk ?_;clear hK K
 refine zt ?_
 refine Af (an hvl hu) ?_;intro K hK
 refine zk ?_;clear hK K
 refine zs ?_
 rw[show j.out.length=n by omega]
 (repeat refine W.seq ?_);refine W.block (W.loopS (fun k:Nat=> [(2,.ptr 0 0 0),(3,.ptr 1 0 0),(4,.ptr 2 0 0),(5,.int .i64 u),(7,.int .i64 k)]) (fun k=> [.live 0 (Ba false g),.live 0 [.int .i64 4,.int .i64 j.a,.int .i64 ((v:Int)+1),.bool j.move,.tok 3 (((g.out[u].take k).foldl (Bj u) (j.out,j.list)).2.length-j.list.length) 1 0 ((g.out[u].take k).foldl (Bj u) (j.out,j.list)).2.length,.tok 4 0 1 0 n],.live 0 [.int .i64 0,.int .i64 0,.int .i64 0,.bool false,.own 1 0 [],.own 1 0 []],.live (((g.out[u].take k).foldl (Bj u) (j.out,j.list)).2.length-j.list.length) (Ae ((g.out[u].take k).foldl (Bj u) (j.out,j.list)).2),.live 0 (Ae ((g.out[u].take k).foldl (Bj u) (j.out,j.list)).1)]) (fun k=>g.out[u].length-k) (fun k=>k<=g.out[u].length) 0 ?_ (by simp) ?_)
 .have e:((g.out[u].take 0).foldl (Bj u) (j.out,j.list))=(j.out,j.list):=rfl
  rw[e]
  simp only[Nat.sub_self]
  exact Wk.fr (by simp[Ad])
 intro k hk
 (repeat refine W.seq ?_);refine W.reg 0 rfl fun K hK=>?_;simp -implicitDefEqProofs (maxSteps:=999999) (disch:=omega) [hul]
 refine zk ?_;clear hK K
 refine zc ?_ ?_<;>intro h
 .refine W.skip ?_
  have hlt:k<g.out[u].length:=by omega
  have hst:=G8 (Bj (u:Int)) (j.out,j.list) g.out[u] k hlt
  obtain⟨f0,f1,f2,f3,f4,f5⟩:=hf k
  have hw:=hws _ (List.getElem_mem hlt)
  generalize (g.out[u].take k).foldl (Bj u) (j.out,j.list)=s at*
  simp only at f5
  obtain⟨w,hwe⟩:=Int.eq_ofNat_of_zero_le hw.1
  rw[hwe] at hw hst
  have hl1:u<s.1.length:=by omega
  have hl2:w<s.1.length:=by omega
  rw[DF hl1] at f0
  have hub:=f4 _ (List.getElem_mem hl1)
  have hs2:s.2.length<=16:=by omega
  refine zb ?_
  refine Af (an hul (an hlt hwe)) ?_;intro K hK
  refine zk ?_;clear hK K
  by_cases hneg:s.1[w]<0
  .have hps:Bj (u:Int) s w=(s.1.set w (s.1[u]+1),s.2++[(w:Int)]):=by
    simp only[Bj,DF hl1,DF hl2,si]
    rw[if_pos hneg];rfl
   rw[hps] at hst
   refine Af (an hl2 hneg) ?_;intro K hK
   refine zk ?_;clear hK K
   refine zt ?_
   refine Bx (an hl1 hl2) ?_;intro K hK
   refine zk ?_;clear hK K
   rw[DQ]
   refine z1 ?_;intro K hK
   refine⟨by omega,by omega,?_⟩
   refine zk ?_;clear hK K
   refine zs ?_
   refine⟨k+1,by omega,by omega,?_⟩
   rw[hst]
   have hver:(s.2++[(w:Int)]).length-j.list.length=s.2.length-j.list.length+1:=by simp;omega
   have e:Ae s.2++[AV.int .i64 w]=Ae (s.2++[(w:Int)]):=by simp[Ae]
   simp only[hver]
   refine Wk.cutM (k:=5) (by simp[Ad]) ?_ (by simp) (by simp) (by simp) (by simp)
   rw[e]
   simp
  .have hps:Bj (u:Int) s w=s:=by
    simp only[Bj,DF hl2]
    rw[if_neg hneg]
   rw[hps] at hst
   refine Af (an hl2 hneg) ?_;intro K hK
   refine zk ?_;clear hK K
   refine zn ?_
   refine W.skip ?_
   refine zs ?_
   refine⟨k+1,by omega,by omega,?_⟩
   rw[hst]
   exact Wk.fr (by simp[Ad])
 .refine W.exit ?_
  have hk' :k=g.out[u].length:=by omega
  subst hk'
  rw[List.take_length]
  obtain⟨f0,f1,f2,f3,f4,f5⟩:=hf g.out[u].length
  rw[List.take_length] at f1
  generalize g.out[u].foldl (Bj u) (j.out,j.list)=s at*
  refine zs ?_
  refine zr ?_
  exact⟨h4.symm,by omega,by rw[List.take_of_length_le (by omega)]⟩
theorem Xo (g:Gr) (j:Cu) (hg:A3 g) (h:Gl g j) (ho:BY g j=false) (h5:j.kind=5):Aa pg 151 [.agg (Ba false g),.agg (B4 false j)] [] (fun r _=>r= .agg (B4 true (Bc g j))):=by
 obtain⟨n,hn⟩:=Int.eq_ofNat_of_zero_le hg.1
 obtain⟨v,hv⟩:=Int.eq_ofNat_of_zero_le h.a0
 have hn16:n<=16:=by have:=hg.2.1;omega
 have hvn:v<=n:=by have:=h.an;omega
 have hout:g.out.length=n:=by have:=hg.2.2.1;omega
 have hsm:=h.small hg
 have hwl:∀i (hi:i<g.out.length),g.out[i].length<=16:=fun i hi=>by rw[<-BC hi];exact Cp hg _
 have hvl:v<g.out.length:=by
  unfold BY at ho
  simp[h5] at ho
  omega
 obtain⟨c1,c2⟩:=h.c5 h5
 have hlo:j.out.length=n:=by omega
 have hb:AH g j.at_=g.out[v]:=by rw[hv];exact BC hvl
 have hws:∀w∈g.out[v],0<=w/\w<g.n:=fun w hw=>FT hg (v:=j.at_) (by rw[hb];exact hw)
 have hwl2:=hwl v hvl
 have hf:=fun k=>HP (n:=g.n) (v:=(v:Int)) ⟨by omega,by omega⟩ (g.out[v].take k) (j.out,j.move) (fun w hw=>hws w (List.mem_of_mem_take hw)) c1 c2
 refine Aa.start (fn:=Tryz.f151) [.cell 4 53] tk rfl rfl rfl (by kernel_rfl) (Nat.le_of_ble_eq_true rfl) rfl (by kernel_rfl) ?_
 rw[At]
 refine z3 ?_;intro K hK;refine zk ?_;clear hK K
 refine z0 ?_;intro K hK
 refine Ab.eq (Fj j ⟨by omega,by omega⟩) (by simp) (by simp) ?_
 refine zx ?_
 refine zk ?_;clear hK K
 refine Af hv ?_;intro K hK
 refine zk ?_;clear hK K
 refine Af hv ?_;intro K hK
 refine zk ?_;clear hK K
 refine Af h5 ?_;intro K hK
 refine zk ?_;clear hK K
 refine zb ?_
 refine Af h5 ?_;intro K hK
 refine zk ?_;clear hK K
 refine zn ?_
 refine Af h5 ?_;intro K hK
 refine zk ?_;clear hK K
 refine zn ?_
 refine Af h5 ?_;intro K hK
 refine zk ?_;clear hK K
 refine zn ?_
 refine Af h5 ?_;intro K hK
 refine zk ?_;clear hK K
 refine zn ?_
 refine Af h5 ?_;intro K hK
 refine zk ?_;clear hK K
 refine zn ?_
 refine zs ?_
 rw[hlo]
 (repeat refine W.seq ?_);refine W.block (W.loopS (fun k:Nat=> [(2,.ptr 0 0 0),(3,.ptr 1 0 0),(4,.ptr 2 0 0),(5,.int .i64 v),(9,.int .i64 k)]) (fun k=> [.live 0 (Ba false g),.live 0 [.int .i64 5,.int .i64 j.a,.int .i64 ((v:Int)+1),.bool ((g.out[v].take k).foldl (Bv v) (j.out,j.move)).2,.tok 3 0 1 0 j.list.length,.tok 4 0 1 0 n],.live 0 [.int .i64 0,.int .i64 0,.int .i64 0,.bool false,.own 1 0 [],.own 1 0 []],.live 0 (Ae j.list),.live 0 (Ae ((g.out[v].take k).foldl (Bv v) (j.out,j.move)).1)]) (fun k=>g.out[v].length-k) (fun k=>k<=g.out[v].length) 0 (Wk.fr (by simp[Ad])) (by simp) ?_)
 intro k hk
 (repeat refine W.seq ?_);refine W.reg 0 rfl fun K hK=>?_;simp -implicitDefEqProofs (maxSteps:=999999) (disch:=omega) [hvl]
 refine zk ?_;clear hK K
 refine zc ?_ ?_<;>intro h
 .refine W.skip ?_
  have hlt:k<g.out[v].length:=by omega
  have hst:=G8 (Bv (v:Int)) (j.out,j.move) g.out[v] k hlt
  obtain⟨f1,f2,_⟩:=hf k
  have hw:=hws _ (List.getElem_mem hlt)
  generalize (g.out[v].take k).foldl (Bv v) (j.out,j.move)=s at*
  obtain⟨w,hwe⟩:=Int.eq_ofNat_of_zero_le hw.1
  rw[hwe] at hst hw
  have hl1:v<s.1.length:=by omega
  have hl2:w<s.1.length:=by omega
  have hmin:min s.1[v] s.1[w]=if s.1[w]<s.1[v] then s.1[w] else s.1[v]:=by split<;>omega
  have hps:Bv (v:Int) s w=((s.1.set v (if s.1[w]<s.1[v] then s.1[w] else s.1[v])).set w (if s.1[w]<s.1[v] then s.1[w] else s.1[v]),s.2||!decide (s.1[v]=s.1[w])):=by
   simp only[Bv,DF hl1,DF hl2,si,hmin];rfl
  rw[hps] at hst
  refine zb ?_
  refine Af (an hvl (an hlt hwe)) ?_;intro K hK
  refine zk ?_;clear hK K
  cases hm:s.2
  all_goals (
   rw[hm] at hst
   refine Bx (an hl1 (an hl2 hm)) ?_;intro K hK
   refine zk ?_;clear hK K
   refine Bx (an hl1 hl2) ?_;intro K hK
   refine zk ?_;clear hK K
   (repeat refine W.seq ?_);refine W.regdX 0 [(70,75),(70,73)] rfl true Cz (by kernel_rfl) fun K hK=>?_;simp -implicitDefEqProofs (maxSteps:=999999) (disch:=omega) [hl1,hl2]
   (repeat refine⟨by first|assumption|omega,?_⟩);refine hK _ _ (by simp(disch:=omega)) ?_;clear hK K
   rw[DQ,DQ]
   refine zs ?_
   refine⟨k+1,by omega,by omega,?_⟩
   rw[hst]
   exact Wk.fr (by simp[Ad]))
 .refine W.exit ?_
  have hk' :k=g.out[v].length:=by omega
  subst hk'
  rw[List.take_length]
  have hvis:Bc g j=(if (v:Int)+1=n/\(g.out[v].foldl (Bv v) (j.out,j.move)).2=true then{j with at_:=0,move:=false,out:=(g.out[v].foldl (Bv v) (j.out,j.move)).1} else{j with at_:=(v:Int)+1,move:=(g.out[v].foldl (Bv v) (j.out,j.move)).2,out:=(g.out[v].foldl (Bv v) (j.out,j.move)).1}):=by
   rw[hv] at hb;simp[Bc,h5,hb,hv,hn]
  have hfin:=(hf g.out[v].length).1
  rw[List.take_length] at hfin
  rw[hvis]
  generalize g.out[v].foldl (Bv v) (j.out,j.move)=s at*
  have hsl:s.1.length=n:=by omega
  by_cases hvn1:(v:Int)+1=n
  .have hge:(n:Int)<=(v:Int)+1:=by omega
   cases hm:s.2
   .refine Af (an hge (an hn hm)) ?_;intro K hK
    refine zk ?_;clear hK K
    refine zn ?_
    refine W.skip ?_
    refine zs ?_
    refine zr ?_
    first|exact⟨h5.symm,hsl.symm,by rw[List.take_of_length_le (by omega)]⟩ | (simp[hvn1,h5,hsl];rw[List.take_of_length_le (by omega)])
   .refine Af (an hge (an hn hm)) ?_;intro K hK
    refine zk ?_;clear hK K
    refine zt ?_
    refine zs ?_
    refine zs ?_
    refine zr ?_
    first|exact⟨h5.symm,hsl.symm,by rw[List.take_of_length_le (by omega)]⟩ | (simp[hvn1,h5,hsl];rw[List.take_of_length_le (by omega)])
  .have hge:¬(n:Int)<=(v:Int)+1:=by omega
   refine Af (an hge hn) ?_;intro K hK
   refine zk ?_;clear hK K
   refine zn ?_
   refine W.skip ?_
   refine zs ?_
   refine zr ?_
   first|exact⟨h5.symm,hsl.symm,by rw[List.take_of_length_le (by omega)]⟩ | (simp[hvn1,h5,hsl];rw[List.take_of_length_le (by omega)])
theorem U9 (g:Gr) (j:Cu) (hg:A3 g) (h:Gl g j) (ho:BY g j=false):Aa pg 151 [.agg (Ba false g),.agg (B4 false j)] [] (fun r _=>r= .agg (B4 true (Bc g j))):=by
 have hk1:=h.k1
 have hk2:=h.k2
 have:j.kind=1\/j.kind=2\/j.kind=3\/j.kind=4\/j.kind=5\/j.kind=6:=by omega
 rcases this with e|e|e|e|e|e
 .exact Xj g j hg h ho e
 .exact Xk g j hg h ho e
 .exact Xl g j hg h ho e
 .exact Xn g j hg h ho e
 .exact Xo g j hg h ho e
 .exact Xm g j hg h ho e
theorem Xp (g:Gr) (j:Cu):(Bc g j).a=j.a:=by
 unfold Bc
 split
 .rfl
 split
 .rfl
 split
 .rfl
 split
 .rfl
 split
 .simp only;split<;>rfl
 .rfl
theorem QY (g:Gr) (j:Cu):∀(k:Nat) (x:Cu),x.a≠j.a->GM g j k x=false
 |0,_,_=>rfl
 |k+1,x,h=>by
  simp only[GM]
  rw[if_neg (fun e=>h (by rw[e]))]
  split
  .rfl
  .exact QY g j k _ (by rw[Xp];exact h)
theorem Tg (g:Gr) (j:Cu) (hg:A3 g) (hj:MW j):Aa pg 111 [.agg (Ba false g),.agg (B4 false j)] [] (fun r _=>r= .bool (Du g j)):=by
 have hn:=hg.2.1
 have hn0:=hg.1
 have spM:=Zy g j.kind j.a (by omega)
 have spN:=LL j.kind
 obtain⟨hj1,hj2⟩:=hj
 refine Aa.start (fn:=Tryz.f111) [.tmp 4] tk rfl rfl rfl (by kernel_rfl) (Nat.le_of_ble_eq_true rfl) rfl (by kernel_rfl) ?_
 rw[At]
 refine z2 ?_;intro K hK;refine zk ?_;clear hK K
 by_cases hk:DK g j.kind j.a=0
 rotate_left
 .refine z0 ?_;intro K hK
  refine Ab.eq spM (by simp) (by simp) ?_
  refine AX hk ?_
  refine zk ?_;clear hK K
  refine zt ?_
  refine zs ?_
  refine zr ?_
  simp[Du,hk]
 rw[hk] at spM
 by_cases hna:named j.kind=false/\j.a≠0
 .have hfalse:Du g j=false:=by
   rw[Lv,decide_eq_true hk,Bool.true_and]
   unfold E2
   exact QY g j _ _ (by simp only[CC,hna.1,Bool.false_eq_true,if_false];exact fun e=>hna.2 e.symm)
  rw[hfalse]
  rw[hna.1] at spN
  have h2:=hna.2
  refine z0 ?_;intro K hK
  refine Ab.eq spM (by simp) (by simp) ?_
  refine zx ?_
  refine Ab.eq spN (by simp) (by simp) ?_
  refine AX h2 ?_
  refine zk ?_;clear hK K
  refine zt ?_
  refine zs ?_
  exact zR
 have hb:=O0 hg hk
 have hx0:Du g j=E2 g j (CC g j.kind j.a):=by rw[Lv,decide_eq_true hk,Bool.true_and]
 have spB:=U8 g j.kind j.a hg hk
 rw[hx0]
 obtain⟨x0,hxd⟩:∃x0,x0=CC g j.kind j.a:=⟨_,rfl⟩
 rw[<-hxd] at hb spB |-
 have hsm:=hb.small hg
 (repeat refine W.seq ?_);refine W.midS (fun _:Unit=> [(2,.ptr 0 0 0),(3,.ptr 1 0 0),(23,.bool false)]) (fun _=> [.live 0 (Ba false g),.live 0 (B4 false j)]) (fun _=>True) ?_ ?_
 .cases hnm:named j.kind
  .rw[hnm] at spN
   have h0:(j.a=0)=True:=eq_true (Classical.byContradiction fun h=>hna ⟨hnm,h⟩)
   refine z0 ?_;intro K hK
   refine Ab.eq spM (by simp) (by simp) ?_
   refine zx ?_
   refine Ab.eq spN (by simp) (by simp) ?_
   refine AX h0 ?_
   refine zk ?_;clear hK K
   exact⟨(),trivial,Wk.fr (by simp[Ad])⟩
  .rw[hnm] at spN
   refine z0 ?_;intro K hK
   refine Ab.eq spM (by simp) (by simp) ?_
   refine zx ?_
   refine Ab.eq spN (by simp) (by simp) ?_
   refine zx ?_
   refine zk ?_;clear hK K
   exact⟨(),trivial,Wk.fr (by simp[Ad])⟩
 rintro _ _
 refine zn ?_
 refine W.skip ?_
 refine z1 ?_;intro K hK
 refine Ab.eq spB (by simp) (by simp) ?_
 refine zx ?_
 refine zk ?_;clear hK K
 refine W.weak (Wk.intern (B:=2) (v:=0) (j:=4) (T:=3) (u:=0) (s:=1) (off:=0) (n:=x0.list.length) (xs:=Ae x0.list) (by rfl) (by rfl) (by rfl) (by simp) (by simp) (by simp)) ?_
 refine W.weak (Wk.intern (B:=2) (v:=0) (j:=5) (T:=4) (u:=0) (s:=1) (off:=0) (n:=x0.out.length) (xs:=Ae x0.out) (by rfl) (by rfl) (by rfl) (by simp) (by simp) (by simp)) ?_
 (repeat refine W.seq ?_);refine W.block (W.loopS (fun x:Cu=> [(2,.ptr 0 0 0),(3,.ptr 1 0 0),(5,.ptr 2 0 0)]) (fun x=> [.live 0 (Ba false g),.live 0 (B4 false j),.live 0 (B4 true x)]) (fun x=>FK g x) (fun x=>Gl g x/\E2 g j x=E2 g j x0) x0 (Wk.cutM (k:=3) (by simp[Ad]) (by simp) (by simp) (by simp) (by simp) (by simp)) ⟨hb,rfl⟩ ?_)
 rintro x ⟨hx,hxj⟩
 refine W.weak (Wk.thaw (B:=2) (v:=0) (j:=4) (s:=1) (n:=x.list.length) (xs:=Ae x.list) (by rfl) (by rfl)) ?_
 refine W.weak (Wk.thaw (B:=2) (v:=0) (j:=5) (s:=1) (n:=x.out.length) (xs:=Ae x.out) (by rfl) (by rfl)) ?_
 have hsx:=hx.small hg
 have spE:=Hj x j ⟨by omega,by omega⟩
 by_cases e:x=j
 .rw[decide_eq_true e] at spE
  refine z0 ?_;intro K hK
  refine Ab.eq spE (by simp) (by simp) ?_
  refine zx ?_
  refine zk ?_;clear hK K
  refine zn ?_
  refine W.exit ?_
  refine zs ?_
  refine zr ?_
  rw[<-hxj,QW e]
 .rw[decide_eq_false e] at spE
  refine z0 ?_;intro K hK
  refine Ab.eq spE (by simp) (by simp) ?_
  refine zx ?_
  refine zk ?_;clear hK K
  refine zt ?_
  refine W.skip ?_
  refine zb ?_
  have spO:=Nu g x (by omega)
  cases ho:BY g x
  .rw[ho] at spO
   refine z0 ?_;intro K hK
   refine Ab.eq spO (by simp) (by simp) ?_
   refine zx ?_
   refine zk ?_;clear hK K
   refine zn ?_
   refine W.skip ?_
   have spV:=U9 g x hg hx ho
   obtain⟨h1,h2⟩:=IR hg hx ho
   have hjx:=QX hg hx e ho
   obtain⟨y,hy⟩:∃y,y=Bc g x:=⟨_,rfl⟩
   rw[<-hy] at spV h1 h2 hjx
   refine z0 ?_;intro K hK
   refine Ab.eq spV (by simp) (by simp) ?_
   refine zx ?_
   refine zk ?_;clear hK K
   refine⟨y,h2,⟨h1,by rw[<-hjx];exact hxj⟩,?_⟩
   refine Wk.trans (Wk.intern (B:=2) (v:=0) (j:=4) (T:=5) (u:=0) (s:=1) (off:=0) (n:=y.list.length) (xs:=Ae y.list) (by rfl) (by rfl) (by rfl) (by simp) (by simp) (by simp)) ?_
   refine Wk.trans (Wk.intern (B:=2) (v:=0) (j:=5) (T:=6) (u:=0) (s:=1) (off:=0) (n:=y.out.length) (xs:=Ae y.out) (by rfl) (by rfl) (by rfl) (by simp) (by simp) (by simp)) ?_
   exact Wk.cutM (k:=3) (by simp[Ad]) (by simp) (by simp) (by simp) (by simp) (by simp)
  .rw[ho] at spO
   refine z0 ?_;intro K hK
   refine Ab.eq spO (by simp) (by simp) ?_
   refine zx ?_
   refine zk ?_;clear hK K
   refine zt ?_
   refine zs ?_
   refine zr ?_
   rw[<-hxj,NC e ho]
theorem QZ (s:An) (hs:AS s):Aa pg 31 [.agg (Ao false s)] [] (fun r _=>r= .own 4 (Ai s).length (Ac As (Ai s))):=by
 have h1:=hs.1
 refine Aa.start (fn:=Tryz.f31) [.tmp 2] tk rfl rfl rfl (by kernel_rfl) (Nat.le_of_ble_eq_true rfl) rfl (by kernel_rfl) ?_
 rw[Ay]
 refine z1 ?_;intro K hK;refine zk ?_;clear hK K
 refine zs ?_
 refine zs ?_
 (repeat refine W.seq ?_);refine W.block (W.loopS (fun k:Nat=> [(1,.ptr 0 0 0),(3,.tok 1 k 4 0 k),(4,.int .i64 k)]) (fun k=> [.live 0 (Ao false s),.live k (Ac As ((s.vers.take k).map Bm))]) (fun k=>s.vers.length-k) (fun k=>k<=s.vers.length) 0 ((Wk.nil (t:=3) (s:=4) (by simp)).trans (Wk.fr (by simp[Ad]))) (by simp) ?_)
 intro k hk
 refine zs ?_
 refine zc ?_ ?_<;>intro h
 .refine W.skip ?_
  have hlt:k<s.vers.length:=by omega
  have hto:s.vers.take (k+1)=s.vers.take k++[s.vers[k]]:=by rw[List.take_add_one];simp[hlt]
  refine zb ?_
  (repeat refine W.seq ?_);refine W.reg 1 rfl fun K hK=>?_;simp -implicitDefEqProofs (maxSteps:=999999) (disch:=omega) [hlt]
  refine zk ?_;clear hK K
  refine z1 ?_;intro K hK
  refine⟨by omega,by omega,?_⟩
  refine zk ?_;clear hK K
  refine zs ?_
  refine⟨k+1,by omega,by omega,Wk.cutM (k:=2) (by simp[Ad]) ?_ (by simp) (by simp) (by simp) (by simp)⟩
  rw[hto,List.map_append,Ck]
  simp[Ax,Bm]
 .refine W.exit ?_
  have hk' :k=s.vers.length:=by omega
  subst hk'
  refine zs ?_
  refine zr ?_
  refine⟨by simp[Ai],?_⟩
  rw[List.take_of_length_le (by simp),List.take_of_length_le (by simp)]
  rfl
theorem Xq (s:An) (hs:AS s):Aa pg 30 [.agg (Ao false s)] [] (fun r _=>r= .own 2 (Av s).length (Ac AC (Av s))):=by
 have h1:=hs.1
 refine Aa.start (fn:=Tryz.f30) [.tmp 2] tk rfl rfl rfl (by kernel_rfl) (Nat.le_of_ble_eq_true rfl) rfl (by kernel_rfl) ?_
 rw[Ay]
 refine z1 ?_;intro K hK;refine zk ?_;clear hK K
 refine zs ?_
 refine zs ?_
 (repeat refine W.seq ?_);refine W.block (W.loopS (fun k:Nat=> [(1,.ptr 0 0 0),(3,.tok 1 k 2 0 k),(4,.int .i64 k)]) (fun k=> [.live 0 (Ao false s),.live k (Ac AC ((s.vers.take k).map fun v=>(v.at_,Cl v.data)))]) (fun k=>s.vers.length-k) (fun k=>k<=s.vers.length) 0 ((Wk.nil (t:=3) (s:=2) (by simp)).trans (Wk.fr (by simp[Ad]))) (by simp) ?_)
 intro k hk
 refine zs ?_
 refine zc ?_ ?_<;>intro h
 .refine W.skip ?_
  have hlt:k<s.vers.length:=by omega
  have hsz:=hs.2.2 _ (List.getElem_mem hlt)
  have hto:s.vers.take (k+1)=s.vers.take k++[s.vers[k]]:=by rw[List.take_add_one];simp[hlt]
  refine zb ?_
  (repeat refine W.seq ?_);refine W.regd 1 rfl true Cz (by kernel_rfl) fun K hK=>?_;simp -implicitDefEqProofs (maxSteps:=999999) (disch:=omega) [hlt]
  refine Ah.eq (Zd s.vers[k].data hsz) (by simp) (by simp) ?_
  refine zx ?_
  refine⟨by omega,by omega,?_⟩
  refine zk ?_;clear hK K
  refine zs ?_
  refine⟨k+1,by omega,by omega,Wk.cutM (k:=2) (by simp[Ad]) ?_ (by simp) (by simp) (by simp) (by simp)⟩
  rw[hto,List.map_append,Ck]
  simp[Ax,AC]
 .refine W.exit ?_
  have hk' :k=s.vers.length:=by omega
  subst hk'
  (repeat refine W.seq ?_);refine W.reg 0 rfl fun K hK=>?_;simp -implicitDefEqProofs (maxSteps:=999999) (disch:=omega);(repeat refine⟨by first|assumption|omega,?_⟩);refine hK _ _ ?_;clear hK K
  refine W.ret ?_;simp only[CH,Ds,C0];refine CR (d:=0) ?_;simp -implicitDefEqProofs (maxSteps:=999999) (disch:=omega)
  refine⟨by simp[Av],?_⟩
  rw[List.take_of_length_le (by simp),List.take_of_length_le (by simp)]
  rfl
set_option maxHeartbeats 2000000 in
theorem RK (l:List (Int×Int)) (n:Int) (hl:l.length<1000000000):Aa pg 67 [.ro l.length (Ac AC l),.int .i64 n] [] (fun r _=>r= .bool (decide (CL l n))):=by
 have spB:=Fh n 1 100
 refine Aa.start (fn:=Tryz.f67) [.tmp 4] tk rfl rfl rfl (by kernel_rfl) (Nat.le_of_ble_eq_true rfl) rfl (by kernel_rfl) ?_
 rw[At]
 refine zs ?_
 by_cases c1:1<=n/\n<=100
 rotate_left
 .rw[decide_eq_false c1] at spB
  refine z0 ?_;intro K hK
  refine Ab.eq spB (by simp) (by simp) ?_
  refine zx ?_
  refine zk ?_;clear hK K
  refine zt ?_
  refine zs ?_
  refine zr ?_
  exact fun h=>c1 ⟨h.1,h.2.1⟩
 rw[decide_eq_true c1] at spB
 by_cases c2:l.length<=13
 rotate_left
 .have c2' :(13:Int)<(l.length:Int):=by omega
  refine z0 ?_;intro K hK
  refine Ab.eq spB (by simp) (by simp) ?_
  refine AX c2' ?_
  refine zk ?_;clear hK K
  refine zt ?_
  refine zs ?_
  refine zr ?_
  exact fun h=>c2 h.2.2.1
 have c2' :¬(13:Int)<(l.length:Int):=by omega
 refine z0 ?_;intro K hK
 refine Ab.eq spB (by simp) (by simp) ?_
 refine AX c2' ?_
 refine zk ?_;clear hK K
 refine zn ?_
 refine W.skip ?_
 refine zs ?_
 (repeat refine W.seq ?_);refine W.block (W.loopS (fun k:Nat=> [(0,.ro l.length (Ac AC l)),(1,.int .i64 n),(5,.int .i64 k)]) (fun _=> []) (fun k=>l.length-k) (fun k=>k<=l.length/\∀i (h:i<l.length),i<k->(0<=l[i].1/\1<=l[i].2/\l[i].1+l[i].2<=n)/\∀t (ht:t<i),apart l[t] l[i]) 0 (Wk.fr (by simp[Ad])) ⟨by simp,fun i h h2=>by omega⟩ ?_)
 rintro i ⟨hi,hok⟩
 refine zs ?_
 (repeat refine W.seq ?_);refine W.condK fun K1 K2 h1 h2=>?_;simp -implicitDefEqProofs (maxSteps:=999999) (disch:=omega) [-and_imp];refine⟨fun h=>h1 ?_,fun h=>h2 ?_⟩<;>clear h1 h2 K1 K2
 .refine W.skip ?_
  have hlt:i<l.length:=by omega
  have bad:¬((0<=l[i].1/\1<=l[i].2/\l[i].1+l[i].2<=n)/\∀t (ht:t<i),apart l[t] l[i])->¬CL l n:=fun g w=>g ⟨w.2.2.2.1 _ (List.getElem_mem hlt),fun t ht=>List.pairwise_iff_getElem.1 w.2.2.2.2 t i (by omega) hlt ht⟩
  refine zb ?_
  (repeat refine W.seq ?_);refine W.midS (fun b:Bool=> [(0,.ro l.length (Ac AC l)),(1,.int .i64 n),(5,.int .i64 i),(58,.bool b)]) (fun _=> []) (fun b=>b=false↔(0<=l[i].1/\1<=l[i].2/\l[i].1+l[i].2<=n)) ?_ ?_
  .by_cases d1:l[i].1<0
   . (repeat refine W.seq ?_);refine W.regd 0 rfl true Cz (by kernel_rfl) fun K hK=>?_;simp -implicitDefEqProofs (maxSteps:=999999) (disch:=omega) [AC,hlt,d1]
     refine zk ?_;clear hK K
     exact⟨true,by simp;omega,Wk.fr (by simp[Ad])⟩
   by_cases d2:l[i].2<1
   . (repeat refine W.seq ?_);refine W.regd 0 rfl true Cz (by kernel_rfl) fun K hK=>?_;simp -implicitDefEqProofs (maxSteps:=999999) (disch:=omega) [AC,hlt,d1,d2]
     refine zk ?_;clear hK K
     exact⟨true,by simp;omega,Wk.fr (by simp[Ad])⟩
   by_cases d3:n<l[i].1
   . (repeat refine W.seq ?_);refine W.regd 0 rfl true Cz (by kernel_rfl) fun K hK=>?_;simp -implicitDefEqProofs (maxSteps:=999999) (disch:=omega) [AC,hlt,d1,d2,d3]
     refine zk ?_;clear hK K
     exact⟨true,by simp;omega,Wk.fr (by simp[Ad])⟩
   by_cases d4:n-l[i].1<l[i].2
   . (repeat refine W.seq ?_);refine W.regd 0 rfl true Cz (by kernel_rfl) fun K hK=>?_;simp -implicitDefEqProofs (maxSteps:=999999) (disch:=omega) [AC,hlt,d1,d2,d3,d4]
     refine zk ?_;clear hK K
     exact⟨true,by simp;omega,Wk.fr (by simp[Ad])⟩
   . (repeat refine W.seq ?_);refine W.regd 0 rfl true Cz (by kernel_rfl) fun K hK=>?_;simp -implicitDefEqProofs (maxSteps:=999999) (disch:=omega) [AC,hlt,d1,d2,d3,d4]
     refine zk ?_;clear hK K
     exact⟨false,by simp;omega,Wk.fr (by simp[Ad])⟩
  .intro b hb
   cases b
   rotate_left
   .refine zt ?_
    refine zs ?_
    refine W.ret ?_;simp only[CH,Ds,C0];refine CR (d:=0) ?_;simp -implicitDefEqProofs (maxSteps:=999999) (disch:=omega)
    exact bad (fun g=>by have:=hb.2 g.1;simp at this)
   .have hr:=hb.1 rfl
    refine zn ?_
    refine W.skip ?_
    refine zs ?_
    (repeat refine W.seq ?_);refine W.block (W.loopS (fun k:Nat=> [(0,.ro l.length (Ac AC l)),(1,.int .i64 n),(5,.int .i64 i),(6,.int .i64 k)]) (fun _=> []) (fun k=>i-k) (fun k=>k<=i/\∀t (ht:t<i),t<k->apart l[t] l[i]) 0 (Wk.fr (by simp[Ad])) ⟨by simp,fun t ht h2=>by omega⟩ ?_)
    rintro k ⟨hk,hap⟩
    refine zs ?_
    refine zc ?_ ?_<;>intro h
    .refine W.skip ?_
     have hki:k<i:=by omega
     have hkl:k<l.length:=by omega
     have hrk:=(hok k hkl hki).1
     refine zb ?_
     by_cases e1:l[i].1<l[k].1+l[k].2
     .by_cases e2:l[k].1<l[i].1+l[i].2
      . (repeat refine W.seq ?_);refine W.regd 0 rfl true Cz (by kernel_rfl) fun K hK=>?_;simp -implicitDefEqProofs (maxSteps:=999999) (disch:=omega) [AC,hlt,hkl,e1,e2]
        refine zk ?_;clear hK K
        refine zt ?_
        refine zs ?_
        refine zr ?_
        refine bad (fun g=>?_)
        have:=g.2 k hki
        simp only[apart] at this
        omega
      . (repeat refine W.seq ?_);refine W.regd 0 rfl true Cz (by kernel_rfl) fun K hK=>?_;simp -implicitDefEqProofs (maxSteps:=999999) (disch:=omega) [AC,hlt,hkl,e1,e2]
        refine zk ?_;clear hK K
        refine zn ?_
        refine W.skip ?_
        refine zs ?_
        refine⟨k+1,by omega,⟨by omega,fun t ht h2=>?_⟩,Wk.fr (by simp[Ad])⟩
        by_cases e:t=k
        .subst e;simp only[apart];omega
        .exact hap t ht (by omega)
     . (repeat refine W.seq ?_);refine W.regd 0 rfl true Cz (by kernel_rfl) fun K hK=>?_;simp -implicitDefEqProofs (maxSteps:=999999) (disch:=omega) [AC,hlt,hkl,e1]
       refine zk ?_;clear hK K
       refine zn ?_
       refine W.skip ?_
       refine zs ?_
       refine⟨k+1,by omega,⟨by omega,fun t ht h2=>?_⟩,Wk.fr (by simp[Ad])⟩
       by_cases e:t=k
       .subst e;simp only[apart];omega
       .exact hap t ht (by omega)
    .refine W.exit ?_
     have hk' :k=i:=by omega
     subst hk'
     refine zs ?_
     refine⟨k+1,by omega,⟨by omega,fun t ht h2=>?_⟩,Wk.fr (by simp[Ad])⟩
     by_cases e:t=k
     .subst e;exact⟨hr,fun u hu=>hap u hu hu⟩
     .exact hok t ht (by omega)
 .refine W.exit ?_
  refine zs ?_
  refine zr ?_
  refine⟨c1.1,c1.2,c2,fun x hx=>?_,?_⟩
  .obtain⟨t,ht,rfl⟩:=List.mem_iff_getElem.1 hx
   exact(hok t ht (by omega)).1
  .rw[List.pairwise_iff_getElem]
   intro a b ha hb hab
   exact(hok b hb (by omega)).2 a hab
end Go.Abs
