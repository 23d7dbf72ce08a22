/- References: how deep an object is; its graph. -/
import Derived.Test.YtoklapibcmnaeaaGreatP11
set_option linter.unusedVariables false
set_option linter.unusedSimpArgs false
set_option maxRecDepth 100000
namespace Go.Abs
open Go.Proofs
theorem LN (l:List Obj):∀(k:Nat) (id:Int),(Bb l (k+1) id).length≤k→Bb l (k+1) id=Bb l k id
 |0,id,h=>by
  have:Bb l (0+1) id=[]:=List.eq_nil_of_length_eq_zero (by omega)
  rw[this];rfl
 |k+1,id,h=>by
  rw[Bb] at h ⊢
  conv=>rhs;rw[Bb]
  by_cases h0:id=0
  .rw[if_pos h0,if_pos h0]
  .rw[if_neg h0] at h ⊢
   rw[if_neg h0]
   cases hf:C8 l id with
   |none=>rfl
   |some o=>
    rw[hf] at h
    simp only at h ⊢
    rw[LN l k o.base (by simpa using h)]
theorem Sh (l:List Obj) (id:Int) (hl:D4 l) (hm:CQ l):Aa pg 89 [.ro l.length (Af Av l),.int .i64 id] [] (fun r _=>r= .tup [.int .i64 (CI l id).1,.int .i64 (CI l id).2]):=by
 have hl12:=hm.1
 have spA:=Lt l id (by omega)
 refine Aa.start (fn:=Tryz.f89) [.tmp 4,.tmp 5] tk rfl rfl rfl (by kernel_rfl) (Nat.le_of_ble_eq_true rfl) rfl (by kernel_rfl) ?_
 rw[Am]
 refine zs ?_
 cases hf:C8 l id with
 |none=>
  rw[J1 hf] at spA
  refine z0 ?_;intro K hK
  refine Ab.eq spA (by simp) (by simp) ?_
  refine zx ?_
  refine zk ?_;clear hK K
  refine zt ?_
  refine zs ?_
  refine zr ?_
  simp[CI,hf]
 |some o=>
  obtain⟨k,hk,hi,ho,B2⟩:=Eh hf
  rw[hi] at spA
  have hde:CI l id=if 3<(Bb l 4 id).length then(0,2) else(((Bb l 4 id).length:Int),0):=by simp only[CI,hf]
  rw[hde]
  have hneg:¬(k:Int)<0:=by omega
  refine z0 ?_;intro K hK
  refine Ab.eq spA (by simp) (by simp) ?_
  refine AM hneg ?_
  refine zk ?_;clear hK K
  refine zn ?_
  refine W.skip ?_
  refine zs ?_
  (repeat refine W.seq ?_);refine W.block (W.loopS (fun s:Nat×Int=> [(0,.ro l.length (Af Av l)),(1,.int .i64 s.2),(6,.int .i64 s.1)]) (fun _=> []) (fun s=>4-s.1) (fun s=>s.1≤3∧(Bb l 4 id).length=s.1+(Bb l (4-s.1) s.2).length∧(s.2=0∨∃q∈l,q.id=s.2)) (0,id) (Wk.fr (by simp[Ac])) ⟨by simp,by simp,.inr ⟨o,Dz hf,B2⟩⟩ ?_)
  rintro⟨n,j⟩ ⟨hn,hw,hj⟩
  simp only at hn hw hj
  by_cases h0:j=0
  .refine Ae h0 ?_;intro K hK
   refine zk ?_;clear hK K
   refine zn ?_
   refine W.exit ?_
   have hwl:(Bb l 4 id).length=n:=by
    rw[hw]
    obtain⟨m,hm'⟩:∃m,4-n=m+1:=⟨3-n,by omega⟩
    rw[hm',Bb,if_pos h0];rfl
   refine zs ?_
   refine zr ?_
   rw[if_neg (by omega),hwl]
   simp
  .obtain⟨p,hp⟩:=HF (hj.resolve_left h0)
   obtain⟨z,hz,hiz,hpz,hpid⟩:=Eh hp
   have hpm:=Dz hp
   have spJ:=Lt l j (by omega)
   rw[hiz] at spJ
   obtain⟨m,hm'⟩:∃m,4-n=m+1:=⟨3-n,by omega⟩
   have hwj:Bb l (4-n) j=p::Bb l m p.base:=by rw[hm',Bb,if_neg h0,hp]
   rw[hwj,List.length_cons] at hw
   refine Ae h0 ?_;intro K hK
   refine zk ?_;clear hK K
   refine zt ?_
   refine W.skip ?_
   refine zb ?_
   refine zs ?_
   by_cases h3:n=3
   .have h3' :(3:Int)<(n:Int)+1:=by omega
    refine Ae h3' ?_;intro K hK
    refine zk ?_;clear hK K
    refine zt ?_
    refine zs ?_
    refine zr ?_
    rw[if_pos (by omega)]
    simp
   .have h3' :¬(3:Int)<(n:Int)+1:=by omega
    refine Ae h3' ?_;intro K hK
    refine zk ?_;clear hK K
    refine zn ?_
    refine W.skip ?_
    refine z0 ?_;intro K hK
    refine Ab.eq spJ (by simp) (by simp) ?_
    refine AM (an hz hpz) ?_
    refine zk ?_;clear hK K
    refine⟨(n+1,p.base),by simp only;omega,⟨by simp only;omega,by simp only;rw[show 4-(n+1)=m by omega];omega,?_⟩,Wk.fr (by simp[Ac])⟩
    have:=(hm.2.1 p hpm).2.2.2.2
    exact this
theorem LO (l:List Obj):∀(k:Nat) (id:Int),(Bb l k id).length<k→Bb l (k+1) id=Bb l k id
 |0,id,h=>by simp[Bb] at h
 |k+1,id,h=>by
  rw[Bb] at h
  rw[Bb]
  conv=>rhs;rw[Bb]
  by_cases h0:id=0
  .rw[if_pos h0,if_pos h0]
  .rw[if_neg h0] at h ⊢
   rw[if_neg h0]
   cases hf:C8 l id with
   |none=>rfl
   |some o=>
    rw[hf] at h
    simp only at h ⊢
    rw[LO l k o.base (by simpa using h)]
theorem Ul {l:List Obj} (hm:CQ l) {id:Int} {o:Obj} (h:C8 l id=some o):id≠0:=by
 obtain⟨k,hk,_,ho,B2⟩:=Eh h
 have:=(hm.2.1 o (Dz h)).1
 omega
theorem Qg {l:List Obj} (hm:CQ l) {id:Int} {o:Obj} (h:C8 l id=some o) (hd:(CI l id).2=0):
 (o.base=0→By l id=match Cj (Ao o.data) with|some g=>(g,0) |none=>(Au,9))∧
 (o.base≠0→(Bb l 4 o.base).length<(Bb l 4 id).length∧By l id=if (By l o.base).2≠0 then(Au,(By l o.base).2) else match Ck (By l o.base).1 (Ao o.data) with|some g=>(g,0) |none=>(Au,9)):=by
 have B2:=Ul hm h
 have hw:∀k,Bb l (k+1) id=o::Bb l k o.base:=fun k=>by rw[Bb,if_neg B2,h]
 have hlen:(Bb l 4 id).length≤3:=by
  simp only[CI,h] at hd
  split at hd
  .simp at hd
  .omega
 have hof:By l id=match C9 Cj Ck (Bb l 3 id) with|some g=>(g,0) |none=>(Au,9):=by
  simp[By,hd];rfl
 rw[hw] at hlen
 simp only[List.length_cons] at hlen
 constructor
 .intro hb
  rw[hof,hw,C9,if_pos hb]
 .intro hb
  obtain⟨q,hq⟩:=HF ((hm.2.1 o (Dz h)).2.2.2.2.resolve_left hb)
  have e1:=LO l 3 o.base (by omega)
  have e2:=LN l 2 o.base (by show(Bb l 3 o.base).length≤2;omega)
  refine⟨by rw[e1,hw];simp,?_⟩
  have hdb:(CI l o.base).2=0:=by
   simp only[CI,hq]
   rw[if_neg (by rw[e1];omega)]
  have hofb:By l o.base=match C9 Cj Ck (Bb l 3 o.base) with|some g=>(g,0) |none=>(Au,9):=by
   simp[By,hdb];rfl
  rw[hof,hw,C9,if_neg hb,hofb,e2]
  cases C9 Cj Ck (Bb l 2 o.base) with
  |none=>simp
  |some a=>simp
theorem O7 (l:List Obj) (hl:D4 l) (hm:CQ l):∀(m:Nat) (id:Int),(Bb l 4 id).length<m→Aa pg 68 [.ro l.length (Af Av l),.int .i64 id] [] (fun r _=>r= .tup [.agg (AQ true (By l id).1),.int .i64 (By l id).2]):=by
 intro m
 induction m with
 |zero=>
  intro id hw
  omega
 |succ m ih=>
  intro id hw
  have hl12:=hm.1
  have spD:=Sh l id hl hm
  refine Aa.start (fn:=Tryz.f68) [.cell 4 51,.tmp 5] tk rfl rfl rfl (by kernel_rfl) (Nat.le_of_ble_eq_true rfl) rfl (by kernel_rfl) ?_
  rw[Am]
  refine z1 ?_;intro K hK;refine zk ?_;clear hK K
  by_cases hd:(CI l id).2=0
  rotate_left
  .obtain⟨d,hdd⟩:∃d,d=CI l id:=⟨_,rfl⟩
   have hof:By l id=(Au,d.2):=by rw[hdd];simp[By,hd]
   rw[hof]
   rw[←hdd] at spD hd
   refine z0 ?_;intro K hK
   refine Ab.eq spD (by simp) (by simp) ?_
   refine zx ?_
   refine zk ?_;clear hK K
   refine Ae hd ?_;intro K hK
   refine zk ?_;clear hK K
   refine zt ?_
   refine zs ?_
   refine W.weak (Wk.thaw (B:=0) (v:=0) (j:=1) (s:=1) (n:=0) (cs:=[.int .i64 0,.own 1 0 []]) (xs:=[]) (by rfl) (by rfl)) ?_
   refine zr ?_
   simp[Au]
  obtain⟨o,hf⟩:∃o,C8 l id=some o:=by
   cases hf:C8 l id with
   |some o=>exact⟨o,rfl⟩
   |none=>simp[CI,hf] at hd
  obtain⟨k,hk,hi,ho,B2⟩:=Eh hf
  have hom:=Dz hf
  have hbo:=(hm.2.1 o hom).2.2.1
  have hsz:=hl.2 o hom
  have spA:=Lt l id (by omega)
  rw[hi] at spA
  obtain⟨st1,st2⟩:=Qg hm hf hd
  obtain⟨d1,hd1⟩:∃d1,d1=(CI l id).1:=⟨_,rfl⟩
  rw[←hd1,hd] at spD
  have spO:=Va o.data hbo.1 (by have:=hbo.2.2.1;omega) hsz
  obtain⟨bs,hbs⟩:∃bs,bs=Ao o.data:=⟨_,rfl⟩
  rw[←hbs] at spO st1 st2
  have hbl:bs.length<1000000000:=by
   have:=BT o.data
   have:=hbo.2.1
   rw[hbs];omega
  refine z0 ?_;intro K hK
  refine Ab.eq spD (by simp) (by simp) ?_
  refine zx ?_
  refine zk ?_;clear hK K
  refine zs ?_
  refine zn ?_
  refine W.skip ?_
  refine z1 ?_;intro K hK
  refine Ab.eq spA (by simp) (by simp) ?_
  refine AM (an hk ho) ?_
  refine zk ?_;clear hK K
  refine z0 ?_;intro K hK
  refine Ab.eq spO (by simp) (by simp) ?_
  refine zx ?_
  refine zk ?_;clear hK K
  refine z1 ?_;intro K hK;refine zk ?_;clear hK K
  refine zs ?_
  by_cases hb:o.base=0
  .refine Ae hb ?_;intro K hK
   refine zk ?_;clear hK K
   refine zt ?_
   have spF:=MT bs hbl
   rw[MP] at spF
   rw[st1 hb]
   cases hfr:Cj bs with
   |none=>
    rw[hfr] at spF
    simp only[EV] at spF
    refine z0 ?_;intro K hK
    refine Ab.eq spF (by simp) (by simp[Au]) ?_
    refine zx ?_
    refine zk ?_;clear hK K
    refine zs ?_
    refine zt ?_
    refine zs ?_
    refine W.weak (Wk.thaw (B:=0) (v:=0) (j:=1) (s:=1) (n:=0) (cs:=[.int .i64 0,.own 1 0 []]) (xs:=[]) (by rfl) (by rfl)) ?_
    refine zr ?_
    simp[Au]
   |some g=>
    rw[hfr] at spF
    simp only[EV] at spF
    refine z0 ?_;intro K hK
    refine Ab.eq spF (by simp) (by simp) ?_
    refine zx ?_
    refine zk ?_;clear hK K
    refine zs ?_
    refine zn ?_
    refine W.skip ?_
    refine zs ?_
    exact zR
  .obtain⟨st3,st4⟩:=st2 hb
   have spR:=ih o.base (by omega)
   rw[st4]
   have hma:=FP l o.base
   obtain⟨a,ha⟩:∃a,a=By l o.base:=⟨_,rfl⟩
   rw[←ha] at spR hma ⊢
   refine Ae hb ?_;intro K hK
   refine zk ?_;clear hK K
   refine zn ?_
   by_cases he:a.2=0
   rotate_left
   .refine z1 ?_;intro K hK
    refine Ab.eq spR (by simp) (by simp) ?_
    refine zx ?_
    refine zk ?_;clear hK K
    refine Ae he ?_;intro K hK
    refine zk ?_;clear hK K
    refine zt ?_
    refine zs ?_
    refine W.weak (Wk.thaw (B:=0) (v:=0) (j:=1) (s:=1) (n:=0) (cs:=[.int .i64 0,.own 1 0 []]) (xs:=[]) (by rfl) (by rfl)) ?_
    refine zr ?_
    simp[Au,he]
   rw[he] at spR
   refine z1 ?_;intro K hK
   refine Ab.eq spR (by simp) (by simp) ?_
   refine zx ?_
   refine zk ?_;clear hK K
   refine zs ?_
   refine zn ?_
   refine W.skip ?_
   have spT:=MU a.1 bs hbl hma
   rw[MQ _ _ hma] at spT
   rw[if_neg (by simp[he])]
   cases hfr:Ck a.1 bs with
   |none=>
    rw[hfr] at spT
    simp only[EV] at spT
    refine z0 ?_;intro K hK
    refine Ab.eq spT (by simp) (by simp[Au]) ?_
    refine zx ?_
    refine zk ?_;clear hK K
    refine zs ?_
    refine zt ?_
    refine zs ?_
    refine W.weak (Wk.thaw (B:=0) (v:=0) (j:=1) (s:=1) (n:=0) (cs:=[.int .i64 0,.own 1 0 []]) (xs:=[]) (by rfl) (by rfl)) ?_
    refine zr ?_
    simp[Au]
   |some g=>
    rw[hfr] at spT
    simp only[EV] at spT
    refine z0 ?_;intro K hK
    refine Ab.eq spT (by simp) (by simp) ?_
    refine zx ?_
    refine zk ?_;clear hK K
    refine zs ?_
    refine zn ?_
    refine W.skip ?_
    refine zs ?_
    exact zR
theorem Gl (l:List Obj) (id:Int) (hl:D4 l) (hm:CQ l):Aa pg 68 [.ro l.length (Af Av l),.int .i64 id] [] (fun r _=>r= .tup [.agg (AQ true (By l id).1),.int .i64 (By l id).2]):=O7 l hl hm ((Bb l 4 id).length+1) id (Nat.lt_succ_self _)
end Go.Abs
set_option maxRecDepth 100000
namespace Go.Abs
open Go.Proofs
theorem Um (g:Gr) (k a:Int) (hn:-1000000000≤g.n∧g.n≤1000000000):Aa pg 148 [.agg (AQ false g),.int .i64 k,.int .i64 a] [] (fun r _=>r= .int .i64 (Da g k a)):=by
 have spB:=DA k 1 6
 have spN:=Jj k
 have spM:=HG a (g.n-1)
 refine Aa.start (fn:=Tryz.f148) [.tmp 6] tk rfl rfl rfl (by kernel_rfl) (Nat.le_of_ble_eq_true rfl) rfl (by kernel_rfl) ?_
 rw[Bq]
 refine z1 ?_;intro K hK;refine zk ?_;clear hK K
 by_cases h1:1≤k∧k≤6
 rotate_left
 .rw[decide_eq_false h1] at spB
  refine z0 ?_;intro K hK
  refine Ab.eq spB (by simp) (by simp) ?_
  refine zx ?_
  refine zk ?_;clear hK K
  refine zt ?_
  refine zs ?_
  refine zr ?_
  rw[Da,if_pos h1]
 rw[decide_eq_true h1] at spB
 have e0:Da g k a=if BO k=true∧¬(0≤a∧a<g.n) then 3 else 0:=by rw[Da,if_neg (fun h=>h h1)]
 rw[e0]
 refine z0 ?_;intro K hK
 refine Ab.eq spB (by simp) (by simp) ?_
 refine zx ?_
 refine zk ?_;clear hK K
 refine zn ?_
 refine W.skip ?_
 cases hnm:BO k
 .rw[hnm] at spN
  refine z0 ?_;intro K hK
  refine Ab.eq spN (by simp) (by simp) ?_
  refine zx ?_
  refine zk ?_;clear hK K
  refine zn ?_
  refine W.skip ?_
  refine zs ?_
  exact zR
 .rw[hnm] at spN
  by_cases h2:0≤a∧a<g.n
  .rw[decide_eq_true (show 0≤a∧a≤g.n-1 by omega)] at spM
   refine z0 ?_;intro K hK
   refine Ab.eq spN (by simp) (by simp) ?_
   refine zx ?_
   refine Ab.eq spM (by simp) (by simp) ?_
   refine zx ?_
   refine zk ?_;clear hK K
   refine zn ?_
   refine W.skip ?_
   refine zs ?_
   refine zr ?_
   (try simp[h2]);(try omega)
  .rw[decide_eq_false (show¬(0≤a∧a≤g.n-1) by omega)] at spM
   refine z0 ?_;intro K hK
   refine Ab.eq spN (by simp) (by simp) ?_
   refine zx ?_
   refine Ab.eq spM (by simp) (by simp) ?_
   refine zx ?_
   refine zk ?_;clear hK K
   refine zt ?_
   refine zs ?_
   refine zr ?_
   (try omega)
   (try (intro h3;exact Classical.byContradiction fun h4=>h2 ⟨h3,by omega⟩))
theorem Qh (g:Gr) (k a:Int) (hm:AY g) (hk:Da g k a=0):Aa pg 150 [.agg (AQ false g),.int .i64 k,.int .i64 a] [] (fun r _=>r= .agg (BI true (B0 g k a))):=by
 obtain⟨n,hn⟩:=Int.eq_ofNat_of_zero_le hm.1
 have hn16:n≤16:=by have:=hm.2.1;omega
 have hka:BO k=true→0≤a∧a<g.n:=by
  intro hnm
  unfold Da at hk
  split at hk
  .simp at hk
  .split at hk
   .simp at hk
   .rename_i h;exact Classical.byContradiction fun g=>h ⟨hnm,g⟩
 have spN:=Jj k
 refine Aa.start (fn:=Tryz.f150) [.cell 6 53] tk rfl rfl rfl (by kernel_rfl) (Nat.le_of_ble_eq_true rfl) rfl (by kernel_rfl) ?_
 rw[Bq]
 refine z2 ?_;intro K hK;refine zk ?_;clear hK K
 refine z1 ?_;intro K hK;refine zk ?_;clear hK K
 cases hnm:BO k
 .rw[hnm] at spN
  have h4:¬k=4:=fun e=>by simp[BO,e] at hnm
  refine z0 ?_;intro K hK
  refine Ab.eq spN (by simp) (by simp) ?_
  refine zx ?_
  refine zk ?_;clear hK K
  refine zn ?_
  refine W.skip ?_
  refine zs ?_
  refine W.weak (Wk.thaw (B:=2) (v:=0) (j:=4) (s:=1) (n:=0) (xs:=[]) (by rfl) (by rfl)) ?_
  refine W.weak (Wk.thaw (B:=2) (v:=0) (j:=5) (s:=1) (n:=0) (xs:=[]) (by rfl) (by rfl)) ?_
  rw[hn]
  by_cases h5:k=5
  .rw[show(List.nil:List AV)=Ad (Iu 0) from rfl]
   (repeat refine W.seq ?_);refine W.block (W.loopS (fun i:Nat=> [(1,.int .i64 k),(2,.int .i64 a),(3,.ptr 0 0 0),(6,.ptr 1 0 0),(7,.ptr 2 0 0),(8,.int .i64 i)]) (fun i=> [.live 0 [.int .i64 n,DX false g.out],.live 0 [.int .i64 0,.int .i64 0,.int .i64 0,.bool false,.own 1 0 [],.own 1 0 []],.live 0 [.int .i64 k,.int .i64 0,.int .i64 0,.bool false,.tok 3 0 1 0 0,.tok 4 i 1 0 i],.live 0 [],.live i (Ad (Iu i))]) (fun i=>n-i) (fun i=>i≤n) 0 (Wk.fr (by simp[Ac])) (Nat.zero_le _) ?_)
   intro i hi
   refine zs ?_
   refine zc ?_ ?_<;>intro h
   .refine W.skip ?_
    refine zb ?_
    refine zs ?_
    refine zb ?_
    refine Ae h4 ?_;intro K hK
    refine zk ?_;clear hK K
    refine zn ?_
    refine Ae h5 ?_;intro K hK
    refine zk ?_;clear hK K
    refine zt ?_
    refine z1 ?_;intro K hK
    refine⟨by omega,by omega,?_⟩
    refine zk ?_;clear hK K
    refine zs ?_
    refine⟨i+1,by omega,by omega,Wk.cutM (k:=5) (by simp[Ac];try omega) ?_ (by simp) (by simp) (by simp) (by simp)⟩
    rw[LF]
    simp[Ad]
    (try omega)
   .refine W.exit ?_
    have:i=n:=by omega
    subst this
    refine Ae h4 ?_;intro K hK
    refine zk ?_;clear hK K
    refine zn ?_
    refine W.skip ?_
    refine zs ?_
    refine zr ?_
    simp[B0,hnm,h4,h5,hn]
    exact⟨by simp[BO],by rw[List.take_of_length_le (by simp)]⟩
  .rw[show(List.nil:List AV)=Ad ([]) from rfl]
   (repeat refine W.seq ?_);refine W.block (W.loopS (fun i:Nat=> [(1,.int .i64 k),(2,.int .i64 a),(3,.ptr 0 0 0),(6,.ptr 1 0 0),(7,.ptr 2 0 0),(8,.int .i64 i)]) (fun i=> [.live 0 [.int .i64 n,DX false g.out],.live 0 [.int .i64 0,.int .i64 0,.int .i64 0,.bool false,.own 1 0 [],.own 1 0 []],.live 0 [.int .i64 k,.int .i64 0,.int .i64 0,.bool false,.tok 3 0 1 0 0,.tok 4 0 1 0 0],.live 0 [],.live 0 (Ad ([]))]) (fun i=>n-i) (fun i=>i≤n) 0 (Wk.fr (by simp[Ac])) (Nat.zero_le _) ?_)
   intro i hi
   refine zs ?_
   refine zc ?_ ?_<;>intro h
   .refine W.skip ?_
    refine zb ?_
    refine zs ?_
    refine zb ?_
    refine Ae h4 ?_;intro K hK
    refine zk ?_;clear hK K
    refine zn ?_
    refine Ae h5 ?_;intro K hK
    refine zk ?_;clear hK K
    refine zn ?_
    refine W.skip ?_
    refine zs ?_
    exact⟨i+1,by omega,by omega,Wk.fr (by simp[Ac])⟩
   .refine W.exit ?_
    have:i=n:=by omega
    subst this
    refine Ae h4 ?_;intro K hK
    refine zk ?_;clear hK K
    refine zn ?_
    refine W.skip ?_
    refine zs ?_
    refine zr ?_
    simp[B0,hnm,h4,h5,hn]
 .rw[hnm] at spN
  have ha:=hka hnm
  obtain⟨b,hb⟩:=Int.eq_ofNat_of_zero_le ha.1
  have hbn:b<n:=by omega
  have h5:¬k=5:=fun e=>by simp[BO,e] at hnm
  refine z0 ?_;intro K hK
  refine Ab.eq spN (by simp) (by simp) ?_
  refine zx ?_
  refine zk ?_;clear hK K
  refine zt ?_
  refine zs ?_
  refine zs ?_
  refine W.weak (Wk.thaw (B:=2) (v:=0) (j:=4) (s:=1) (n:=0) (xs:=[]) (by rfl) (by rfl)) ?_
  refine W.weak (Wk.thaw (B:=2) (v:=0) (j:=5) (s:=1) (n:=0) (xs:=[]) (by rfl) (by rfl)) ?_
  rw[hn]
  by_cases h4:k=4
  .rw[show(List.nil:List AV)=Ad (List.replicate 0 (-1)) from rfl]
   (repeat refine W.seq ?_);refine W.block (W.loopS (fun i:Nat=> [(1,.int .i64 k),(2,.int .i64 a),(3,.ptr 0 0 0),(6,.ptr 1 0 0),(7,.ptr 2 0 0),(8,.int .i64 i)]) (fun i=> [.live 0 [.int .i64 n,DX false g.out],.live 0 [.int .i64 0,.int .i64 0,.int .i64 0,.bool false,.own 1 0 [],.own 1 0 []],.live 0 [.int .i64 k,.int .i64 a,.int .i64 0,.bool false,.tok 3 0 1 0 0,.tok 4 i 1 0 i],.live 0 [],.live i (Ad (List.replicate i (-1)))]) (fun i=>n-i) (fun i=>i≤n) 0 (Wk.fr (by simp[Ac])) (Nat.zero_le _) ?_)
   intro i hi
   refine zs ?_
   refine zc ?_ ?_<;>intro h
   .refine W.skip ?_
    refine zb ?_
    refine zs ?_
    refine zb ?_
    refine Ae h4 ?_;intro K hK
    refine zk ?_;clear hK K
    refine zt ?_
    refine z1 ?_;intro K hK
    refine⟨by omega,by omega,?_⟩
    refine zk ?_;clear hK K
    refine zs ?_
    refine⟨i+1,by omega,by omega,Wk.cutM (k:=5) (by simp[Ac];try omega) ?_ (by simp) (by simp) (by simp) (by simp)⟩
    rw[List.replicate_succ']
    simp[Ad]
    (try omega)
   .refine W.exit ?_
    have:i=n:=by omega
    subst this
    refine Ae h4 ?_;intro K hK
    refine zk ?_;clear hK K
    refine zt ?_
    refine Ae (an hbn hb) ?_;intro K hK
    refine⟨by omega,?_⟩
    rw[CX]
    refine zk ?_;clear hK K
    refine z1 ?_;intro K hK
    refine zk ?_;clear hK K
    refine zs ?_
    refine zr ?_
    simp[B0,hnm,h4,hn,si,hb]
    exact⟨by simp[BO],by simp[Ad],by rw[List.take_of_length_le (by simp)]⟩
  .rw[show(List.nil:List AV)=Ad ([]) from rfl]
   (repeat refine W.seq ?_);refine W.block (W.loopS (fun i:Nat=> [(1,.int .i64 k),(2,.int .i64 a),(3,.ptr 0 0 0),(6,.ptr 1 0 0),(7,.ptr 2 0 0),(8,.int .i64 i)]) (fun i=> [.live 0 [.int .i64 n,DX false g.out],.live 0 [.int .i64 0,.int .i64 0,.int .i64 0,.bool false,.own 1 0 [],.own 1 0 []],.live 0 [.int .i64 k,.int .i64 a,.int .i64 0,.bool false,.tok 3 0 1 0 0,.tok 4 0 1 0 0],.live 0 [],.live 0 (Ad ([]))]) (fun i=>n-i) (fun i=>i≤n) 0 (Wk.fr (by simp[Ac])) (Nat.zero_le _) ?_)
   intro i hi
   refine zs ?_
   refine zc ?_ ?_<;>intro h
   .refine W.skip ?_
    refine zb ?_
    refine zs ?_
    refine zb ?_
    refine Ae h4 ?_;intro K hK
    refine zk ?_;clear hK K
    refine zn ?_
    refine Ae h5 ?_;intro K hK
    refine zk ?_;clear hK K
    refine zn ?_
    refine W.skip ?_
    refine zs ?_
    exact⟨i+1,by omega,by omega,Wk.fr (by simp[Ac])⟩
   .refine W.exit ?_
    have:i=n:=by omega
    subst this
    refine Ae h4 ?_;intro K hK
    refine zk ?_;clear hK K
    refine zn ?_
    refine W.skip ?_
    refine zs ?_
    refine zr ?_
    simp[B0,hnm,h4,h5,hn]
end Go.Abs
set_option maxRecDepth 100000
namespace Go.Abs
open Go.Proofs
theorem Si (g:Gr) (j:BX) (hg:AY g) (h:E7 g j) (ho:Br g j=false) (h1:j.kind=1):Aa pg 151 [.agg (AQ false g),.agg (BI false j)] [] (fun r _=>r= .agg (BI true (AN g j))):=by
 obtain⟨n,hn⟩:=Int.eq_ofNat_of_zero_le hg.1
 obtain⟨v,hv⟩:=Int.eq_ofNat_of_zero_le h.a0
 have hn16:n≤16:=by have:=hg.2.1;omega
 have hvn:v≤n:=by have:=h.an;omega
 have hout:g.out.length=n:=by have:=hg.2.2.1;omega
 have hsm:=h.small hg
 have hwl:∀i (hi:i<g.out.length),g.out[i].length≤16:=fun i hi=>by rw[←Be hi];exact CE hg _
 have ha:=h.na (by rw[h1];rfl)
 obtain⟨a,hae⟩:=Int.eq_ofNat_of_zero_le ha.1
 have hal:a<g.out.length:=by omega
 have hvis:AN g j={j with at_:=(v:Int)+1,out:=g.out[a]}:=by
  simp[AN,h1,hv,hae,Be hal]
 rw[hvis]
 refine Aa.start (fn:=Tryz.f151) [.cell 4 53] tk rfl rfl rfl (by kernel_rfl) (Nat.le_of_ble_eq_true rfl) rfl (by kernel_rfl) ?_
 rw[Am]
 refine z3 ?_;intro K hK;refine zk ?_;clear hK K
 refine z0 ?_;intro K hK
 refine Ab.eq (Ek j ⟨by omega,by omega⟩) (by simp) (by simp) ?_
 refine zx ?_
 refine zk ?_;clear hK K
 refine Ae hv ?_;intro K hK
 refine zk ?_;clear hK K
 refine Ae hv ?_;intro K hK
 refine zk ?_;clear hK K
 refine Ae h1 ?_;intro K hK
 refine zk ?_;clear hK K
 refine zb ?_
 refine Ae h1 ?_;intro K hK
 refine zk ?_;clear hK K
 refine zt ?_
 refine Ae (an hae hal) ?_;intro K hK
 refine Ab.eq (DR g.out[a] (by have:=hwl a hal;omega)) (by simp) (by simp) ?_
 refine zx ?_
 refine zk ?_;clear hK K
 refine zs ?_
 refine zr ?_
 simp[h1,hae]
theorem Sj (g:Gr) (j:BX) (hg:AY g) (h:E7 g j) (ho:Br g j=false) (h2:j.kind=2):Aa pg 151 [.agg (AQ false g),.agg (BI false j)] [] (fun r _=>r= .agg (BI true (AN g j))):=by
 obtain⟨n,hn⟩:=Int.eq_ofNat_of_zero_le hg.1
 obtain⟨v,hv⟩:=Int.eq_ofNat_of_zero_le h.a0
 have hn16:n≤16:=by have:=hg.2.1;omega
 have hvn:v≤n:=by have:=h.an;omega
 have hout:g.out.length=n:=by have:=hg.2.2.1;omega
 have hsm:=h.small hg
 have hwl:∀i (hi:i<g.out.length),g.out[i].length≤16:=fun i hi=>by rw[←Be hi];exact CE hg _
 have hvl:v<g.out.length:=by
  unfold Br at ho
  simp[h2] at ho
  omega
 have hc2:=h.c2 h2
 have hvis:AN g j={j with at_:=(v:Int)+1,out:=j.out++if g.out[v].contains j.a=true then [(v:Int)] else []}:=by
  simp[AN,h2,hv,Be hvl]
 rw[hvis]
 have sp:=OO g.out[v] j.a (by have:=hwl v hvl;omega)
 have hix:=Ha g.out[v] j.a
 obtain⟨z,hz⟩:∃z,z=BM (fun y=>decide (y=j.a)) g.out[v]:=⟨_,rfl⟩
 rw[←hz] at sp hix
 refine Aa.start (fn:=Tryz.f151) [.cell 4 53] tk rfl rfl rfl (by kernel_rfl) (Nat.le_of_ble_eq_true rfl) rfl (by kernel_rfl) ?_
 rw[Am]
 refine z3 ?_;intro K hK;refine zk ?_;clear hK K
 refine z0 ?_;intro K hK
 refine Ab.eq (Ek j ⟨by omega,by omega⟩) (by simp) (by simp) ?_
 refine zx ?_
 refine zk ?_;clear hK K
 refine Ae hv ?_;intro K hK
 refine zk ?_;clear hK K
 refine Ae hv ?_;intro K hK
 refine zk ?_;clear hK K
 refine Ae h2 ?_;intro K hK
 refine zk ?_;clear hK K
 refine zb ?_
 refine Ae h2 ?_;intro K hK
 refine zk ?_;clear hK K
 refine zn ?_
 refine Ae h2 ?_;intro K hK
 refine zk ?_;clear hK K
 refine zt ?_
 (repeat refine W.seq ?_);refine W.regd 0 rfl true Cq (by kernel_rfl) fun K hK=>?_;simp -implicitDefEqProofs (maxSteps:=999999) (disch:=omega) [hvl]
 refine Ah.eq sp (by simp) (by simp) ?_
 cases hc:g.out[v].contains j.a
 .have hz0:¬0≤z:=by rw[hix,hc];simp
  have hc' :¬j.a∈g.out[v]:=by simpa using hc
  refine AM hz0 ?_
  refine zk ?_;clear hK K
  refine zn ?_
  refine W.skip ?_
  refine zs ?_
  refine zr ?_
  simp[h2,hc']
 .have hz0:0≤z:=by rw[hix,hc]
  have hc' :j.a∈g.out[v]:=by simpa using hc
  refine AM hz0 ?_
  refine zk ?_;clear hK K
  refine zt ?_
  refine z1 ?_;intro K hK
  refine⟨by omega,by omega,?_⟩
  refine zk ?_;clear hK K
  have e:Ad j.out++[AV.int .i64 v]=Ad (j.out++[(v:Int)]):=by simp[Ad]
  rw[e]
  refine zs ?_
  refine zr ?_
  simp[h2,hc']
  rw[List.take_of_length_le (by simp)]
theorem Sk (g:Gr) (j:BX) (hg:AY g) (h:E7 g j) (ho:Br g j=false) (h3:j.kind=3):Aa pg 151 [.agg (AQ false g),.agg (BI false j)] [] (fun r _=>r= .agg (BI true (AN g j))):=by
 obtain⟨n,hn⟩:=Int.eq_ofNat_of_zero_le hg.1
 obtain⟨v,hv⟩:=Int.eq_ofNat_of_zero_le h.a0
 have hn16:n≤16:=by have:=hg.2.1;omega
 have hvn:v≤n:=by have:=h.an;omega
 have hout:g.out.length=n:=by have:=hg.2.2.1;omega
 have hsm:=h.small hg
 have hwl:∀i (hi:i<g.out.length),g.out[i].length≤16:=fun i hi=>by rw[←Be hi];exact CE hg _
 have hvl:v<g.out.length:=by
  unfold Br at ho
  simp[h3] at ho
  omega
 obtain⟨hc3,hc3b⟩:=h.c3 h3
 obtain⟨m,hm⟩:∃m,m=g.out[v].length:=⟨_,rfl⟩
 have hm16:m≤16:=by have:=hwl v hvl;omega
 have hvis:AN g j={j with at_:=(v:Int)+1,out:=si (CR j.out m) m (gi (CR j.out m) m+1)}:=by
  simp[AN,h3,hv,Be hvl,hm]
 rw[hvis]
 refine Aa.start (fn:=Tryz.f151) [.cell 4 53] tk rfl rfl rfl (by kernel_rfl) (Nat.le_of_ble_eq_true rfl) rfl (by kernel_rfl) ?_
 rw[Am]
 refine z3 ?_;intro K hK;refine zk ?_;clear hK K
 refine z0 ?_;intro K hK
 refine Ab.eq (Ek j ⟨by omega,by omega⟩) (by simp) (by simp) ?_
 refine zx ?_
 refine zk ?_;clear hK K
 refine Ae hv ?_;intro K hK
 refine zk ?_;clear hK K
 refine Ae hv ?_;intro K hK
 refine zk ?_;clear hK K
 refine Ae h3 ?_;intro K hK
 refine zk ?_;clear hK K
 refine zb ?_
 refine Ae h3 ?_;intro K hK
 refine zk ?_;clear hK K
 refine zn ?_
 refine Ae h3 ?_;intro K hK
 refine zk ?_;clear hK K
 refine zn ?_
 refine Ae h3 ?_;intro K hK
 refine zk ?_;clear hK K
 refine zt ?_
 rw[show Ad j.out=Ad (j.out++List.replicate 0 0) by simp]
 (repeat refine W.seq ?_);refine W.block (W.loopS (fun k:Nat=> [(2,.ptr 0 0 0),(3,.ptr 1 0 0),(4,.ptr 2 0 0),(5,.int .i64 v)]) (fun k=> [.live 0 (AQ false g),.live 0 [.int .i64 3,.int .i64 j.a,.int .i64 ((v:Int)+1),.bool j.move,.tok 3 0 1 0 j.list.length,.tok 4 k 1 0 (j.out.length+k)],.live 0 [.int .i64 0,.int .i64 0,.int .i64 0,.bool false,.own 1 0 [],.own 1 0 []],.live 0 (Ad j.list),.live k (Ad (j.out++List.replicate k 0))]) (fun k=>m+1-(j.out.length+k)) (fun k=>k=0∨j.out.length+k≤m+1) 0 (Wk.fr (by simp[Ac])) (.inl rfl) ?_)
 intro k hk
 by_cases hle:j.out.length+k≤g.out[v].length
 .refine A5 (an hvl hle) ?_;intro K hK
  refine zk ?_;clear hK K
  refine zt ?_
  refine W.skip ?_
  refine zb ?_
  refine z1 ?_;intro K hK
  refine⟨by omega,by omega,?_⟩
  refine zk ?_;clear hK K
  have e:Ad (j.out++List.replicate k 0)++[AV.int .i64 0]=Ad (j.out++List.replicate (k+1) 0):=by rw[List.replicate_succ'];simp[Ad]
  refine⟨k+1,by omega,.inr (by omega),Wk.cutM (k:=5) (by simp[Ac]) ?_ (by simp) (by simp) (by simp) (by simp)⟩
  rw[←e];rfl
 .refine A5 (an hvl hle) ?_;intro K hK
  refine zk ?_;clear hK K
  refine zn ?_
  refine W.exit ?_
  have hU:j.out++List.replicate k 0=CR j.out m:=by rw[CR,show m+1-j.out.length=k by omega]
  have hUl:(CR j.out m).length=j.out.length+k:=by rw[←hU];simp
  have hml:m<(CR j.out m).length:=by omega
  have hUb:∀y∈CR j.out m,0≤y∧y≤j.at_:=fun y hy=>by
   rcases I7 hy with hy|rfl
   .exact hc3b y hy
   .exact⟨Int.le_refl _,h.a0⟩
  have hb:=hUb _ (List.getElem_mem hml)
  rw[hU,C0 hml,si]
  simp only[Int.toNat_natCast]
  generalize CR j.out m=U at*
  subst hm
  refine A5 (an hvl hml) ?_;intro K hK
  refine zk ?_;clear hK K
  rw[CX]
  refine zs ?_
  refine zr ?_
  simp[h3,hUl]
  rw[List.take_of_length_le (by simp;omega)]
theorem Sl (g:Gr) (j:BX) (hg:AY g) (h:E7 g j) (ho:Br g j=false) (h6:j.kind=6):Aa pg 151 [.agg (AQ false g),.agg (BI false j)] [] (fun r _=>r= .agg (BI true (AN g j))):=by
 obtain⟨n,hn⟩:=Int.eq_ofNat_of_zero_le hg.1
 obtain⟨v,hv⟩:=Int.eq_ofNat_of_zero_le h.a0
 have hn16:n≤16:=by have:=hg.2.1;omega
 have hvn:v≤n:=by have:=h.an;omega
 have hout:g.out.length=n:=by have:=hg.2.2.1;omega
 have hsm:=h.small hg
 have hwl:∀i (hi:i<g.out.length),g.out[i].length≤16:=fun i hi=>by rw[←Be hi];exact CE hg _
 have hvl:v<g.out.length:=by
  unfold Br at ho
  simp[h6] at ho
  omega
 have hc6:=h.c6 h6
 have hvis:AN g j={j with at_:=(v:Int)+1,out:=j.out++Eo v g.out[v]}:=by
  simp[AN,h6,hv,Be hvl,Eo]
 rw[hvis]
 have hvv:=hwl v hvl
 refine Aa.start (fn:=Tryz.f151) [.cell 4 53] tk rfl rfl rfl (by kernel_rfl) (Nat.le_of_ble_eq_true rfl) rfl (by kernel_rfl) ?_
 rw[Am]
 refine z3 ?_;intro K hK;refine zk ?_;clear hK K
 refine z0 ?_;intro K hK
 refine Ab.eq (Ek j ⟨by omega,by omega⟩) (by simp) (by simp) ?_
 refine zx ?_
 refine zk ?_;clear hK K
 refine Ae hv ?_;intro K hK
 refine zk ?_;clear hK K
 refine Ae hv ?_;intro K hK
 refine zk ?_;clear hK K
 refine Ae h6 ?_;intro K hK
 refine zk ?_;clear hK K
 refine zb ?_
 refine Ae h6 ?_;intro K hK
 refine zk ?_;clear hK K
 refine zn ?_
 refine Ae h6 ?_;intro K hK
 refine zk ?_;clear hK K
 refine zn ?_
 refine Ae h6 ?_;intro K hK
 refine zk ?_;clear hK K
 refine zn ?_
 refine Ae h6 ?_;intro K hK
 refine zk ?_;clear hK K
 refine zt ?_
 refine zs ?_
 rw[show Ad j.out=Ad (j.out++Eo v (g.out[v].take 0)) by simp[Eo]]
 (repeat refine W.seq ?_);refine W.block (W.loopS (fun k:Nat=> [(2,.ptr 0 0 0),(3,.ptr 1 0 0),(4,.ptr 2 0 0),(5,.int .i64 v),(6,.int .i64 k)]) (fun k=> [.live 0 (AQ false g),.live 0 [.int .i64 6,.int .i64 j.a,.int .i64 ((v:Int)+1),.bool j.move,.tok 3 0 1 0 j.list.length,.tok 4 k 1 0 (j.out.length+2*k)],.live 0 [.int .i64 0,.int .i64 0,.int .i64 0,.bool false,.own 1 0 [],.own 1 0 []],.live 0 (Ad j.list),.live k (Ad (j.out++Eo v (g.out[v].take k)))]) (fun k=>g.out[v].length-k) (fun k=>k≤g.out[v].length) 0 (Wk.fr (by simp[Ac])) (by simp) ?_)
 intro k hk
 (repeat refine W.seq ?_);refine W.reg 0 rfl fun K hK=>?_;simp -implicitDefEqProofs (maxSteps:=999999) (disch:=omega) [hvl]
 refine zk ?_;clear hK K
 refine zc ?_ ?_<;>intro h
 .refine W.skip ?_
  have hlt:k<g.out[v].length:=by omega
  have hto:g.out[v].take (k+1)=g.out[v].take k++[g.out[v][k]]:=by rw[List.take_add_one];simp[hlt]
  have hr2:Dn 2 [AV.int .i64 0]=[AV.int .i64 0,AV.int .i64 0]:=rfl
  have hpk:(Eo v (g.out[v].take k)).length=2*k:=by rw[IG];simp;omega
  refine zb ?_
  (repeat refine W.seq ?_);refine W.regd 1 rfl true Cq (by kernel_rfl) fun K hK=>?_;simp -implicitDefEqProofs (maxSteps:=999999) (disch:=omega) [hr2,hpk,hvl,hlt]
  refine⟨by omega,by omega,?_⟩
  refine zk ?_;clear hK K
  refine zs ?_
  have e:Ad (j.out++Eo v (g.out[v].take k))++[AV.int .i64 v,AV.int .i64 g.out[v][k]]=Ad (j.out++Eo v (g.out[v].take (k+1))):=by rw[hto,LJ];simp[Ad]
  refine⟨k+1,by omega,by omega,Wk.cutM (k:=5) (by simp[Ac]) ?_ (by simp) (by simp) (by simp) (by simp)⟩
  rw[←e];rfl
 .refine W.exit ?_
  have hk' :k=g.out[v].length:=by omega
  subst hk'
  rw[List.take_length]
  have hfl:=IG (v:Int) g.out[v]
  refine zs ?_
  refine zr ?_
  refine⟨h6.symm,?_,?_⟩
  .rw[hfl]
  .rw[List.take_of_length_le (by rw[List.length_append,hfl];exact Nat.le_refl _)]
theorem Sm (g:Gr) (j:BX) (hg:AY g) (h:E7 g j) (ho:Br g j=false) (h4:j.kind=4):Aa pg 151 [.agg (AQ false g),.agg (BI false j)] [] (fun r _=>r= .agg (BI true (AN g j))):=by
 obtain⟨n,hn⟩:=Int.eq_ofNat_of_zero_le hg.1
 obtain⟨v,hv⟩:=Int.eq_ofNat_of_zero_le h.a0
 have hn16:n≤16:=by have:=hg.2.1;omega
 have hvn:v≤n:=by have:=h.an;omega
 have hout:g.out.length=n:=by have:=hg.2.2.1;omega
 have hsm:=h.small hg
 have hwl:∀i (hi:i<g.out.length),g.out[i].length≤16:=fun i hi=>by rw[←Be hi];exact CE hg _
 obtain⟨c1,c2,c3,c4,c5⟩:=h.c4 h4
 have hvl:v<j.list.length:=by simp[Br,h4] at ho;omega
 have hm:=c4 _ (List.getElem_mem hvl)
 obtain⟨u,hu⟩:=Int.eq_ofNat_of_zero_le hm.1
 rw[hu] at hm
 have hul:u<g.out.length:=by omega
 have hul2:=hwl u hul
 have hws:∀w∈g.out[u],0≤w∧w<g.n:=fun w hw=>EL hg (v:=(u:Int)) (by rw[Be hul];exact hw)
 have hf:=fun k=>G6 (n:=g.n) (v:=(u:Int)) ⟨hm.1,hm.2.1⟩ (g.out[u].take k) (j.out,j.list) (fun w hw=>hws w (List.mem_of_mem_take hw)) hm.2.2 c1 c2 c4 c5
 have hvis:AN g j={j with at_:=(v:Int)+1,out:=(g.out[u].foldl (AU u) (j.out,j.list)).1,list:=(g.out[u].foldl (AU u) (j.out,j.list)).2}:=by
  have e:gi j.list (v:Int)=(u:Int):=by rw[C0 hvl,hu]
  simp[AN,h4,hv,e,Be hul]
 rw[hvis]
 refine Aa.start (fn:=Tryz.f151) [.cell 4 53] tk rfl rfl rfl (by kernel_rfl) (Nat.le_of_ble_eq_true rfl) rfl (by kernel_rfl) ?_
 rw[Am]
 refine z3 ?_;intro K hK;refine zk ?_;clear hK K
 refine z0 ?_;intro K hK
 refine Ab.eq (Ek j ⟨by omega,by omega⟩) (by simp) (by simp) ?_
 refine zx ?_
 refine zk ?_;clear hK K
 refine Ae hv ?_;intro K hK
 refine zk ?_;clear hK K
 refine Ae hv ?_;intro K hK
 refine zk ?_;clear hK K
 refine Ae h4 ?_;intro K hK
 refine zk ?_;clear hK K
 refine zb ?_
 refine Ae h4 ?_;intro K hK
 refine zk ?_;clear hK K
 refine zn ?_
 refine Ae h4 ?_;intro K hK
 refine zk ?_;clear hK K
 refine zn ?_
 refine Ae h4 ?_;intro K hK
 refine zk ?_;clear hK K
 refine zn ?_
 refine Ae h4 ?_;intro K hK
 refine zk ?_;clear hK K
 refine zn ?_
 refine Ae h4 ?_;intro K hK
 refine zk ?_;clear hK K
 refine zt ?_
 refine Ae (an hvl hu) ?_;intro K hK
 refine zk ?_;clear hK K
 refine zs ?_
 rw[show j.out.length=n by omega]
 (repeat refine W.seq ?_);refine W.block (W.loopS (fun k:Nat=> [(2,.ptr 0 0 0),(3,.ptr 1 0 0),(4,.ptr 2 0 0),(5,.int .i64 u),(7,.int .i64 k)]) (fun k=> [.live 0 (AQ false g),.live 0 [.int .i64 4,.int .i64 j.a,.int .i64 ((v:Int)+1),.bool j.move,.tok 3 (((g.out[u].take k).foldl (AU u) (j.out,j.list)).2.length-j.list.length) 1 0 ((g.out[u].take k).foldl (AU u) (j.out,j.list)).2.length,.tok 4 0 1 0 n],.live 0 [.int .i64 0,.int .i64 0,.int .i64 0,.bool false,.own 1 0 [],.own 1 0 []],.live (((g.out[u].take k).foldl (AU u) (j.out,j.list)).2.length-j.list.length) (Ad ((g.out[u].take k).foldl (AU u) (j.out,j.list)).2),.live 0 (Ad ((g.out[u].take k).foldl (AU u) (j.out,j.list)).1)]) (fun k=>g.out[u].length-k) (fun k=>k≤g.out[u].length) 0 ?_ (by simp) ?_)
 .have e:((g.out[u].take 0).foldl (AU u) (j.out,j.list))=(j.out,j.list):=rfl
  rw[e]
  simp only[Nat.sub_self]
  exact Wk.fr (by simp[Ac])
 intro k hk
 (repeat refine W.seq ?_);refine W.reg 0 rfl fun K hK=>?_;simp -implicitDefEqProofs (maxSteps:=999999) (disch:=omega) [hul]
 refine zk ?_;clear hK K
 refine zc ?_ ?_<;>intro h
 .refine W.skip ?_
  have hlt:k<g.out[u].length:=by omega
  have hst:=FI (AU (u:Int)) (j.out,j.list) g.out[u] k hlt
  obtain⟨f0,f1,f2,f3,f4,f5⟩:=hf k
  have hw:=hws _ (List.getElem_mem hlt)
  generalize (g.out[u].take k).foldl (AU u) (j.out,j.list)=s at*
  simp only at f5
  obtain⟨w,hwe⟩:=Int.eq_ofNat_of_zero_le hw.1
  rw[hwe] at hw hst
  have hl1:u<s.1.length:=by omega
  have hl2:w<s.1.length:=by omega
  rw[C0 hl1] at f0
  have hub:=f4 _ (List.getElem_mem hl1)
  have hs2:s.2.length≤16:=by omega
  refine zb ?_
  refine Ae (an hul (an hlt hwe)) ?_;intro K hK
  refine zk ?_;clear hK K
  by_cases hneg:s.1[w]<0
  .have hps:AU (u:Int) s w=(s.1.set w (s.1[u]+1),s.2++[(w:Int)]):=by
    simp only[AU,C0 hl1,C0 hl2,si]
    rw[if_pos hneg];rfl
   rw[hps] at hst
   refine Ae (an hl2 hneg) ?_;intro K hK
   refine zk ?_;clear hK K
   refine zt ?_
   refine A5 (an hl1 hl2) ?_;intro K hK
   refine zk ?_;clear hK K
   rw[CX]
   refine z1 ?_;intro K hK
   refine⟨by omega,by omega,?_⟩
   refine zk ?_;clear hK K
   refine zs ?_
   refine⟨k+1,by omega,by omega,?_⟩
   rw[hst]
   have hver:(s.2++[(w:Int)]).length-j.list.length=s.2.length-j.list.length+1:=by simp;omega
   have e:Ad s.2++[AV.int .i64 w]=Ad (s.2++[(w:Int)]):=by simp[Ad]
   simp only[hver]
   refine Wk.cutM (k:=5) (by simp[Ac]) ?_ (by simp) (by simp) (by simp) (by simp)
   rw[e]
   simp
  .have hps:AU (u:Int) s w=s:=by
    simp only[AU,C0 hl2]
    rw[if_neg hneg]
   rw[hps] at hst
   refine Ae (an hl2 hneg) ?_;intro K hK
   refine zk ?_;clear hK K
   refine zn ?_
   refine W.skip ?_
   refine zs ?_
   refine⟨k+1,by omega,by omega,?_⟩
   rw[hst]
   exact Wk.fr (by simp[Ac])
 .refine W.exit ?_
  have hk' :k=g.out[u].length:=by omega
  subst hk'
  rw[List.take_length]
  obtain⟨f0,f1,f2,f3,f4,f5⟩:=hf g.out[u].length
  rw[List.take_length] at f1
  generalize g.out[u].foldl (AU u) (j.out,j.list)=s at*
  refine zs ?_
  refine zr ?_
  exact⟨h4.symm,by omega,by rw[List.take_of_length_le (by omega)]⟩
theorem Sn (g:Gr) (j:BX) (hg:AY g) (h:E7 g j) (ho:Br g j=false) (h5:j.kind=5):Aa pg 151 [.agg (AQ false g),.agg (BI false j)] [] (fun r _=>r= .agg (BI true (AN g j))):=by
 obtain⟨n,hn⟩:=Int.eq_ofNat_of_zero_le hg.1
 obtain⟨v,hv⟩:=Int.eq_ofNat_of_zero_le h.a0
 have hn16:n≤16:=by have:=hg.2.1;omega
 have hvn:v≤n:=by have:=h.an;omega
 have hout:g.out.length=n:=by have:=hg.2.2.1;omega
 have hsm:=h.small hg
 have hwl:∀i (hi:i<g.out.length),g.out[i].length≤16:=fun i hi=>by rw[←Be hi];exact CE hg _
 have hvl:v<g.out.length:=by
  unfold Br at ho
  simp[h5] at ho
  omega
 obtain⟨c1,c2⟩:=h.c5 h5
 have hlo:j.out.length=n:=by omega
 have hb:AC g j.at_=g.out[v]:=by rw[hv];exact Be hvl
 have hws:∀w∈g.out[v],0≤w∧w<g.n:=fun w hw=>EL hg (v:=j.at_) (by rw[hb];exact hw)
 have hwl2:=hwl v hvl
 have hf:=fun k=>Gk (n:=g.n) (v:=(v:Int)) ⟨by omega,by omega⟩ (g.out[v].take k) (j.out,j.move) (fun w hw=>hws w (List.mem_of_mem_take hw)) c1 c2
 refine Aa.start (fn:=Tryz.f151) [.cell 4 53] tk rfl rfl rfl (by kernel_rfl) (Nat.le_of_ble_eq_true rfl) rfl (by kernel_rfl) ?_
 rw[Am]
 refine z3 ?_;intro K hK;refine zk ?_;clear hK K
 refine z0 ?_;intro K hK
 refine Ab.eq (Ek j ⟨by omega,by omega⟩) (by simp) (by simp) ?_
 refine zx ?_
 refine zk ?_;clear hK K
 refine Ae hv ?_;intro K hK
 refine zk ?_;clear hK K
 refine Ae hv ?_;intro K hK
 refine zk ?_;clear hK K
 refine Ae h5 ?_;intro K hK
 refine zk ?_;clear hK K
 refine zb ?_
 refine Ae h5 ?_;intro K hK
 refine zk ?_;clear hK K
 refine zn ?_
 refine Ae h5 ?_;intro K hK
 refine zk ?_;clear hK K
 refine zn ?_
 refine Ae h5 ?_;intro K hK
 refine zk ?_;clear hK K
 refine zn ?_
 refine Ae h5 ?_;intro K hK
 refine zk ?_;clear hK K
 refine zn ?_
 refine Ae h5 ?_;intro K hK
 refine zk ?_;clear hK K
 refine zn ?_
 refine zs ?_
 rw[hlo]
 (repeat refine W.seq ?_);refine W.block (W.loopS (fun k:Nat=> [(2,.ptr 0 0 0),(3,.ptr 1 0 0),(4,.ptr 2 0 0),(5,.int .i64 v),(9,.int .i64 k)]) (fun k=> [.live 0 (AQ false g),.live 0 [.int .i64 5,.int .i64 j.a,.int .i64 ((v:Int)+1),.bool ((g.out[v].take k).foldl (A4 v) (j.out,j.move)).2,.tok 3 0 1 0 j.list.length,.tok 4 0 1 0 n],.live 0 [.int .i64 0,.int .i64 0,.int .i64 0,.bool false,.own 1 0 [],.own 1 0 []],.live 0 (Ad j.list),.live 0 (Ad ((g.out[v].take k).foldl (A4 v) (j.out,j.move)).1)]) (fun k=>g.out[v].length-k) (fun k=>k≤g.out[v].length) 0 (Wk.fr (by simp[Ac])) (by simp) ?_)
 intro k hk
 (repeat refine W.seq ?_);refine W.reg 0 rfl fun K hK=>?_;simp -implicitDefEqProofs (maxSteps:=999999) (disch:=omega) [hvl]
 refine zk ?_;clear hK K
 refine zc ?_ ?_<;>intro h
 .refine W.skip ?_
  have hlt:k<g.out[v].length:=by omega
  have hst:=FI (A4 (v:Int)) (j.out,j.move) g.out[v] k hlt
  obtain⟨f1,f2,_⟩:=hf k
  have hw:=hws _ (List.getElem_mem hlt)
  generalize (g.out[v].take k).foldl (A4 v) (j.out,j.move)=s at*
  obtain⟨w,hwe⟩:=Int.eq_ofNat_of_zero_le hw.1
  rw[hwe] at hst hw
  have hl1:v<s.1.length:=by omega
  have hl2:w<s.1.length:=by omega
  have hmin:min s.1[v] s.1[w]=if s.1[w]<s.1[v] then s.1[w] else s.1[v]:=by split<;>omega
  have hps:A4 (v:Int) s w=((s.1.set v (if s.1[w]<s.1[v] then s.1[w] else s.1[v])).set w (if s.1[w]<s.1[v] then s.1[w] else s.1[v]),s.2||!decide (s.1[v]=s.1[w])):=by
   simp only[A4,C0 hl1,C0 hl2,si,hmin];rfl
  rw[hps] at hst
  refine zb ?_
  refine Ae (an hvl (an hlt hwe)) ?_;intro K hK
  refine zk ?_;clear hK K
  cases hm:s.2
  all_goals (
   rw[hm] at hst
   refine A5 (an hl1 (an hl2 hm)) ?_;intro K hK
   refine zk ?_;clear hK K
   refine A5 (an hl1 hl2) ?_;intro K hK
   refine zk ?_;clear hK K
   (repeat refine W.seq ?_);refine W.regdX 0 [(70,75),(70,73)] rfl true Cq (by kernel_rfl) fun K hK=>?_;simp -implicitDefEqProofs (maxSteps:=999999) (disch:=omega) [hl1,hl2]
   (repeat refine⟨by first|assumption|omega,?_⟩);refine hK _ _ (by simp(disch:=omega)) ?_;clear hK K
   rw[CX,CX]
   refine zs ?_
   refine⟨k+1,by omega,by omega,?_⟩
   rw[hst]
   exact Wk.fr (by simp[Ac]))
 .refine W.exit ?_
  have hk' :k=g.out[v].length:=by omega
  subst hk'
  rw[List.take_length]
  have hvis:AN g j=(if (v:Int)+1=n∧(g.out[v].foldl (A4 v) (j.out,j.move)).2=true then{j with at_:=0,move:=false,out:=(g.out[v].foldl (A4 v) (j.out,j.move)).1} else{j with at_:=(v:Int)+1,move:=(g.out[v].foldl (A4 v) (j.out,j.move)).2,out:=(g.out[v].foldl (A4 v) (j.out,j.move)).1}):=by
   rw[hv] at hb;simp[AN,h5,hb,hv,hn]
  have hfin:=(hf g.out[v].length).1
  rw[List.take_length] at hfin
  rw[hvis]
  generalize g.out[v].foldl (A4 v) (j.out,j.move)=s at*
  have hsl:s.1.length=n:=by omega
  by_cases hvn1:(v:Int)+1=n
  .have hge:(n:Int)≤(v:Int)+1:=by omega
   cases hm:s.2
   .refine Ae (an hge (an hn hm)) ?_;intro K hK
    refine zk ?_;clear hK K
    refine zn ?_
    refine W.skip ?_
    refine zs ?_
    refine zr ?_
    first|exact⟨h5.symm,hsl.symm,by rw[List.take_of_length_le (by omega)]⟩ | (simp[hvn1,h5,hsl];rw[List.take_of_length_le (by omega)])
   .refine Ae (an hge (an hn hm)) ?_;intro K hK
    refine zk ?_;clear hK K
    refine zt ?_
    refine zs ?_
    refine zs ?_
    refine zr ?_
    first|exact⟨h5.symm,hsl.symm,by rw[List.take_of_length_le (by omega)]⟩ | (simp[hvn1,h5,hsl];rw[List.take_of_length_le (by omega)])
  .have hge:¬(n:Int)≤(v:Int)+1:=by omega
   refine Ae (an hge hn) ?_;intro K hK
   refine zk ?_;clear hK K
   refine zn ?_
   refine W.skip ?_
   refine zs ?_
   refine zr ?_
   first|exact⟨h5.symm,hsl.symm,by rw[List.take_of_length_le (by omega)]⟩ | (simp[hvn1,h5,hsl];rw[List.take_of_length_le (by omega)])
theorem Qi (g:Gr) (j:BX) (hg:AY g) (h:E7 g j) (ho:Br g j=false):Aa pg 151 [.agg (AQ false g),.agg (BI false j)] [] (fun r _=>r= .agg (BI true (AN g j))):=by
 have hk1:=h.k1
 have hk2:=h.k2
 have:j.kind=1∨j.kind=2∨j.kind=3∨j.kind=4∨j.kind=5∨j.kind=6:=by omega
 rcases this with e|e|e|e|e|e
 .exact Si g j hg h ho e
 .exact Sj g j hg h ho e
 .exact Sk g j hg h ho e
 .exact Sm g j hg h ho e
 .exact Sn g j hg h ho e
 .exact Sl g j hg h ho e
end Go.Abs
set_option maxRecDepth 100000
namespace Go.Abs
open Go.Proofs
theorem So (g:Gr) (j:BX):(AN g j).a=j.a:=by
 unfold AN
 split
 .rfl
 split
 .rfl
 split
 .rfl
 split
 .rfl
 split
 .simp only;split<;>rfl
 .rfl
theorem Nt (g:Gr) (j:BX):∀(k:Nat) (x:BX),x.a≠j.a→Fn g j k x=false
 |0,_,_=>rfl
 |k+1,x,h=>by
  simp only[Fn]
  rw[if_neg (fun e=>h (by rw[e]))]
  split
  .rfl
  .exact Nt g j k _ (by rw[So];exact h)
theorem O8 (g:Gr) (j:BX) (hg:AY g) (hj:HH j):Aa pg 111 [.agg (AQ false g),.agg (BI false j)] [] (fun r _=>r= .bool (CN g j)):=by
 have hn:=hg.2.1
 have hn0:=hg.1
 have spM:=Um g j.kind j.a (by omega)
 have spN:=Jj j.kind
 obtain⟨hj1,hj2⟩:=hj
 refine Aa.start (fn:=Tryz.f111) [.tmp 4] tk rfl rfl rfl (by kernel_rfl) (Nat.le_of_ble_eq_true rfl) rfl (by kernel_rfl) ?_
 rw[Am]
 refine z2 ?_;intro K hK;refine zk ?_;clear hK K
 by_cases hk:Da g j.kind j.a=0
 rotate_left
 .refine z0 ?_;intro K hK
  refine Ab.eq spM (by simp) (by simp) ?_
  refine AM hk ?_
  refine zk ?_;clear hK K
  refine zt ?_
  refine zs ?_
  refine zr ?_
  simp[CN,hk]
 rw[hk] at spM
 by_cases hna:BO j.kind=false∧j.a≠0
 .have hfalse:CN g j=false:=by
   rw[I8,decide_eq_true hk,Bool.true_and]
   unfold D6
   exact Nt g j _ _ (by simp only[B0,hna.1,Bool.false_eq_true,if_false];exact fun e=>hna.2 e.symm)
  rw[hfalse]
  rw[hna.1] at spN
  have h2:=hna.2
  refine z0 ?_;intro K hK
  refine Ab.eq spM (by simp) (by simp) ?_
  refine zx ?_
  refine Ab.eq spN (by simp) (by simp) ?_
  refine AM h2 ?_
  refine zk ?_;clear hK K
  refine zt ?_
  refine zs ?_
  exact zR
 have hb:=LI hg hk
 have hx0:CN g j=D6 g j (B0 g j.kind j.a):=by rw[I8,decide_eq_true hk,Bool.true_and]
 have spB:=Qh g j.kind j.a hg hk
 rw[hx0]
 obtain⟨x0,hxd⟩:∃x0,x0=B0 g j.kind j.a:=⟨_,rfl⟩
 rw[←hxd] at hb spB ⊢
 have hsm:=hb.small hg
 (repeat refine W.seq ?_);refine W.midS (fun _:Unit=> [(2,.ptr 0 0 0),(3,.ptr 1 0 0),(23,.bool false)]) (fun _=> [.live 0 (AQ false g),.live 0 (BI false j)]) (fun _=>True) ?_ ?_
 .cases hnm:BO j.kind
  .rw[hnm] at spN
   have h0:(j.a=0)=True:=eq_true (Classical.byContradiction fun h=>hna ⟨hnm,h⟩)
   refine z0 ?_;intro K hK
   refine Ab.eq spM (by simp) (by simp) ?_
   refine zx ?_
   refine Ab.eq spN (by simp) (by simp) ?_
   refine AM h0 ?_
   refine zk ?_;clear hK K
   exact⟨(),trivial,Wk.fr (by simp[Ac])⟩
  .rw[hnm] at spN
   refine z0 ?_;intro K hK
   refine Ab.eq spM (by simp) (by simp) ?_
   refine zx ?_
   refine Ab.eq spN (by simp) (by simp) ?_
   refine zx ?_
   refine zk ?_;clear hK K
   exact⟨(),trivial,Wk.fr (by simp[Ac])⟩
 rintro _ _
 refine zn ?_
 refine W.skip ?_
 refine z1 ?_;intro K hK
 refine Ab.eq spB (by simp) (by simp) ?_
 refine zx ?_
 refine zk ?_;clear hK K
 refine W.weak (Wk.intern (B:=2) (v:=0) (j:=4) (T:=3) (u:=0) (s:=1) (off:=0) (n:=x0.list.length) (xs:=Ad x0.list) (by rfl) (by rfl) (by rfl) (by simp) (by simp) (by simp)) ?_
 refine W.weak (Wk.intern (B:=2) (v:=0) (j:=5) (T:=4) (u:=0) (s:=1) (off:=0) (n:=x0.out.length) (xs:=Ad x0.out) (by rfl) (by rfl) (by rfl) (by simp) (by simp) (by simp)) ?_
 (repeat refine W.seq ?_);refine W.block (W.loopS (fun x:BX=> [(2,.ptr 0 0 0),(3,.ptr 1 0 0),(5,.ptr 2 0 0)]) (fun x=> [.live 0 (AQ false g),.live 0 (BI false j),.live 0 (BI true x)]) (fun x=>EG g x) (fun x=>E7 g x∧D6 g j x=D6 g j x0) x0 (Wk.cutM (k:=3) (by simp[Ac]) (by simp) (by simp) (by simp) (by simp) (by simp)) ⟨hb,rfl⟩ ?_)
 rintro x ⟨hx,hxj⟩
 refine W.weak (Wk.thaw (B:=2) (v:=0) (j:=4) (s:=1) (n:=x.list.length) (xs:=Ad x.list) (by rfl) (by rfl)) ?_
 refine W.weak (Wk.thaw (B:=2) (v:=0) (j:=5) (s:=1) (n:=x.out.length) (xs:=Ad x.out) (by rfl) (by rfl)) ?_
 have hsx:=hx.small hg
 have spE:=FS x j ⟨by omega,by omega⟩
 by_cases e:x=j
 .rw[decide_eq_true e] at spE
  refine z0 ?_;intro K hK
  refine Ab.eq spE (by simp) (by simp) ?_
  refine zx ?_
  refine zk ?_;clear hK K
  refine zn ?_
  refine W.exit ?_
  refine zs ?_
  refine zr ?_
  rw[←hxj,Np e]
 .rw[decide_eq_false e] at spE
  refine z0 ?_;intro K hK
  refine Ab.eq spE (by simp) (by simp) ?_
  refine zx ?_
  refine zk ?_;clear hK K
  refine zt ?_
  refine W.skip ?_
  refine zb ?_
  have spO:=KE g x (by omega)
  cases ho:Br g x
  .rw[ho] at spO
   refine z0 ?_;intro K hK
   refine Ab.eq spO (by simp) (by simp) ?_
   refine zx ?_
   refine zk ?_;clear hK K
   refine zn ?_
   refine W.skip ?_
   have spV:=Qi g x hg hx ho
   obtain⟨h1,h2⟩:=G7 hg hx ho
   have hjx:=Nq hg hx e ho
   obtain⟨y,hy⟩:∃y,y=AN g x:=⟨_,rfl⟩
   rw[←hy] at spV h1 h2 hjx
   refine z0 ?_;intro K hK
   refine Ab.eq spV (by simp) (by simp) ?_
   refine zx ?_
   refine zk ?_;clear hK K
   refine⟨y,h2,⟨h1,by rw[←hjx];exact hxj⟩,?_⟩
   refine Wk.trans (Wk.intern (B:=2) (v:=0) (j:=4) (T:=5) (u:=0) (s:=1) (off:=0) (n:=y.list.length) (xs:=Ad y.list) (by rfl) (by rfl) (by rfl) (by simp) (by simp) (by simp)) ?_
   refine Wk.trans (Wk.intern (B:=2) (v:=0) (j:=5) (T:=6) (u:=0) (s:=1) (off:=0) (n:=y.out.length) (xs:=Ad y.out) (by rfl) (by rfl) (by rfl) (by simp) (by simp) (by simp)) ?_
   exact Wk.cutM (k:=3) (by simp[Ac]) (by simp) (by simp) (by simp) (by simp) (by simp)
  .rw[ho] at spO
   refine z0 ?_;intro K hK
   refine Ab.eq spO (by simp) (by simp) ?_
   refine zx ?_
   refine zk ?_;clear hK K
   refine zt ?_
   refine zs ?_
   refine zr ?_
   rw[←hxj,KG e ho]
end Go.Abs
set_option maxRecDepth 100000
namespace Go.Abs
open Go.Proofs
theorem Ki (s:AP) (hs:AZ s):Aa pg 31 [.agg (Ay false s)] [] (fun r _=>r= .own 4 (Ar s).length (Af Av (Ar s))):=by
 have h1:=hs.1
 refine Aa.start (fn:=Tryz.f31) [.tmp 2] tk rfl rfl rfl (by kernel_rfl) (Nat.le_of_ble_eq_true rfl) rfl (by kernel_rfl) ?_
 rw[At]
 refine z1 ?_;intro K hK;refine zk ?_;clear hK K
 refine zs ?_
 refine zs ?_
 (repeat refine W.seq ?_);refine W.block (W.loopS (fun k:Nat=> [(1,.ptr 0 0 0),(3,.tok 1 k 4 0 k),(4,.int .i64 k)]) (fun k=> [.live 0 (Ay false s),.live k (Af Av ((s.vers.take k).map Hz))]) (fun k=>s.vers.length-k) (fun k=>k≤s.vers.length) 0 ((Wk.nil (t:=3) (s:=4) (by simp)).trans (Wk.fr (by simp[Ac]))) (by simp) ?_)
 intro k hk
 refine zs ?_
 refine zc ?_ ?_<;>intro h
 .refine W.skip ?_
  have hlt:k<s.vers.length:=by omega
  have hto:s.vers.take (k+1)=s.vers.take k++[s.vers[k]]:=by rw[List.take_add_one];simp[hlt]
  refine zb ?_
  (repeat refine W.seq ?_);refine W.reg 1 rfl fun K hK=>?_;simp -implicitDefEqProofs (maxSteps:=999999) (disch:=omega) [hlt]
  refine zk ?_;clear hK K
  refine z1 ?_;intro K hK
  refine⟨by omega,by omega,?_⟩
  refine zk ?_;clear hK K
  refine zs ?_
  refine⟨k+1,by omega,by omega,Wk.cutM (k:=2) (by simp[Ac]) ?_ (by simp) (by simp) (by simp) (by simp)⟩
  rw[hto,List.map_append,Cz]
  simp[AL,Hz]
 .refine W.exit ?_
  have hk' :k=s.vers.length:=by omega
  subst hk'
  refine zs ?_
  refine zr ?_
  refine⟨by simp[Ar],?_⟩
  rw[List.take_of_length_le (by simp),List.take_of_length_le (by simp)]
  rfl
theorem Nu (s:AP) (hs:AZ s):Aa pg 30 [.agg (Ay false s)] [] (fun r _=>r= .own 2 (AE s).length (Af Al (AE s))):=by
 have h1:=hs.1
 refine Aa.start (fn:=Tryz.f30) [.tmp 2] tk rfl rfl rfl (by kernel_rfl) (Nat.le_of_ble_eq_true rfl) rfl (by kernel_rfl) ?_
 rw[At]
 refine z1 ?_;intro K hK;refine zk ?_;clear hK K
 refine zs ?_
 refine zs ?_
 (repeat refine W.seq ?_);refine W.block (W.loopS (fun k:Nat=> [(1,.ptr 0 0 0),(3,.tok 1 k 2 0 k),(4,.int .i64 k)]) (fun k=> [.live 0 (Ay false s),.live k (Af Al ((s.vers.take k).map fun v=>(v.at_,HA v.data)))]) (fun k=>s.vers.length-k) (fun k=>k≤s.vers.length) 0 ((Wk.nil (t:=3) (s:=2) (by simp)).trans (Wk.fr (by simp[Ac]))) (by simp) ?_)
 intro k hk
 refine zs ?_
 refine zc ?_ ?_<;>intro h
 .refine W.skip ?_
  have hlt:k<s.vers.length:=by omega
  have hsz:=hs.2.2 _ (List.getElem_mem hlt)
  have hto:s.vers.take (k+1)=s.vers.take k++[s.vers[k]]:=by rw[List.take_add_one];simp[hlt]
  refine zb ?_
  (repeat refine W.seq ?_);refine W.regd 1 rfl true Cq (by kernel_rfl) fun K hK=>?_;simp -implicitDefEqProofs (maxSteps:=999999) (disch:=omega) [hlt]
  refine Ah.eq (T0 s.vers[k].data hsz) (by simp) (by simp) ?_
  refine zx ?_
  refine⟨by omega,by omega,?_⟩
  refine zk ?_;clear hK K
  refine zs ?_
  refine⟨k+1,by omega,by omega,Wk.cutM (k:=2) (by simp[Ac]) ?_ (by simp) (by simp) (by simp) (by simp)⟩
  rw[hto,List.map_append,Cz]
  simp[AL,Al]
 .refine W.exit ?_
  have hk' :k=s.vers.length:=by omega
  subst hk'
  (repeat refine W.seq ?_);refine W.reg 0 rfl fun K hK=>?_;simp -implicitDefEqProofs (maxSteps:=999999) (disch:=omega);(repeat refine⟨by first|assumption|omega,?_⟩);refine hK _ _ ?_;clear hK K
  refine W.ret ?_;simp only[Cb,CT,Cp];refine Cd (d:=0) ?_;simp -implicitDefEqProofs (maxSteps:=999999) (disch:=omega)
  refine⟨by simp[AE],?_⟩
  rw[List.take_of_length_le (by simp),List.take_of_length_le (by simp)]
  rfl
set_option maxHeartbeats 2000000 in
theorem NY (l:List (Int×Int)) (n:Int) (hl:l.length<1000000000):Aa pg 67 [.ro l.length (Af Al l),.int .i64 n] [] (fun r _=>r= .bool (decide (CB l n))):=by
 have spB:=DA n 1 100
 refine Aa.start (fn:=Tryz.f67) [.tmp 4] tk rfl rfl rfl (by kernel_rfl) (Nat.le_of_ble_eq_true rfl) rfl (by kernel_rfl) ?_
 rw[Am]
 refine zs ?_
 by_cases c1:1≤n∧n≤100
 rotate_left
 .rw[decide_eq_false c1] at spB
  refine z0 ?_;intro K hK
  refine Ab.eq spB (by simp) (by simp) ?_
  refine zx ?_
  refine zk ?_;clear hK K
  refine zt ?_
  refine zs ?_
  refine zr ?_
  exact fun h=>c1 ⟨h.1,h.2.1⟩
 rw[decide_eq_true c1] at spB
 by_cases c2:l.length≤13
 rotate_left
 .have c2' :(13:Int)<(l.length:Int):=by omega
  refine z0 ?_;intro K hK
  refine Ab.eq spB (by simp) (by simp) ?_
  refine AM c2' ?_
  refine zk ?_;clear hK K
  refine zt ?_
  refine zs ?_
  refine zr ?_
  exact fun h=>c2 h.2.2.1
 have c2' :¬(13:Int)<(l.length:Int):=by omega
 refine z0 ?_;intro K hK
 refine Ab.eq spB (by simp) (by simp) ?_
 refine AM c2' ?_
 refine zk ?_;clear hK K
 refine zn ?_
 refine W.skip ?_
 refine zs ?_
 (repeat refine W.seq ?_);refine W.block (W.loopS (fun k:Nat=> [(0,.ro l.length (Af Al l)),(1,.int .i64 n),(5,.int .i64 k)]) (fun _=> []) (fun k=>l.length-k) (fun k=>k≤l.length∧∀i (h:i<l.length),i<k→(0≤l[i].1∧1≤l[i].2∧l[i].1+l[i].2≤n)∧∀t (ht:t<i),apart l[t] l[i]) 0 (Wk.fr (by simp[Ac])) ⟨by simp,fun i h h2=>by omega⟩ ?_)
 rintro i ⟨hi,hok⟩
 refine zs ?_
 (repeat refine W.seq ?_);refine W.condK fun K1 K2 h1 h2=>?_;simp -implicitDefEqProofs (maxSteps:=999999) (disch:=omega) [-and_imp];refine⟨fun h=>h1 ?_,fun h=>h2 ?_⟩<;>clear h1 h2 K1 K2
 .refine W.skip ?_
  have hlt:i<l.length:=by omega
  have bad:¬((0≤l[i].1∧1≤l[i].2∧l[i].1+l[i].2≤n)∧∀t (ht:t<i),apart l[t] l[i])→¬CB l n:=fun g w=>g ⟨w.2.2.2.1 _ (List.getElem_mem hlt),fun t ht=>List.pairwise_iff_getElem.1 w.2.2.2.2 t i (by omega) hlt ht⟩
  refine zb ?_
  (repeat refine W.seq ?_);refine W.midS (fun b:Bool=> [(0,.ro l.length (Af Al l)),(1,.int .i64 n),(5,.int .i64 i),(58,.bool b)]) (fun _=> []) (fun b=>b=false↔(0≤l[i].1∧1≤l[i].2∧l[i].1+l[i].2≤n)) ?_ ?_
  .by_cases d1:l[i].1<0
   . (repeat refine W.seq ?_);refine W.regd 0 rfl true Cq (by kernel_rfl) fun K hK=>?_;simp -implicitDefEqProofs (maxSteps:=999999) (disch:=omega) [Al,hlt,d1]
     refine zk ?_;clear hK K
     exact⟨true,by simp;omega,Wk.fr (by simp[Ac])⟩
   by_cases d2:l[i].2<1
   . (repeat refine W.seq ?_);refine W.regd 0 rfl true Cq (by kernel_rfl) fun K hK=>?_;simp -implicitDefEqProofs (maxSteps:=999999) (disch:=omega) [Al,hlt,d1,d2]
     refine zk ?_;clear hK K
     exact⟨true,by simp;omega,Wk.fr (by simp[Ac])⟩
   by_cases d3:n<l[i].1
   . (repeat refine W.seq ?_);refine W.regd 0 rfl true Cq (by kernel_rfl) fun K hK=>?_;simp -implicitDefEqProofs (maxSteps:=999999) (disch:=omega) [Al,hlt,d1,d2,d3]
     refine zk ?_;clear hK K
     exact⟨true,by simp;omega,Wk.fr (by simp[Ac])⟩
   by_cases d4:n-l[i].1<l[i].2
   . (repeat refine W.seq ?_);refine W.regd 0 rfl true Cq (by kernel_rfl) fun K hK=>?_;simp -implicitDefEqProofs (maxSteps:=999999) (disch:=omega) [Al,hlt,d1,d2,d3,d4]
     refine zk ?_;clear hK K
     exact⟨true,by simp;omega,Wk.fr (by simp[Ac])⟩
   . (repeat refine W.seq ?_);refine W.regd 0 rfl true Cq (by kernel_rfl) fun K hK=>?_;simp -implicitDefEqProofs (maxSteps:=999999) (disch:=omega) [Al,hlt,d1,d2,d3,d4]
     refine zk ?_;clear hK K
     exact⟨false,by simp;omega,Wk.fr (by simp[Ac])⟩
  .intro b hb
   cases b
   rotate_left
   .refine zt ?_
    refine zs ?_
    refine W.ret ?_;simp only[Cb,CT,Cp];refine Cd (d:=0) ?_;simp -implicitDefEqProofs (maxSteps:=999999) (disch:=omega)
    exact bad (fun g=>by have:=hb.2 g.1;simp at this)
   .have hr:=hb.1 rfl
    refine zn ?_
    refine W.skip ?_
    refine zs ?_
    (repeat refine W.seq ?_);refine W.block (W.loopS (fun k:Nat=> [(0,.ro l.length (Af Al l)),(1,.int .i64 n),(5,.int .i64 i),(6,.int .i64 k)]) (fun _=> []) (fun k=>i-k) (fun k=>k≤i∧∀t (ht:t<i),t<k→apart l[t] l[i]) 0 (Wk.fr (by simp[Ac])) ⟨by simp,fun t ht h2=>by omega⟩ ?_)
    rintro k ⟨hk,hap⟩
    refine zs ?_
    refine zc ?_ ?_<;>intro h
    .refine W.skip ?_
     have hki:k<i:=by omega
     have hkl:k<l.length:=by omega
     have hrk:=(hok k hkl hki).1
     refine zb ?_
     by_cases e1:l[i].1<l[k].1+l[k].2
     .by_cases e2:l[k].1<l[i].1+l[i].2
      . (repeat refine W.seq ?_);refine W.regd 0 rfl true Cq (by kernel_rfl) fun K hK=>?_;simp -implicitDefEqProofs (maxSteps:=999999) (disch:=omega) [Al,hlt,hkl,e1,e2]
        refine zk ?_;clear hK K
        refine zt ?_
        refine zs ?_
        refine zr ?_
        refine bad (fun g=>?_)
        have:=g.2 k hki
        simp only[apart] at this
        omega
      . (repeat refine W.seq ?_);refine W.regd 0 rfl true Cq (by kernel_rfl) fun K hK=>?_;simp -implicitDefEqProofs (maxSteps:=999999) (disch:=omega) [Al,hlt,hkl,e1,e2]
        refine zk ?_;clear hK K
        refine zn ?_
        refine W.skip ?_
        refine zs ?_
        refine⟨k+1,by omega,⟨by omega,fun t ht h2=>?_⟩,Wk.fr (by simp[Ac])⟩
        by_cases e:t=k
        .subst e;simp only[apart];omega
        .exact hap t ht (by omega)
     . (repeat refine W.seq ?_);refine W.regd 0 rfl true Cq (by kernel_rfl) fun K hK=>?_;simp -implicitDefEqProofs (maxSteps:=999999) (disch:=omega) [Al,hlt,hkl,e1]
       refine zk ?_;clear hK K
       refine zn ?_
       refine W.skip ?_
       refine zs ?_
       refine⟨k+1,by omega,⟨by omega,fun t ht h2=>?_⟩,Wk.fr (by simp[Ac])⟩
       by_cases e:t=k
       .subst e;simp only[apart];omega
       .exact hap t ht (by omega)
    .refine W.exit ?_
     have hk' :k=i:=by omega
     subst hk'
     refine zs ?_
     refine⟨k+1,by omega,⟨by omega,fun t ht h2=>?_⟩,Wk.fr (by simp[Ac])⟩
     by_cases e:t=k
     .subst e;exact⟨hr,fun u hu=>hap u hu hu⟩
     .exact hok t ht (by omega)
 .refine W.exit ?_
  refine zs ?_
  refine zr ?_
  refine⟨c1.1,c1.2,c2,fun x hx=>?_,?_⟩
  .obtain⟨t,ht,rfl⟩:=List.mem_iff_getElem.1 hx
   exact(hok t ht (by omega)).1
  .rw[List.pairwise_iff_getElem]
   intro a b ha hb hab
   exact(hok b hb (by omega)).2 a hab
end Go.Abs
set_option maxRecDepth 100000
namespace Go.Abs
open Go.Proofs
set_option maxHeartbeats 2000000 in
theorem NZ (s:AP) (l:List Obj) (x:C1) (hs:AZ s) (hlo:D4 l) (hx:Db x) (hm:CQ l) (ho:x.opn=true) (hp:x.pin=0):Aa pg 69 [.agg (Ay false s),.ro l.length (Af Av l),.agg (AG false x)] [] (fun r _=>r= .bool (decide (AA s l x))):=by
 refine Aa.start (fn:=Tryz.f69) [.tmp 6] tk rfl rfl rfl (by kernel_rfl) (Nat.le_of_ble_eq_true rfl) rfl (by kernel_rfl) ?_
 rw[Bq]
 refine z2 ?_;intro K hK;refine zk ?_;clear hK K
 refine Ae ho ?_;intro K hK
 refine zk ?_;clear hK K
 refine zn ?_
 refine W.skip ?_
 refine Ae hp ?_;intro K hK
 refine zk ?_;clear hK K
 refine zn ?_
 refine W.skip ?_
 cases hon:x.on
 .by_cases hf:x.frm=0
  .by_cases hst:x.stage=Au
   .have spE:=Ej x.stage Au hx.1
    rw[decide_eq_true hst] at spE
    refine A5 (an hon hf) ?_;intro K hK
    refine Ah.eq spE (by simp[Au]) (by simp) ?_
    refine AM hon ?_
    refine zk ?_;clear hK K
    refine zn ?_
    refine W.skip ?_
    refine z0 ?_;intro K hK
    refine Ab.eq (FS x.job B5 hx.2) (by simp[B5]) (by simp) ?_
    by_cases hj:x.job=B5
    .rw[decide_eq_true hj]
     refine zx ?_
     refine zk ?_;clear hK K
     refine zt ?_
     refine zs ?_
     refine zr ?_
     simp[AA,ho,hp,hon,hf,hst,hj]
    .rw[decide_eq_false hj]
     refine zx ?_
     refine zk ?_;clear hK K
     refine zn ?_
     refine W.skip ?_
     refine Ae hp ?_;intro K hK
     refine zk ?_;clear hK K
     refine zt ?_
     refine zs ?_
     refine zr ?_
     simp[AA,ho,hp,hon,hf,hst,hj]
   .have spE:=Ej x.stage Au hx.1
    rw[decide_eq_false hst] at spE
    refine A5 (an hon hf) ?_;intro K hK
    refine Ah.eq spE (by simp[Au]) (by simp) ?_
    refine AM hon ?_
    refine zk ?_;clear hK K
    refine zt ?_
    refine zs ?_
    refine zr ?_
    simp[AA,ho,hp,hon,hf,hst]
    try omega
  .refine A5 (an hon hf) ?_;intro K hK
   refine zk ?_;clear hK K
   refine zt ?_
   refine zs ?_
   refine zr ?_
   simp[AA,ho,hp,hon,hf]
   try omega
 .have spL:=KD s hs
  have spN:=HG x.frm (Ct s.vers)
  by_cases hf:0≤x.frm∧x.frm≤Ct s.vers
  rotate_left
  .rw[decide_eq_false hf] at spN
   have hf' :0≤x.frm→¬x.frm≤Ct s.vers:=fun a b=>hf ⟨a,b⟩
   refine A5 hon ?_;intro K hK
   refine Ah.eq spL (by simp) (by simp) ?_
   refine zx ?_
   refine Ah.eq spN (by simp) (by simp) ?_
   refine zx ?_
   refine zk ?_;clear hK K
   refine zt ?_
   refine zs ?_
   refine zr ?_
   simp only[AA,ho,hon,Bool.true_eq_false,if_false,if_true]
   exact fun h=>hf' h.2.1.1 h.2.1.2.1
  rw[decide_eq_true hf] at spN
  have spG:=IH x.stage hx.1
  by_cases hst:AY x.stage
  .rw[decide_eq_true hst] at spG
   have hf1:=hf.1
   have hf2:=hf.2
   refine A5 hon ?_;intro K hK
   refine Ah.eq spL (by simp) (by simp) ?_
   refine zx ?_
   refine Ah.eq spN (by simp) (by simp) ?_
   refine zx ?_
   refine Ah.eq spG (by simp) (by simp) ?_
   refine zx ?_
   refine zk ?_;clear hK K
   refine zn ?_
   refine W.skip ?_
   refine z0 ?_;intro K hK
   refine Ab.eq (FS x.job B5 hx.2) (by simp[B5]) (by simp) ?_
   by_cases hj:x.job=B5
   .rw[decide_eq_true hj]
    refine zx ?_
    refine zk ?_;clear hK K
    refine zt ?_
    refine zs ?_
    refine zr ?_
    simp[AA,ho,hp,hon,hf1,hf2,hst,hj]
   .rw[decide_eq_false hj]
    refine zx ?_
    refine zk ?_;clear hK K
    refine zn ?_
    refine W.skip ?_
    refine Ae hp ?_;intro K hK
    refine zk ?_;clear hK K
    refine zt ?_
    refine zs ?_
    refine zr ?_
    simp[AA,ho,hp,hon,hf1,hf2,hst,hj]
  .rw[decide_eq_false hst] at spG
   refine A5 hon ?_;intro K hK
   refine Ah.eq spL (by simp) (by simp) ?_
   refine zx ?_
   refine Ah.eq spN (by simp) (by simp) ?_
   refine zx ?_
   refine Ah.eq spG (by simp) (by simp) ?_
   refine zx ?_
   refine zk ?_;clear hK K
   refine zt ?_
   refine zs ?_
   refine zr ?_
   simp[AA,ho,hp,hon,hst]
   try omega
set_option maxHeartbeats 2000000 in
theorem N0 (s:AP) (l:List Obj) (x:C1) (hs:AZ s) (hlo:D4 l) (hx:Db x) (hm:CQ l) (ho:x.opn=true) (hp:¬x.pin=0) (hin:∃v∈s.vers,v.id=x.pin):Aa pg 69 [.agg (Ay false s),.ro l.length (Af Av l),.agg (AG false x)] [] (fun r _=>r= .bool (decide (AA s l x))):=by
 refine Aa.start (fn:=Tryz.f69) [.tmp 6] tk rfl rfl rfl (by kernel_rfl) (Nat.le_of_ble_eq_true rfl) rfl (by kernel_rfl) ?_
 rw[Bq]
 refine z2 ?_;intro K hK;refine zk ?_;clear hK K
 have spA:=Rx s x.pin hs
 have hix:¬BM (fun v:Cv=>decide (v.id=x.pin)) s.vers<0:=by
  have:=(Cw (f:=fun v:Cv=>decide (v.id=x.pin)) (l:=s.vers)).2 (by simpa using hin)
  omega
 have hin' :(∃v∈s.vers,v.id=x.pin)=True:=eq_true hin
 refine Ae ho ?_;intro K hK
 refine zk ?_;clear hK K
 refine zn ?_
 refine W.skip ?_
 refine Ae hp ?_;intro K hK
 refine Ab.eq spA (by simp) (by simp) ?_
 refine AM hix ?_
 refine zk ?_;clear hK K
 refine zn ?_
 refine W.skip ?_
 cases hon:x.on
 .by_cases hf:x.frm=0
  .by_cases hst:x.stage=Au
   .have spE:=Ej x.stage Au hx.1
    rw[decide_eq_true hst] at spE
    refine A5 (an hon hf) ?_;intro K hK
    refine Ah.eq spE (by simp[Au]) (by simp) ?_
    refine AM hon ?_
    refine zk ?_;clear hK K
    refine zn ?_
    refine W.skip ?_
    refine z0 ?_;intro K hK
    refine Ab.eq (FS x.job B5 hx.2) (by simp[B5]) (by simp) ?_
    by_cases hj:x.job=B5
    .rw[decide_eq_true hj]
     refine zx ?_
     refine zk ?_;clear hK K
     refine zt ?_
     refine zs ?_
     refine zr ?_
     simp[AA,ho,hp,hin',hon,hf,hst,hj]
    .rw[decide_eq_false hj]
     refine zx ?_
     refine zk ?_;clear hK K
     refine zn ?_
     refine W.skip ?_
     refine Ae hp ?_;intro K hK
     refine zk ?_;clear hK K
     refine zn ?_
     refine W.skip ?_
     have hgm:=FP l x.pin
     have hre:AA s l x↔(CN (By l x.pin).1 x.job=true∧Br (By l x.pin).1 x.job=false):=by simp[AA,ho,hp,hin',hon,hf,hst,hj]
     have spO:=Gl l x.pin hlo hm
     obtain⟨g,hg⟩:∃g,g=(By l x.pin).1:=⟨_,rfl⟩
     obtain⟨e,hee⟩:∃e,e=(By l x.pin).2:=⟨_,rfl⟩
     rw[←hg,←hee] at spO
     rw[←hg] at hgm hre
     have hde:decide (AA s l x)=(CN g x.job&&!Br g x.job):=by rw[Bool.eq_iff_iff];simp[hre]
     rw[hde]
     have spJ:=O8 g x.job hgm hx.2
     refine z1 ?_;intro K hK
     refine Ab.eq spO (by simp) (by simp) ?_
     refine zx ?_
     (repeat refine⟨by first|assumption|omega,?_⟩);refine hK _ _ ?_;clear hK K
     cases hjo:CN g x.job
     .rw[hjo] at spJ
      refine z0 ?_;intro K hK
      refine Ab.eq spJ (by simp) (by simp) ?_
      refine zx ?_
      refine zk ?_;clear hK K
      refine W.ret ?_;simp only[Cb,CT,Cp];refine Cd (d:=0) ?_;simp -implicitDefEqProofs (maxSteps:=999999) (disch:=omega)
      (try simp[hjo])
     .rw[hjo] at spJ
      refine z0 ?_;intro K hK
      refine Ab.eq spJ (by simp) (by simp) ?_
      refine zx ?_
      refine Ab.eq (KE g x.job (by have:=hx.2.1;omega)) (by simp) (by simp) ?_
      refine zx ?_
      refine zk ?_;clear hK K
      refine W.ret ?_;simp only[Cb,CT,Cp];refine Cd (d:=0) ?_;simp -implicitDefEqProofs (maxSteps:=999999) (disch:=omega)
      (try simp[hjo])
   .have spE:=Ej x.stage Au hx.1
    rw[decide_eq_false hst] at spE
    refine A5 (an hon hf) ?_;intro K hK
    refine Ah.eq spE (by simp[Au]) (by simp) ?_
    refine AM hon ?_
    refine zk ?_;clear hK K
    refine zt ?_
    refine zs ?_
    refine zr ?_
    simp[AA,ho,hp,hin',hon,hf,hst]
    try omega
  .refine A5 (an hon hf) ?_;intro K hK
   refine zk ?_;clear hK K
   refine zt ?_
   refine zs ?_
   refine zr ?_
   simp[AA,ho,hp,hin',hon,hf]
   try omega
 .have spL:=KD s hs
  have spN:=HG x.frm (Ct s.vers)
  by_cases hf:0≤x.frm∧x.frm≤Ct s.vers
  rotate_left
  .rw[decide_eq_false hf] at spN
   have hf' :0≤x.frm→¬x.frm≤Ct s.vers:=fun a b=>hf ⟨a,b⟩
   refine A5 hon ?_;intro K hK
   refine Ah.eq spL (by simp) (by simp) ?_
   refine zx ?_
   refine Ah.eq spN (by simp) (by simp) ?_
   refine zx ?_
   refine zk ?_;clear hK K
   refine zt ?_
   refine zs ?_
   refine zr ?_
   simp only[AA,ho,hon,Bool.true_eq_false,if_false,if_true]
   exact fun h=>hf' h.2.1.1 h.2.1.2.1
  rw[decide_eq_true hf] at spN
  have spG:=IH x.stage hx.1
  by_cases hst:AY x.stage
  .rw[decide_eq_true hst] at spG
   have hf1:=hf.1
   have hf2:=hf.2
   refine A5 hon ?_;intro K hK
   refine Ah.eq spL (by simp) (by simp) ?_
   refine zx ?_
   refine Ah.eq spN (by simp) (by simp) ?_
   refine zx ?_
   refine Ah.eq spG (by simp) (by simp) ?_
   refine zx ?_
   refine zk ?_;clear hK K
   refine zn ?_
   refine W.skip ?_
   refine z0 ?_;intro K hK
   refine Ab.eq (FS x.job B5 hx.2) (by simp[B5]) (by simp) ?_
   by_cases hj:x.job=B5
   .rw[decide_eq_true hj]
    refine zx ?_
    refine zk ?_;clear hK K
    refine zt ?_
    refine zs ?_
    refine zr ?_
    simp[AA,ho,hp,hin',hon,hf1,hf2,hst,hj]
   .rw[decide_eq_false hj]
    refine zx ?_
    refine zk ?_;clear hK K
    refine zn ?_
    refine W.skip ?_
    refine Ae hp ?_;intro K hK
    refine zk ?_;clear hK K
    refine zn ?_
    refine W.skip ?_
    have hgm:=FP l x.pin
    have hre:AA s l x↔(CN (By l x.pin).1 x.job=true∧Br (By l x.pin).1 x.job=false):=by simp[AA,ho,hp,hin',hon,hf1,hf2,hst,hj]
    have spO:=Gl l x.pin hlo hm
    obtain⟨g,hg⟩:∃g,g=(By l x.pin).1:=⟨_,rfl⟩
    obtain⟨e,hee⟩:∃e,e=(By l x.pin).2:=⟨_,rfl⟩
    rw[←hg,←hee] at spO
    rw[←hg] at hgm hre
    have hde:decide (AA s l x)=(CN g x.job&&!Br g x.job):=by rw[Bool.eq_iff_iff];simp[hre]
    rw[hde]
    have spJ:=O8 g x.job hgm hx.2
    refine z1 ?_;intro K hK
    refine Ab.eq spO (by simp) (by simp) ?_
    refine zx ?_
    (repeat refine⟨by first|assumption|omega,?_⟩);refine hK _ _ ?_;clear hK K
    cases hjo:CN g x.job
    .rw[hjo] at spJ
     refine z0 ?_;intro K hK
     refine Ab.eq spJ (by simp) (by simp) ?_
     refine zx ?_
     refine zk ?_;clear hK K
     refine W.ret ?_;simp only[Cb,CT,Cp];refine Cd (d:=0) ?_;simp -implicitDefEqProofs (maxSteps:=999999) (disch:=omega)
     (try simp[hjo])
    .rw[hjo] at spJ
     refine z0 ?_;intro K hK
     refine Ab.eq spJ (by simp) (by simp) ?_
     refine zx ?_
     refine Ab.eq (KE g x.job (by have:=hx.2.1;omega)) (by simp) (by simp) ?_
     refine zx ?_
     refine zk ?_;clear hK K
     refine W.ret ?_;simp only[Cb,CT,Cp];refine Cd (d:=0) ?_;simp -implicitDefEqProofs (maxSteps:=999999) (disch:=omega)
     (try simp[hjo])
  .rw[decide_eq_false hst] at spG
   refine A5 hon ?_;intro K hK
   refine Ah.eq spL (by simp) (by simp) ?_
   refine zx ?_
   refine Ah.eq spN (by simp) (by simp) ?_
   refine zx ?_
   refine Ah.eq spG (by simp) (by simp) ?_
   refine zx ?_
   refine zk ?_;clear hK K
   refine zt ?_
   refine zs ?_
   refine zr ?_
   simp[AA,ho,hp,hin',hon,hst]
   try omega
theorem N1 (s:AP) (l:List Obj) (x:C1) (hs:AZ s) (hlo:D4 l) (hx:Db x) (hm:CQ l):Aa pg 69 [.agg (Ay false s),.ro l.length (Af Av l),.agg (AG false x)] [] (fun r _=>r= .bool (decide (AA s l x))):=by
 by_cases ho' :x.opn=false
 .have spE:=IX x Cm hx
  refine Aa.start (fn:=Tryz.f69) [.tmp 6] tk rfl rfl rfl (by kernel_rfl) (Nat.le_of_ble_eq_true rfl) rfl (by kernel_rfl) ?_
  rw[Bq]
  refine z2 ?_;intro K hK;refine zk ?_;clear hK K
  refine Ae ho' ?_;intro K hK
  refine zk ?_;clear hK K
  refine zt ?_
  refine z0 ?_;intro K hK
  refine Ab.eq spE (by simp[Cm,Au,B5,ho']) (by simp) ?_
  refine zx ?_
  refine zk ?_;clear hK K
  refine zr ?_
  simp[AA,ho']
 have ho:x.opn=true:=by cases h:x.opn<;>simp_all
 by_cases hp:x.pin=0
 .exact NZ s l x hs hlo hx hm ho hp
 by_cases hin:∃v∈s.vers,v.id=x.pin
 .exact N0 s l x hs hlo hx hm ho hp hin
 have spA:=Rx s x.pin hs
 have hix:BM (fun v:Cv=>decide (v.id=x.pin)) s.vers<0:=by
  have:=mt (Cw (f:=fun v:Cv=>decide (v.id=x.pin)) (l:=s.vers)).1 (by simpa using hin)
  omega
 have hin' :(∃v∈s.vers,v.id=x.pin)=False:=eq_false hin
 refine Aa.start (fn:=Tryz.f69) [.tmp 6] tk rfl rfl rfl (by kernel_rfl) (Nat.le_of_ble_eq_true rfl) rfl (by kernel_rfl) ?_
 rw[Bq]
 refine z2 ?_;intro K hK;refine zk ?_;clear hK K
 refine Ae ho ?_;intro K hK
 refine zk ?_;clear hK K
 refine zn ?_
 refine W.skip ?_
 refine Ae hp ?_;intro K hK
 refine Ab.eq spA (by simp) (by simp) ?_
 refine AM hix ?_
 refine zk ?_;clear hK K
 refine zt ?_
 refine zs ?_
 refine zr ?_
 simp only[AA,ho,hin',hp]
 simp
end Go.Abs
set_option maxRecDepth 100000
namespace Go.Abs
open Go.Proofs
def Jv (s:AP) (i:Nat) (h:i<s.vers.length):Prop:=(By (Ar s) s.vers[i].id).2=0∧Gx s.vers[i]∧¬(s.vers[i].gone=true∧i+1=s.vers.length)
theorem Ia (s:AP):Bm s↔(1≤s.keep∧s.keep≤8)∧(1≤s.blocks∧s.blocks≤100)∧s.vers.length≤12∧s.sess.length=3∧CQ (Ar s)∧CB (AE s) s.blocks∧(∀i (h:i<s.vers.length),Jv s i h)∧∀x∈s.sess,AA s (Ar s) x:=by
 have hlast:Gc s.vers=false↔∀i (h:i<s.vers.length),¬(s.vers[i].gone=true∧i+1=s.vers.length):=by
  unfold Gc
  rw[List.getLast?_eq_getElem?]
  by_cases h0:s.vers.length=0
  .have:s.vers=[]:=List.eq_nil_of_length_eq_zero h0
   rw[this];simp
  .have hl:s.vers.length-1<s.vers.length:=by omega
   rw[List.getElem?_eq_getElem hl]
   simp only
   constructor
   .intro h i hi hg
    have:i=s.vers.length-1:=by omega
    subst this
    rw[h] at hg;simp at hg
   .intro h
    have:=h (s.vers.length-1) hl
    cases hg:(s.vers[s.vers.length-1]).gone
    .rfl
    .exact absurd ⟨hg,by omega⟩ this
 have hof:(∀o∈Ar s,(By (Ar s) o.id).2=0)↔∀i (h:i<s.vers.length),(By (Ar s) s.vers[i].id).2=0:=by
  constructor
  .intro h i hi
   exact h (Hz s.vers[i]) (List.mem_map.2 ⟨_,List.getElem_mem hi,rfl⟩)
  .intro h o ho
   obtain⟨v,hv,rfl⟩:=List.mem_map.1 ho
   obtain⟨i,hi,rfl⟩:=List.mem_iff_getElem.1 hv
   exact h i hi
 have hver:(∀v∈s.vers,Gx v)↔∀i (h:i<s.vers.length),Gx s.vers[i]:=by
  constructor
  .intro h i hi;exact h _ (List.getElem_mem hi)
  .intro h v hv
   obtain⟨i,hi,rfl⟩:=List.mem_iff_getElem.1 hv
   exact h i hi
 unfold Bm Gd Fk
 rw[hlast,hof,hver]
 constructor
 .rintro⟨⟨⟨a1,a2,a3,a4,a5,a6,a7⟩,b,c,d⟩,e⟩
  exact⟨⟨a1,a2⟩,⟨a3,a4⟩,by have:=a7.1;simpa[Ar] using this,b,a7,e,fun i h=>⟨c i h,a5 i h,a6 i h⟩,d⟩
 .rintro⟨⟨a1,a2⟩,⟨a3,a4⟩,_,b,a7,e,f,d⟩
  exact⟨⟨⟨a1,a2,a3,a4,fun i h=>(f i h).2.1,fun i h=>(f i h).2.2,a7⟩,b,fun i h=>(f i h).1,d⟩,e⟩
set_option maxHeartbeats 2000000 in
theorem Qj (s:AP) (hs:AZ s) (hx:CO s):Aa pg 13 [.agg (Ay false s)] [] (fun r _=>r= .bool (decide (Bm s))):=by
 have hi:=Ia s
 have h1:=hs.1
 have h2:=hs.2.1
 have spK:=DA s.keep 1 8
 have spB:=DA s.blocks 1 100
 refine Aa.start (fn:=Tryz.f13) [.tmp 2] tk rfl rfl rfl (by kernel_rfl) (Nat.le_of_ble_eq_true rfl) rfl (by kernel_rfl) ?_
 rw[At]
 refine z1 ?_;intro K hK;refine zk ?_;clear hK K
 by_cases c1:1≤s.keep∧s.keep≤8
 rotate_left
 .rw[decide_eq_false c1] at spK
  refine z0 ?_;intro K hK
  refine Ab.eq spK (by simp) (by simp) ?_
  refine zx ?_
  refine zk ?_;clear hK K
  refine zt ?_
  refine zs ?_
  refine zr ?_
  exact fun h=>c1 (hi.1 h).1
 rw[decide_eq_true c1] at spK
 by_cases c2:1≤s.blocks∧s.blocks≤100
 rotate_left
 .rw[decide_eq_false c2] at spB
  refine z0 ?_;intro K hK
  refine Ab.eq spK (by simp) (by simp) ?_
  refine zx ?_
  refine Ab.eq spB (by simp) (by simp) ?_
  simp only[DQ];simp -implicitDefEqProofs (maxSteps:=999999) (disch:=omega) []
  refine zk ?_;clear hK K
  refine zt ?_
  refine zs ?_
  refine zr ?_
  exact fun h=>c2 (hi.1 h).2.1
 rw[decide_eq_true c2] at spB
 by_cases c3:s.vers.length≤12
 rotate_left
 .have c3' :(12:Int)<(s.vers.length:Int):=by omega
  refine z0 ?_;intro K hK
  refine Ab.eq spK (by simp) (by simp) ?_
  refine zx ?_
  refine Ab.eq spB (by simp) (by simp) ?_
  refine AM c3' ?_
  refine zk ?_;clear hK K
  refine zt ?_
  refine zs ?_
  refine zr ?_
  exact fun h=>c3 (hi.1 h).2.2.1
 have c3' :¬(12:Int)<(s.vers.length:Int):=by omega
 by_cases c4:s.sess.length=3
 rotate_left
 .have c4' :((s.sess.length:Int)=3)=False:=eq_false (by omega)
  refine z0 ?_;intro K hK
  refine Ab.eq spK (by simp) (by simp) ?_
  refine zx ?_
  refine Ab.eq spB (by simp) (by simp) ?_
  refine AM (an c3' c4') ?_
  refine zk ?_;clear hK K
  refine zt ?_
  refine zs ?_
  refine zr ?_
  exact fun h=>c4 (hi.1 h).2.2.2.1
 have c4' :((s.sess.length:Int)=3)=True:=eq_true (by omega)
 refine z0 ?_;intro K hK
 refine Ab.eq spK (by simp) (by simp) ?_
 refine zx ?_
 refine Ab.eq spB (by simp) (by simp) ?_
 refine AM (an c3' c4') ?_
 refine zk ?_;clear hK K
 refine zn ?_
 refine W.skip ?_
 have spO:=Ki s hs
 have spR:=Nu s hs
 have hlo:D4 (Ar s):=hs.objs
 have spM:=O6 (Ar s) hlo
 have spP:=NY (AE s) s.blocks (by simp[AE];exact hs.1)
 obtain⟨l,hl⟩:∃l,l=Ar s:=⟨_,rfl⟩
 obtain⟨ps,hps⟩:∃ps,ps=AE s:=⟨_,rfl⟩
 have hll:l.length=s.vers.length:=by rw[hl];simp[Ar]
 rw[←hl] at spO spM hlo
 rw[←hps] at spR spP
 refine z0 ?_;intro K hK
 refine Ab.eq spO (by simp) (by simp) ?_
 refine zx ?_
 refine zk ?_;clear hK K
 by_cases c5:CQ l
 rotate_left
 .rw[decide_eq_false c5] at spM
  refine B8 ?_;intro K hK
  refine Ah.eq spM (by simp) (by simp) ?_
  refine zx ?_
  refine zk ?_;clear hK K
  refine zt ?_
  refine zs ?_
  refine zr ?_
  exact fun h=>c5 (by rw[hl];exact(hi.1 h).2.2.2.2.1)
 rw[decide_eq_true c5] at spM
 by_cases c6:CB ps s.blocks
 rotate_left
 .rw[decide_eq_false c6] at spP
  refine B8 ?_;intro K hK
  refine Ah.eq spM (by simp) (by simp) ?_
  refine zx ?_
  refine Ah.eq spR (by simp) (by simp) ?_
  refine zx ?_
  refine Ah.eq spP (by simp) (by simp) ?_
  refine zx ?_
  refine zk ?_;clear hK K
  refine zt ?_
  refine zs ?_
  refine zr ?_
  exact fun h=>c6 (by rw[hps];exact(hi.1 h).2.2.2.2.2.1)
 rw[decide_eq_true c6] at spP
 refine B8 ?_;intro K hK
 refine Ah.eq spM (by simp) (by simp) ?_
 refine zx ?_
 refine Ah.eq spR (by simp) (by simp) ?_
 refine zx ?_
 refine Ah.eq spP (by simp) (by simp) ?_
 refine zx ?_
 refine zk ?_;clear hK K
 refine zn ?_
 refine W.skip ?_
 refine zs ?_
 (repeat refine W.seq ?_);refine W.block (W.loopS (fun k:Nat=> [(1,.ptr 0 0 0),(3,.tok 1 0 4 0 l.length),(4,.int .i64 k)]) (fun _=> [.live 0 (Ay false s),.live 0 (Af Av l)]) (fun k=>s.vers.length-k) (fun k=>k≤s.vers.length∧∀i (h:i<s.vers.length),i<k→Jv s i h) 0 (Wk.cutM (k:=2) (by simp[Ac]) (by simp) (by simp) (by simp) (by simp) (by simp)) ⟨by omega,fun i h h2=>by omega⟩ ?_)
 rintro k ⟨hk,hok⟩
 refine zs ?_
 refine zc ?_ ?_<;>intro h
 .refine W.skip ?_
  have hlt:k<s.vers.length:=by omega
  have bad:¬Jv s k hlt→¬Bm s:=fun g w=>g ((hi.1 w).2.2.2.2.2.2.1 k hlt)
  have spV:=Gl l s.vers[k].id hlo c5
  have spN:=HG s.vers[k].parent (s.vers[k].id-1)
  have hidb:1≤s.vers[k].id∧s.vers[k].id≤1048576:=by
   have:=c5.2.1 (Hz s.vers[k]) (by rw[hl];exact List.mem_map.2 ⟨_,List.getElem_mem hlt,rfl⟩)
   exact⟨this.1,this.2.1⟩
  obtain⟨g,hg⟩:∃g,g=(By l s.vers[k].id).1:=⟨_,rfl⟩
  obtain⟨e,he⟩:∃e,e=(By l s.vers[k].id).2:=⟨_,rfl⟩
  rw[←hg,←he] at spV
  refine zb ?_
  (repeat refine W.seq ?_);refine W.reg 1 rfl fun K hK=>?_;simp -implicitDefEqProofs (maxSteps:=999999) (disch:=omega) [hlt]
  refine zk ?_;clear hK K
  refine z1 ?_;intro K hK
  refine Ab.eq spV (by simp) (by simp) ?_
  refine zx ?_
  refine zk ?_;clear hK K
  (repeat refine W.seq ?_);refine W.midS (fun b:Bool=> [(1,.ptr 0 0 0),(3,.tok 1 0 4 0 l.length),(4,.int .i64 k),(93,.bool b)]) (fun _=> [.live 0 (Ay false s),.live 0 (Af Av l)]) (fun b=>b=false↔Jv s k hlt) ?_ ?_
  .by_cases d1:e=0
   rotate_left
   .refine Ae d1 ?_;intro K hK
    refine zk ?_;clear hK K
    exact⟨true,by simp only[Bool.true_eq_false,false_iff];exact fun h=>d1 (by rw[he,hl];exact h.1),Wk.cutM (k:=2) (by simp[Ac]) (by simp) (by simp) (by simp) (by simp) (by simp)⟩
   by_cases d2:0≤s.vers[k].parent∧s.vers[k].parent≤s.vers[k].id-1
   rotate_left
   .rw[decide_eq_false d2] at spN
    refine Ae d1 ?_;intro K hK
    refine Ab.eq spN (by simp) (by simp) ?_
    refine zx ?_
    refine zk ?_;clear hK K
    exact⟨true,by simp only[Bool.true_eq_false,false_iff];exact fun h=>d2 ⟨h.2.1.1,by have:=h.2.1.2.1;omega⟩,Wk.cutM (k:=2) (by simp[Ac]) (by simp) (by simp) (by simp) (by simp) (by simp)⟩
   rw[decide_eq_true d2] at spN
   cases d3:s.vers[k].gone
   .refine Ae (an d1 d3) ?_;intro K hK
    refine Ab.eq spN (by simp) (by simp) ?_
    cases d4:s.vers[k].tag
    all_goals (
     refine AM (an d3 d4) ?_
     refine zk ?_;clear hK K
     exact⟨false,by simp only[true_iff];exact⟨by rw[←hl,←he];exact d1,⟨d2.1,by have:=d2.2;omega,by simp[d3]⟩,by simp[d3]⟩,Wk.cutM (k:=2) (by simp[Ac]) (by simp) (by simp) (by simp) (by simp) (by simp)⟩)
   .cases d4:s.vers[k].tag
    rotate_left
    .refine Ae (an d1 d3) ?_;intro K hK
     refine Ab.eq spN (by simp) (by simp) ?_
     refine AM (an d3 d4) ?_
     refine zk ?_;clear hK K
     exact⟨true,by simp only[Bool.true_eq_false,false_iff];exact fun h=>h.2.1.2.2 ⟨d4,d3⟩,Wk.cutM (k:=2) (by simp[Ac]) (by simp) (by simp) (by simp) (by simp) (by simp)⟩
    .by_cases d5:k+1=s.vers.length
     .have d5' :((k:Int)=(s.vers.length:Int)-1)=True:=eq_true (by omega)
      refine Ae (an d1 d3) ?_;intro K hK
      refine Ab.eq spN (by simp) (by simp) ?_
      refine AM (an d3 (an d4 d5')) ?_
      refine zk ?_;clear hK K
      exact⟨true,by simp only[Bool.true_eq_false,false_iff];exact fun h=>h.2.2 ⟨d3,d5⟩,Wk.cutM (k:=2) (by simp[Ac]) (by simp) (by simp) (by simp) (by simp) (by simp)⟩
     .have d5' :((k:Int)=(s.vers.length:Int)-1)=False:=eq_false (by omega)
      refine Ae (an d1 d3) ?_;intro K hK
      refine Ab.eq spN (by simp) (by simp) ?_
      refine AM (an d3 (an d4 d5')) ?_
      refine zk ?_;clear hK K
      exact⟨false,by simp only[true_iff];exact⟨by rw[←hl,←he];exact d1,⟨d2.1,by have:=d2.2;omega,by simp[d4]⟩,fun h=>d5 h.2⟩,Wk.cutM (k:=2) (by simp[Ac]) (by simp) (by simp) (by simp) (by simp) (by simp)⟩
  .intro b hb
   cases b
   .refine zn ?_
    refine W.skip ?_
    refine zs ?_
    refine⟨k+1,by omega,⟨by omega,fun i hi' h2=>?_⟩,Wk.fr (by simp[Ac])⟩
    by_cases ee:i=k
    .subst ee;exact hb.1 rfl
    .exact hok i hi' (by omega)
   .refine zt ?_
    refine zs ?_
    refine zr ?_
    exact bad (fun g=>by have:=hb.2 g;simp at this)
 .refine W.exit ?_
  have hk' :k=s.vers.length:=by omega
  subst hk'
  have hall:∀i (h:i<s.vers.length),Jv s i h:=fun i h=>hok i h h
  refine zs ?_
  (repeat refine W.seq ?_);refine W.block (W.loopS (fun k:Nat=> [(1,.ptr 0 0 0),(3,.tok 1 0 4 0 l.length),(8,.int .i64 k)]) (fun _=> [.live 0 (Ay false s),.live 0 (Af Av l)]) (fun k=>s.sess.length-k) (fun k=>k≤s.sess.length∧∀i (h:i<s.sess.length),i<k→AA s l s.sess[i]) 0 (Wk.fr (by simp[Ac])) ⟨by omega,fun i h h2=>by omega⟩ ?_)
  rintro k ⟨hk,hso⟩
  refine zs ?_
  refine zc ?_ ?_<;>intro h
  .refine W.skip ?_
   have hlt:k<s.sess.length:=by omega
   have spS:=N1 s l s.sess[k] hs hlo (hx _ (List.getElem_mem hlt)) c5
   refine zb ?_
   by_cases d:AA s l s.sess[k]
   .rw[decide_eq_true d] at spS
    (repeat refine W.seq ?_);refine W.regd 0 rfl true Cq (by kernel_rfl) fun K hK=>?_;simp -implicitDefEqProofs (maxSteps:=999999) (disch:=omega) [hlt]
    refine Ah.eq spS (by simp) (by simp) ?_
    refine zx ?_
    refine zk ?_;clear hK K
    refine zn ?_
    refine W.skip ?_
    refine zs ?_
    refine⟨k+1,by omega,⟨by omega,fun i hi' h2=>?_⟩,Wk.fr (by simp[Ac])⟩
    by_cases ee:i=k
    .subst ee;exact d
    .exact hso i hi' (by omega)
   .rw[decide_eq_false d] at spS
    (repeat refine W.seq ?_);refine W.regd 0 rfl true Cq (by kernel_rfl) fun K hK=>?_;simp -implicitDefEqProofs (maxSteps:=999999) (disch:=omega) [hlt]
    refine Ah.eq spS (by simp) (by simp) ?_
    refine zx ?_
    refine zk ?_;clear hK K
    refine zt ?_
    refine zs ?_
    refine zr ?_
    exact fun h=>d (by rw[hl];exact(hi.1 h).2.2.2.2.2.2.2 _ (List.getElem_mem hlt))
  .refine W.exit ?_
   refine zs ?_
   refine zr ?_
   refine hi.2 ⟨c1,c2,c3,c4,by rw[←hl];exact c5,by rw[←hps];exact c6,hall,fun x hxm=>?_⟩
   obtain⟨i,hi',rfl⟩:=List.mem_iff_getElem.1 hxm
   rw[←hl]
   exact hso i hi' (by omega)
end Go.Abs
set_option maxRecDepth 100000
namespace Go.Abs
open Go.Proofs
abbrev AX:Nat:=281474976710656
def WN (B:Nat) (P:Nat→Prop):AV→List Ag→Prop:=fun r _=>∃n:Nat,r= .int .i64 n∧n<B∧(n<1048576→P n)
theorem Nv (xs:List (List Int)) (h1:xs.length<AX) (h2:∀l∈xs,l.length<AX):Aa pg 101 [.ro xs.length (Aw false xs)] [] (WN 562949953421312 fun n=>xs.length≤n∧∀l∈xs,l.length≤n):=by
 simp only[AX] at h1 h2
 refine Aa.start (fn:=Tryz.f101) [.tmp 2] tk rfl rfl rfl (by kernel_rfl) (Nat.le_of_ble_eq_true rfl) rfl (by kernel_rfl) ?_
 rw[At]
 refine zs ?_
 refine zs ?_
 refine zs ?_
 (repeat refine W.seq ?_);refine W.block (W.loopS (fun s:Nat×Nat=> [(0,.ro xs.length (Aw false xs)),(3,.int .i64 (s.2:Nat)),(4,.int .i64 (s.1:Nat))]) (fun _=> []) (fun s=>xs.length-s.1) (fun s=>s.1≤xs.length∧xs.length≤s.2∧s.2<562949953421312∧∀l∈xs.take s.1,l.length≤s.2) (0,xs.length) (Wk.fr (by simp[Ac])) ⟨by simp,by simp,by simp only;omega,by simp⟩ ?_)
 rintro⟨i,n⟩ ⟨hi,hn,hb,hl⟩
 simp only at hi hn hb hl
 by_cases c1:i<xs.length
 .by_cases c2:n<1048576
  .have c2' :(n:Int)<1048576:=by omega
   have hto:xs.take (i+1)=xs.take i++[xs[i]]:=by rw[List.take_add_one];simp[c1]
   have hli:=h2 _ (List.getElem_mem c1)
   refine Ae (an c1 c2') ?_;intro K hK
   refine zk ?_;clear hK K
   refine zt ?_
   refine W.skip ?_
   refine zb ?_
   (repeat refine W.seq ?_);refine W.reg 0 rfl fun K hK=>?_;simp -implicitDefEqProofs (maxSteps:=999999) (disch:=omega) [c1]
   refine zk ?_;clear hK K
   refine zs ?_
   refine⟨(i+1,n+xs[i].length),by simp only;omega,⟨by simp only;omega,by simp only;omega,by simp only;omega,fun l hlm=>?_⟩,Wk.fr (by simp[Ac])⟩
   rw[hto] at hlm
   simp only[List.mem_append,List.mem_singleton] at hlm
   rcases hlm with hlm|rfl
   .have:=hl l hlm;simp only;omega
   .simp only;omega
  .have c2' :¬(n:Int)<1048576:=by omega
   refine Ae (an c1 c2') ?_;intro K hK
   refine zk ?_;clear hK K
   refine zn ?_
   refine W.exit ?_
   refine zs ?_
   refine zr ?_
   exact⟨n,rfl,by omega,fun h=>by omega⟩
 .refine Ae c1 ?_;intro K hK
  refine zk ?_;clear hK K
  refine zn ?_
  refine W.exit ?_
  have:i=xs.length:=by omega
  subst this
  rw[List.take_length] at hl
  refine zs ?_
  refine zr ?_
  exact⟨n,rfl,by omega,fun h=>⟨hn,hl⟩⟩
theorem MV (j:BX) (h1:j.list.length<AX) (h2:j.out.length<AX):Aa pg 102 [.agg (BI false j)] [] (fun r _=>r= .int .i64 ((j.list.length:Int)+j.out.length)):=by
 simp only[AX] at h1 h2
 refine Aa.start (fn:=Tryz.f102) [.tmp 2] tk rfl rfl rfl (by kernel_rfl) (Nat.le_of_ble_eq_true rfl) rfl (by kernel_rfl) ?_
 rw[At]
 refine z1 ?_;intro K hK;refine zk ?_;clear hK K
 refine zs ?_
 exact zR
theorem Jw (xs:List Obj) (h1:xs.length<AX) (h2:∀o∈xs,o.data.data.size<AX):Aa pg 103 [.ro xs.length (Af Av xs)] [] (WN 562949953421312 fun _=>True):=by
 simp only[AX] at h1 h2
 refine Aa.start (fn:=Tryz.f103) [.tmp 2] tk rfl rfl rfl (by kernel_rfl) (Nat.le_of_ble_eq_true rfl) rfl (by kernel_rfl) ?_
 rw[At]
 refine zs ?_
 refine zs ?_
 refine zs ?_
 (repeat refine W.seq ?_);refine W.block (W.loopS (fun s:Nat×Nat=> [(0,.ro xs.length (Af Av xs)),(3,.int .i64 (s.2:Nat)),(4,.int .i64 (s.1:Nat))]) (fun _=> []) (fun s=>xs.length-s.1) (fun s=>s.1≤xs.length∧s.2<562949953421312) (0,xs.length) (Wk.fr (by simp[Ac])) ⟨by simp,by simp only;omega⟩ ?_)
 rintro⟨i,n⟩ ⟨hi,hb⟩
 simp only at hi hb
 by_cases c1:i<xs.length
 .by_cases c2:n<1048576
  .have c2' :(n:Int)<1048576:=by omega
   have hli:=h2 _ (List.getElem_mem c1)
   refine Ae (an c1 c2') ?_;intro K hK
   refine zk ?_;clear hK K
   refine zt ?_
   refine W.skip ?_
   refine zb ?_
   (repeat refine W.seq ?_);refine W.reg 0 rfl fun K hK=>?_;simp -implicitDefEqProofs (maxSteps:=999999) (disch:=omega) [c1]
   refine zk ?_;clear hK K
   refine zs ?_
   refine⟨(i+1,n+xs[i].data.data.size/4),by simp only;omega,⟨by simp only;omega,by simp only;omega⟩,Wk.fr (by simp[Ac])⟩
  .have c2' :¬(n:Int)<1048576:=by omega
   refine Ae (an c1 c2') ?_;intro K hK
   refine zk ?_;clear hK K
   refine zn ?_
   refine W.exit ?_
   refine zs ?_
   refine zr ?_
   exact⟨n,rfl,by omega,fun h=>trivial⟩
 .refine Ae c1 ?_;intro K hK
  refine zk ?_;clear hK K
  refine zn ?_
  refine W.exit ?_
  refine zs ?_
  refine zr ?_
  exact⟨n,rfl,by omega,fun h=>trivial⟩
end Go.Abs
set_option maxRecDepth 100000
namespace Go.Abs
open Go.Proofs
def Ib (g:Gr):Prop:=g.out.length<AX∧∀l∈g.out,l.length<AX
def WS (x:C1):Prop:=Ib x.stage∧x.job.list.length<AX∧x.job.out.length<AX
def I9 (s:AP):Prop:=s.vers.length<AX∧s.sess.length<AX∧(∀v∈s.vers,v.data.data.size<AX)∧∀x∈s.sess,WS x
def E9 (n:Nat) (x:C1):Prop:=x.stage.out.length≤n∧(∀l∈x.stage.out,l.length≤n)∧x.job.list.length≤n∧x.job.out.length≤n
def D8 (n:Nat) (s:AP):Prop:=s.vers.length≤n∧s.sess.length≤n∧(∀v∈s.vers,v.data.data.size/4≤n)∧∀x∈s.sess,E9 n x
theorem E9.mono {n m:Nat} (h:n≤m) {x:C1} (k:E9 n x):E9 m x:=⟨by have:=k.1;omega,fun l hl=>by have:=k.2.1 l hl;omega,by have:=k.2.2.1;omega,by have:=k.2.2.2;omega⟩
theorem D8.mono {n m:Nat} (h:n≤m) {s:AP} (k:D8 n s):D8 m s:=⟨by have:=k.1;omega,by have:=k.2.1;omega,fun v hv=>by have:=k.2.2.1 v hv;omega,fun x hx=>(k.2.2.2 x hx).mono h⟩
theorem Kk (xs:List Gr) (h1:xs.length<AX) (h2:∀g∈xs,Ib g):Aa pg 141 [.ro xs.length (Af (AQ false) xs)] [] (WN 1125899906842624 fun _=>True):=by
 simp only[AX] at h1
 refine Aa.start (fn:=Tryz.f141) [.tmp 2] tk rfl rfl rfl (by kernel_rfl) (Nat.le_of_ble_eq_true rfl) rfl (by kernel_rfl) ?_
 rw[At]
 refine zs ?_
 refine zs ?_
 refine zs ?_
 (repeat refine W.seq ?_);refine W.block (W.loopS (fun s:Nat×Nat=> [(0,.ro xs.length (Af (AQ false) xs)),(3,.int .i64 (s.2:Nat)),(4,.int .i64 (s.1:Nat))]) (fun _=> []) (fun s=>xs.length-s.1) (fun s=>s.1≤xs.length∧s.2<1125899906842624) (0,xs.length) (Wk.fr (by simp[Ac])) ⟨by simp,by simp only;omega⟩ ?_)
 rintro⟨i,n⟩ ⟨hi,hb⟩
 simp only at hi hb
 by_cases c1:i<xs.length
 .by_cases c2:n<1048576
  .have c2' :(n:Int)<1048576:=by omega
   have hli:=h2 _ (List.getElem_mem c1)
   refine Ae (an c1 c2') ?_;intro K hK
   refine zk ?_;clear hK K
   refine zt ?_
   refine W.skip ?_
   refine zb ?_
   have cg:(Af (AQ false) xs)[i*2+1]?=some (.ro xs[i].out.length (Aw false xs[i].out)):=Bg (f:=AQ false) (s:=2) (fun _=>rfl) c1 (i:=1) (by omega)
   refine Ae (an c1 cg) ?_;intro K hK
   refine Ab.bor (Nv xs[i].out hli.1 hli.2) (by simp) ?_
   rintro r ⟨m,rfl,hm,_⟩
   refine⟨by simp,?_⟩
   refine zx ?_
   refine zk ?_;clear hK K
   refine zs ?_
   refine⟨(i+1,n+m),by simp only;omega,⟨by simp only;omega,by simp only;omega⟩,Wk.fr (by simp[Ac])⟩
  .have c2' :¬(n:Int)<1048576:=by omega
   refine Ae (an c1 c2') ?_;intro K hK
   refine zk ?_;clear hK K
   refine zn ?_
   refine W.exit ?_
   refine zs ?_
   refine zr ?_
   exact⟨n,rfl,by omega,fun _=>trivial⟩
 .refine Ae c1 ?_;intro K hK
  refine zk ?_;clear hK K
  refine zn ?_
  refine W.exit ?_
  refine zs ?_
  refine zr ?_
  exact⟨n,rfl,by omega,fun _=>trivial⟩
theorem Lq (s:AP) (h:I9 s):Aa pg 64 [.agg (Ay false s)] [] (fun r _=>∃n:Nat,r= .int .i64 n∧n<4503599627370496∧(n<1048576→D8 n s)):=by
 obtain⟨h1,h2,h3,h4⟩:=h
 simp only[AX] at h1 h2 h3
 refine Aa.start (fn:=Tryz.f64) [.tmp 2] tk rfl rfl rfl (by kernel_rfl) (Nat.le_of_ble_eq_true rfl) rfl (by kernel_rfl) ?_
 rw[At]
 refine z1 ?_;intro K hK;refine zk ?_;clear hK K
 refine zs ?_
 refine zs ?_
 (repeat refine W.seq ?_);refine W.block (W.loopS (fun z:Nat×Nat=> [(1,.ptr 0 0 0),(3,.int .i64 (z.2:Nat)),(4,.int .i64 (z.1:Nat))]) (fun _=> [.live 0 (Ay false s)]) (fun z=>s.vers.length-z.1) (fun z=>z.1≤s.vers.length∧s.vers.length+s.sess.length≤z.2∧z.2<1125899906842624∧∀v∈s.vers.take z.1,v.data.data.size/4≤z.2) (0,s.vers.length+s.sess.length) (Wk.fr (by simp[Ac])) ⟨by simp,by simp,by simp only;omega,by simp⟩ ?_)
 rintro⟨i,n⟩ ⟨hi,hn,hb,hl⟩
 simp only at hi hn hb hl
 by_cases c:i<s.vers.length∧n<1048576
 .obtain⟨c1,c2⟩:=c
  have c2' :(n:Int)<1048576:=by omega
  have hto:s.vers.take (i+1)=s.vers.take i++[s.vers[i]]:=by rw[List.take_add_one];simp[c1]
  have hli:=h3 _ (List.getElem_mem c1)
  refine Ae (an c1 c2') ?_;intro K hK
  refine zk ?_;clear hK K
  refine zt ?_
  refine W.skip ?_
  refine zb ?_
  (repeat refine W.seq ?_);refine W.reg 0 rfl fun K hK=>?_;simp -implicitDefEqProofs (maxSteps:=999999) (disch:=omega) [c1]
  refine zk ?_;clear hK K
  refine zs ?_
  refine⟨(i+1,n+s.vers[i].data.data.size/4),by simp only;omega,⟨by simp only;omega,by simp only;omega,by simp only;omega,fun v hv=>?_⟩,Wk.fr (by simp[Ac])⟩
  rw[hto] at hv
  simp only[List.mem_append,List.mem_singleton] at hv
  rcases hv with hv|rfl
  .have:=hl v hv;simp only;omega
  .simp only;omega
 .have hend:n<1048576→∀v∈s.vers,v.data.data.size/4≤n:=fun hh v hv=>hl v (by rw[List.take_of_length_le (by omega)];exact hv)
  (repeat refine W.seq ?_);refine W.midS (fun _:Unit=> [(1,.ptr 0 0 0),(3,.int .i64 (n:Nat)),(21,.bool false)]) (fun _=> [.live 0 (Ay false s)]) (fun _=>True) ?_ ?_
  .by_cases c1:i<s.vers.length
   .have c2' :¬(n:Int)<1048576:=by omega
    refine Ae (an c1 c2') ?_;intro K hK
    refine zk ?_;clear hK K
    exact⟨(),trivial,Wk.fr (by simp[Ac])⟩
   .refine Ae c1 ?_;intro K hK
    refine zk ?_;clear hK K
    exact⟨(),trivial,Wk.fr (by simp[Ac])⟩
  rintro _ _
  refine zn ?_
  refine W.exit ?_
  refine zs ?_
  clear hl
  (repeat refine W.seq ?_);refine W.block (W.loopS (fun z:Nat×Nat=> [(1,.ptr 0 0 0),(3,.int .i64 (z.2:Nat)),(5,.int .i64 (z.1:Nat))]) (fun _=> [.live 0 (Ay false s)]) (fun z=>s.sess.length-z.1) (fun z=>z.1≤s.sess.length∧n≤z.2∧z.2<4503599627370496∧∀x∈s.sess.take z.1,z.2<1048576→E9 z.2 x) (0,n) (Wk.fr (by simp[Ac])) ⟨by simp,by simp,by simp only;omega,by simp⟩ ?_)
  rintro⟨k,m⟩ ⟨hk,hm,hmb,hsm⟩
  simp only at hk hm hmb hsm
  by_cases d:k<s.sess.length∧m<1048576
  .obtain⟨d1,d2⟩:=d
   have d2' :(m:Int)<1048576:=by omega
   have hto:s.sess.take (k+1)=s.sess.take k++[s.sess[k]]:=by rw[List.take_add_one];simp[d1]
   obtain⟨b1,b2,b3⟩:=h4 _ (List.getElem_mem d1)
   have spJ:=MV s.sess[k].job b2 b3
   have spL:=Nv s.sess[k].stage.out b1.1 b1.2
   simp only[AX] at b2 b3
   refine Ae (an d1 d2') ?_;intro K hK
   refine zk ?_;clear hK K
   refine zt ?_
   refine W.skip ?_
   refine zb ?_
   (repeat refine W.seq ?_);refine W.regd 0 rfl true Cq (by kernel_rfl) fun K hK=>?_;simp -implicitDefEqProofs (maxSteps:=999999) (disch:=omega) [d1]
   refine⟨_,_,spL,.inl ⟨rfl,⟨[],by simp[B2]⟩,?_⟩⟩
   rintro r ⟨q,rfl,hq,hqs⟩
   refine⟨by simp,?_⟩
   simp only[DQ];simp -implicitDefEqProofs (maxSteps:=999999) (disch:=omega) [d1]
   refine Ah.eq spJ (by simp) (by simp) ?_
   refine zx ?_
   refine zk ?_;clear hK K
   refine zs ?_
   refine⟨(k+1,m+q+(s.sess[k].job.list.length+s.sess[k].job.out.length)),by simp only;omega,⟨by simp only;omega,by simp only;omega,by simp only;omega,fun x hx=>?_⟩,Wk.fr (by simp[Ac];try omega)⟩
   rw[hto] at hx
   simp only[List.mem_append,List.mem_singleton] at hx
   rcases hx with hx|rfl
   .intro hlt
    exact(hsm x hx (by simp only at hlt;omega)).mono (by simp only;omega)
   .intro hlt
    simp only at hlt
    obtain⟨q1,q2⟩:=hqs (by omega)
    exact⟨by simp only;omega,fun l hl=>by have:=q2 l hl;simp only;omega,by simp only;omega,by simp only;omega⟩
  .have hend2:m<1048576→∀x∈s.sess,E9 m x:=fun hh x hx=>hsm x (by rw[List.take_of_length_le (by omega)];exact hx) hh
   (repeat refine W.seq ?_);refine W.midS (fun _:Unit=> [(1,.ptr 0 0 0),(3,.int .i64 (m:Nat)),(43,.bool false)]) (fun _=> [.live 0 (Ay false s)]) (fun _=>True) ?_ ?_
   .by_cases c1:k<s.sess.length
    .have c2' :¬(m:Int)<1048576:=by omega
     refine Ae (an c1 c2') ?_;intro K hK
     refine zk ?_;clear hK K
     exact⟨(),trivial,Wk.fr (by simp[Ac])⟩
    .refine Ae c1 ?_;intro K hK
     refine zk ?_;clear hK K
     exact⟨(),trivial,Wk.fr (by simp[Ac])⟩
   rintro _ _
   refine zn ?_
   refine W.exit ?_
   refine zs ?_
   refine zr ?_
   exact⟨m,rfl,by omega,fun hh=>⟨by omega,by omega,fun v hv=>by have:=hend (by omega) v hv;omega,hend2 hh⟩⟩
end Go.Abs
set_option maxRecDepth 100000
namespace Go.Abs
open Go.Proofs
def C3 (L:List (List Obj)):List AV:=L.map fun l=>AV.ro l.length (Af Av l)
section
variable (xs:List (List Obj)) (k:Nat)
@[simp] theorem V6 (i:Nat):(C3 xs)[i]?=(xs[i]?).map fun l=>AV.ro l.length (Af Av l):=by simp[C3]
@[simp] theorem V7:(C3 xs).length=xs.length:=by simp[C3]
@[simp] theorem Vn:(C3 xs).drop k=C3 (xs.drop k):=by simp[C3,List.map_drop]
end
def Hc (G:List Gr) (na:Nat):List AV:=[.ro G.length (Af (AQ false) G),.ro na []]
def Hd (L:List (List Obj)) (G:List Gr) (na nn:Nat):List AV:= .ro L.length (C3 L)::(Hc G na++[.ro nn []])
def Kl (S:List AP) (L:List (List Obj)) (G:List Gr) (na nn:Nat):List AV:= .ro S.length (Af (Ay false) S)::Hd L G na nn
def Un:AV→List Ag→Prop:=fun r _=>∃b:Bool,r= .bool b
theorem Qk (G:List Gr) (na:Nat) (h1:G.length<AX) (h2:∀g∈G,Ib g) (h3:na<AX):Aa pg 104 [.agg (Hc G na)] [] Un:=by
 have sp:=Kk G h1 h2
 simp only[AX] at h1 h3
 simp only[Hc]
 refine Aa.start (fn:=Tryz.f104) [.tmp 2] tk rfl rfl rfl (by kernel_rfl) (Nat.le_of_ble_eq_true rfl) rfl (by kernel_rfl) ?_
 rw[At]
 refine z1 ?_;intro K hK;refine zk ?_;clear hK K
 refine B8 ?_;intro K hK
 refine⟨_,_,sp,.inl ⟨rfl,⟨[],by simp[B2]⟩,?_⟩⟩
 rintro r ⟨q,rfl,hq,_⟩
 refine⟨by simp,?_⟩
 refine zx ?_
 refine zk ?_;clear hK K
 refine zr ?_
 exact⟨_,rfl⟩
theorem Ql (L:List (List Obj)) (G:List Gr) (na nn:Nat) (h1:G.length<AX) (h2:∀g∈G,Ib g) (h3:na<AX) (h4:nn<AX) (h5:L.length<AX) (h6:∀l∈L,l.length<AX∧∀o∈l,o.data.data.size<AX):Aa pg 65 [.agg (Hd L G na nn)] [] Un:=by
 have sp6:=Qk G na h1 h2 h3
 simp only[AX] at h3 h4 h5
 simp only[Hc] at sp6
 simp only[Hd,Hc,List.cons_append,List.nil_append]
 refine Aa.start (fn:=Tryz.f65) [.tmp 2] tk rfl rfl rfl (by kernel_rfl) (Nat.le_of_ble_eq_true rfl) rfl (by kernel_rfl) ?_
 rw[At]
 refine z1 ?_;intro K hK;refine zk ?_;clear hK K
 refine zs ?_
 refine zs ?_
 (repeat refine W.seq ?_);refine W.block (W.loopS (fun s:Nat×Nat=> [(1,.ptr 0 0 0),(3,.int .i64 (s.2:Nat)),(4,.int .i64 (s.1:Nat))]) (fun _=> [.live 0 [.ro L.length (C3 L),.ro G.length (Af (AQ false) G),.ro na [],.ro nn []]]) (fun s=>L.length-s.1) (fun s=>s.1≤L.length∧s.2<1125899906842624) (0,nn+L.length) (Wk.fr (by simp[Ac])) ⟨by simp,by simp only;omega⟩ ?_)
 rintro⟨i,n⟩ ⟨hi,hb⟩
 simp only at hi hb
 by_cases c:i<L.length∧n<1048576
 .obtain⟨c1,c2⟩:=c
  have c2' :(n:Int)<1048576:=by omega
  have hli:=h6 _ (List.getElem_mem c1)
  refine Ae (an c1 c2') ?_;intro K hK
  refine zk ?_;clear hK K
  refine zt ?_
  refine W.skip ?_
  refine zb ?_
  (repeat refine W.seq ?_);refine W.reg 0 rfl fun K hK=>?_;simp -implicitDefEqProofs (maxSteps:=999999) (disch:=omega) [c1]
  refine Ab.bor (Jw L[i] hli.1 hli.2) (by simp) ?_
  rintro r ⟨m,rfl,hm,_⟩
  refine⟨by simp,?_⟩
  refine zx ?_
  refine zk ?_;clear hK K
  refine zs ?_
  exact⟨(i+1,n+m),by simp only;omega,⟨by simp only;omega,by simp only;omega⟩,Wk.fr (by simp[Ac])⟩
 . (repeat refine W.seq ?_);refine W.midS (fun _:Unit=> [(1,.ptr 0 0 0),(3,.int .i64 (n:Nat)),(20,.bool false)]) (fun _=> [.live 0 [.ro L.length (C3 L),.ro G.length (Af (AQ false) G),.ro na [],.ro nn []]]) (fun _=>True) ?_ ?_
   .by_cases c1:i<L.length
    .have c2' :¬(n:Int)<1048576:=by omega
     refine Ae (an c1 c2') ?_;intro K hK
     refine zk ?_;clear hK K
     exact⟨(),trivial,Wk.fr (by simp[Ac])⟩
    .refine Ae c1 ?_;intro K hK
     refine zk ?_;clear hK K
     exact⟨(),trivial,Wk.fr (by simp[Ac])⟩
   rintro _ _
   refine zn ?_
   refine W.exit ?_
   by_cases d:(700:Int)<n
   .refine Ae d ?_;intro K hK
    refine zk ?_;clear hK K
    refine zr ?_
    exact⟨_,rfl⟩
   .refine Ae d ?_;intro K hK
    refine Ab.bor sp6 (by simp) ?_
    rintro r ⟨b,rfl⟩
    refine⟨by simp,?_⟩
    refine zx ?_
    refine zk ?_;clear hK K
    refine zr ?_
    exact⟨_,rfl⟩
theorem Sp (S:List AP) (L:List (List Obj)) (G:List Gr) (na nn:Nat) (h0:S.length<AX) (hS:∀s∈S,I9 s) (h1:G.length<AX) (h2:∀g∈G,Ib g) (h3:na<AX) (h4:nn<AX) (h5:L.length<AX) (h6:∀l∈L,l.length<AX∧∀o∈l,o.data.data.size<AX):Aa pg 12 [.agg (Kl S L G na nn)] [] (fun r _=>∃b:Bool,r= .bool b∧(b=false→S.length≤1500∧∀s∈S,D8 1500 s)):=by
 have sp9:=Ql L G na nn h1 h2 h3 h4 h5 h6
 simp only[AX] at h0
 simp only[Hd,Hc,List.cons_append,List.nil_append] at sp9
 simp only[Kl,Hd,Hc,List.cons_append,List.nil_append]
 refine Aa.start (fn:=Tryz.f12) [.tmp 2] tk rfl rfl rfl (by kernel_rfl) (Nat.le_of_ble_eq_true rfl) rfl (by kernel_rfl) ?_
 rw[At]
 refine z1 ?_;intro K hK;refine zk ?_;clear hK K
 refine zs ?_
 refine zs ?_
 (repeat refine W.seq ?_);refine W.block (W.loopS (fun z:Nat×Nat=> [(1,.ptr 0 0 0),(3,.int .i64 (z.2:Nat)),(4,.int .i64 (z.1:Nat))]) (fun _=> [.live 0 [.ro S.length (Af (Ay false) S),.ro L.length (C3 L),.ro G.length (Af (AQ false) G),.ro na [],.ro nn []]]) (fun z=>S.length-z.1) (fun z=>z.1≤S.length∧S.length≤z.2∧z.2<9007199254740992∧(z.2<1048576→∀s∈S.take z.1,D8 z.2 s)) (0,S.length) (Wk.fr (by simp[Ac])) ⟨by simp,by simp,by simp only;omega,by simp⟩ ?_)
 rintro⟨i,n⟩ ⟨hi,hn,hb,hs⟩
 simp only at hi hn hb hs
 by_cases c:i<S.length∧n<1048576
 .obtain⟨c1,c2⟩:=c
  have c2' :(n:Int)<1048576:=by omega
  have hto:S.take (i+1)=S.take i++[S[i]]:=by rw[List.take_add_one];simp[c1]
  have spW:=Lq S[i] (hS _ (List.getElem_mem c1))
  have k0:(Af (Ay false) S)[i*4]?=some (.int .i64 S[i].keep):=Bg (f:=Ay false) (s:=4) (fun _=>rfl) c1 (i:=0) (by omega)
  have k1:(Af (Ay false) S)[i*4+1]?=some (.int .i64 S[i].blocks):=Bg (f:=Ay false) (s:=4) (fun _=>rfl) c1 (i:=1) (by omega)
  have k2:(Af (Ay false) S)[i*4+1+1]?=some (.ro S[i].vers.length (Af A8 S[i].vers)):=Bg (f:=Ay false) (s:=4) (fun _=>rfl) c1 (i:=2) (by omega)
  have k3:(Af (Ay false) S)[i*4+1+1+1]?=some (.ro S[i].sess.length (Af (AG false) S[i].sess)):=Bg (f:=Ay false) (s:=4) (fun _=>rfl) c1 (i:=3) (by omega)
  refine Ae (an c1 c2') ?_;intro K hK
  refine zk ?_;clear hK K
  refine zt ?_
  refine W.skip ?_
  refine zb ?_
  refine Ae (an c1 (an k0 (an k1 (an k2 k3)))) ?_;intro K hK
  refine Ab.bor spW (by simp) ?_
  rintro r ⟨m,rfl,hm,hsm⟩
  refine⟨by simp,?_⟩
  refine zx ?_
  refine zk ?_;clear hK K
  refine zs ?_
  refine⟨(i+1,n+m),by simp only;omega,⟨by simp only;omega,by simp only;omega,by simp only;omega,fun hlt s hsm' =>?_⟩,Wk.fr (by simp[Ac])⟩
  rw[hto] at hsm'
  simp only at hlt
  simp only[List.mem_append,List.mem_singleton] at hsm'
  rcases hsm' with hs' |rfl
  .exact(hs c2 s hs').mono (by simp only;omega)
  .exact(hsm (by omega)).mono (by simp only;omega)
 .have hend:n<1048576→∀s∈S,D8 n s:=fun hh s hss=>hs hh s (by rw[List.take_of_length_le (by omega)];exact hss)
  (repeat refine W.seq ?_);refine W.midS (fun _:Unit=> [(1,.ptr 0 0 0),(3,.int .i64 (n:Nat)),(16,.bool false)]) (fun _=> [.live 0 [.ro S.length (Af (Ay false) S),.ro L.length (C3 L),.ro G.length (Af (AQ false) G),.ro na [],.ro nn []]]) (fun _=>True) ?_ ?_
  .by_cases c1:i<S.length
   .have c2' :¬(n:Int)<1048576:=by omega
    refine Ae (an c1 c2') ?_;intro K hK
    refine zk ?_;clear hK K
    exact⟨(),trivial,Wk.fr (by simp[Ac])⟩
   .refine Ae c1 ?_;intro K hK
    refine zk ?_;clear hK K
    exact⟨(),trivial,Wk.fr (by simp[Ac])⟩
  rintro _ _
  refine zn ?_
  refine W.exit ?_
  by_cases d:(1500:Int)<n
  . (repeat refine W.seq ?_);refine W.reg 0 rfl fun K hK=>?_;simp -implicitDefEqProofs (maxSteps:=999999) (disch:=omega) [d]
    refine zk ?_;clear hK K
    refine W.ret ?_;simp only[Cb,CT,Cp];refine Cd (d:=0) ?_;simp -implicitDefEqProofs (maxSteps:=999999) (disch:=omega)
    (try exact⟨true,rfl,fun h=>by simp at h⟩)
  .refine Ae d ?_;intro K hK
   refine Ab.bor sp9 (by simp) ?_
   rintro r ⟨b,rfl⟩
   refine⟨by simp,?_⟩
   refine zx ?_
   refine zk ?_;clear hK K
   refine zr ?_
   exact fun _=>⟨by omega,fun s hss=>(hend (by omega) s hss).mono (by omega)⟩
theorem EM (e:Int):Aa pg 17 [.int .i64 e] [] (fun r _=>r= .int .i64 e):=by
 refine Aa.start (fn:=Tryz.f17) [.tmp 2] tk rfl rfl rfl (by kernel_rfl) (Nat.le_of_ble_eq_true rfl) rfl (by kernel_rfl) ?_
 rw[At]
 refine zs ?_
 refine zs ?_
 exact zR
end Go.Abs
