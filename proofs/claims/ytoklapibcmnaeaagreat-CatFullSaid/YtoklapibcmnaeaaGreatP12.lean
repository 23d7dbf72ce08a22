/- References: how deep an object is; its graph. -/
import Derived.Test.YtoklapibcmnaeaaGreatP11
set_option linter.unusedVariables false
set_option linter.unusedSimpArgs false
set_option maxRecDepth 100000
namespace Go.Abs
open Go.Proofs
theorem Mh (l:List Obj):∀(k:Nat) (id:Int),(A1 l (k+1) id).length≤k→A1 l (k+1) id=A1 l k id
 |0,id,h=>by
  have:A1 l (0+1) id=[]:=List.eq_nil_of_length_eq_zero (by omega)
  rw[this];rfl
 |k+1,id,h=>by
  rw[A1] at h ⊢
  conv=>rhs;rw[A1]
  by_cases h0:id=0
  .rw[if_pos h0,if_pos h0]
  .rw[if_neg h0] at h ⊢
   rw[if_neg h0]
   cases hf:Bl l id with
   |none=>rfl
   |some o=>
    rw[hf] at h
    simp only at h ⊢
    rw[Mh l k o.base (by simpa using h)]
theorem S1 (l:List Obj) (id:Int) (hl:D6 l) (hm:CK l):Aa pg 89 [.ro l.length (Af Av l),.int .i64 id] [] (fun r _=>r= .tup [.int .i64 (Ct l id).1,.int .i64 (Ct l id).2]):=by
 have hl12:=hm.1
 have spA:=LV l id (by omega)
 refine Aa.start (fn:=Tryz.f89) [.tmp 4,.tmp 5] tk rfl rfl rfl (by kernel_rfl) (Nat.le_of_ble_eq_true rfl) rfl (by kernel_rfl) ?_
 rw[Ar]
 refine zs ?_
 cases hf:Bl l id with
 |none=>
  rw[Kq hf] at spA
  refine z0 ?_;intro K hK
  refine Ab.eq spA (by simp) (by simp) ?_
  refine zx ?_
  refine zk ?_;clear hK K
  refine zt ?_
  refine zs ?_
  refine zr ?_
  simp[Ct,hf]
 |some o=>
  obtain⟨k,hk,hi,ho,Cn⟩:=El hf
  rw[hi] at spA
  have hde:Ct l id=if 3<(A1 l 4 id).length then(0,2) else(((A1 l 4 id).length:Int),0):=by simp only[Ct,hf]
  rw[hde]
  have hneg:¬(k:Int)<0:=by omega
  refine z0 ?_;intro K hK
  refine Ab.eq spA (by simp) (by simp) ?_
  refine AI hneg ?_
  refine zk ?_;clear hK K
  refine zn ?_
  refine W.skip ?_
  refine zs ?_
  (repeat refine W.seq ?_);refine W.block (W.loopS (fun s:Nat×Int=> [(0,.ro l.length (Af Av l)),(1,.int .i64 s.2),(6,.int .i64 s.1)]) (fun _=> []) (fun s=>4-s.1) (fun s=>s.1≤3∧(A1 l 4 id).length=s.1+(A1 l (4-s.1) s.2).length∧(s.2=0∨∃q∈l,q.id=s.2)) (0,id) (Wk.fr (by simp[Ad])) ⟨by simp,by simp,.inr ⟨o,Dx hf,Cn⟩⟩ ?_)
  rintro⟨n,j⟩ ⟨hn,hw,hj⟩
  simp only at hn hw hj
  by_cases h0:j=0
  .refine Ag h0 ?_;intro K hK
   refine zk ?_;clear hK K
   refine zn ?_
   refine W.exit ?_
   have hwl:(A1 l 4 id).length=n:=by
    rw[hw]
    obtain⟨m,hm'⟩:∃m,4-n=m+1:=⟨3-n,by omega⟩
    rw[hm',A1,if_pos h0];rfl
   refine zs ?_
   refine zr ?_
   rw[if_neg (by omega),hwl]
   simp
  .obtain⟨p,hp⟩:=HP (hj.resolve_left h0)
   obtain⟨z,hz,hiz,hpz,hpid⟩:=El hp
   have hpm:=Dx hp
   have spJ:=LV l j (by omega)
   rw[hiz] at spJ
   obtain⟨m,hm'⟩:∃m,4-n=m+1:=⟨3-n,by omega⟩
   have hwj:A1 l (4-n) j=p::A1 l m p.base:=by rw[hm',A1,if_neg h0,hp]
   rw[hwj,List.length_cons] at hw
   refine Ag h0 ?_;intro K hK
   refine zk ?_;clear hK K
   refine zt ?_
   refine W.skip ?_
   refine zb ?_
   refine zs ?_
   by_cases h3:n=3
   .have h3' :(3:Int)<(n:Int)+1:=by omega
    refine Ag h3' ?_;intro K hK
    refine zk ?_;clear hK K
    refine zt ?_
    refine zs ?_
    refine zr ?_
    rw[if_pos (by omega)]
    simp
   .have h3' :¬(3:Int)<(n:Int)+1:=by omega
    refine Ag h3' ?_;intro K hK
    refine zk ?_;clear hK K
    refine zn ?_
    refine W.skip ?_
    refine z0 ?_;intro K hK
    refine Ab.eq spJ (by simp) (by simp) ?_
    refine AI (an hz hpz) ?_
    refine zk ?_;clear hK K
    refine⟨(n+1,p.base),by simp only;omega,⟨by simp only;omega,by simp only;rw[show 4-(n+1)=m by omega];omega,?_⟩,Wk.fr (by simp[Ad])⟩
    have:=(hm.2.1 p hpm).2.2.2.2
    exact this
theorem Mi (l:List Obj):∀(k:Nat) (id:Int),(A1 l k id).length<k→A1 l (k+1) id=A1 l k id
 |0,id,h=>by simp[A1] at h
 |k+1,id,h=>by
  rw[A1] at h
  rw[A1]
  conv=>rhs;rw[A1]
  by_cases h0:id=0
  .rw[if_pos h0,if_pos h0]
  .rw[if_neg h0] at h ⊢
   rw[if_neg h0]
   cases hf:Bl l id with
   |none=>rfl
   |some o=>
    rw[hf] at h
    simp only at h ⊢
    rw[Mi l k o.base (by simpa using h)]
theorem U5 {l:List Obj} (hm:CK l) {id:Int} {o:Obj} (h:Bl l id=some o):id≠0:=by
 obtain⟨k,hk,_,ho,Cn⟩:=El h
 have:=(hm.2.1 o (Dx h)).1
 omega
theorem QX {l:List Obj} (hm:CK l) {id:Int} {o:Obj} (h:Bl l id=some o) (hd:(Ct l id).2=0):
 (o.base=0→Bi l id=match Ck (An o.data) with|some g=>(g,0) |none=>(AG,9))∧
 (o.base≠0→(A1 l 4 o.base).length<(A1 l 4 id).length∧Bi l id=if (Bi l o.base).2≠0 then(AG,(Bi l o.base).2) else match Cl (Bi l o.base).1 (An o.data) with|some g=>(g,0) |none=>(AG,9)):=by
 have Cn:=U5 hm h
 have hw:∀k,A1 l (k+1) id=o::A1 l k o.base:=fun k=>by rw[A1,if_neg Cn,h]
 have hlen:(A1 l 4 id).length≤3:=by
  simp only[Ct,h] at hd
  split at hd
  .simp at hd
  .omega
 have hof:Bi l id=match C0 Ck Cl (A1 l 3 id) with|some g=>(g,0) |none=>(AG,9):=by
  simp[Bi,hd];rfl
 rw[hw] at hlen
 simp only[List.length_cons] at hlen
 constructor
 .intro hb
  rw[hof,hw,C0,if_pos hb]
 .intro hb
  obtain⟨q,hq⟩:=HP ((hm.2.1 o (Dx h)).2.2.2.2.resolve_left hb)
  have e1:=Mi l 3 o.base (by omega)
  have e2:=Mh l 2 o.base (by show(A1 l 3 o.base).length≤2;omega)
  refine⟨by rw[e1,hw];simp,?_⟩
  have hdb:(Ct l o.base).2=0:=by
   simp only[Ct,hq]
   rw[if_neg (by rw[e1];omega)]
  have hofb:Bi l o.base=match C0 Ck Cl (A1 l 3 o.base) with|some g=>(g,0) |none=>(AG,9):=by
   simp[Bi,hdb];rfl
  rw[hof,hw,C0,if_neg hb,hofb,e2]
  cases C0 Ck Cl (A1 l 2 o.base) with
  |none=>simp
  |some a=>simp
theorem PG (l:List Obj) (hl:D6 l) (hm:CK l):∀(m:Nat) (id:Int),(A1 l 4 id).length<m→Aa pg 68 [.ro l.length (Af Av l),.int .i64 id] [] (fun r _=>r= .tup [.agg (AX true (Bi l id).1),.int .i64 (Bi l id).2]):=by
 intro m
 induction m with
 |zero=>
  intro id hw
  omega
 |succ m ih=>
  intro id hw
  have hl12:=hm.1
  have spD:=S1 l id hl hm
  refine Aa.start (fn:=Tryz.f68) [.cell 4 51,.tmp 5] tk rfl rfl rfl (by kernel_rfl) (Nat.le_of_ble_eq_true rfl) rfl (by kernel_rfl) ?_
  rw[Ar]
  refine z1 ?_;intro K hK;refine zk ?_;clear hK K
  by_cases hd:(Ct l id).2=0
  rotate_left
  .obtain⟨d,hdd⟩:∃d,d=Ct l id:=⟨_,rfl⟩
   have hof:Bi l id=(AG,d.2):=by rw[hdd];simp[Bi,hd]
   rw[hof]
   rw[←hdd] at spD hd
   refine z0 ?_;intro K hK
   refine Ab.eq spD (by simp) (by simp) ?_
   refine zx ?_
   refine zk ?_;clear hK K
   refine Ag hd ?_;intro K hK
   refine zk ?_;clear hK K
   refine zt ?_
   refine zs ?_
   refine W.weak (Wk.thaw (B:=0) (v:=0) (j:=1) (s:=1) (n:=0) (cs:=[.int .i64 0,.own 1 0 []]) (xs:=[]) (by rfl) (by rfl)) ?_
   refine zr ?_
   simp[AG]
  obtain⟨o,hf⟩:∃o,Bl l id=some o:=by
   cases hf:Bl l id with
   |some o=>exact⟨o,rfl⟩
   |none=>simp[Ct,hf] at hd
  obtain⟨k,hk,hi,ho,Cn⟩:=El hf
  have hom:=Dx hf
  have hbo:=(hm.2.1 o hom).2.2.1
  have hsz:=hl.2 o hom
  have spA:=LV l id (by omega)
  rw[hi] at spA
  obtain⟨st1,st2⟩:=QX hm hf hd
  obtain⟨d1,hd1⟩:∃d1,d1=(Ct l id).1:=⟨_,rfl⟩
  rw[←hd1,hd] at spD
  have spO:=VY o.data hbo.1 (by have:=hbo.2.2.1;omega) hsz
  obtain⟨bs,hbs⟩:∃bs,bs=An o.data:=⟨_,rfl⟩
  rw[←hbs] at spO st1 st2
  have hbl:bs.length<1000000000:=by
   have:=BX o.data
   have:=hbo.2.1
   rw[hbs];omega
  refine z0 ?_;intro K hK
  refine Ab.eq spD (by simp) (by simp) ?_
  refine zx ?_
  refine zk ?_;clear hK K
  refine zs ?_
  refine zn ?_
  refine W.skip ?_
  refine z1 ?_;intro K hK
  refine Ab.eq spA (by simp) (by simp) ?_
  refine AI (an hk ho) ?_
  refine zk ?_;clear hK K
  refine z0 ?_;intro K hK
  refine Ab.eq spO (by simp) (by simp) ?_
  refine zx ?_
  refine zk ?_;clear hK K
  refine z1 ?_;intro K hK;refine zk ?_;clear hK K
  refine zs ?_
  by_cases hb:o.base=0
  .refine Ag hb ?_;intro K hK
   refine zk ?_;clear hK K
   refine zt ?_
   have spF:=Nv bs hbl
   rw[Ns] at spF
   rw[st1 hb]
   cases hfr:Ck bs with
   |none=>
    rw[hfr] at spF
    simp only[E0] at spF
    refine z0 ?_;intro K hK
    refine Ab.eq spF (by simp) (by simp[AG]) ?_
    refine zx ?_
    refine zk ?_;clear hK K
    refine zs ?_
    refine zt ?_
    refine zs ?_
    refine W.weak (Wk.thaw (B:=0) (v:=0) (j:=1) (s:=1) (n:=0) (cs:=[.int .i64 0,.own 1 0 []]) (xs:=[]) (by rfl) (by rfl)) ?_
    refine zr ?_
    simp[AG]
   |some g=>
    rw[hfr] at spF
    simp only[E0] at spF
    refine z0 ?_;intro K hK
    refine Ab.eq spF (by simp) (by simp) ?_
    refine zx ?_
    refine zk ?_;clear hK K
    refine zs ?_
    refine zn ?_
    refine W.skip ?_
    refine zs ?_
    exact zR
  .obtain⟨st3,st4⟩:=st2 hb
   have spR:=ih o.base (by omega)
   rw[st4]
   have hma:=G1 l o.base
   obtain⟨a,ha⟩:∃a,a=Bi l o.base:=⟨_,rfl⟩
   rw[←ha] at spR hma ⊢
   refine Ag hb ?_;intro K hK
   refine zk ?_;clear hK K
   refine zn ?_
   by_cases he:a.2=0
   rotate_left
   .refine z1 ?_;intro K hK
    refine Ab.eq spR (by simp) (by simp) ?_
    refine zx ?_
    refine zk ?_;clear hK K
    refine Ag he ?_;intro K hK
    refine zk ?_;clear hK K
    refine zt ?_
    refine zs ?_
    refine W.weak (Wk.thaw (B:=0) (v:=0) (j:=1) (s:=1) (n:=0) (cs:=[.int .i64 0,.own 1 0 []]) (xs:=[]) (by rfl) (by rfl)) ?_
    refine zr ?_
    simp[AG,he]
   rw[he] at spR
   refine z1 ?_;intro K hK
   refine Ab.eq spR (by simp) (by simp) ?_
   refine zx ?_
   refine zk ?_;clear hK K
   refine zs ?_
   refine zn ?_
   refine W.skip ?_
   have spT:=Nw a.1 bs hbl hma
   rw[Nt _ _ hma] at spT
   rw[if_neg (by simp[he])]
   cases hfr:Cl a.1 bs with
   |none=>
    rw[hfr] at spT
    simp only[E0] at spT
    refine z0 ?_;intro K hK
    refine Ab.eq spT (by simp) (by simp[AG]) ?_
    refine zx ?_
    refine zk ?_;clear hK K
    refine zs ?_
    refine zt ?_
    refine zs ?_
    refine W.weak (Wk.thaw (B:=0) (v:=0) (j:=1) (s:=1) (n:=0) (cs:=[.int .i64 0,.own 1 0 []]) (xs:=[]) (by rfl) (by rfl)) ?_
    refine zr ?_
    simp[AG]
   |some g=>
    rw[hfr] at spT
    simp only[E0] at spT
    refine z0 ?_;intro K hK
    refine Ab.eq spT (by simp) (by simp) ?_
    refine zx ?_
    refine zk ?_;clear hK K
    refine zs ?_
    refine zn ?_
    refine W.skip ?_
    refine zs ?_
    exact zR
theorem Ih (l:List Obj) (id:Int) (hl:D6 l) (hm:CK l):Aa pg 68 [.ro l.length (Af Av l),.int .i64 id] [] (fun r _=>r= .tup [.agg (AX true (Bi l id).1),.int .i64 (Bi l id).2]):=PG l hl hm ((A1 l 4 id).length+1) id (Nat.lt_succ_self _)
end Go.Abs
set_option maxRecDepth 100000
namespace Go.Abs
open Go.Proofs
theorem U6 (g:Gr) (k a:Int) (hn:-1000000000≤g.n∧g.n≤1000000000):Aa pg 148 [.agg (AX false g),.int .i64 k,.int .i64 a] [] (fun r _=>r= .int .i64 (C8 g k a)):=by
 have spB:=Em k 1 6
 have spN:=JE k
 have spM:=HQ a (g.n-1)
 refine Aa.start (fn:=Tryz.f148) [.tmp 6] tk rfl rfl rfl (by kernel_rfl) (Nat.le_of_ble_eq_true rfl) rfl (by kernel_rfl) ?_
 rw[Bg]
 refine z1 ?_;intro K hK;refine zk ?_;clear hK K
 by_cases h1:1≤k∧k≤6
 rotate_left
 .rw[decide_eq_false h1] at spB
  refine z0 ?_;intro K hK
  refine Ab.eq spB (by simp) (by simp) ?_
  refine zx ?_
  refine zk ?_;clear hK K
  refine zt ?_
  refine zs ?_
  refine zr ?_
  rw[C8,if_pos h1]
 rw[decide_eq_true h1] at spB
 have e0:C8 g k a=if BS k=true∧¬(0≤a∧a<g.n) then 3 else 0:=by rw[C8,if_neg (fun h=>h h1)]
 rw[e0]
 refine z0 ?_;intro K hK
 refine Ab.eq spB (by simp) (by simp) ?_
 refine zx ?_
 refine zk ?_;clear hK K
 refine zn ?_
 refine W.skip ?_
 cases hnm:BS k
 .rw[hnm] at spN
  refine z0 ?_;intro K hK
  refine Ab.eq spN (by simp) (by simp) ?_
  refine zx ?_
  refine zk ?_;clear hK K
  refine zn ?_
  refine W.skip ?_
  refine zs ?_
  exact zR
 .rw[hnm] at spN
  by_cases h2:0≤a∧a<g.n
  .rw[decide_eq_true (show 0≤a∧a≤g.n-1 by omega)] at spM
   refine z0 ?_;intro K hK
   refine Ab.eq spN (by simp) (by simp) ?_
   refine zx ?_
   refine Ab.eq spM (by simp) (by simp) ?_
   refine zx ?_
   refine zk ?_;clear hK K
   refine zn ?_
   refine W.skip ?_
   refine zs ?_
   refine zr ?_
   (try simp[h2]);(try omega)
  .rw[decide_eq_false (show¬(0≤a∧a≤g.n-1) by omega)] at spM
   refine z0 ?_;intro K hK
   refine Ab.eq spN (by simp) (by simp) ?_
   refine zx ?_
   refine Ab.eq spM (by simp) (by simp) ?_
   refine zx ?_
   refine zk ?_;clear hK K
   refine zt ?_
   refine zs ?_
   refine zr ?_
   (try omega)
   (try (intro h3;exact Classical.byContradiction fun h4=>h2 ⟨h3,by omega⟩))
theorem QY (g:Gr) (k a:Int) (hm:A5 g) (hk:C8 g k a=0):Aa pg 150 [.agg (AX false g),.int .i64 k,.int .i64 a] [] (fun r _=>r= .agg (BA true (B0 g k a))):=by
 obtain⟨n,hn⟩:=Int.eq_ofNat_of_zero_le hm.1
 have hn16:n≤16:=by have:=hm.2.1;omega
 have hka:BS k=true→0≤a∧a<g.n:=by
  intro hnm
  unfold C8 at hk
  split at hk
  .simp at hk
  .split at hk
   .simp at hk
   .rename_i h;exact Classical.byContradiction fun g=>h ⟨hnm,g⟩
 have spN:=JE k
 refine Aa.start (fn:=Tryz.f150) [.cell 6 53] tk rfl rfl rfl (by kernel_rfl) (Nat.le_of_ble_eq_true rfl) rfl (by kernel_rfl) ?_
 rw[Bg]
 refine z2 ?_;intro K hK;refine zk ?_;clear hK K
 refine z1 ?_;intro K hK;refine zk ?_;clear hK K
 cases hnm:BS k
 .rw[hnm] at spN
  have h4:¬k=4:=fun e=>by simp[BS,e] at hnm
  refine z0 ?_;intro K hK
  refine Ab.eq spN (by simp) (by simp) ?_
  refine zx ?_
  refine zk ?_;clear hK K
  refine zn ?_
  refine W.skip ?_
  refine zs ?_
  refine W.weak (Wk.thaw (B:=2) (v:=0) (j:=4) (s:=1) (n:=0) (xs:=[]) (by rfl) (by rfl)) ?_
  refine W.weak (Wk.thaw (B:=2) (v:=0) (j:=5) (s:=1) (n:=0) (xs:=[]) (by rfl) (by rfl)) ?_
  rw[hn]
  by_cases h5:k=5
  .rw[show(List.nil:List AV)=Ac (IH 0) from rfl]
   (repeat refine W.seq ?_);refine W.block (W.loopS (fun i:Nat=> [(1,.int .i64 k),(2,.int .i64 a),(3,.ptr 0 0 0),(6,.ptr 1 0 0),(7,.ptr 2 0 0),(8,.int .i64 i)]) (fun i=> [.live 0 [.int .i64 n,DM false g.out],.live 0 [.int .i64 0,.int .i64 0,.int .i64 0,.bool false,.own 1 0 [],.own 1 0 []],.live 0 [.int .i64 k,.int .i64 0,.int .i64 0,.bool false,.tok 3 0 1 0 0,.tok 4 i 1 0 i],.live 0 [],.live i (Ac (IH i))]) (fun i=>n-i) (fun i=>i≤n) 0 (Wk.fr (by simp[Ad])) (Nat.zero_le _) ?_)
   intro i hi
   refine zs ?_
   refine zc ?_ ?_<;>intro h
   .refine W.skip ?_
    refine zb ?_
    refine zs ?_
    refine zb ?_
    refine Ag h4 ?_;intro K hK
    refine zk ?_;clear hK K
    refine zn ?_
    refine Ag h5 ?_;intro K hK
    refine zk ?_;clear hK K
    refine zt ?_
    refine z1 ?_;intro K hK
    refine⟨by omega,by omega,?_⟩
    refine zk ?_;clear hK K
    refine zs ?_
    refine⟨i+1,by omega,by omega,Wk.cutM (k:=5) (by simp[Ad];try omega) ?_ (by simp) (by simp) (by simp) (by simp)⟩
    rw[L7]
    simp[Ac]
    (try omega)
   .refine W.exit ?_
    have:i=n:=by omega
    subst this
    refine Ag h4 ?_;intro K hK
    refine zk ?_;clear hK K
    refine zn ?_
    refine W.skip ?_
    refine zs ?_
    refine zr ?_
    simp[B0,hnm,h4,h5,hn]
    exact⟨by simp[BS],by rw[List.take_of_length_le (by simp)]⟩
  .rw[show(List.nil:List AV)=Ac ([]) from rfl]
   (repeat refine W.seq ?_);refine W.block (W.loopS (fun i:Nat=> [(1,.int .i64 k),(2,.int .i64 a),(3,.ptr 0 0 0),(6,.ptr 1 0 0),(7,.ptr 2 0 0),(8,.int .i64 i)]) (fun i=> [.live 0 [.int .i64 n,DM false g.out],.live 0 [.int .i64 0,.int .i64 0,.int .i64 0,.bool false,.own 1 0 [],.own 1 0 []],.live 0 [.int .i64 k,.int .i64 0,.int .i64 0,.bool false,.tok 3 0 1 0 0,.tok 4 0 1 0 0],.live 0 [],.live 0 (Ac ([]))]) (fun i=>n-i) (fun i=>i≤n) 0 (Wk.fr (by simp[Ad])) (Nat.zero_le _) ?_)
   intro i hi
   refine zs ?_
   refine zc ?_ ?_<;>intro h
   .refine W.skip ?_
    refine zb ?_
    refine zs ?_
    refine zb ?_
    refine Ag h4 ?_;intro K hK
    refine zk ?_;clear hK K
    refine zn ?_
    refine Ag h5 ?_;intro K hK
    refine zk ?_;clear hK K
    refine zn ?_
    refine W.skip ?_
    refine zs ?_
    exact⟨i+1,by omega,by omega,Wk.fr (by simp[Ad])⟩
   .refine W.exit ?_
    have:i=n:=by omega
    subst this
    refine Ag h4 ?_;intro K hK
    refine zk ?_;clear hK K
    refine zn ?_
    refine W.skip ?_
    refine zs ?_
    refine zr ?_
    simp[B0,hnm,h4,h5,hn]
 .rw[hnm] at spN
  have ha:=hka hnm
  obtain⟨b,hb⟩:=Int.eq_ofNat_of_zero_le ha.1
  have hbn:b<n:=by omega
  have h5:¬k=5:=fun e=>by simp[BS,e] at hnm
  refine z0 ?_;intro K hK
  refine Ab.eq spN (by simp) (by simp) ?_
  refine zx ?_
  refine zk ?_;clear hK K
  refine zt ?_
  refine zs ?_
  refine zs ?_
  refine W.weak (Wk.thaw (B:=2) (v:=0) (j:=4) (s:=1) (n:=0) (xs:=[]) (by rfl) (by rfl)) ?_
  refine W.weak (Wk.thaw (B:=2) (v:=0) (j:=5) (s:=1) (n:=0) (xs:=[]) (by rfl) (by rfl)) ?_
  rw[hn]
  by_cases h4:k=4
  .rw[show(List.nil:List AV)=Ac (List.replicate 0 (-1)) from rfl]
   (repeat refine W.seq ?_);refine W.block (W.loopS (fun i:Nat=> [(1,.int .i64 k),(2,.int .i64 a),(3,.ptr 0 0 0),(6,.ptr 1 0 0),(7,.ptr 2 0 0),(8,.int .i64 i)]) (fun i=> [.live 0 [.int .i64 n,DM false g.out],.live 0 [.int .i64 0,.int .i64 0,.int .i64 0,.bool false,.own 1 0 [],.own 1 0 []],.live 0 [.int .i64 k,.int .i64 a,.int .i64 0,.bool false,.tok 3 0 1 0 0,.tok 4 i 1 0 i],.live 0 [],.live i (Ac (List.replicate i (-1)))]) (fun i=>n-i) (fun i=>i≤n) 0 (Wk.fr (by simp[Ad])) (Nat.zero_le _) ?_)
   intro i hi
   refine zs ?_
   refine zc ?_ ?_<;>intro h
   .refine W.skip ?_
    refine zb ?_
    refine zs ?_
    refine zb ?_
    refine Ag h4 ?_;intro K hK
    refine zk ?_;clear hK K
    refine zt ?_
    refine z1 ?_;intro K hK
    refine⟨by omega,by omega,?_⟩
    refine zk ?_;clear hK K
    refine zs ?_
    refine⟨i+1,by omega,by omega,Wk.cutM (k:=5) (by simp[Ad];try omega) ?_ (by simp) (by simp) (by simp) (by simp)⟩
    rw[List.replicate_succ']
    simp[Ac]
    (try omega)
   .refine W.exit ?_
    have:i=n:=by omega
    subst this
    refine Ag h4 ?_;intro K hK
    refine zk ?_;clear hK K
    refine zt ?_
    refine Ag (an hbn hb) ?_;intro K hK
    refine⟨by omega,?_⟩
    rw[Dd]
    refine zk ?_;clear hK K
    refine z1 ?_;intro K hK
    refine zk ?_;clear hK K
    refine zs ?_
    refine zr ?_
    simp[B0,hnm,h4,hn,si,hb]
    exact⟨by simp[BS],by simp[Ac],by rw[List.take_of_length_le (by simp)]⟩
  .rw[show(List.nil:List AV)=Ac ([]) from rfl]
   (repeat refine W.seq ?_);refine W.block (W.loopS (fun i:Nat=> [(1,.int .i64 k),(2,.int .i64 a),(3,.ptr 0 0 0),(6,.ptr 1 0 0),(7,.ptr 2 0 0),(8,.int .i64 i)]) (fun i=> [.live 0 [.int .i64 n,DM false g.out],.live 0 [.int .i64 0,.int .i64 0,.int .i64 0,.bool false,.own 1 0 [],.own 1 0 []],.live 0 [.int .i64 k,.int .i64 a,.int .i64 0,.bool false,.tok 3 0 1 0 0,.tok 4 0 1 0 0],.live 0 [],.live 0 (Ac ([]))]) (fun i=>n-i) (fun i=>i≤n) 0 (Wk.fr (by simp[Ad])) (Nat.zero_le _) ?_)
   intro i hi
   refine zs ?_
   refine zc ?_ ?_<;>intro h
   .refine W.skip ?_
    refine zb ?_
    refine zs ?_
    refine zb ?_
    refine Ag h4 ?_;intro K hK
    refine zk ?_;clear hK K
    refine zn ?_
    refine Ag h5 ?_;intro K hK
    refine zk ?_;clear hK K
    refine zn ?_
    refine W.skip ?_
    refine zs ?_
    exact⟨i+1,by omega,by omega,Wk.fr (by simp[Ad])⟩
   .refine W.exit ?_
    have:i=n:=by omega
    subst this
    refine Ag h4 ?_;intro K hK
    refine zk ?_;clear hK K
    refine zn ?_
    refine W.skip ?_
    refine zs ?_
    refine zr ?_
    simp[B0,hnm,h4,h5,hn]
end Go.Abs
set_option maxRecDepth 100000
namespace Go.Abs
open Go.Proofs
theorem S2 (g:Gr) (j:BW) (hg:A5 g) (h:Fb g j) (ho:Bv g j=false) (h1:j.kind=1):Aa pg 151 [.agg (AX false g),.agg (BA false j)] [] (fun r _=>r= .agg (BA true (AQ g j))):=by
 obtain⟨n,hn⟩:=Int.eq_ofNat_of_zero_le hg.1
 obtain⟨v,hv⟩:=Int.eq_ofNat_of_zero_le h.a0
 have hn16:n≤16:=by have:=hg.2.1;omega
 have hvn:v≤n:=by have:=h.an;omega
 have hout:g.out.length=n:=by have:=hg.2.2.1;omega
 have hsm:=h.small hg
 have hwl:∀i (hi:i<g.out.length),g.out[i].length≤16:=fun i hi=>by rw[←Bf hi];exact CB hg _
 have ha:=h.na (by rw[h1];rfl)
 obtain⟨a,hae⟩:=Int.eq_ofNat_of_zero_le ha.1
 have hal:a<g.out.length:=by omega
 have hvis:AQ g j={j with at_:=(v:Int)+1,out:=g.out[a]}:=by
  simp[AQ,h1,hv,hae,Bf hal]
 rw[hvis]
 refine Aa.start (fn:=Tryz.f151) [.cell 4 53] tk rfl rfl rfl (by kernel_rfl) (Nat.le_of_ble_eq_true rfl) rfl (by kernel_rfl) ?_
 rw[Ar]
 refine z3 ?_;intro K hK;refine zk ?_;clear hK K
 refine z0 ?_;intro K hK
 refine Ab.eq (En j ⟨by omega,by omega⟩) (by simp) (by simp) ?_
 refine zx ?_
 refine zk ?_;clear hK K
 refine Ag hv ?_;intro K hK
 refine zk ?_;clear hK K
 refine Ag hv ?_;intro K hK
 refine zk ?_;clear hK K
 refine Ag h1 ?_;intro K hK
 refine zk ?_;clear hK K
 refine zb ?_
 refine Ag h1 ?_;intro K hK
 refine zk ?_;clear hK K
 refine zt ?_
 refine Ag (an hae hal) ?_;intro K hK
 refine Ab.eq (DV g.out[a] (by have:=hwl a hal;omega)) (by simp) (by simp) ?_
 refine zx ?_
 refine zk ?_;clear hK K
 refine zs ?_
 refine zr ?_
 simp[h1,hae]
theorem S3 (g:Gr) (j:BW) (hg:A5 g) (h:Fb g j) (ho:Bv g j=false) (h2:j.kind=2):Aa pg 151 [.agg (AX false g),.agg (BA false j)] [] (fun r _=>r= .agg (BA true (AQ g j))):=by
 obtain⟨n,hn⟩:=Int.eq_ofNat_of_zero_le hg.1
 obtain⟨v,hv⟩:=Int.eq_ofNat_of_zero_le h.a0
 have hn16:n≤16:=by have:=hg.2.1;omega
 have hvn:v≤n:=by have:=h.an;omega
 have hout:g.out.length=n:=by have:=hg.2.2.1;omega
 have hsm:=h.small hg
 have hwl:∀i (hi:i<g.out.length),g.out[i].length≤16:=fun i hi=>by rw[←Bf hi];exact CB hg _
 have hvl:v<g.out.length:=by
  unfold Bv at ho
  simp[h2] at ho
  omega
 have hc2:=h.c2 h2
 have hvis:AQ g j={j with at_:=(v:Int)+1,out:=j.out++if g.out[v].contains j.a=true then [(v:Int)] else []}:=by
  simp[AQ,h2,hv,Bf hvl]
 rw[hvis]
 have sp:=Sn g.out[v] j.a (by have:=hwl v hvl;omega)
 have hix:=Jq g.out[v] j.a
 obtain⟨z,hz⟩:∃z,z=BN (fun y=>decide (y=j.a)) g.out[v]:=⟨_,rfl⟩
 rw[←hz] at sp hix
 refine Aa.start (fn:=Tryz.f151) [.cell 4 53] tk rfl rfl rfl (by kernel_rfl) (Nat.le_of_ble_eq_true rfl) rfl (by kernel_rfl) ?_
 rw[Ar]
 refine z3 ?_;intro K hK;refine zk ?_;clear hK K
 refine z0 ?_;intro K hK
 refine Ab.eq (En j ⟨by omega,by omega⟩) (by simp) (by simp) ?_
 refine zx ?_
 refine zk ?_;clear hK K
 refine Ag hv ?_;intro K hK
 refine zk ?_;clear hK K
 refine Ag hv ?_;intro K hK
 refine zk ?_;clear hK K
 refine Ag h2 ?_;intro K hK
 refine zk ?_;clear hK K
 refine zb ?_
 refine Ag h2 ?_;intro K hK
 refine zk ?_;clear hK K
 refine zn ?_
 refine Ag h2 ?_;intro K hK
 refine zk ?_;clear hK K
 refine zt ?_
 (repeat refine W.seq ?_);refine W.regd 0 rfl true Ci (by kernel_rfl) fun K hK=>?_;simp -implicitDefEqProofs (maxSteps:=999999) (disch:=omega) [hvl]
 refine Ah.eq sp (by simp) (by simp) ?_
 cases hc:g.out[v].contains j.a
 .have hz0:¬0≤z:=by rw[hix,hc];simp
  have hc' :¬j.a∈g.out[v]:=by simpa using hc
  refine AI hz0 ?_
  refine zk ?_;clear hK K
  refine zn ?_
  refine W.skip ?_
  refine zs ?_
  refine zr ?_
  simp[h2,hc']
 .have hz0:0≤z:=by rw[hix,hc]
  have hc' :j.a∈g.out[v]:=by simpa using hc
  refine AI hz0 ?_
  refine zk ?_;clear hK K
  refine zt ?_
  refine z1 ?_;intro K hK
  refine⟨by omega,by omega,?_⟩
  refine zk ?_;clear hK K
  have e:Ac j.out++[AV.int .i64 v]=Ac (j.out++[(v:Int)]):=by simp[Ac]
  rw[e]
  refine zs ?_
  refine zr ?_
  simp[h2,hc']
  rw[List.take_of_length_le (by simp)]
theorem S4 (g:Gr) (j:BW) (hg:A5 g) (h:Fb g j) (ho:Bv g j=false) (h3:j.kind=3):Aa pg 151 [.agg (AX false g),.agg (BA false j)] [] (fun r _=>r= .agg (BA true (AQ g j))):=by
 obtain⟨n,hn⟩:=Int.eq_ofNat_of_zero_le hg.1
 obtain⟨v,hv⟩:=Int.eq_ofNat_of_zero_le h.a0
 have hn16:n≤16:=by have:=hg.2.1;omega
 have hvn:v≤n:=by have:=h.an;omega
 have hout:g.out.length=n:=by have:=hg.2.2.1;omega
 have hsm:=h.small hg
 have hwl:∀i (hi:i<g.out.length),g.out[i].length≤16:=fun i hi=>by rw[←Bf hi];exact CB hg _
 have hvl:v<g.out.length:=by
  unfold Bv at ho
  simp[h3] at ho
  omega
 obtain⟨hc3,hc3b⟩:=h.c3 h3
 obtain⟨m,hm⟩:∃m,m=g.out[v].length:=⟨_,rfl⟩
 have hm16:m≤16:=by have:=hwl v hvl;omega
 have hvis:AQ g j={j with at_:=(v:Int)+1,out:=si (CS j.out m) m (gi (CS j.out m) m+1)}:=by
  simp[AQ,h3,hv,Bf hvl,hm]
 rw[hvis]
 refine Aa.start (fn:=Tryz.f151) [.cell 4 53] tk rfl rfl rfl (by kernel_rfl) (Nat.le_of_ble_eq_true rfl) rfl (by kernel_rfl) ?_
 rw[Ar]
 refine z3 ?_;intro K hK;refine zk ?_;clear hK K
 refine z0 ?_;intro K hK
 refine Ab.eq (En j ⟨by omega,by omega⟩) (by simp) (by simp) ?_
 refine zx ?_
 refine zk ?_;clear hK K
 refine Ag hv ?_;intro K hK
 refine zk ?_;clear hK K
 refine Ag hv ?_;intro K hK
 refine zk ?_;clear hK K
 refine Ag h3 ?_;intro K hK
 refine zk ?_;clear hK K
 refine zb ?_
 refine Ag h3 ?_;intro K hK
 refine zk ?_;clear hK K
 refine zn ?_
 refine Ag h3 ?_;intro K hK
 refine zk ?_;clear hK K
 refine zn ?_
 refine Ag h3 ?_;intro K hK
 refine zk ?_;clear hK K
 refine zt ?_
 rw[show Ac j.out=Ac (j.out++List.replicate 0 0) by simp]
 (repeat refine W.seq ?_);refine W.block (W.loopS (fun k:Nat=> [(2,.ptr 0 0 0),(3,.ptr 1 0 0),(4,.ptr 2 0 0),(5,.int .i64 v)]) (fun k=> [.live 0 (AX false g),.live 0 [.int .i64 3,.int .i64 j.a,.int .i64 ((v:Int)+1),.bool j.move,.tok 3 0 1 0 j.list.length,.tok 4 k 1 0 (j.out.length+k)],.live 0 [.int .i64 0,.int .i64 0,.int .i64 0,.bool false,.own 1 0 [],.own 1 0 []],.live 0 (Ac j.list),.live k (Ac (j.out++List.replicate k 0))]) (fun k=>m+1-(j.out.length+k)) (fun k=>k=0∨j.out.length+k≤m+1) 0 (Wk.fr (by simp[Ad])) (.inl rfl) ?_)
 intro k hk
 by_cases hle:j.out.length+k≤g.out[v].length
 .refine Bj (an hvl hle) ?_;intro K hK
  refine zk ?_;clear hK K
  refine zt ?_
  refine W.skip ?_
  refine zb ?_
  refine z1 ?_;intro K hK
  refine⟨by omega,by omega,?_⟩
  refine zk ?_;clear hK K
  have e:Ac (j.out++List.replicate k 0)++[AV.int .i64 0]=Ac (j.out++List.replicate (k+1) 0):=by rw[List.replicate_succ'];simp[Ac]
  refine⟨k+1,by omega,.inr (by omega),Wk.cutM (k:=5) (by simp[Ad]) ?_ (by simp) (by simp) (by simp) (by simp)⟩
  rw[←e];rfl
 .refine Bj (an hvl hle) ?_;intro K hK
  refine zk ?_;clear hK K
  refine zn ?_
  refine W.exit ?_
  have hU:j.out++List.replicate k 0=CS j.out m:=by rw[CS,show m+1-j.out.length=k by omega]
  have hUl:(CS j.out m).length=j.out.length+k:=by rw[←hU];simp
  have hml:m<(CS j.out m).length:=by omega
  have hUb:∀y∈CS j.out m,0≤y∧y≤j.at_:=fun y hy=>by
   rcases Jo hy with hy|rfl
   .exact hc3b y hy
   .exact⟨Int.le_refl _,h.a0⟩
  have hb:=hUb _ (List.getElem_mem hml)
  rw[hU,C1 hml,si]
  simp only[Int.toNat_natCast]
  generalize CS j.out m=U at*
  subst hm
  refine Bj (an hvl hml) ?_;intro K hK
  refine zk ?_;clear hK K
  rw[Dd]
  refine zs ?_
  refine zr ?_
  simp[h3,hUl]
  rw[List.take_of_length_le (by simp;omega)]
theorem S5 (g:Gr) (j:BW) (hg:A5 g) (h:Fb g j) (ho:Bv g j=false) (h6:j.kind=6):Aa pg 151 [.agg (AX false g),.agg (BA false j)] [] (fun r _=>r= .agg (BA true (AQ g j))):=by
 obtain⟨n,hn⟩:=Int.eq_ofNat_of_zero_le hg.1
 obtain⟨v,hv⟩:=Int.eq_ofNat_of_zero_le h.a0
 have hn16:n≤16:=by have:=hg.2.1;omega
 have hvn:v≤n:=by have:=h.an;omega
 have hout:g.out.length=n:=by have:=hg.2.2.1;omega
 have hsm:=h.small hg
 have hwl:∀i (hi:i<g.out.length),g.out[i].length≤16:=fun i hi=>by rw[←Bf hi];exact CB hg _
 have hvl:v<g.out.length:=by
  unfold Bv at ho
  simp[h6] at ho
  omega
 have hc6:=h.c6 h6
 have hvis:AQ g j={j with at_:=(v:Int)+1,out:=j.out++Es v g.out[v]}:=by
  simp[AQ,h6,hv,Bf hvl,Es]
 rw[hvis]
 have hvv:=hwl v hvl
 refine Aa.start (fn:=Tryz.f151) [.cell 4 53] tk rfl rfl rfl (by kernel_rfl) (Nat.le_of_ble_eq_true rfl) rfl (by kernel_rfl) ?_
 rw[Ar]
 refine z3 ?_;intro K hK;refine zk ?_;clear hK K
 refine z0 ?_;intro K hK
 refine Ab.eq (En j ⟨by omega,by omega⟩) (by simp) (by simp) ?_
 refine zx ?_
 refine zk ?_;clear hK K
 refine Ag hv ?_;intro K hK
 refine zk ?_;clear hK K
 refine Ag hv ?_;intro K hK
 refine zk ?_;clear hK K
 refine Ag h6 ?_;intro K hK
 refine zk ?_;clear hK K
 refine zb ?_
 refine Ag h6 ?_;intro K hK
 refine zk ?_;clear hK K
 refine zn ?_
 refine Ag h6 ?_;intro K hK
 refine zk ?_;clear hK K
 refine zn ?_
 refine Ag h6 ?_;intro K hK
 refine zk ?_;clear hK K
 refine zn ?_
 refine Ag h6 ?_;intro K hK
 refine zk ?_;clear hK K
 refine zt ?_
 refine zs ?_
 rw[show Ac j.out=Ac (j.out++Es v (g.out[v].take 0)) by simp[Es]]
 (repeat refine W.seq ?_);refine W.block (W.loopS (fun k:Nat=> [(2,.ptr 0 0 0),(3,.ptr 1 0 0),(4,.ptr 2 0 0),(5,.int .i64 v),(6,.int .i64 k)]) (fun k=> [.live 0 (AX false g),.live 0 [.int .i64 6,.int .i64 j.a,.int .i64 ((v:Int)+1),.bool j.move,.tok 3 0 1 0 j.list.length,.tok 4 k 1 0 (j.out.length+2*k)],.live 0 [.int .i64 0,.int .i64 0,.int .i64 0,.bool false,.own 1 0 [],.own 1 0 []],.live 0 (Ac j.list),.live k (Ac (j.out++Es v (g.out[v].take k)))]) (fun k=>g.out[v].length-k) (fun k=>k≤g.out[v].length) 0 (Wk.fr (by simp[Ad])) (by simp) ?_)
 intro k hk
 (repeat refine W.seq ?_);refine W.reg 0 rfl fun K hK=>?_;simp -implicitDefEqProofs (maxSteps:=999999) (disch:=omega) [hvl]
 refine zk ?_;clear hK K
 refine zc ?_ ?_<;>intro h
 .refine W.skip ?_
  have hlt:k<g.out[v].length:=by omega
  have hto:g.out[v].take (k+1)=g.out[v].take k++[g.out[v][k]]:=by rw[List.take_add_one];simp[hlt]
  have hr2:DI 2 [AV.int .i64 0]=[AV.int .i64 0,AV.int .i64 0]:=rfl
  have hpk:(Es v (g.out[v].take k)).length=2*k:=by rw[IT];simp;omega
  refine zb ?_
  (repeat refine W.seq ?_);refine W.regd 1 rfl true Ci (by kernel_rfl) fun K hK=>?_;simp -implicitDefEqProofs (maxSteps:=999999) (disch:=omega) [hr2,hpk,hvl,hlt]
  refine⟨by omega,by omega,?_⟩
  refine zk ?_;clear hK K
  refine zs ?_
  have e:Ac (j.out++Es v (g.out[v].take k))++[AV.int .i64 v,AV.int .i64 g.out[v][k]]=Ac (j.out++Es v (g.out[v].take (k+1))):=by rw[hto,Mb];simp[Ac]
  refine⟨k+1,by omega,by omega,Wk.cutM (k:=5) (by simp[Ad]) ?_ (by simp) (by simp) (by simp) (by simp)⟩
  rw[←e];rfl
 .refine W.exit ?_
  have hk' :k=g.out[v].length:=by omega
  subst hk'
  rw[List.take_length]
  have hfl:=IT (v:Int) g.out[v]
  refine zs ?_
  refine zr ?_
  refine⟨h6.symm,?_,?_⟩
  .rw[hfl]
  .rw[List.take_of_length_le (by rw[List.length_append,hfl];exact Nat.le_refl _)]
theorem S6 (g:Gr) (j:BW) (hg:A5 g) (h:Fb g j) (ho:Bv g j=false) (h4:j.kind=4):Aa pg 151 [.agg (AX false g),.agg (BA false j)] [] (fun r _=>r= .agg (BA true (AQ g j))):=by
 obtain⟨n,hn⟩:=Int.eq_ofNat_of_zero_le hg.1
 obtain⟨v,hv⟩:=Int.eq_ofNat_of_zero_le h.a0
 have hn16:n≤16:=by have:=hg.2.1;omega
 have hvn:v≤n:=by have:=h.an;omega
 have hout:g.out.length=n:=by have:=hg.2.2.1;omega
 have hsm:=h.small hg
 have hwl:∀i (hi:i<g.out.length),g.out[i].length≤16:=fun i hi=>by rw[←Bf hi];exact CB hg _
 obtain⟨c1,c2,c3,c4,c5⟩:=h.c4 h4
 have hvl:v<j.list.length:=by simp[Bv,h4] at ho;omega
 have hm:=c4 _ (List.getElem_mem hvl)
 obtain⟨u,hu⟩:=Int.eq_ofNat_of_zero_le hm.1
 rw[hu] at hm
 have hul:u<g.out.length:=by omega
 have hul2:=hwl u hul
 have hws:∀w∈g.out[u],0≤w∧w<g.n:=fun w hw=>EQ hg (v:=(u:Int)) (by rw[Bf hul];exact hw)
 have hf:=fun k=>Hf (n:=g.n) (v:=(u:Int)) ⟨hm.1,hm.2.1⟩ (g.out[u].take k) (j.out,j.list) (fun w hw=>hws w (List.mem_of_mem_take hw)) hm.2.2 c1 c2 c4 c5
 have hvis:AQ g j={j with at_:=(v:Int)+1,out:=(g.out[u].foldl (AZ u) (j.out,j.list)).1,list:=(g.out[u].foldl (AZ u) (j.out,j.list)).2}:=by
  have e:gi j.list (v:Int)=(u:Int):=by rw[C1 hvl,hu]
  simp[AQ,h4,hv,e,Bf hul]
 rw[hvis]
 refine Aa.start (fn:=Tryz.f151) [.cell 4 53] tk rfl rfl rfl (by kernel_rfl) (Nat.le_of_ble_eq_true rfl) rfl (by kernel_rfl) ?_
 rw[Ar]
 refine z3 ?_;intro K hK;refine zk ?_;clear hK K
 refine z0 ?_;intro K hK
 refine Ab.eq (En j ⟨by omega,by omega⟩) (by simp) (by simp) ?_
 refine zx ?_
 refine zk ?_;clear hK K
 refine Ag hv ?_;intro K hK
 refine zk ?_;clear hK K
 refine Ag hv ?_;intro K hK
 refine zk ?_;clear hK K
 refine Ag h4 ?_;intro K hK
 refine zk ?_;clear hK K
 refine zb ?_
 refine Ag h4 ?_;intro K hK
 refine zk ?_;clear hK K
 refine zn ?_
 refine Ag h4 ?_;intro K hK
 refine zk ?_;clear hK K
 refine zn ?_
 refine Ag h4 ?_;intro K hK
 refine zk ?_;clear hK K
 refine zn ?_
 refine Ag h4 ?_;intro K hK
 refine zk ?_;clear hK K
 refine zn ?_
 refine Ag h4 ?_;intro K hK
 refine zk ?_;clear hK K
 refine zt ?_
 refine Ag (an hvl hu) ?_;intro K hK
 refine zk ?_;clear hK K
 refine zs ?_
 rw[show j.out.length=n by omega]
 (repeat refine W.seq ?_);refine W.block (W.loopS (fun k:Nat=> [(2,.ptr 0 0 0),(3,.ptr 1 0 0),(4,.ptr 2 0 0),(5,.int .i64 u),(7,.int .i64 k)]) (fun k=> [.live 0 (AX false g),.live 0 [.int .i64 4,.int .i64 j.a,.int .i64 ((v:Int)+1),.bool j.move,.tok 3 (((g.out[u].take k).foldl (AZ u) (j.out,j.list)).2.length-j.list.length) 1 0 ((g.out[u].take k).foldl (AZ u) (j.out,j.list)).2.length,.tok 4 0 1 0 n],.live 0 [.int .i64 0,.int .i64 0,.int .i64 0,.bool false,.own 1 0 [],.own 1 0 []],.live (((g.out[u].take k).foldl (AZ u) (j.out,j.list)).2.length-j.list.length) (Ac ((g.out[u].take k).foldl (AZ u) (j.out,j.list)).2),.live 0 (Ac ((g.out[u].take k).foldl (AZ u) (j.out,j.list)).1)]) (fun k=>g.out[u].length-k) (fun k=>k≤g.out[u].length) 0 ?_ (by simp) ?_)
 .have e:((g.out[u].take 0).foldl (AZ u) (j.out,j.list))=(j.out,j.list):=rfl
  rw[e]
  simp only[Nat.sub_self]
  exact Wk.fr (by simp[Ad])
 intro k hk
 (repeat refine W.seq ?_);refine W.reg 0 rfl fun K hK=>?_;simp -implicitDefEqProofs (maxSteps:=999999) (disch:=omega) [hul]
 refine zk ?_;clear hK K
 refine zc ?_ ?_<;>intro h
 .refine W.skip ?_
  have hlt:k<g.out[u].length:=by omega
  have hst:=FO (AZ (u:Int)) (j.out,j.list) g.out[u] k hlt
  obtain⟨f0,f1,f2,f3,f4,f5⟩:=hf k
  have hw:=hws _ (List.getElem_mem hlt)
  generalize (g.out[u].take k).foldl (AZ u) (j.out,j.list)=s at*
  simp only at f5
  obtain⟨w,hwe⟩:=Int.eq_ofNat_of_zero_le hw.1
  rw[hwe] at hw hst
  have hl1:u<s.1.length:=by omega
  have hl2:w<s.1.length:=by omega
  rw[C1 hl1] at f0
  have hub:=f4 _ (List.getElem_mem hl1)
  have hs2:s.2.length≤16:=by omega
  refine zb ?_
  refine Ag (an hul (an hlt hwe)) ?_;intro K hK
  refine zk ?_;clear hK K
  by_cases hneg:s.1[w]<0
  .have hps:AZ (u:Int) s w=(s.1.set w (s.1[u]+1),s.2++[(w:Int)]):=by
    simp only[AZ,C1 hl1,C1 hl2,si]
    rw[if_pos hneg];rfl
   rw[hps] at hst
   refine Ag (an hl2 hneg) ?_;intro K hK
   refine zk ?_;clear hK K
   refine zt ?_
   refine Bj (an hl1 hl2) ?_;intro K hK
   refine zk ?_;clear hK K
   rw[Dd]
   refine z1 ?_;intro K hK
   refine⟨by omega,by omega,?_⟩
   refine zk ?_;clear hK K
   refine zs ?_
   refine⟨k+1,by omega,by omega,?_⟩
   rw[hst]
   have hver:(s.2++[(w:Int)]).length-j.list.length=s.2.length-j.list.length+1:=by simp;omega
   have e:Ac s.2++[AV.int .i64 w]=Ac (s.2++[(w:Int)]):=by simp[Ac]
   simp only[hver]
   refine Wk.cutM (k:=5) (by simp[Ad]) ?_ (by simp) (by simp) (by simp) (by simp)
   rw[e]
   simp
  .have hps:AZ (u:Int) s w=s:=by
    simp only[AZ,C1 hl2]
    rw[if_neg hneg]
   rw[hps] at hst
   refine Ag (an hl2 hneg) ?_;intro K hK
   refine zk ?_;clear hK K
   refine zn ?_
   refine W.skip ?_
   refine zs ?_
   refine⟨k+1,by omega,by omega,?_⟩
   rw[hst]
   exact Wk.fr (by simp[Ad])
 .refine W.exit ?_
  have hk' :k=g.out[u].length:=by omega
  subst hk'
  rw[List.take_length]
  obtain⟨f0,f1,f2,f3,f4,f5⟩:=hf g.out[u].length
  rw[List.take_length] at f1
  generalize g.out[u].foldl (AZ u) (j.out,j.list)=s at*
  refine zs ?_
  refine zr ?_
  exact⟨h4.symm,by omega,by rw[List.take_of_length_le (by omega)]⟩
theorem S7 (g:Gr) (j:BW) (hg:A5 g) (h:Fb g j) (ho:Bv g j=false) (h5:j.kind=5):Aa pg 151 [.agg (AX false g),.agg (BA false j)] [] (fun r _=>r= .agg (BA true (AQ g j))):=by
 obtain⟨n,hn⟩:=Int.eq_ofNat_of_zero_le hg.1
 obtain⟨v,hv⟩:=Int.eq_ofNat_of_zero_le h.a0
 have hn16:n≤16:=by have:=hg.2.1;omega
 have hvn:v≤n:=by have:=h.an;omega
 have hout:g.out.length=n:=by have:=hg.2.2.1;omega
 have hsm:=h.small hg
 have hwl:∀i (hi:i<g.out.length),g.out[i].length≤16:=fun i hi=>by rw[←Bf hi];exact CB hg _
 have hvl:v<g.out.length:=by
  unfold Bv at ho
  simp[h5] at ho
  omega
 obtain⟨c1,c2⟩:=h.c5 h5
 have hlo:j.out.length=n:=by omega
 have hb:AC g j.at_=g.out[v]:=by rw[hv];exact Bf hvl
 have hws:∀w∈g.out[v],0≤w∧w<g.n:=fun w hw=>EQ hg (v:=j.at_) (by rw[hb];exact hw)
 have hwl2:=hwl v hvl
 have hf:=fun k=>Gp (n:=g.n) (v:=(v:Int)) ⟨by omega,by omega⟩ (g.out[v].take k) (j.out,j.move) (fun w hw=>hws w (List.mem_of_mem_take hw)) c1 c2
 refine Aa.start (fn:=Tryz.f151) [.cell 4 53] tk rfl rfl rfl (by kernel_rfl) (Nat.le_of_ble_eq_true rfl) rfl (by kernel_rfl) ?_
 rw[Ar]
 refine z3 ?_;intro K hK;refine zk ?_;clear hK K
 refine z0 ?_;intro K hK
 refine Ab.eq (En j ⟨by omega,by omega⟩) (by simp) (by simp) ?_
 refine zx ?_
 refine zk ?_;clear hK K
 refine Ag hv ?_;intro K hK
 refine zk ?_;clear hK K
 refine Ag hv ?_;intro K hK
 refine zk ?_;clear hK K
 refine Ag h5 ?_;intro K hK
 refine zk ?_;clear hK K
 refine zb ?_
 refine Ag h5 ?_;intro K hK
 refine zk ?_;clear hK K
 refine zn ?_
 refine Ag h5 ?_;intro K hK
 refine zk ?_;clear hK K
 refine zn ?_
 refine Ag h5 ?_;intro K hK
 refine zk ?_;clear hK K
 refine zn ?_
 refine Ag h5 ?_;intro K hK
 refine zk ?_;clear hK K
 refine zn ?_
 refine Ag h5 ?_;intro K hK
 refine zk ?_;clear hK K
 refine zn ?_
 refine zs ?_
 rw[hlo]
 (repeat refine W.seq ?_);refine W.block (W.loopS (fun k:Nat=> [(2,.ptr 0 0 0),(3,.ptr 1 0 0),(4,.ptr 2 0 0),(5,.int .i64 v),(9,.int .i64 k)]) (fun k=> [.live 0 (AX false g),.live 0 [.int .i64 5,.int .i64 j.a,.int .i64 ((v:Int)+1),.bool ((g.out[v].take k).foldl (A7 v) (j.out,j.move)).2,.tok 3 0 1 0 j.list.length,.tok 4 0 1 0 n],.live 0 [.int .i64 0,.int .i64 0,.int .i64 0,.bool false,.own 1 0 [],.own 1 0 []],.live 0 (Ac j.list),.live 0 (Ac ((g.out[v].take k).foldl (A7 v) (j.out,j.move)).1)]) (fun k=>g.out[v].length-k) (fun k=>k≤g.out[v].length) 0 (Wk.fr (by simp[Ad])) (by simp) ?_)
 intro k hk
 (repeat refine W.seq ?_);refine W.reg 0 rfl fun K hK=>?_;simp -implicitDefEqProofs (maxSteps:=999999) (disch:=omega) [hvl]
 refine zk ?_;clear hK K
 refine zc ?_ ?_<;>intro h
 .refine W.skip ?_
  have hlt:k<g.out[v].length:=by omega
  have hst:=FO (A7 (v:Int)) (j.out,j.move) g.out[v] k hlt
  obtain⟨f1,f2,_⟩:=hf k
  have hw:=hws _ (List.getElem_mem hlt)
  generalize (g.out[v].take k).foldl (A7 v) (j.out,j.move)=s at*
  obtain⟨w,hwe⟩:=Int.eq_ofNat_of_zero_le hw.1
  rw[hwe] at hst hw
  have hl1:v<s.1.length:=by omega
  have hl2:w<s.1.length:=by omega
  have hmin:min s.1[v] s.1[w]=if s.1[w]<s.1[v] then s.1[w] else s.1[v]:=by split<;>omega
  have hps:A7 (v:Int) s w=((s.1.set v (if s.1[w]<s.1[v] then s.1[w] else s.1[v])).set w (if s.1[w]<s.1[v] then s.1[w] else s.1[v]),s.2||!decide (s.1[v]=s.1[w])):=by
   simp only[A7,C1 hl1,C1 hl2,si,hmin];rfl
  rw[hps] at hst
  refine zb ?_
  refine Ag (an hvl (an hlt hwe)) ?_;intro K hK
  refine zk ?_;clear hK K
  cases hm:s.2
  all_goals (
   rw[hm] at hst
   refine Bj (an hl1 (an hl2 hm)) ?_;intro K hK
   refine zk ?_;clear hK K
   refine Bj (an hl1 hl2) ?_;intro K hK
   refine zk ?_;clear hK K
   (repeat refine W.seq ?_);refine W.regdX 0 [(70,75),(70,73)] rfl true Ci (by kernel_rfl) fun K hK=>?_;simp -implicitDefEqProofs (maxSteps:=999999) (disch:=omega) [hl1,hl2]
   (repeat refine⟨by first|assumption|omega,?_⟩);refine hK _ _ (by simp(disch:=omega)) ?_;clear hK K
   rw[Dd,Dd]
   refine zs ?_
   refine⟨k+1,by omega,by omega,?_⟩
   rw[hst]
   exact Wk.fr (by simp[Ad]))
 .refine W.exit ?_
  have hk' :k=g.out[v].length:=by omega
  subst hk'
  rw[List.take_length]
  have hvis:AQ g j=(if (v:Int)+1=n∧(g.out[v].foldl (A7 v) (j.out,j.move)).2=true then{j with at_:=0,move:=false,out:=(g.out[v].foldl (A7 v) (j.out,j.move)).1} else{j with at_:=(v:Int)+1,move:=(g.out[v].foldl (A7 v) (j.out,j.move)).2,out:=(g.out[v].foldl (A7 v) (j.out,j.move)).1}):=by
   rw[hv] at hb;simp[AQ,h5,hb,hv,hn]
  have hfin:=(hf g.out[v].length).1
  rw[List.take_length] at hfin
  rw[hvis]
  generalize g.out[v].foldl (A7 v) (j.out,j.move)=s at*
  have hsl:s.1.length=n:=by omega
  by_cases hvn1:(v:Int)+1=n
  .have hge:(n:Int)≤(v:Int)+1:=by omega
   cases hm:s.2
   .refine Ag (an hge (an hn hm)) ?_;intro K hK
    refine zk ?_;clear hK K
    refine zn ?_
    refine W.skip ?_
    refine zs ?_
    refine zr ?_
    first|exact⟨h5.symm,hsl.symm,by rw[List.take_of_length_le (by omega)]⟩ | (simp[hvn1,h5,hsl];rw[List.take_of_length_le (by omega)])
   .refine Ag (an hge (an hn hm)) ?_;intro K hK
    refine zk ?_;clear hK K
    refine zt ?_
    refine zs ?_
    refine zs ?_
    refine zr ?_
    first|exact⟨h5.symm,hsl.symm,by rw[List.take_of_length_le (by omega)]⟩ | (simp[hvn1,h5,hsl];rw[List.take_of_length_le (by omega)])
  .have hge:¬(n:Int)≤(v:Int)+1:=by omega
   refine Ag (an hge hn) ?_;intro K hK
   refine zk ?_;clear hK K
   refine zn ?_
   refine W.skip ?_
   refine zs ?_
   refine zr ?_
   first|exact⟨h5.symm,hsl.symm,by rw[List.take_of_length_le (by omega)]⟩ | (simp[hvn1,h5,hsl];rw[List.take_of_length_le (by omega)])
theorem QZ (g:Gr) (j:BW) (hg:A5 g) (h:Fb g j) (ho:Bv g j=false):Aa pg 151 [.agg (AX false g),.agg (BA false j)] [] (fun r _=>r= .agg (BA true (AQ g j))):=by
 have hk1:=h.k1
 have hk2:=h.k2
 have:j.kind=1∨j.kind=2∨j.kind=3∨j.kind=4∨j.kind=5∨j.kind=6:=by omega
 rcases this with e|e|e|e|e|e
 .exact S2 g j hg h ho e
 .exact S3 g j hg h ho e
 .exact S4 g j hg h ho e
 .exact S6 g j hg h ho e
 .exact S7 g j hg h ho e
 .exact S5 g j hg h ho e
end Go.Abs
set_option maxRecDepth 100000
namespace Go.Abs
open Go.Proofs
theorem S8 (g:Gr) (j:BW):(AQ g j).a=j.a:=by
 unfold AQ
 split
 .rfl
 split
 .rfl
 split
 .rfl
 split
 .rfl
 split
 .simp only;split<;>rfl
 .rfl
theorem N2 (g:Gr) (j:BW):∀(k:Nat) (x:BW),x.a≠j.a→Ft g j k x=false
 |0,_,_=>rfl
 |k+1,x,h=>by
  simp only[Ft]
  rw[if_neg (fun e=>h (by rw[e]))]
  split
  .rfl
  .exact N2 g j k _ (by rw[S8];exact h)
theorem PH (g:Gr) (j:BW) (hg:A5 g) (hj:IZ j):Aa pg 111 [.agg (AX false g),.agg (BA false j)] [] (fun r _=>r= .bool (CO g j)):=by
 have hn:=hg.2.1
 have hn0:=hg.1
 have spM:=U6 g j.kind j.a (by omega)
 have spN:=JE j.kind
 obtain⟨hj1,hj2⟩:=hj
 refine Aa.start (fn:=Tryz.f111) [.tmp 4] tk rfl rfl rfl (by kernel_rfl) (Nat.le_of_ble_eq_true rfl) rfl (by kernel_rfl) ?_
 rw[Ar]
 refine z2 ?_;intro K hK;refine zk ?_;clear hK K
 by_cases hk:C8 g j.kind j.a=0
 rotate_left
 .refine z0 ?_;intro K hK
  refine Ab.eq spM (by simp) (by simp) ?_
  refine AI hk ?_
  refine zk ?_;clear hK K
  refine zt ?_
  refine zs ?_
  refine zr ?_
  simp[CO,hk]
 rw[hk] at spM
 by_cases hna:BS j.kind=false∧j.a≠0
 .have hfalse:CO g j=false:=by
   rw[Jp,decide_eq_true hk,Bool.true_and]
   unfold D8
   exact N2 g j _ _ (by simp only[B0,hna.1,Bool.false_eq_true,if_false];exact fun e=>hna.2 e.symm)
  rw[hfalse]
  rw[hna.1] at spN
  have h2:=hna.2
  refine z0 ?_;intro K hK
  refine Ab.eq spM (by simp) (by simp) ?_
  refine zx ?_
  refine Ab.eq spN (by simp) (by simp) ?_
  refine AI h2 ?_
  refine zk ?_;clear hK K
  refine zt ?_
  refine zs ?_
  exact zR
 have hb:=Ma hg hk
 have hx0:CO g j=D8 g j (B0 g j.kind j.a):=by rw[Jp,decide_eq_true hk,Bool.true_and]
 have spB:=QY g j.kind j.a hg hk
 rw[hx0]
 obtain⟨x0,hxd⟩:∃x0,x0=B0 g j.kind j.a:=⟨_,rfl⟩
 rw[←hxd] at hb spB ⊢
 have hsm:=hb.small hg
 (repeat refine W.seq ?_);refine W.midS (fun _:Unit=> [(2,.ptr 0 0 0),(3,.ptr 1 0 0),(23,.bool false)]) (fun _=> [.live 0 (AX false g),.live 0 (BA false j)]) (fun _=>True) ?_ ?_
 .cases hnm:BS j.kind
  .rw[hnm] at spN
   have h0:(j.a=0)=True:=eq_true (Classical.byContradiction fun h=>hna ⟨hnm,h⟩)
   refine z0 ?_;intro K hK
   refine Ab.eq spM (by simp) (by simp) ?_
   refine zx ?_
   refine Ab.eq spN (by simp) (by simp) ?_
   refine AI h0 ?_
   refine zk ?_;clear hK K
   exact⟨(),trivial,Wk.fr (by simp[Ad])⟩
  .rw[hnm] at spN
   refine z0 ?_;intro K hK
   refine Ab.eq spM (by simp) (by simp) ?_
   refine zx ?_
   refine Ab.eq spN (by simp) (by simp) ?_
   refine zx ?_
   refine zk ?_;clear hK K
   exact⟨(),trivial,Wk.fr (by simp[Ad])⟩
 rintro _ _
 refine zn ?_
 refine W.skip ?_
 refine z1 ?_;intro K hK
 refine Ab.eq spB (by simp) (by simp) ?_
 refine zx ?_
 refine zk ?_;clear hK K
 refine W.weak (Wk.intern (B:=2) (v:=0) (j:=4) (T:=3) (u:=0) (s:=1) (off:=0) (n:=x0.list.length) (xs:=Ac x0.list) (by rfl) (by rfl) (by rfl) (by simp) (by simp) (by simp)) ?_
 refine W.weak (Wk.intern (B:=2) (v:=0) (j:=5) (T:=4) (u:=0) (s:=1) (off:=0) (n:=x0.out.length) (xs:=Ac x0.out) (by rfl) (by rfl) (by rfl) (by simp) (by simp) (by simp)) ?_
 (repeat refine W.seq ?_);refine W.block (W.loopS (fun x:BW=> [(2,.ptr 0 0 0),(3,.ptr 1 0 0),(5,.ptr 2 0 0)]) (fun x=> [.live 0 (AX false g),.live 0 (BA false j),.live 0 (BA true x)]) (fun x=>EL g x) (fun x=>Fb g x∧D8 g j x=D8 g j x0) x0 (Wk.cutM (k:=3) (by simp[Ad]) (by simp) (by simp) (by simp) (by simp) (by simp)) ⟨hb,rfl⟩ ?_)
 rintro x ⟨hx,hxj⟩
 refine W.weak (Wk.thaw (B:=2) (v:=0) (j:=4) (s:=1) (n:=x.list.length) (xs:=Ac x.list) (by rfl) (by rfl)) ?_
 refine W.weak (Wk.thaw (B:=2) (v:=0) (j:=5) (s:=1) (n:=x.out.length) (xs:=Ac x.out) (by rfl) (by rfl)) ?_
 have hsx:=hx.small hg
 have spE:=FZ x j ⟨by omega,by omega⟩
 by_cases e:x=j
 .rw[decide_eq_true e] at spE
  refine z0 ?_;intro K hK
  refine Ab.eq spE (by simp) (by simp) ?_
  refine zx ?_
  refine zk ?_;clear hK K
  refine zn ?_
  refine W.exit ?_
  refine zs ?_
  refine zr ?_
  rw[←hxj,NZ e]
 .rw[decide_eq_false e] at spE
  refine z0 ?_;intro K hK
  refine Ab.eq spE (by simp) (by simp) ?_
  refine zx ?_
  refine zk ?_;clear hK K
  refine zt ?_
  refine W.skip ?_
  refine zb ?_
  have spO:=K0 g x (by omega)
  cases ho:Bv g x
  .rw[ho] at spO
   refine z0 ?_;intro K hK
   refine Ab.eq spO (by simp) (by simp) ?_
   refine zx ?_
   refine zk ?_;clear hK K
   refine zn ?_
   refine W.skip ?_
   have spV:=QZ g x hg hx ho
   obtain⟨h1,h2⟩:=Hg hg hx ho
   have hjx:=N0 hg hx e ho
   obtain⟨y,hy⟩:∃y,y=AQ g x:=⟨_,rfl⟩
   rw[←hy] at spV h1 h2 hjx
   refine z0 ?_;intro K hK
   refine Ab.eq spV (by simp) (by simp) ?_
   refine zx ?_
   refine zk ?_;clear hK K
   refine⟨y,h2,⟨h1,by rw[←hjx];exact hxj⟩,?_⟩
   refine Wk.trans (Wk.intern (B:=2) (v:=0) (j:=4) (T:=5) (u:=0) (s:=1) (off:=0) (n:=y.list.length) (xs:=Ac y.list) (by rfl) (by rfl) (by rfl) (by simp) (by simp) (by simp)) ?_
   refine Wk.trans (Wk.intern (B:=2) (v:=0) (j:=5) (T:=6) (u:=0) (s:=1) (off:=0) (n:=y.out.length) (xs:=Ac y.out) (by rfl) (by rfl) (by rfl) (by simp) (by simp) (by simp)) ?_
   exact Wk.cutM (k:=3) (by simp[Ad]) (by simp) (by simp) (by simp) (by simp) (by simp)
  .rw[ho] at spO
   refine z0 ?_;intro K hK
   refine Ab.eq spO (by simp) (by simp) ?_
   refine zx ?_
   refine zk ?_;clear hK K
   refine zt ?_
   refine zs ?_
   refine zr ?_
   rw[←hxj,K4 e ho]
end Go.Abs
set_option maxRecDepth 100000
namespace Go.Abs
open Go.Proofs
theorem S9 (s:AT) (hs:Bp s):Aa pg 31 [.agg (AJ false s)] [] (fun r _=>r= .own 4 (Al s).length (Af Av (Al s))):=by
 have h1:=hs.1
 refine Aa.start (fn:=Tryz.f31) [.tmp 2] tk rfl rfl rfl (by kernel_rfl) (Nat.le_of_ble_eq_true rfl) rfl (by kernel_rfl) ?_
 rw[As]
 refine z1 ?_;intro K hK;refine zk ?_;clear hK K
 refine zs ?_
 refine zs ?_
 (repeat refine W.seq ?_);refine W.block (W.loopS (fun k:Nat=> [(1,.ptr 0 0 0),(3,.tok 1 k 4 0 k),(4,.int .i64 k)]) (fun k=> [.live 0 (AJ false s),.live k (Af Av ((s.vers.take k).map Cd))]) (fun k=>s.vers.length-k) (fun k=>k≤s.vers.length) 0 ((Wk.nil (t:=3) (s:=4) (by simp)).trans (Wk.fr (by simp[Ad]))) (by simp) ?_)
 intro k hk
 refine zs ?_
 refine zc ?_ ?_<;>intro h
 .refine W.skip ?_
  have hlt:k<s.vers.length:=by omega
  have hto:s.vers.take (k+1)=s.vers.take k++[s.vers[k]]:=by rw[List.take_add_one];simp[hlt]
  refine zb ?_
  (repeat refine W.seq ?_);refine W.reg 1 rfl fun K hK=>?_;simp -implicitDefEqProofs (maxSteps:=999999) (disch:=omega) [hlt]
  refine zk ?_;clear hK K
  refine z1 ?_;intro K hK
  refine⟨by omega,by omega,?_⟩
  refine zk ?_;clear hK K
  refine zs ?_
  refine⟨k+1,by omega,by omega,Wk.cutM (k:=2) (by simp[Ad]) ?_ (by simp) (by simp) (by simp) (by simp)⟩
  rw[hto,List.map_append,Co]
  simp[AD,Cd]
 .refine W.exit ?_
  have hk' :k=s.vers.length:=by omega
  subst hk'
  refine zs ?_
  refine zr ?_
  refine⟨by simp[Al],?_⟩
  rw[List.take_of_length_le (by simp),List.take_of_length_le (by simp)]
  rfl
theorem Ta (s:AT) (hs:Bp s):Aa pg 30 [.agg (AJ false s)] [] (fun r _=>r= .own 2 (AM s).length (Af At (AM s))):=by
 have h1:=hs.1
 refine Aa.start (fn:=Tryz.f30) [.tmp 2] tk rfl rfl rfl (by kernel_rfl) (Nat.le_of_ble_eq_true rfl) rfl (by kernel_rfl) ?_
 rw[As]
 refine z1 ?_;intro K hK;refine zk ?_;clear hK K
 refine zs ?_
 refine zs ?_
 (repeat refine W.seq ?_);refine W.block (W.loopS (fun k:Nat=> [(1,.ptr 0 0 0),(3,.tok 1 k 2 0 k),(4,.int .i64 k)]) (fun k=> [.live 0 (AJ false s),.live k (Af At ((s.vers.take k).map fun v=>(v.at_,Ba v.data)))]) (fun k=>s.vers.length-k) (fun k=>k≤s.vers.length) 0 ((Wk.nil (t:=3) (s:=2) (by simp)).trans (Wk.fr (by simp[Ad]))) (by simp) ?_)
 intro k hk
 refine zs ?_
 refine zc ?_ ?_<;>intro h
 .refine W.skip ?_
  have hlt:k<s.vers.length:=by omega
  have hsz:=hs.2.2 _ (List.getElem_mem hlt)
  have hto:s.vers.take (k+1)=s.vers.take k++[s.vers[k]]:=by rw[List.take_add_one];simp[hlt]
  refine zb ?_
  (repeat refine W.seq ?_);refine W.regd 1 rfl true Ci (by kernel_rfl) fun K hK=>?_;simp -implicitDefEqProofs (maxSteps:=999999) (disch:=omega) [hlt]
  refine Ah.eq (KZ s.vers[k].data hsz) (by simp) (by simp) ?_
  refine zx ?_
  refine⟨by omega,by omega,?_⟩
  refine zk ?_;clear hK K
  refine zs ?_
  refine⟨k+1,by omega,by omega,Wk.cutM (k:=2) (by simp[Ad]) ?_ (by simp) (by simp) (by simp) (by simp)⟩
  rw[hto,List.map_append,Co]
  simp[AD,At]
 .refine W.exit ?_
  have hk' :k=s.vers.length:=by omega
  subst hk'
  (repeat refine W.seq ?_);refine W.reg 0 rfl fun K hK=>?_;simp -implicitDefEqProofs (maxSteps:=999999) (disch:=omega);(repeat refine⟨by first|assumption|omega,?_⟩);refine hK _ _ ?_;clear hK K
  refine W.ret ?_;simp only[Ca,CU,Cp];refine Ce (d:=0) ?_;simp -implicitDefEqProofs (maxSteps:=999999) (disch:=omega)
  refine⟨by simp[AM],?_⟩
  rw[List.take_of_length_le (by simp),List.take_of_length_le (by simp)]
  rfl
set_option maxHeartbeats 2000000 in
theorem Ox (l:List (Int×Int)) (n:Int) (hl:l.length<1000000000):Aa pg 67 [.ro l.length (Af At l),.int .i64 n] [] (fun r _=>r= .bool (decide (CL l n))):=by
 have spB:=Em n 1 100
 refine Aa.start (fn:=Tryz.f67) [.tmp 4] tk rfl rfl rfl (by kernel_rfl) (Nat.le_of_ble_eq_true rfl) rfl (by kernel_rfl) ?_
 rw[Ar]
 refine zs ?_
 by_cases c1:1≤n∧n≤100
 rotate_left
 .rw[decide_eq_false c1] at spB
  refine z0 ?_;intro K hK
  refine Ab.eq spB (by simp) (by simp) ?_
  refine zx ?_
  refine zk ?_;clear hK K
  refine zt ?_
  refine zs ?_
  refine zr ?_
  exact fun h=>c1 ⟨h.1,h.2.1⟩
 rw[decide_eq_true c1] at spB
 by_cases c2:l.length≤13
 rotate_left
 .have c2' :(13:Int)<(l.length:Int):=by omega
  refine z0 ?_;intro K hK
  refine Ab.eq spB (by simp) (by simp) ?_
  refine AI c2' ?_
  refine zk ?_;clear hK K
  refine zt ?_
  refine zs ?_
  refine zr ?_
  exact fun h=>c2 h.2.2.1
 have c2' :¬(13:Int)<(l.length:Int):=by omega
 refine z0 ?_;intro K hK
 refine Ab.eq spB (by simp) (by simp) ?_
 refine AI c2' ?_
 refine zk ?_;clear hK K
 refine zn ?_
 refine W.skip ?_
 refine zs ?_
 (repeat refine W.seq ?_);refine W.block (W.loopS (fun k:Nat=> [(0,.ro l.length (Af At l)),(1,.int .i64 n),(5,.int .i64 k)]) (fun _=> []) (fun k=>l.length-k) (fun k=>k≤l.length∧∀i (h:i<l.length),i<k→(0≤l[i].1∧1≤l[i].2∧l[i].1+l[i].2≤n)∧∀t (ht:t<i),apart l[t] l[i]) 0 (Wk.fr (by simp[Ad])) ⟨by simp,fun i h h2=>by omega⟩ ?_)
 rintro i ⟨hi,hok⟩
 refine zs ?_
 (repeat refine W.seq ?_);refine W.condK fun K1 K2 h1 h2=>?_;simp -implicitDefEqProofs (maxSteps:=999999) (disch:=omega) [-and_imp];refine⟨fun h=>h1 ?_,fun h=>h2 ?_⟩<;>clear h1 h2 K1 K2
 .refine W.skip ?_
  have hlt:i<l.length:=by omega
  have bad:¬((0≤l[i].1∧1≤l[i].2∧l[i].1+l[i].2≤n)∧∀t (ht:t<i),apart l[t] l[i])→¬CL l n:=fun g w=>g ⟨w.2.2.2.1 _ (List.getElem_mem hlt),fun t ht=>List.pairwise_iff_getElem.1 w.2.2.2.2 t i (by omega) hlt ht⟩
  refine zb ?_
  (repeat refine W.seq ?_);refine W.midS (fun b:Bool=> [(0,.ro l.length (Af At l)),(1,.int .i64 n),(5,.int .i64 i),(58,.bool b)]) (fun _=> []) (fun b=>b=false↔(0≤l[i].1∧1≤l[i].2∧l[i].1+l[i].2≤n)) ?_ ?_
  .by_cases d1:l[i].1<0
   . (repeat refine W.seq ?_);refine W.regd 0 rfl true Ci (by kernel_rfl) fun K hK=>?_;simp -implicitDefEqProofs (maxSteps:=999999) (disch:=omega) [At,hlt,d1]
     refine zk ?_;clear hK K
     exact⟨true,by simp;omega,Wk.fr (by simp[Ad])⟩
   by_cases d2:l[i].2<1
   . (repeat refine W.seq ?_);refine W.regd 0 rfl true Ci (by kernel_rfl) fun K hK=>?_;simp -implicitDefEqProofs (maxSteps:=999999) (disch:=omega) [At,hlt,d1,d2]
     refine zk ?_;clear hK K
     exact⟨true,by simp;omega,Wk.fr (by simp[Ad])⟩
   by_cases d3:n<l[i].1
   . (repeat refine W.seq ?_);refine W.regd 0 rfl true Ci (by kernel_rfl) fun K hK=>?_;simp -implicitDefEqProofs (maxSteps:=999999) (disch:=omega) [At,hlt,d1,d2,d3]
     refine zk ?_;clear hK K
     exact⟨true,by simp;omega,Wk.fr (by simp[Ad])⟩
   by_cases d4:n-l[i].1<l[i].2
   . (repeat refine W.seq ?_);refine W.regd 0 rfl true Ci (by kernel_rfl) fun K hK=>?_;simp -implicitDefEqProofs (maxSteps:=999999) (disch:=omega) [At,hlt,d1,d2,d3,d4]
     refine zk ?_;clear hK K
     exact⟨true,by simp;omega,Wk.fr (by simp[Ad])⟩
   . (repeat refine W.seq ?_);refine W.regd 0 rfl true Ci (by kernel_rfl) fun K hK=>?_;simp -implicitDefEqProofs (maxSteps:=999999) (disch:=omega) [At,hlt,d1,d2,d3,d4]
     refine zk ?_;clear hK K
     exact⟨false,by simp;omega,Wk.fr (by simp[Ad])⟩
  .intro b hb
   cases b
   rotate_left
   .refine zt ?_
    refine zs ?_
    refine W.ret ?_;simp only[Ca,CU,Cp];refine Ce (d:=0) ?_;simp -implicitDefEqProofs (maxSteps:=999999) (disch:=omega)
    exact bad (fun g=>by have:=hb.2 g.1;simp at this)
   .have hr:=hb.1 rfl
    refine zn ?_
    refine W.skip ?_
    refine zs ?_
    (repeat refine W.seq ?_);refine W.block (W.loopS (fun k:Nat=> [(0,.ro l.length (Af At l)),(1,.int .i64 n),(5,.int .i64 i),(6,.int .i64 k)]) (fun _=> []) (fun k=>i-k) (fun k=>k≤i∧∀t (ht:t<i),t<k→apart l[t] l[i]) 0 (Wk.fr (by simp[Ad])) ⟨by simp,fun t ht h2=>by omega⟩ ?_)
    rintro k ⟨hk,hap⟩
    refine zs ?_
    refine zc ?_ ?_<;>intro h
    .refine W.skip ?_
     have hki:k<i:=by omega
     have hkl:k<l.length:=by omega
     have hrk:=(hok k hkl hki).1
     refine zb ?_
     by_cases e1:l[i].1<l[k].1+l[k].2
     .by_cases e2:l[k].1<l[i].1+l[i].2
      . (repeat refine W.seq ?_);refine W.regd 0 rfl true Ci (by kernel_rfl) fun K hK=>?_;simp -implicitDefEqProofs (maxSteps:=999999) (disch:=omega) [At,hlt,hkl,e1,e2]
        refine zk ?_;clear hK K
        refine zt ?_
        refine zs ?_
        refine zr ?_
        refine bad (fun g=>?_)
        have:=g.2 k hki
        simp only[apart] at this
        omega
      . (repeat refine W.seq ?_);refine W.regd 0 rfl true Ci (by kernel_rfl) fun K hK=>?_;simp -implicitDefEqProofs (maxSteps:=999999) (disch:=omega) [At,hlt,hkl,e1,e2]
        refine zk ?_;clear hK K
        refine zn ?_
        refine W.skip ?_
        refine zs ?_
        refine⟨k+1,by omega,⟨by omega,fun t ht h2=>?_⟩,Wk.fr (by simp[Ad])⟩
        by_cases e:t=k
        .subst e;simp only[apart];omega
        .exact hap t ht (by omega)
     . (repeat refine W.seq ?_);refine W.regd 0 rfl true Ci (by kernel_rfl) fun K hK=>?_;simp -implicitDefEqProofs (maxSteps:=999999) (disch:=omega) [At,hlt,hkl,e1]
       refine zk ?_;clear hK K
       refine zn ?_
       refine W.skip ?_
       refine zs ?_
       refine⟨k+1,by omega,⟨by omega,fun t ht h2=>?_⟩,Wk.fr (by simp[Ad])⟩
       by_cases e:t=k
       .subst e;simp only[apart];omega
       .exact hap t ht (by omega)
    .refine W.exit ?_
     have hk' :k=i:=by omega
     subst hk'
     refine zs ?_
     refine⟨k+1,by omega,⟨by omega,fun t ht h2=>?_⟩,Wk.fr (by simp[Ad])⟩
     by_cases e:t=k
     .subst e;exact⟨hr,fun u hu=>hap u hu hu⟩
     .exact hok t ht (by omega)
 .refine W.exit ?_
  refine zs ?_
  refine zr ?_
  refine⟨c1.1,c1.2,c2,fun x hx=>?_,?_⟩
  .obtain⟨t,ht,rfl⟩:=List.mem_iff_getElem.1 hx
   exact(hok t ht (by omega)).1
  .rw[List.pairwise_iff_getElem]
   intro a b ha hb hab
   exact(hok b hb (by omega)).2 a hab
end Go.Abs
set_option maxRecDepth 100000
namespace Go.Abs
open Go.Proofs
set_option maxHeartbeats 2000000 in
theorem Oy (s:AT) (l:List Obj) (x:CD) (hs:Bp s) (hlo:D6 l) (hx:DZ x) (hm:CK l) (ho:x.opn=true) (hp:x.pin=0):Aa pg 69 [.agg (AJ false s),.ro l.length (Af Av l),.agg (Ay false x)] [] (fun r _=>r= .bool (decide (Az s l x))):=by
 refine Aa.start (fn:=Tryz.f69) [.tmp 6] tk rfl rfl rfl (by kernel_rfl) (Nat.le_of_ble_eq_true rfl) rfl (by kernel_rfl) ?_
 rw[Bg]
 refine z2 ?_;intro K hK;refine zk ?_;clear hK K
 refine Ag ho ?_;intro K hK
 refine zk ?_;clear hK K
 refine zn ?_
 refine W.skip ?_
 refine Ag hp ?_;intro K hK
 refine zk ?_;clear hK K
 refine zn ?_
 refine W.skip ?_
 cases hon:x.on
 .by_cases hf:x.frm=0
  .by_cases hst:x.stage=AG
   .have spE:=FF x.stage AG hx.1
    rw[decide_eq_true hst] at spE
    refine Bj (an hon hf) ?_;intro K hK
    refine Ah.eq spE (by simp[AG]) (by simp) ?_
    refine AI hon ?_
    refine zk ?_;clear hK K
    refine zn ?_
    refine W.skip ?_
    refine z0 ?_;intro K hK
    refine Ab.eq (FZ x.job Cc hx.2) (by simp[Cc]) (by simp) ?_
    by_cases hj:x.job=Cc
    .rw[decide_eq_true hj]
     refine zx ?_
     refine zk ?_;clear hK K
     refine zt ?_
     refine zs ?_
     refine zr ?_
     simp[Az,ho,hp,hon,hf,hst,hj]
    .rw[decide_eq_false hj]
     refine zx ?_
     refine zk ?_;clear hK K
     refine zn ?_
     refine W.skip ?_
     refine Ag hp ?_;intro K hK
     refine zk ?_;clear hK K
     refine zt ?_
     refine zs ?_
     refine zr ?_
     simp[Az,ho,hp,hon,hf,hst,hj]
   .have spE:=FF x.stage AG hx.1
    rw[decide_eq_false hst] at spE
    refine Bj (an hon hf) ?_;intro K hK
    refine Ah.eq spE (by simp[AG]) (by simp) ?_
    refine AI hon ?_
    refine zk ?_;clear hK K
    refine zt ?_
    refine zs ?_
    refine zr ?_
    simp[Az,ho,hp,hon,hf,hst]
    try omega
  .refine Bj (an hon hf) ?_;intro K hK
   refine zk ?_;clear hK K
   refine zt ?_
   refine zs ?_
   refine zr ?_
   simp[Az,ho,hp,hon,hf]
   try omega
 .have spL:=I0 s hs
  have spN:=HQ x.frm (AP s.vers)
  by_cases hf:0≤x.frm∧x.frm≤AP s.vers
  rotate_left
  .rw[decide_eq_false hf] at spN
   have hf' :0≤x.frm→¬x.frm≤AP s.vers:=fun a b=>hf ⟨a,b⟩
   refine Bj hon ?_;intro K hK
   refine Ah.eq spL (by simp) (by simp) ?_
   refine zx ?_
   refine Ah.eq spN (by simp) (by simp) ?_
   refine zx ?_
   refine zk ?_;clear hK K
   refine zt ?_
   refine zs ?_
   refine zr ?_
   simp only[Az,ho,hon,Bool.true_eq_false,if_false,if_true]
   exact fun h=>hf' h.2.1.1 h.2.1.2.1
  rw[decide_eq_true hf] at spN
  have spG:=IU x.stage hx.1
  by_cases hst:A5 x.stage
  .rw[decide_eq_true hst] at spG
   have hf1:=hf.1
   have hf2:=hf.2
   refine Bj hon ?_;intro K hK
   refine Ah.eq spL (by simp) (by simp) ?_
   refine zx ?_
   refine Ah.eq spN (by simp) (by simp) ?_
   refine zx ?_
   refine Ah.eq spG (by simp) (by simp) ?_
   refine zx ?_
   refine zk ?_;clear hK K
   refine zn ?_
   refine W.skip ?_
   refine z0 ?_;intro K hK
   refine Ab.eq (FZ x.job Cc hx.2) (by simp[Cc]) (by simp) ?_
   by_cases hj:x.job=Cc
   .rw[decide_eq_true hj]
    refine zx ?_
    refine zk ?_;clear hK K
    refine zt ?_
    refine zs ?_
    refine zr ?_
    simp[Az,ho,hp,hon,hf1,hf2,hst,hj]
   .rw[decide_eq_false hj]
    refine zx ?_
    refine zk ?_;clear hK K
    refine zn ?_
    refine W.skip ?_
    refine Ag hp ?_;intro K hK
    refine zk ?_;clear hK K
    refine zt ?_
    refine zs ?_
    refine zr ?_
    simp[Az,ho,hp,hon,hf1,hf2,hst,hj]
  .rw[decide_eq_false hst] at spG
   refine Bj hon ?_;intro K hK
   refine Ah.eq spL (by simp) (by simp) ?_
   refine zx ?_
   refine Ah.eq spN (by simp) (by simp) ?_
   refine zx ?_
   refine Ah.eq spG (by simp) (by simp) ?_
   refine zx ?_
   refine zk ?_;clear hK K
   refine zt ?_
   refine zs ?_
   refine zr ?_
   simp[Az,ho,hp,hon,hst]
   try omega
set_option maxHeartbeats 2000000 in
theorem Oz (s:AT) (l:List Obj) (x:CD) (hs:Bp s) (hlo:D6 l) (hx:DZ x) (hm:CK l) (ho:x.opn=true) (hp:¬x.pin=0) (hin:∃v∈s.vers,v.id=x.pin):Aa pg 69 [.agg (AJ false s),.ro l.length (Af Av l),.agg (Ay false x)] [] (fun r _=>r= .bool (decide (Az s l x))):=by
 refine Aa.start (fn:=Tryz.f69) [.tmp 6] tk rfl rfl rfl (by kernel_rfl) (Nat.le_of_ble_eq_true rfl) rfl (by kernel_rfl) ?_
 rw[Bg]
 refine z2 ?_;intro K hK;refine zk ?_;clear hK K
 have spA:=VZ s x.pin hs
 have hix:¬BN (fun v:AS=>decide (v.id=x.pin)) s.vers<0:=by
  have:=(Cv (f:=fun v:AS=>decide (v.id=x.pin)) (l:=s.vers)).2 (by simpa using hin)
  omega
 have hin' :(∃v∈s.vers,v.id=x.pin)=True:=eq_true hin
 refine Ag ho ?_;intro K hK
 refine zk ?_;clear hK K
 refine zn ?_
 refine W.skip ?_
 refine Ag hp ?_;intro K hK
 refine Ab.eq spA (by simp) (by simp) ?_
 refine AI hix ?_
 refine zk ?_;clear hK K
 refine zn ?_
 refine W.skip ?_
 cases hon:x.on
 .by_cases hf:x.frm=0
  .by_cases hst:x.stage=AG
   .have spE:=FF x.stage AG hx.1
    rw[decide_eq_true hst] at spE
    refine Bj (an hon hf) ?_;intro K hK
    refine Ah.eq spE (by simp[AG]) (by simp) ?_
    refine AI hon ?_
    refine zk ?_;clear hK K
    refine zn ?_
    refine W.skip ?_
    refine z0 ?_;intro K hK
    refine Ab.eq (FZ x.job Cc hx.2) (by simp[Cc]) (by simp) ?_
    by_cases hj:x.job=Cc
    .rw[decide_eq_true hj]
     refine zx ?_
     refine zk ?_;clear hK K
     refine zt ?_
     refine zs ?_
     refine zr ?_
     simp[Az,ho,hp,hin',hon,hf,hst,hj]
    .rw[decide_eq_false hj]
     refine zx ?_
     refine zk ?_;clear hK K
     refine zn ?_
     refine W.skip ?_
     refine Ag hp ?_;intro K hK
     refine zk ?_;clear hK K
     refine zn ?_
     refine W.skip ?_
     have hgm:=G1 l x.pin
     have hre:Az s l x↔(CO (Bi l x.pin).1 x.job=true∧Bv (Bi l x.pin).1 x.job=false):=by simp[Az,ho,hp,hin',hon,hf,hst,hj]
     have spO:=Ih l x.pin hlo hm
     obtain⟨g,hg⟩:∃g,g=(Bi l x.pin).1:=⟨_,rfl⟩
     obtain⟨e,hee⟩:∃e,e=(Bi l x.pin).2:=⟨_,rfl⟩
     rw[←hg,←hee] at spO
     rw[←hg] at hgm hre
     have hde:decide (Az s l x)=(CO g x.job&&!Bv g x.job):=by rw[Bool.eq_iff_iff];simp[hre]
     rw[hde]
     have spJ:=PH g x.job hgm hx.2
     refine z1 ?_;intro K hK
     refine Ab.eq spO (by simp) (by simp) ?_
     refine zx ?_
     (repeat refine⟨by first|assumption|omega,?_⟩);refine hK _ _ ?_;clear hK K
     cases hjo:CO g x.job
     .rw[hjo] at spJ
      refine z0 ?_;intro K hK
      refine Ab.eq spJ (by simp) (by simp) ?_
      refine zx ?_
      refine zk ?_;clear hK K
      refine W.ret ?_;simp only[Ca,CU,Cp];refine Ce (d:=0) ?_;simp -implicitDefEqProofs (maxSteps:=999999) (disch:=omega)
      (try simp[hjo])
     .rw[hjo] at spJ
      refine z0 ?_;intro K hK
      refine Ab.eq spJ (by simp) (by simp) ?_
      refine zx ?_
      refine Ab.eq (K0 g x.job (by have:=hx.2.1;omega)) (by simp) (by simp) ?_
      refine zx ?_
      refine zk ?_;clear hK K
      refine W.ret ?_;simp only[Ca,CU,Cp];refine Ce (d:=0) ?_;simp -implicitDefEqProofs (maxSteps:=999999) (disch:=omega)
      (try simp[hjo])
   .have spE:=FF x.stage AG hx.1
    rw[decide_eq_false hst] at spE
    refine Bj (an hon hf) ?_;intro K hK
    refine Ah.eq spE (by simp[AG]) (by simp) ?_
    refine AI hon ?_
    refine zk ?_;clear hK K
    refine zt ?_
    refine zs ?_
    refine zr ?_
    simp[Az,ho,hp,hin',hon,hf,hst]
    try omega
  .refine Bj (an hon hf) ?_;intro K hK
   refine zk ?_;clear hK K
   refine zt ?_
   refine zs ?_
   refine zr ?_
   simp[Az,ho,hp,hin',hon,hf]
   try omega
 .have spL:=I0 s hs
  have spN:=HQ x.frm (AP s.vers)
  by_cases hf:0≤x.frm∧x.frm≤AP s.vers
  rotate_left
  .rw[decide_eq_false hf] at spN
   have hf' :0≤x.frm→¬x.frm≤AP s.vers:=fun a b=>hf ⟨a,b⟩
   refine Bj hon ?_;intro K hK
   refine Ah.eq spL (by simp) (by simp) ?_
   refine zx ?_
   refine Ah.eq spN (by simp) (by simp) ?_
   refine zx ?_
   refine zk ?_;clear hK K
   refine zt ?_
   refine zs ?_
   refine zr ?_
   simp only[Az,ho,hon,Bool.true_eq_false,if_false,if_true]
   exact fun h=>hf' h.2.1.1 h.2.1.2.1
  rw[decide_eq_true hf] at spN
  have spG:=IU x.stage hx.1
  by_cases hst:A5 x.stage
  .rw[decide_eq_true hst] at spG
   have hf1:=hf.1
   have hf2:=hf.2
   refine Bj hon ?_;intro K hK
   refine Ah.eq spL (by simp) (by simp) ?_
   refine zx ?_
   refine Ah.eq spN (by simp) (by simp) ?_
   refine zx ?_
   refine Ah.eq spG (by simp) (by simp) ?_
   refine zx ?_
   refine zk ?_;clear hK K
   refine zn ?_
   refine W.skip ?_
   refine z0 ?_;intro K hK
   refine Ab.eq (FZ x.job Cc hx.2) (by simp[Cc]) (by simp) ?_
   by_cases hj:x.job=Cc
   .rw[decide_eq_true hj]
    refine zx ?_
    refine zk ?_;clear hK K
    refine zt ?_
    refine zs ?_
    refine zr ?_
    simp[Az,ho,hp,hin',hon,hf1,hf2,hst,hj]
   .rw[decide_eq_false hj]
    refine zx ?_
    refine zk ?_;clear hK K
    refine zn ?_
    refine W.skip ?_
    refine Ag hp ?_;intro K hK
    refine zk ?_;clear hK K
    refine zn ?_
    refine W.skip ?_
    have hgm:=G1 l x.pin
    have hre:Az s l x↔(CO (Bi l x.pin).1 x.job=true∧Bv (Bi l x.pin).1 x.job=false):=by simp[Az,ho,hp,hin',hon,hf1,hf2,hst,hj]
    have spO:=Ih l x.pin hlo hm
    obtain⟨g,hg⟩:∃g,g=(Bi l x.pin).1:=⟨_,rfl⟩
    obtain⟨e,hee⟩:∃e,e=(Bi l x.pin).2:=⟨_,rfl⟩
    rw[←hg,←hee] at spO
    rw[←hg] at hgm hre
    have hde:decide (Az s l x)=(CO g x.job&&!Bv g x.job):=by rw[Bool.eq_iff_iff];simp[hre]
    rw[hde]
    have spJ:=PH g x.job hgm hx.2
    refine z1 ?_;intro K hK
    refine Ab.eq spO (by simp) (by simp) ?_
    refine zx ?_
    (repeat refine⟨by first|assumption|omega,?_⟩);refine hK _ _ ?_;clear hK K
    cases hjo:CO g x.job
    .rw[hjo] at spJ
     refine z0 ?_;intro K hK
     refine Ab.eq spJ (by simp) (by simp) ?_
     refine zx ?_
     refine zk ?_;clear hK K
     refine W.ret ?_;simp only[Ca,CU,Cp];refine Ce (d:=0) ?_;simp -implicitDefEqProofs (maxSteps:=999999) (disch:=omega)
     (try simp[hjo])
    .rw[hjo] at spJ
     refine z0 ?_;intro K hK
     refine Ab.eq spJ (by simp) (by simp) ?_
     refine zx ?_
     refine Ab.eq (K0 g x.job (by have:=hx.2.1;omega)) (by simp) (by simp) ?_
     refine zx ?_
     refine zk ?_;clear hK K
     refine W.ret ?_;simp only[Ca,CU,Cp];refine Ce (d:=0) ?_;simp -implicitDefEqProofs (maxSteps:=999999) (disch:=omega)
     (try simp[hjo])
  .rw[decide_eq_false hst] at spG
   refine Bj hon ?_;intro K hK
   refine Ah.eq spL (by simp) (by simp) ?_
   refine zx ?_
   refine Ah.eq spN (by simp) (by simp) ?_
   refine zx ?_
   refine Ah.eq spG (by simp) (by simp) ?_
   refine zx ?_
   refine zk ?_;clear hK K
   refine zt ?_
   refine zs ?_
   refine zr ?_
   simp[Az,ho,hp,hin',hon,hst]
   try omega
theorem OA (s:AT) (l:List Obj) (x:CD) (hs:Bp s) (hlo:D6 l) (hx:DZ x) (hm:CK l):Aa pg 69 [.agg (AJ false s),.ro l.length (Af Av l),.agg (Ay false x)] [] (fun r _=>r= .bool (decide (Az s l x))):=by
 by_cases ho' :x.opn=false
 .have spE:=NK x DG hx
  refine Aa.start (fn:=Tryz.f69) [.tmp 6] tk rfl rfl rfl (by kernel_rfl) (Nat.le_of_ble_eq_true rfl) rfl (by kernel_rfl) ?_
  rw[Bg]
  refine z2 ?_;intro K hK;refine zk ?_;clear hK K
  refine Ag ho' ?_;intro K hK
  refine zk ?_;clear hK K
  refine zt ?_
  refine z0 ?_;intro K hK
  refine Ab.eq spE (by simp[DG,AG,Cc,ho']) (by simp) ?_
  refine zx ?_
  refine zk ?_;clear hK K
  refine zr ?_
  simp[Az,ho']
 have ho:x.opn=true:=by cases h:x.opn<;>simp_all
 by_cases hp:x.pin=0
 .exact Oy s l x hs hlo hx hm ho hp
 by_cases hin:∃v∈s.vers,v.id=x.pin
 .exact Oz s l x hs hlo hx hm ho hp hin
 have spA:=VZ s x.pin hs
 have hix:BN (fun v:AS=>decide (v.id=x.pin)) s.vers<0:=by
  have:=mt (Cv (f:=fun v:AS=>decide (v.id=x.pin)) (l:=s.vers)).1 (by simpa using hin)
  omega
 have hin' :(∃v∈s.vers,v.id=x.pin)=False:=eq_false hin
 refine Aa.start (fn:=Tryz.f69) [.tmp 6] tk rfl rfl rfl (by kernel_rfl) (Nat.le_of_ble_eq_true rfl) rfl (by kernel_rfl) ?_
 rw[Bg]
 refine z2 ?_;intro K hK;refine zk ?_;clear hK K
 refine Ag ho ?_;intro K hK
 refine zk ?_;clear hK K
 refine zn ?_
 refine W.skip ?_
 refine Ag hp ?_;intro K hK
 refine Ab.eq spA (by simp) (by simp) ?_
 refine AI hix ?_
 refine zk ?_;clear hK K
 refine zt ?_
 refine zs ?_
 refine zr ?_
 simp only[Az,ho,hin',hp]
 simp
end Go.Abs
set_option maxRecDepth 100000
namespace Go.Abs
open Go.Proofs
def JQ (s:AT) (i:Nat) (h:i<s.vers.length):Prop:=(Bi (Al s) s.vers[i].id).2=0∧FS s.vers[i]∧¬(s.vers[i].gone=true∧i+1=s.vers.length)
theorem K6 (s:AT):C9 s↔(1≤s.keep∧s.keep≤8)∧(1≤s.blocks∧s.blocks≤100)∧s.vers.length≤12∧s.sess.length=3∧CK (Al s)∧CL (AM s) s.blocks∧(∀i (h:i<s.vers.length),JQ s i h)∧∀x∈s.sess,Az s (Al s) x:=by
 have hlast:Di s.vers=false↔∀i (h:i<s.vers.length),¬(s.vers[i].gone=true∧i+1=s.vers.length):=by
  unfold Di
  rw[List.getLast?_eq_getElem?]
  by_cases h0:s.vers.length=0
  .have:s.vers=[]:=List.eq_nil_of_length_eq_zero h0
   rw[this];simp
  .have hl:s.vers.length-1<s.vers.length:=by omega
   rw[List.getElem?_eq_getElem hl]
   simp only
   constructor
   .intro h i hi hg
    have:i=s.vers.length-1:=by omega
    subst this
    rw[h] at hg;simp at hg
   .intro h
    have:=h (s.vers.length-1) hl
    cases hg:(s.vers[s.vers.length-1]).gone
    .rfl
    .exact absurd ⟨hg,by omega⟩ this
 have hof:(∀o∈Al s,(Bi (Al s) o.id).2=0)↔∀i (h:i<s.vers.length),(Bi (Al s) s.vers[i].id).2=0:=by
  constructor
  .intro h i hi
   exact h (Cd s.vers[i]) (List.mem_map.2 ⟨_,List.getElem_mem hi,rfl⟩)
  .intro h o ho
   obtain⟨v,hv,rfl⟩:=List.mem_map.1 ho
   obtain⟨i,hi,rfl⟩:=List.mem_iff_getElem.1 hv
   exact h i hi
 have hver:(∀v∈s.vers,FS v)↔∀i (h:i<s.vers.length),FS s.vers[i]:=by
  constructor
  .intro h i hi;exact h _ (List.getElem_mem hi)
  .intro h v hv
   obtain⟨i,hi,rfl⟩:=List.mem_iff_getElem.1 hv
   exact h i hi
 unfold C9 Cs Fo
 rw[hlast,hof,hver]
 constructor
 .rintro⟨⟨⟨a1,a2,a3,a4,a5,a6,a7⟩,b,c,d⟩,e⟩
  exact⟨⟨a1,a2⟩,⟨a3,a4⟩,by have:=a7.1;simpa[Al] using this,b,a7,e,fun i h=>⟨c i h,a5 i h,a6 i h⟩,d⟩
 .rintro⟨⟨a1,a2⟩,⟨a3,a4⟩,_,b,a7,e,f,d⟩
  exact⟨⟨⟨a1,a2,a3,a4,fun i h=>(f i h).2.1,fun i h=>(f i h).2.2,a7⟩,b,fun i h=>(f i h).1,d⟩,e⟩
set_option maxHeartbeats 2000000 in
theorem Q0 (s:AT) (hs:Bp s) (hx:Dn s):Aa pg 13 [.agg (AJ false s)] [] (fun r _=>r= .bool (decide (C9 s))):=by
 have hi:=K6 s
 have h1:=hs.1
 have h2:=hs.2.1
 have spK:=Em s.keep 1 8
 have spB:=Em s.blocks 1 100
 refine Aa.start (fn:=Tryz.f13) [.tmp 2] tk rfl rfl rfl (by kernel_rfl) (Nat.le_of_ble_eq_true rfl) rfl (by kernel_rfl) ?_
 rw[As]
 refine z1 ?_;intro K hK;refine zk ?_;clear hK K
 by_cases c1:1≤s.keep∧s.keep≤8
 rotate_left
 .rw[decide_eq_false c1] at spK
  refine z0 ?_;intro K hK
  refine Ab.eq spK (by simp) (by simp) ?_
  refine zx ?_
  refine zk ?_;clear hK K
  refine zt ?_
  refine zs ?_
  refine zr ?_
  exact fun h=>c1 (hi.1 h).1
 rw[decide_eq_true c1] at spK
 by_cases c2:1≤s.blocks∧s.blocks≤100
 rotate_left
 .rw[decide_eq_false c2] at spB
  refine z0 ?_;intro K hK
  refine Ab.eq spK (by simp) (by simp) ?_
  refine zx ?_
  refine Ab.eq spB (by simp) (by simp) ?_
  simp only[DU];simp -implicitDefEqProofs (maxSteps:=999999) (disch:=omega) []
  refine zk ?_;clear hK K
  refine zt ?_
  refine zs ?_
  refine zr ?_
  exact fun h=>c2 (hi.1 h).2.1
 rw[decide_eq_true c2] at spB
 by_cases c3:s.vers.length≤12
 rotate_left
 .have c3' :(12:Int)<(s.vers.length:Int):=by omega
  refine z0 ?_;intro K hK
  refine Ab.eq spK (by simp) (by simp) ?_
  refine zx ?_
  refine Ab.eq spB (by simp) (by simp) ?_
  refine AI c3' ?_
  refine zk ?_;clear hK K
  refine zt ?_
  refine zs ?_
  refine zr ?_
  exact fun h=>c3 (hi.1 h).2.2.1
 have c3' :¬(12:Int)<(s.vers.length:Int):=by omega
 by_cases c4:s.sess.length=3
 rotate_left
 .have c4' :((s.sess.length:Int)=3)=False:=eq_false (by omega)
  refine z0 ?_;intro K hK
  refine Ab.eq spK (by simp) (by simp) ?_
  refine zx ?_
  refine Ab.eq spB (by simp) (by simp) ?_
  refine AI (an c3' c4') ?_
  refine zk ?_;clear hK K
  refine zt ?_
  refine zs ?_
  refine zr ?_
  exact fun h=>c4 (hi.1 h).2.2.2.1
 have c4' :((s.sess.length:Int)=3)=True:=eq_true (by omega)
 refine z0 ?_;intro K hK
 refine Ab.eq spK (by simp) (by simp) ?_
 refine zx ?_
 refine Ab.eq spB (by simp) (by simp) ?_
 refine AI (an c3' c4') ?_
 refine zk ?_;clear hK K
 refine zn ?_
 refine W.skip ?_
 have spO:=S9 s hs
 have spR:=Ta s hs
 have hlo:D6 (Al s):=hs.objs
 have spM:=PF (Al s) hlo
 have spP:=Ox (AM s) s.blocks (by simp[AM];exact hs.1)
 obtain⟨l,hl⟩:∃l,l=Al s:=⟨_,rfl⟩
 obtain⟨ps,hps⟩:∃ps,ps=AM s:=⟨_,rfl⟩
 have hll:l.length=s.vers.length:=by rw[hl];simp[Al]
 rw[←hl] at spO spM hlo
 rw[←hps] at spR spP
 refine z0 ?_;intro K hK
 refine Ab.eq spO (by simp) (by simp) ?_
 refine zx ?_
 refine zk ?_;clear hK K
 by_cases c5:CK l
 rotate_left
 .rw[decide_eq_false c5] at spM
  refine B4 ?_;intro K hK
  refine Ah.eq spM (by simp) (by simp) ?_
  refine zx ?_
  refine zk ?_;clear hK K
  refine zt ?_
  refine zs ?_
  refine zr ?_
  exact fun h=>c5 (by rw[hl];exact(hi.1 h).2.2.2.2.1)
 rw[decide_eq_true c5] at spM
 by_cases c6:CL ps s.blocks
 rotate_left
 .rw[decide_eq_false c6] at spP
  refine B4 ?_;intro K hK
  refine Ah.eq spM (by simp) (by simp) ?_
  refine zx ?_
  refine Ah.eq spR (by simp) (by simp) ?_
  refine zx ?_
  refine Ah.eq spP (by simp) (by simp) ?_
  refine zx ?_
  refine zk ?_;clear hK K
  refine zt ?_
  refine zs ?_
  refine zr ?_
  exact fun h=>c6 (by rw[hps];exact(hi.1 h).2.2.2.2.2.1)
 rw[decide_eq_true c6] at spP
 refine B4 ?_;intro K hK
 refine Ah.eq spM (by simp) (by simp) ?_
 refine zx ?_
 refine Ah.eq spR (by simp) (by simp) ?_
 refine zx ?_
 refine Ah.eq spP (by simp) (by simp) ?_
 refine zx ?_
 refine zk ?_;clear hK K
 refine zn ?_
 refine W.skip ?_
 refine zs ?_
 (repeat refine W.seq ?_);refine W.block (W.loopS (fun k:Nat=> [(1,.ptr 0 0 0),(3,.tok 1 0 4 0 l.length),(4,.int .i64 k)]) (fun _=> [.live 0 (AJ false s),.live 0 (Af Av l)]) (fun k=>s.vers.length-k) (fun k=>k≤s.vers.length∧∀i (h:i<s.vers.length),i<k→JQ s i h) 0 (Wk.cutM (k:=2) (by simp[Ad]) (by simp) (by simp) (by simp) (by simp) (by simp)) ⟨by omega,fun i h h2=>by omega⟩ ?_)
 rintro k ⟨hk,hok⟩
 refine zs ?_
 refine zc ?_ ?_<;>intro h
 .refine W.skip ?_
  have hlt:k<s.vers.length:=by omega
  have bad:¬JQ s k hlt→¬C9 s:=fun g w=>g ((hi.1 w).2.2.2.2.2.2.1 k hlt)
  have spV:=Ih l s.vers[k].id hlo c5
  have spN:=HQ s.vers[k].parent (s.vers[k].id-1)
  have hidb:1≤s.vers[k].id∧s.vers[k].id≤1048576:=by
   have:=c5.2.1 (Cd s.vers[k]) (by rw[hl];exact List.mem_map.2 ⟨_,List.getElem_mem hlt,rfl⟩)
   exact⟨this.1,this.2.1⟩
  obtain⟨g,hg⟩:∃g,g=(Bi l s.vers[k].id).1:=⟨_,rfl⟩
  obtain⟨e,he⟩:∃e,e=(Bi l s.vers[k].id).2:=⟨_,rfl⟩
  rw[←hg,←he] at spV
  refine zb ?_
  (repeat refine W.seq ?_);refine W.reg 1 rfl fun K hK=>?_;simp -implicitDefEqProofs (maxSteps:=999999) (disch:=omega) [hlt]
  refine zk ?_;clear hK K
  refine z1 ?_;intro K hK
  refine Ab.eq spV (by simp) (by simp) ?_
  refine zx ?_
  refine zk ?_;clear hK K
  (repeat refine W.seq ?_);refine W.midS (fun b:Bool=> [(1,.ptr 0 0 0),(3,.tok 1 0 4 0 l.length),(4,.int .i64 k),(93,.bool b)]) (fun _=> [.live 0 (AJ false s),.live 0 (Af Av l)]) (fun b=>b=false↔JQ s k hlt) ?_ ?_
  .by_cases d1:e=0
   rotate_left
   .refine Ag d1 ?_;intro K hK
    refine zk ?_;clear hK K
    exact⟨true,by simp only[Bool.true_eq_false,false_iff];exact fun h=>d1 (by rw[he,hl];exact h.1),Wk.cutM (k:=2) (by simp[Ad]) (by simp) (by simp) (by simp) (by simp) (by simp)⟩
   by_cases d2:0≤s.vers[k].parent∧s.vers[k].parent≤s.vers[k].id-1
   rotate_left
   .rw[decide_eq_false d2] at spN
    refine Ag d1 ?_;intro K hK
    refine Ab.eq spN (by simp) (by simp) ?_
    refine zx ?_
    refine zk ?_;clear hK K
    exact⟨true,by simp only[Bool.true_eq_false,false_iff];exact fun h=>d2 ⟨h.2.1.1,by have:=h.2.1.2.1;omega⟩,Wk.cutM (k:=2) (by simp[Ad]) (by simp) (by simp) (by simp) (by simp) (by simp)⟩
   rw[decide_eq_true d2] at spN
   cases d3:s.vers[k].gone
   .refine Ag (an d1 d3) ?_;intro K hK
    refine Ab.eq spN (by simp) (by simp) ?_
    cases d4:s.vers[k].tag
    all_goals (
     refine AI (an d3 d4) ?_
     refine zk ?_;clear hK K
     exact⟨false,by simp only[true_iff];exact⟨by rw[←hl,←he];exact d1,⟨d2.1,by have:=d2.2;omega,by simp[d3]⟩,by simp[d3]⟩,Wk.cutM (k:=2) (by simp[Ad]) (by simp) (by simp) (by simp) (by simp) (by simp)⟩)
   .cases d4:s.vers[k].tag
    rotate_left
    .refine Ag (an d1 d3) ?_;intro K hK
     refine Ab.eq spN (by simp) (by simp) ?_
     refine AI (an d3 d4) ?_
     refine zk ?_;clear hK K
     exact⟨true,by simp only[Bool.true_eq_false,false_iff];exact fun h=>h.2.1.2.2 ⟨d4,d3⟩,Wk.cutM (k:=2) (by simp[Ad]) (by simp) (by simp) (by simp) (by simp) (by simp)⟩
    .by_cases d5:k+1=s.vers.length
     .have d5' :((k:Int)=(s.vers.length:Int)-1)=True:=eq_true (by omega)
      refine Ag (an d1 d3) ?_;intro K hK
      refine Ab.eq spN (by simp) (by simp) ?_
      refine AI (an d3 (an d4 d5')) ?_
      refine zk ?_;clear hK K
      exact⟨true,by simp only[Bool.true_eq_false,false_iff];exact fun h=>h.2.2 ⟨d3,d5⟩,Wk.cutM (k:=2) (by simp[Ad]) (by simp) (by simp) (by simp) (by simp) (by simp)⟩
     .have d5' :((k:Int)=(s.vers.length:Int)-1)=False:=eq_false (by omega)
      refine Ag (an d1 d3) ?_;intro K hK
      refine Ab.eq spN (by simp) (by simp) ?_
      refine AI (an d3 (an d4 d5')) ?_
      refine zk ?_;clear hK K
      exact⟨false,by simp only[true_iff];exact⟨by rw[←hl,←he];exact d1,⟨d2.1,by have:=d2.2;omega,by simp[d4]⟩,fun h=>d5 h.2⟩,Wk.cutM (k:=2) (by simp[Ad]) (by simp) (by simp) (by simp) (by simp) (by simp)⟩
  .intro b hb
   cases b
   .refine zn ?_
    refine W.skip ?_
    refine zs ?_
    refine⟨k+1,by omega,⟨by omega,fun i hi' h2=>?_⟩,Wk.fr (by simp[Ad])⟩
    by_cases ee:i=k
    .subst ee;exact hb.1 rfl
    .exact hok i hi' (by omega)
   .refine zt ?_
    refine zs ?_
    refine zr ?_
    exact bad (fun g=>by have:=hb.2 g;simp at this)
 .refine W.exit ?_
  have hk' :k=s.vers.length:=by omega
  subst hk'
  have hall:∀i (h:i<s.vers.length),JQ s i h:=fun i h=>hok i h h
  refine zs ?_
  (repeat refine W.seq ?_);refine W.block (W.loopS (fun k:Nat=> [(1,.ptr 0 0 0),(3,.tok 1 0 4 0 l.length),(8,.int .i64 k)]) (fun _=> [.live 0 (AJ false s),.live 0 (Af Av l)]) (fun k=>s.sess.length-k) (fun k=>k≤s.sess.length∧∀i (h:i<s.sess.length),i<k→Az s l s.sess[i]) 0 (Wk.fr (by simp[Ad])) ⟨by omega,fun i h h2=>by omega⟩ ?_)
  rintro k ⟨hk,hso⟩
  refine zs ?_
  refine zc ?_ ?_<;>intro h
  .refine W.skip ?_
   have hlt:k<s.sess.length:=by omega
   have spS:=OA s l s.sess[k] hs hlo (hx _ (List.getElem_mem hlt)) c5
   refine zb ?_
   by_cases d:Az s l s.sess[k]
   .rw[decide_eq_true d] at spS
    (repeat refine W.seq ?_);refine W.regd 0 rfl true Ci (by kernel_rfl) fun K hK=>?_;simp -implicitDefEqProofs (maxSteps:=999999) (disch:=omega) [hlt]
    refine Ah.eq spS (by simp) (by simp) ?_
    refine zx ?_
    refine zk ?_;clear hK K
    refine zn ?_
    refine W.skip ?_
    refine zs ?_
    refine⟨k+1,by omega,⟨by omega,fun i hi' h2=>?_⟩,Wk.fr (by simp[Ad])⟩
    by_cases ee:i=k
    .subst ee;exact d
    .exact hso i hi' (by omega)
   .rw[decide_eq_false d] at spS
    (repeat refine W.seq ?_);refine W.regd 0 rfl true Ci (by kernel_rfl) fun K hK=>?_;simp -implicitDefEqProofs (maxSteps:=999999) (disch:=omega) [hlt]
    refine Ah.eq spS (by simp) (by simp) ?_
    refine zx ?_
    refine zk ?_;clear hK K
    refine zt ?_
    refine zs ?_
    refine zr ?_
    exact fun h=>d (by rw[hl];exact(hi.1 h).2.2.2.2.2.2.2 _ (List.getElem_mem hlt))
  .refine W.exit ?_
   refine zs ?_
   refine zr ?_
   refine hi.2 ⟨c1,c2,c3,c4,by rw[←hl];exact c5,by rw[←hps];exact c6,hall,fun x hxm=>?_⟩
   obtain⟨i,hi',rfl⟩:=List.mem_iff_getElem.1 hxm
   rw[←hl]
   exact hso i hi' (by omega)
end Go.Abs
set_option maxRecDepth 100000
namespace Go.Abs
open Go.Proofs
abbrev A0:Nat:=281474976710656
def WN (B:Nat) (P:Nat→Prop):AV→List Ae→Prop:=fun r _=>∃n:Nat,r= .int .i64 n∧n<B∧(n<1048576→P n)
theorem N3 (xs:List (List Int)) (h1:xs.length<A0) (h2:∀l∈xs,l.length<A0):Aa pg 101 [.ro xs.length (Au false xs)] [] (WN 562949953421312 fun n=>xs.length≤n∧∀l∈xs,l.length≤n):=by
 simp only[A0] at h1 h2
 refine Aa.start (fn:=Tryz.f101) [.tmp 2] tk rfl rfl rfl (by kernel_rfl) (Nat.le_of_ble_eq_true rfl) rfl (by kernel_rfl) ?_
 rw[As]
 refine zs ?_
 refine zs ?_
 refine zs ?_
 (repeat refine W.seq ?_);refine W.block (W.loopS (fun s:Nat×Nat=> [(0,.ro xs.length (Au false xs)),(3,.int .i64 (s.2:Nat)),(4,.int .i64 (s.1:Nat))]) (fun _=> []) (fun s=>xs.length-s.1) (fun s=>s.1≤xs.length∧xs.length≤s.2∧s.2<562949953421312∧∀l∈xs.take s.1,l.length≤s.2) (0,xs.length) (Wk.fr (by simp[Ad])) ⟨by simp,by simp,by simp only;omega,by simp⟩ ?_)
 rintro⟨i,n⟩ ⟨hi,hn,hb,hl⟩
 simp only at hi hn hb hl
 by_cases c1:i<xs.length
 .by_cases c2:n<1048576
  .have c2' :(n:Int)<1048576:=by omega
   have hto:xs.take (i+1)=xs.take i++[xs[i]]:=by rw[List.take_add_one];simp[c1]
   have hli:=h2 _ (List.getElem_mem c1)
   refine Ag (an c1 c2') ?_;intro K hK
   refine zk ?_;clear hK K
   refine zt ?_
   refine W.skip ?_
   refine zb ?_
   (repeat refine W.seq ?_);refine W.reg 0 rfl fun K hK=>?_;simp -implicitDefEqProofs (maxSteps:=999999) (disch:=omega) [c1]
   refine zk ?_;clear hK K
   refine zs ?_
   refine⟨(i+1,n+xs[i].length),by simp only;omega,⟨by simp only;omega,by simp only;omega,by simp only;omega,fun l hlm=>?_⟩,Wk.fr (by simp[Ad])⟩
   rw[hto] at hlm
   simp only[List.mem_append,List.mem_singleton] at hlm
   rcases hlm with hlm|rfl
   .have:=hl l hlm;simp only;omega
   .simp only;omega
  .have c2' :¬(n:Int)<1048576:=by omega
   refine Ag (an c1 c2') ?_;intro K hK
   refine zk ?_;clear hK K
   refine zn ?_
   refine W.exit ?_
   refine zs ?_
   refine zr ?_
   exact⟨n,rfl,by omega,fun h=>by omega⟩
 .refine Ag c1 ?_;intro K hK
  refine zk ?_;clear hK K
  refine zn ?_
  refine W.exit ?_
  have:i=xs.length:=by omega
  subst this
  rw[List.take_length] at hl
  refine zs ?_
  refine zr ?_
  exact⟨n,rfl,by omega,fun h=>⟨hn,hl⟩⟩
theorem Nx (j:BW) (h1:j.list.length<A0) (h2:j.out.length<A0):Aa pg 102 [.agg (BA false j)] [] (fun r _=>r= .int .i64 ((j.list.length:Int)+j.out.length)):=by
 simp only[A0] at h1 h2
 refine Aa.start (fn:=Tryz.f102) [.tmp 2] tk rfl rfl rfl (by kernel_rfl) (Nat.le_of_ble_eq_true rfl) rfl (by kernel_rfl) ?_
 rw[As]
 refine z1 ?_;intro K hK;refine zk ?_;clear hK K
 refine zs ?_
 exact zR
theorem JR (xs:List Obj) (h1:xs.length<A0) (h2:∀o∈xs,o.data.data.size<A0):Aa pg 103 [.ro xs.length (Af Av xs)] [] (WN 562949953421312 fun _=>True):=by
 simp only[A0] at h1 h2
 refine Aa.start (fn:=Tryz.f103) [.tmp 2] tk rfl rfl rfl (by kernel_rfl) (Nat.le_of_ble_eq_true rfl) rfl (by kernel_rfl) ?_
 rw[As]
 refine zs ?_
 refine zs ?_
 refine zs ?_
 (repeat refine W.seq ?_);refine W.block (W.loopS (fun s:Nat×Nat=> [(0,.ro xs.length (Af Av xs)),(3,.int .i64 (s.2:Nat)),(4,.int .i64 (s.1:Nat))]) (fun _=> []) (fun s=>xs.length-s.1) (fun s=>s.1≤xs.length∧s.2<562949953421312) (0,xs.length) (Wk.fr (by simp[Ad])) ⟨by simp,by simp only;omega⟩ ?_)
 rintro⟨i,n⟩ ⟨hi,hb⟩
 simp only at hi hb
 by_cases c1:i<xs.length
 .by_cases c2:n<1048576
  .have c2' :(n:Int)<1048576:=by omega
   have hli:=h2 _ (List.getElem_mem c1)
   refine Ag (an c1 c2') ?_;intro K hK
   refine zk ?_;clear hK K
   refine zt ?_
   refine W.skip ?_
   refine zb ?_
   (repeat refine W.seq ?_);refine W.reg 0 rfl fun K hK=>?_;simp -implicitDefEqProofs (maxSteps:=999999) (disch:=omega) [c1]
   refine zk ?_;clear hK K
   refine zs ?_
   refine⟨(i+1,n+xs[i].data.data.size/4),by simp only;omega,⟨by simp only;omega,by simp only;omega⟩,Wk.fr (by simp[Ad])⟩
  .have c2' :¬(n:Int)<1048576:=by omega
   refine Ag (an c1 c2') ?_;intro K hK
   refine zk ?_;clear hK K
   refine zn ?_
   refine W.exit ?_
   refine zs ?_
   refine zr ?_
   exact⟨n,rfl,by omega,fun h=>trivial⟩
 .refine Ag c1 ?_;intro K hK
  refine zk ?_;clear hK K
  refine zn ?_
  refine W.exit ?_
  refine zs ?_
  refine zr ?_
  exact⟨n,rfl,by omega,fun h=>trivial⟩
end Go.Abs
set_option maxRecDepth 100000
namespace Go.Abs
open Go.Proofs
def Ii (g:Gr):Prop:=g.out.length<A0∧∀l∈g.out,l.length<A0
def XL (x:CD):Prop:=Ii x.stage∧x.job.list.length<A0∧x.job.out.length<A0
def Jr (s:AT):Prop:=s.vers.length<A0∧s.sess.length<A0∧(∀v∈s.vers,v.data.data.size<A0)∧∀x∈s.sess,XL x
def Fd (n:Nat) (x:CD):Prop:=x.stage.out.length≤n∧(∀l∈x.stage.out,l.length≤n)∧x.job.list.length≤n∧x.job.out.length≤n
def Ea (n:Nat) (s:AT):Prop:=s.vers.length≤n∧s.sess.length≤n∧(∀v∈s.vers,v.data.data.size/4≤n)∧∀x∈s.sess,Fd n x
theorem Fd.mono {n m:Nat} (h:n≤m) {x:CD} (k:Fd n x):Fd m x:=⟨by have:=k.1;omega,fun l hl=>by have:=k.2.1 l hl;omega,by have:=k.2.2.1;omega,by have:=k.2.2.2;omega⟩
theorem Ea.mono {n m:Nat} (h:n≤m) {s:AT} (k:Ea n s):Ea m s:=⟨by have:=k.1;omega,by have:=k.2.1;omega,fun v hv=>by have:=k.2.2.1 v hv;omega,fun x hx=>(k.2.2.2 x hx).mono h⟩
theorem KB (xs:List Gr) (h1:xs.length<A0) (h2:∀g∈xs,Ii g):Aa pg 141 [.ro xs.length (Af (AX false) xs)] [] (WN 1125899906842624 fun _=>True):=by
 simp only[A0] at h1
 refine Aa.start (fn:=Tryz.f141) [.tmp 2] tk rfl rfl rfl (by kernel_rfl) (Nat.le_of_ble_eq_true rfl) rfl (by kernel_rfl) ?_
 rw[As]
 refine zs ?_
 refine zs ?_
 refine zs ?_
 (repeat refine W.seq ?_);refine W.block (W.loopS (fun s:Nat×Nat=> [(0,.ro xs.length (Af (AX false) xs)),(3,.int .i64 (s.2:Nat)),(4,.int .i64 (s.1:Nat))]) (fun _=> []) (fun s=>xs.length-s.1) (fun s=>s.1≤xs.length∧s.2<1125899906842624) (0,xs.length) (Wk.fr (by simp[Ad])) ⟨by simp,by simp only;omega⟩ ?_)
 rintro⟨i,n⟩ ⟨hi,hb⟩
 simp only at hi hb
 by_cases c1:i<xs.length
 .by_cases c2:n<1048576
  .have c2' :(n:Int)<1048576:=by omega
   have hli:=h2 _ (List.getElem_mem c1)
   refine Ag (an c1 c2') ?_;intro K hK
   refine zk ?_;clear hK K
   refine zt ?_
   refine W.skip ?_
   refine zb ?_
   have cg:(Af (AX false) xs)[i*2+1]?=some (.ro xs[i].out.length (Au false xs[i].out)):=Bt (f:=AX false) (s:=2) (fun _=>rfl) c1 (i:=1) (by omega)
   refine Ag (an c1 cg) ?_;intro K hK
   refine Ab.bor (N3 xs[i].out hli.1 hli.2) (by simp) ?_
   rintro r ⟨m,rfl,hm,_⟩
   refine⟨by simp,?_⟩
   refine zx ?_
   refine zk ?_;clear hK K
   refine zs ?_
   refine⟨(i+1,n+m),by simp only;omega,⟨by simp only;omega,by simp only;omega⟩,Wk.fr (by simp[Ad])⟩
  .have c2' :¬(n:Int)<1048576:=by omega
   refine Ag (an c1 c2') ?_;intro K hK
   refine zk ?_;clear hK K
   refine zn ?_
   refine W.exit ?_
   refine zs ?_
   refine zr ?_
   exact⟨n,rfl,by omega,fun _=>trivial⟩
 .refine Ag c1 ?_;intro K hK
  refine zk ?_;clear hK K
  refine zn ?_
  refine W.exit ?_
  refine zs ?_
  refine zr ?_
  exact⟨n,rfl,by omega,fun _=>trivial⟩
theorem LR (s:AT) (h:Jr s):Aa pg 64 [.agg (AJ false s)] [] (fun r _=>∃n:Nat,r= .int .i64 n∧n<4503599627370496∧(n<1048576→Ea n s)):=by
 obtain⟨h1,h2,h3,h4⟩:=h
 simp only[A0] at h1 h2 h3
 refine Aa.start (fn:=Tryz.f64) [.tmp 2] tk rfl rfl rfl (by kernel_rfl) (Nat.le_of_ble_eq_true rfl) rfl (by kernel_rfl) ?_
 rw[As]
 refine z1 ?_;intro K hK;refine zk ?_;clear hK K
 refine zs ?_
 refine zs ?_
 (repeat refine W.seq ?_);refine W.block (W.loopS (fun z:Nat×Nat=> [(1,.ptr 0 0 0),(3,.int .i64 (z.2:Nat)),(4,.int .i64 (z.1:Nat))]) (fun _=> [.live 0 (AJ false s)]) (fun z=>s.vers.length-z.1) (fun z=>z.1≤s.vers.length∧s.vers.length+s.sess.length≤z.2∧z.2<1125899906842624∧∀v∈s.vers.take z.1,v.data.data.size/4≤z.2) (0,s.vers.length+s.sess.length) (Wk.fr (by simp[Ad])) ⟨by simp,by simp,by simp only;omega,by simp⟩ ?_)
 rintro⟨i,n⟩ ⟨hi,hn,hb,hl⟩
 simp only at hi hn hb hl
 by_cases c:i<s.vers.length∧n<1048576
 .obtain⟨c1,c2⟩:=c
  have c2' :(n:Int)<1048576:=by omega
  have hto:s.vers.take (i+1)=s.vers.take i++[s.vers[i]]:=by rw[List.take_add_one];simp[c1]
  have hli:=h3 _ (List.getElem_mem c1)
  refine Ag (an c1 c2') ?_;intro K hK
  refine zk ?_;clear hK K
  refine zt ?_
  refine W.skip ?_
  refine zb ?_
  (repeat refine W.seq ?_);refine W.reg 0 rfl fun K hK=>?_;simp -implicitDefEqProofs (maxSteps:=999999) (disch:=omega) [c1]
  refine zk ?_;clear hK K
  refine zs ?_
  refine⟨(i+1,n+s.vers[i].data.data.size/4),by simp only;omega,⟨by simp only;omega,by simp only;omega,by simp only;omega,fun v hv=>?_⟩,Wk.fr (by simp[Ad])⟩
  rw[hto] at hv
  simp only[List.mem_append,List.mem_singleton] at hv
  rcases hv with hv|rfl
  .have:=hl v hv;simp only;omega
  .simp only;omega
 .have hend:n<1048576→∀v∈s.vers,v.data.data.size/4≤n:=fun hh v hv=>hl v (by rw[List.take_of_length_le (by omega)];exact hv)
  (repeat refine W.seq ?_);refine W.midS (fun _:Unit=> [(1,.ptr 0 0 0),(3,.int .i64 (n:Nat)),(21,.bool false)]) (fun _=> [.live 0 (AJ false s)]) (fun _=>True) ?_ ?_
  .by_cases c1:i<s.vers.length
   .have c2' :¬(n:Int)<1048576:=by omega
    refine Ag (an c1 c2') ?_;intro K hK
    refine zk ?_;clear hK K
    exact⟨(),trivial,Wk.fr (by simp[Ad])⟩
   .refine Ag c1 ?_;intro K hK
    refine zk ?_;clear hK K
    exact⟨(),trivial,Wk.fr (by simp[Ad])⟩
  rintro _ _
  refine zn ?_
  refine W.exit ?_
  refine zs ?_
  clear hl
  (repeat refine W.seq ?_);refine W.block (W.loopS (fun z:Nat×Nat=> [(1,.ptr 0 0 0),(3,.int .i64 (z.2:Nat)),(5,.int .i64 (z.1:Nat))]) (fun _=> [.live 0 (AJ false s)]) (fun z=>s.sess.length-z.1) (fun z=>z.1≤s.sess.length∧n≤z.2∧z.2<4503599627370496∧∀x∈s.sess.take z.1,z.2<1048576→Fd z.2 x) (0,n) (Wk.fr (by simp[Ad])) ⟨by simp,by simp,by simp only;omega,by simp⟩ ?_)
  rintro⟨k,m⟩ ⟨hk,hm,hmb,hsm⟩
  simp only at hk hm hmb hsm
  by_cases d:k<s.sess.length∧m<1048576
  .obtain⟨d1,d2⟩:=d
   have d2' :(m:Int)<1048576:=by omega
   have hto:s.sess.take (k+1)=s.sess.take k++[s.sess[k]]:=by rw[List.take_add_one];simp[d1]
   obtain⟨b1,b2,b3⟩:=h4 _ (List.getElem_mem d1)
   have spJ:=Nx s.sess[k].job b2 b3
   have spL:=N3 s.sess[k].stage.out b1.1 b1.2
   simp only[A0] at b2 b3
   refine Ag (an d1 d2') ?_;intro K hK
   refine zk ?_;clear hK K
   refine zt ?_
   refine W.skip ?_
   refine zb ?_
   (repeat refine W.seq ?_);refine W.regd 0 rfl true Ci (by kernel_rfl) fun K hK=>?_;simp -implicitDefEqProofs (maxSteps:=999999) (disch:=omega) [d1]
   refine⟨_,_,spL,.inl ⟨rfl,⟨[],by simp[Cn]⟩,?_⟩⟩
   rintro r ⟨q,rfl,hq,hqs⟩
   refine⟨by simp,?_⟩
   simp only[DU];simp -implicitDefEqProofs (maxSteps:=999999) (disch:=omega) [d1]
   refine Ah.eq spJ (by simp) (by simp) ?_
   refine zx ?_
   refine zk ?_;clear hK K
   refine zs ?_
   refine⟨(k+1,m+q+(s.sess[k].job.list.length+s.sess[k].job.out.length)),by simp only;omega,⟨by simp only;omega,by simp only;omega,by simp only;omega,fun x hx=>?_⟩,Wk.fr (by simp[Ad];try omega)⟩
   rw[hto] at hx
   simp only[List.mem_append,List.mem_singleton] at hx
   rcases hx with hx|rfl
   .intro hlt
    exact(hsm x hx (by simp only at hlt;omega)).mono (by simp only;omega)
   .intro hlt
    simp only at hlt
    obtain⟨q1,q2⟩:=hqs (by omega)
    exact⟨by simp only;omega,fun l hl=>by have:=q2 l hl;simp only;omega,by simp only;omega,by simp only;omega⟩
  .have hend2:m<1048576→∀x∈s.sess,Fd m x:=fun hh x hx=>hsm x (by rw[List.take_of_length_le (by omega)];exact hx) hh
   (repeat refine W.seq ?_);refine W.midS (fun _:Unit=> [(1,.ptr 0 0 0),(3,.int .i64 (m:Nat)),(43,.bool false)]) (fun _=> [.live 0 (AJ false s)]) (fun _=>True) ?_ ?_
   .by_cases c1:k<s.sess.length
    .have c2' :¬(m:Int)<1048576:=by omega
     refine Ag (an c1 c2') ?_;intro K hK
     refine zk ?_;clear hK K
     exact⟨(),trivial,Wk.fr (by simp[Ad])⟩
    .refine Ag c1 ?_;intro K hK
     refine zk ?_;clear hK K
     exact⟨(),trivial,Wk.fr (by simp[Ad])⟩
   rintro _ _
   refine zn ?_
   refine W.exit ?_
   refine zs ?_
   refine zr ?_
   exact⟨m,rfl,by omega,fun hh=>⟨by omega,by omega,fun v hv=>by have:=hend (by omega) v hv;omega,hend2 hh⟩⟩
end Go.Abs
set_option maxRecDepth 100000
namespace Go.Abs
open Go.Proofs
def DE (L:List (List Obj)):List AV:=L.map fun l=>AV.ro l.length (Af Av l)
section
variable (xs:List (List Obj)) (k:Nat)
@[simp] theorem WW (i:Nat):(DE xs)[i]?=(xs[i]?).map fun l=>AV.ro l.length (Af Av l):=by simp[DE]
@[simp] theorem WX:(DE xs).length=xs.length:=by simp[DE]
@[simp] theorem Wc:(DE xs).drop k=DE (xs.drop k):=by simp[DE,List.map_drop]
end
def Hm (G:List Gr) (na:Nat):List AV:=[.ro G.length (Af (AX false) G),.ro na []]
def Hn (L:List (List Obj)) (G:List Gr) (na nn:Nat):List AV:= .ro L.length (DE L)::(Hm G na++[.ro nn []])
def KC (S:List AT) (L:List (List Obj)) (G:List Gr) (na nn:Nat):List AV:= .ro S.length (Af (AJ false) S)::Hn L G na nn
def U7:AV→List Ae→Prop:=fun r _=>∃b:Bool,r= .bool b
theorem Q1 (G:List Gr) (na:Nat) (h1:G.length<A0) (h2:∀g∈G,Ii g) (h3:na<A0):Aa pg 104 [.agg (Hm G na)] [] U7:=by
 have sp:=KB G h1 h2
 simp only[A0] at h1 h3
 simp only[Hm]
 refine Aa.start (fn:=Tryz.f104) [.tmp 2] tk rfl rfl rfl (by kernel_rfl) (Nat.le_of_ble_eq_true rfl) rfl (by kernel_rfl) ?_
 rw[As]
 refine z1 ?_;intro K hK;refine zk ?_;clear hK K
 refine B4 ?_;intro K hK
 refine⟨_,_,sp,.inl ⟨rfl,⟨[],by simp[Cn]⟩,?_⟩⟩
 rintro r ⟨q,rfl,hq,_⟩
 refine⟨by simp,?_⟩
 refine zx ?_
 refine zk ?_;clear hK K
 refine zr ?_
 exact⟨_,rfl⟩
theorem Q2 (L:List (List Obj)) (G:List Gr) (na nn:Nat) (h1:G.length<A0) (h2:∀g∈G,Ii g) (h3:na<A0) (h4:nn<A0) (h5:L.length<A0) (h6:∀l∈L,l.length<A0∧∀o∈l,o.data.data.size<A0):Aa pg 65 [.agg (Hn L G na nn)] [] U7:=by
 have sp6:=Q1 G na h1 h2 h3
 simp only[A0] at h3 h4 h5
 simp only[Hm] at sp6
 simp only[Hn,Hm,List.cons_append,List.nil_append]
 refine Aa.start (fn:=Tryz.f65) [.tmp 2] tk rfl rfl rfl (by kernel_rfl) (Nat.le_of_ble_eq_true rfl) rfl (by kernel_rfl) ?_
 rw[As]
 refine z1 ?_;intro K hK;refine zk ?_;clear hK K
 refine zs ?_
 refine zs ?_
 (repeat refine W.seq ?_);refine W.block (W.loopS (fun s:Nat×Nat=> [(1,.ptr 0 0 0),(3,.int .i64 (s.2:Nat)),(4,.int .i64 (s.1:Nat))]) (fun _=> [.live 0 [.ro L.length (DE L),.ro G.length (Af (AX false) G),.ro na [],.ro nn []]]) (fun s=>L.length-s.1) (fun s=>s.1≤L.length∧s.2<1125899906842624) (0,nn+L.length) (Wk.fr (by simp[Ad])) ⟨by simp,by simp only;omega⟩ ?_)
 rintro⟨i,n⟩ ⟨hi,hb⟩
 simp only at hi hb
 by_cases c:i<L.length∧n<1048576
 .obtain⟨c1,c2⟩:=c
  have c2' :(n:Int)<1048576:=by omega
  have hli:=h6 _ (List.getElem_mem c1)
  refine Ag (an c1 c2') ?_;intro K hK
  refine zk ?_;clear hK K
  refine zt ?_
  refine W.skip ?_
  refine zb ?_
  (repeat refine W.seq ?_);refine W.reg 0 rfl fun K hK=>?_;simp -implicitDefEqProofs (maxSteps:=999999) (disch:=omega) [c1]
  refine Ab.bor (JR L[i] hli.1 hli.2) (by simp) ?_
  rintro r ⟨m,rfl,hm,_⟩
  refine⟨by simp,?_⟩
  refine zx ?_
  refine zk ?_;clear hK K
  refine zs ?_
  exact⟨(i+1,n+m),by simp only;omega,⟨by simp only;omega,by simp only;omega⟩,Wk.fr (by simp[Ad])⟩
 . (repeat refine W.seq ?_);refine W.midS (fun _:Unit=> [(1,.ptr 0 0 0),(3,.int .i64 (n:Nat)),(20,.bool false)]) (fun _=> [.live 0 [.ro L.length (DE L),.ro G.length (Af (AX false) G),.ro na [],.ro nn []]]) (fun _=>True) ?_ ?_
   .by_cases c1:i<L.length
    .have c2' :¬(n:Int)<1048576:=by omega
     refine Ag (an c1 c2') ?_;intro K hK
     refine zk ?_;clear hK K
     exact⟨(),trivial,Wk.fr (by simp[Ad])⟩
    .refine Ag c1 ?_;intro K hK
     refine zk ?_;clear hK K
     exact⟨(),trivial,Wk.fr (by simp[Ad])⟩
   rintro _ _
   refine zn ?_
   refine W.exit ?_
   by_cases d:(700:Int)<n
   .refine Ag d ?_;intro K hK
    refine zk ?_;clear hK K
    refine zr ?_
    exact⟨_,rfl⟩
   .refine Ag d ?_;intro K hK
    refine Ab.bor sp6 (by simp) ?_
    rintro r ⟨b,rfl⟩
    refine⟨by simp,?_⟩
    refine zx ?_
    refine zk ?_;clear hK K
    refine zr ?_
    exact⟨_,rfl⟩
theorem Tb (S:List AT) (L:List (List Obj)) (G:List Gr) (na nn:Nat) (h0:S.length<A0) (hS:∀s∈S,Jr s) (h1:G.length<A0) (h2:∀g∈G,Ii g) (h3:na<A0) (h4:nn<A0) (h5:L.length<A0) (h6:∀l∈L,l.length<A0∧∀o∈l,o.data.data.size<A0):Aa pg 12 [.agg (KC S L G na nn)] [] (fun r _=>∃b:Bool,r= .bool b∧(b=false→S.length≤1500∧∀s∈S,Ea 1500 s)):=by
 have sp9:=Q2 L G na nn h1 h2 h3 h4 h5 h6
 simp only[A0] at h0
 simp only[Hn,Hm,List.cons_append,List.nil_append] at sp9
 simp only[KC,Hn,Hm,List.cons_append,List.nil_append]
 refine Aa.start (fn:=Tryz.f12) [.tmp 2] tk rfl rfl rfl (by kernel_rfl) (Nat.le_of_ble_eq_true rfl) rfl (by kernel_rfl) ?_
 rw[As]
 refine z1 ?_;intro K hK;refine zk ?_;clear hK K
 refine zs ?_
 refine zs ?_
 (repeat refine W.seq ?_);refine W.block (W.loopS (fun z:Nat×Nat=> [(1,.ptr 0 0 0),(3,.int .i64 (z.2:Nat)),(4,.int .i64 (z.1:Nat))]) (fun _=> [.live 0 [.ro S.length (Af (AJ false) S),.ro L.length (DE L),.ro G.length (Af (AX false) G),.ro na [],.ro nn []]]) (fun z=>S.length-z.1) (fun z=>z.1≤S.length∧S.length≤z.2∧z.2<9007199254740992∧(z.2<1048576→∀s∈S.take z.1,Ea z.2 s)) (0,S.length) (Wk.fr (by simp[Ad])) ⟨by simp,by simp,by simp only;omega,by simp⟩ ?_)
 rintro⟨i,n⟩ ⟨hi,hn,hb,hs⟩
 simp only at hi hn hb hs
 by_cases c:i<S.length∧n<1048576
 .obtain⟨c1,c2⟩:=c
  have c2' :(n:Int)<1048576:=by omega
  have hto:S.take (i+1)=S.take i++[S[i]]:=by rw[List.take_add_one];simp[c1]
  have spW:=LR S[i] (hS _ (List.getElem_mem c1))
  have k0:(Af (AJ false) S)[i*4]?=some (.int .i64 S[i].keep):=Bt (f:=AJ false) (s:=4) (fun _=>rfl) c1 (i:=0) (by omega)
  have k1:(Af (AJ false) S)[i*4+1]?=some (.int .i64 S[i].blocks):=Bt (f:=AJ false) (s:=4) (fun _=>rfl) c1 (i:=1) (by omega)
  have k2:(Af (AJ false) S)[i*4+1+1]?=some (.ro S[i].vers.length (Af AE S[i].vers)):=Bt (f:=AJ false) (s:=4) (fun _=>rfl) c1 (i:=2) (by omega)
  have k3:(Af (AJ false) S)[i*4+1+1+1]?=some (.ro S[i].sess.length (Af (Ay false) S[i].sess)):=Bt (f:=AJ false) (s:=4) (fun _=>rfl) c1 (i:=3) (by omega)
  refine Ag (an c1 c2') ?_;intro K hK
  refine zk ?_;clear hK K
  refine zt ?_
  refine W.skip ?_
  refine zb ?_
  refine Ag (an c1 (an k0 (an k1 (an k2 k3)))) ?_;intro K hK
  refine Ab.bor spW (by simp) ?_
  rintro r ⟨m,rfl,hm,hsm⟩
  refine⟨by simp,?_⟩
  refine zx ?_
  refine zk ?_;clear hK K
  refine zs ?_
  refine⟨(i+1,n+m),by simp only;omega,⟨by simp only;omega,by simp only;omega,by simp only;omega,fun hlt s hsm' =>?_⟩,Wk.fr (by simp[Ad])⟩
  rw[hto] at hsm'
  simp only at hlt
  simp only[List.mem_append,List.mem_singleton] at hsm'
  rcases hsm' with hs' |rfl
  .exact(hs c2 s hs').mono (by simp only;omega)
  .exact(hsm (by omega)).mono (by simp only;omega)
 .have hend:n<1048576→∀s∈S,Ea n s:=fun hh s hss=>hs hh s (by rw[List.take_of_length_le (by omega)];exact hss)
  (repeat refine W.seq ?_);refine W.midS (fun _:Unit=> [(1,.ptr 0 0 0),(3,.int .i64 (n:Nat)),(16,.bool false)]) (fun _=> [.live 0 [.ro S.length (Af (AJ false) S),.ro L.length (DE L),.ro G.length (Af (AX false) G),.ro na [],.ro nn []]]) (fun _=>True) ?_ ?_
  .by_cases c1:i<S.length
   .have c2' :¬(n:Int)<1048576:=by omega
    refine Ag (an c1 c2') ?_;intro K hK
    refine zk ?_;clear hK K
    exact⟨(),trivial,Wk.fr (by simp[Ad])⟩
   .refine Ag c1 ?_;intro K hK
    refine zk ?_;clear hK K
    exact⟨(),trivial,Wk.fr (by simp[Ad])⟩
  rintro _ _
  refine zn ?_
  refine W.exit ?_
  by_cases d:(1500:Int)<n
  . (repeat refine W.seq ?_);refine W.reg 0 rfl fun K hK=>?_;simp -implicitDefEqProofs (maxSteps:=999999) (disch:=omega) [d]
    refine zk ?_;clear hK K
    refine W.ret ?_;simp only[Ca,CU,Cp];refine Ce (d:=0) ?_;simp -implicitDefEqProofs (maxSteps:=999999) (disch:=omega)
    (try exact⟨true,rfl,fun h=>by simp at h⟩)
  .refine Ag d ?_;intro K hK
   refine Ab.bor sp9 (by simp) ?_
   rintro r ⟨b,rfl⟩
   refine⟨by simp,?_⟩
   refine zx ?_
   refine zk ?_;clear hK K
   refine zr ?_
   exact fun _=>⟨by omega,fun s hss=>(hend (by omega) s hss).mono (by omega)⟩
theorem IV (e:Int):Aa pg 17 [.int .i64 e] [] (fun r _=>r= .int .i64 e):=by
 refine Aa.start (fn:=Tryz.f17) [.tmp 2] tk rfl rfl rfl (by kernel_rfl) (Nat.le_of_ble_eq_true rfl) rfl (by kernel_rfl) ?_
 rw[As]
 refine zs ?_
 refine zs ?_
 exact zR
end Go.Abs
