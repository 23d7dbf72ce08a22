/- Graphs: may one be? -/
import Derived.Test.YtoklapibcmnaeaaGreatP7
set_option linter.unusedVariables false
set_option linter.unusedSimpArgs false
set_option maxRecDepth 100000
namespace Go.Abs
open Go.Proofs
def Et (g:Gr):Prop:=g.out.length<1000000000∧∀l∈g.out,l.length<1000000000
theorem JW (out:List (List Int)) (k:Nat):Cl (out.take k)≤Cl out:=by
 have:Cl out=Cl (out.take k)+Cl (out.drop k):=by rw[Cl,Cl,Cl,←List.sum_append,←List.map_append,List.take_append_drop]
 omega
theorem JX {out:List (List Int)} {k:Nat} (hk:k<out.length):Cl (out.take (k+1))=Cl (out.take k)+out[k].length:=by
 have e:out.take (k+1)=out.take k++[out[k]]:=by rw[List.take_add_one,List.getElem?_eq_getElem hk];rfl
 rw[e,Cl,List.map_append,List.sum_append];simp[Cl]
theorem U2 (g:Gr) (h1:g.out.length<1000000000) (h2:Cl g.out<4611686018427387904):Aa pg 216 [.agg (AQ false g)] [] (fun r _=>r= .int .i64 (Cl g.out)):=by
 refine Aa.start (fn:=Tryz.f216) [.tmp 2] tk rfl rfl rfl (by kernel_rfl) (Nat.le_of_ble_eq_true rfl) rfl (by kernel_rfl) ?_
 rw[At]
 refine z1 ?_;intro K hK;refine zk ?_;clear hK K
 refine zs ?_
 refine zs ?_
 (repeat refine W.seq ?_);refine W.block (W.loopS (fun k:Nat=> [(3,.int .i64 (Cl (g.out.take k))),(7,DX false g.out),(8,.int .i64 g.out.length),(9,.int .i64 k)]) (fun _=> []) (fun k=>g.out.length-k) (fun k=>k≤g.out.length) 0 (Wk.cutM (k:=0) (by simp[Ac,Cl]) (by simp) (by simp) (by simp) (by simp) (by simp)) (by simp) ?_)
 intro k hk
 refine zs ?_
 refine zc ?_ ?_<;>intro h
 .refine W.skip ?_
  have hlt:k<g.out.length:=by omega
  have hs:=JX hlt
  have ht:=JW g.out (k+1)
  refine zb ?_
  refine z0 ?_;intro K hK
  refine zk ?_;clear hK K
  refine zs ?_
  refine zs ?_
  refine⟨k+1,by omega,by omega,Wk.fr (by simp[Ac,hs])⟩
 .refine W.exit ?_
  have:k=g.out.length:=by omega
  subst this
  refine zs ?_
  exact zR
theorem RO (g:Gr) (v:Int):Aa pg 228 [.agg (AQ false g),.int .i64 v] [] (fun r _=>r= .bool (decide (0≤v∧v<g.n))):=by
 refine Aa.start (fn:=Tryz.f228) [.tmp 4] tk rfl rfl rfl (by kernel_rfl) (Nat.le_of_ble_eq_true rfl) rfl (by kernel_rfl) ?_
 rw[Am]
 refine z1 ?_;intro K hK;refine zk ?_;clear hK K
 by_cases h:0≤v
 .refine z0 ?_;intro K hK
  refine zk ?_;clear hK K
  exact zR
 .refine z0 ?_;intro K hK
  refine zk ?_;clear hK K
  exact zR
theorem Mw (n:Nat):Dn n [AV.own 1 0 []]=Aw true (List.replicate n []):=by
 induction n with
 |zero=>rfl
 |succ n ih=>rw[List.replicate_succ,Dw,←ih];rfl
theorem NM (n:Nat) (hn:n<1000000):Aa pg 125 [.int .i64 n] [] (fun r _=>r= .agg (AQ true ⟨n,List.replicate n []⟩)):=by
 refine Aa.start (fn:=Tryz.f125) [.cell 2 51] tk rfl rfl rfl (by kernel_rfl) (Nat.le_of_ble_eq_true rfl) rfl (by kernel_rfl) ?_
 rw[At]
 refine z1 ?_;intro K hK;refine zk ?_;clear hK K
 refine z1 ?_;intro K hK
 refine zk ?_;clear hK K
 refine zr ?_
 simp[Mw]
def E5 (n:Int) (l:List Int):Prop:=AI l∧∀x∈l,x<n
instance (n:Int) (l:List Int):Decidable (E5 n l):=inferInstanceAs (Decidable (_∧_))
theorem Lb {n:Int} {l:List Int} (hm:AI l) (h:0<l.length):E5 n l↔l[l.length-1]<n:=by
 constructor
 .intro⟨_,h2⟩;exact h2 _ (List.getElem_mem _)
 .intro h2
  refine⟨hm,fun x hx=>?_⟩
  obtain⟨i,hi,rfl⟩:=List.mem_iff_getElem.1 hx
  by_cases e:i=l.length-1
  .subst e;exact h2
  .have:=List.pairwise_iff_getElem.1 hm.2 i (l.length-1) hi (by omega) (by omega)
   omega
theorem HT {α:Type} {l:List α} {k:Nat} (hk:k<l.length) (x:α):x∈l.take (k+1)↔x∈l.take k∨x=l[k]:=by
 have e:l.take (k+1)=l.take k++[l[k]]:=by rw[List.take_add_one,List.getElem?_eq_getElem hk];rfl
 rw[e,List.mem_append,List.mem_singleton]
theorem Iy {n:Int}:∀{out:List (List Int)},(∀l∈out,E5 n l)→Cl out≤16*out.length
 | [],_=>by simp[Cl]
 |l::out,h=>by
  have h1:=BQ (h l (by simp)).1
  have h2:=Iy (out:=out) fun x hx=>h x (by simp[hx])
  simp[Cl] at*;omega
theorem JY (g:Gr) (hg:Et g):Aa pg 192 [.agg (AQ false g)] [] (fun r _=>r= .bool (decide (AY g))):=by
 obtain⟨h1,h2⟩:=hg
 refine Aa.start (fn:=Tryz.f192) [.tmp 2] tk rfl rfl rfl (by kernel_rfl) (Nat.le_of_ble_eq_true rfl) rfl (by kernel_rfl) ?_
 rw[At]
 refine z1 ?_;intro K hK;refine zk ?_;clear hK K
 by_cases hbad:¬(0≤g.n∧g.n≤16∧(g.out.length:Int)=g.n)
 .have hm:¬AY g:=fun h=>hbad ⟨h.1,h.2.1,h.2.2.1⟩
  (repeat refine W.seq ?_);refine W.midS (fun _:Unit=> [(20,.bool true)]) (fun _=> []) (fun _=>True) ?_ ?_
  .by_cases c1:g.n<0
   .refine z0 ?_;intro K hK
    refine zk ?_;clear hK K
    exact⟨(),trivial,Wk.cutM (k:=0) (by simp[Ac]) (by simp) (by simp) (by simp) (by simp) (by simp)⟩
   by_cases c2:16<g.n
   .refine z0 ?_;intro K hK
    refine zk ?_;clear hK K
    exact⟨(),trivial,Wk.cutM (k:=0) (by simp[Ac]) (by simp) (by simp) (by simp) (by simp) (by simp)⟩
   .have c3:¬(g.out.length:Int)=g.n:=fun e=>hbad ⟨by omega,by omega,e⟩
    refine Ae c3 ?_;intro K hK
    refine zk ?_;clear hK K
    exact⟨(),trivial,Wk.cutM (k:=0) (by simp[Ac]) (by simp) (by simp) (by simp) (by simp) (by simp)⟩
  .rintro _ _
   refine zt ?_
   refine zs ?_
   refine zr ?_
   exact hm
 .have hbad:=Classical.not_not.1 hbad
  refine Ae hbad.2.2 ?_;intro K hK
  refine zk ?_;clear hK K
  refine zn ?_
  refine W.skip ?_
  refine zs ?_
  (repeat refine W.seq ?_);refine W.block (W.loopS (fun k:Nat=> [(1,.ptr 0 0 0),(22,DX false g.out),(23,.int .i64 g.out.length),(24,.int .i64 k)]) (fun _=> [.live 0 (AQ false g)]) (fun k=>g.out.length-k) (fun k=>k≤g.out.length∧∀l∈g.out.take k,E5 g.n l) 0 (Wk.fr (by simp[Ac])) (by simp) ?_)
  rintro k ⟨hk,hinv⟩
  refine zs ?_
  refine zc ?_ ?_<;>intro h
  .refine W.skip ?_
   have hlt:k<g.out.length:=by omega
   have hl2:=h2 _ (List.getElem_mem hlt)
   have hmem:=List.getElem_mem hlt
   refine zb ?_
   refine z0 ?_;intro K hK
   refine zk ?_;clear hK K
   have hmi:=HT hlt
   generalize g.out[k]=l at hl2 hmem hmi
   (repeat refine W.seq ?_);refine W.midS (fun b:Bool=> [(1,.ptr 0 0 0),(22,DX false g.out),(23,.int .i64 g.out.length),(24,.int .i64 k),(46,.bool b)]) (fun _=> [.live 0 (AQ false g)]) (fun b=>b=false↔E5 g.n l) ?_ ?_
   .refine B8 ?_;intro K hK
    refine Ah.eq (Lx l (by omega)) (by simp) (by simp) ?_
    by_cases hm:AI l
    .rw[decide_eq_true hm]
     by_cases h0:0<l.length
     .have hla:=Lb (n:=g.n) hm h0
      refine zx ?_
      refine zk ?_;clear hK K
      exact⟨decide (g.n≤l[l.length-1]),by rw[hla];simp,Wk.fr (by simp[Ac])⟩
     .have hl0:l=[]:=List.eq_nil_of_length_eq_zero (by omega)
      subst hl0
      refine zx ?_
      refine zk ?_;clear hK K
      exact⟨false,by simp[E5,AI],Wk.fr (by simp[Ac])⟩
    .rw[decide_eq_false hm]
     refine zx ?_
     refine zk ?_;clear hK K
     exact⟨true,by simp[E5,hm],Wk.fr (by simp[Ac])⟩
   .intro b hb
    refine zc ?_ ?_<;>intro h
    .refine zs ?_
     refine zr ?_
     intro h'
     have h3:=h'.2.2.2.1 l hmem
     have h4:=hb.2 h3
     have h5:b=true:=by assumption
     rw[h4] at h5;cases h5
    .refine W.skip ?_
     refine zs ?_
     refine⟨k+1,by omega,⟨by omega,fun x hx=>?_⟩,Wk.fr (by simp[Ac])⟩
     rcases(hmi x).1 hx with h6|h6
     .exact hinv x h6
     .rw[h6];exact hb.1 (by assumption)
  .refine W.exit ?_
   have:k=g.out.length:=by omega
   subst this
   rw[List.take_length] at hinv
   refine z0 ?_;intro K hK
   refine Ab.eq (U2 g h1 (by have:=Iy hinv;omega)) (by simp) (by simp) ?_
   refine zx ?_
   refine zk ?_;clear hK K
   refine zr ?_
   exact⟨fun h=>⟨hbad.1,hbad.2.1,hbad.2.2,hinv,by omega⟩,fun h=>by have:=h.2.2.2.2;omega⟩
end Go.Abs
set_option maxRecDepth 100000
namespace Go.Abs
open Go.Proofs
def NN (o:Option (Nat×Nat)):AV:=match o with|some x=> .tup [.int .i64 ((x.1:Int)-1),.int .i64 x.2,.bool true] |none=> .tup [.int .i64 0,.int .i64 0,.bool false]
def Fq (bs:List Bool):Option (Nat×Nat):=match AH bs 0 with|some x=>if x.1≤17 then some x else none|none=>none
theorem PW (b:CL) (hb:C2 b):Aa pg 196 [.agg (Ch b)] [] (fun r _=>r=NN (Fq (Ao b))):=by
 refine Aa.start (fn:=Tryz.f196) [.tmp 2,.tmp 3,.tmp 4] tk rfl rfl rfl (by kernel_rfl) (Nat.le_of_ble_eq_true rfl) rfl (by kernel_rfl) ?_
 rw[At]
 refine z1 ?_;intro K hK;refine zk ?_;clear hK K
 refine z0 ?_;intro K hK
 have sp:=FA b 0 hb (by omega)
 cases hg:AH (Ao b) 0 with
 |none=>
  simp only[hg,E8] at sp
  refine Ab.eq sp (by simp) (by simp) ?_
  refine zx ?_
  refine zk ?_;clear hK K
  refine z0 ?_;intro K hK;refine zk ?_;clear hK K
  refine zt ?_
  refine z0 ?_;intro K hK;refine zk ?_;clear hK K
  refine zr ?_
  simp[Fq,hg,NN]
 |some x=>
  simp only[hg,E8] at sp
  obtain⟨hx1,hx2,hx3,hx4,_⟩:=AJ hg
  refine Ab.eq sp (by simp) (by simp) ?_
  refine zx ?_
  refine zk ?_;clear hK K
  refine z0 ?_;intro K hK;refine zk ?_;clear hK K
  refine zc ?_ ?_<;>intro h
  .refine z0 ?_;intro K hK;refine zk ?_;clear hK K
   refine zr ?_
   simp only[Fq,hg];rw[if_neg (by omega)];rfl
  .refine W.skip ?_
   refine z0 ?_;intro K hK;refine zk ?_;clear hK K
   refine zr ?_
   simp only[Fq,hg];rw[if_pos (by omega)];rfl
def Rj (f:Nat) (caps:List AV) (rd:Rd) (n:Nat):Prop:=∀(p:Nat) (v:Int),p≤n→0≤v∧v<1000→Aa pg f ([.int .i64 p,.int .i64 v]++caps) [] fun r _=>Ix (rd p v) r
def NO (n:Nat) (o:Option (List (List Int)×Nat)):AV:=match o with
 |some q=> .tup [.agg (AQ true ⟨n,q.1⟩),.int .i64 q.2,.bool (decide (AY ⟨n,q.1⟩))]
 |none=> .tup [.agg (AQ true Au),.int .i64 0,.bool false]
theorem NP (f:Nat) (caps:List AV) (rd:Rd) (n p m:Nat) (hn:n≤16) (hp:p≤m) (hm:m<10000000000) (hf:Rj f caps rd m) (hrd:∀p v r,rd p v=some r→0≤v→v<1000→p≤m→r.1.length≤16∧r.2≤m) (hcv:∀M,caps.map (vw M)=caps) (hnm:∀k,Dd k caps=true):
 Aa pg 197 [.int .i64 n,.int .i64 n,.int .i64 p,.fn f caps] [] (fun r _=>r=NO n (A2 rd n 0 p)):=by
 refine Aa.start (fn:=Tryz.f197) [.cell 8 51,.tmp 9,.tmp 10] tk rfl rfl rfl (by kernel_rfl) (Nat.le_of_ble_eq_true rfl) rfl (by kernel_rfl) ?_
 rw[Ik]
 refine z1 ?_;intro K hK;refine zk ?_;clear hK K
 refine z1 ?_;intro K hK
 refine Ab.eq (NM n (by omega)) (by simp) (by simp) ?_
 refine zx ?_
 refine zk ?_;clear hK K
 refine z0 ?_;intro K hK
 refine zk ?_;clear hK K
 (repeat refine W.seq ?_);refine W.block (W.loopS (fun s:Nat×List (List Int)×Nat=> [(2,.int .i64 s.2.2),(3,.fn f caps),(8,.ptr 0 0 0),(11,.ptr 1 0 0),(18,.int .i64 n),(19,.int .i64 s.1)]) (fun s=> [.live 0 [.int .i64 0,.own 1 0 []],.live 0 [.int .i64 n,.tok 2 0 1 0 n],.live 0 (Aw true (s.2.1++List.replicate (n-s.1) []))]) (fun s=>n-s.1)
   (fun s=>s.1≤n∧s.2.1.length=s.1∧s.2.2≤m∧(∀l∈s.2.1,l.length≤16)∧A2 rd n 0 p=(A2 rd (n-s.1) s.1 s.2.2).map fun r=>(s.2.1++r.1,r.2)) (0,[],p) (Wk.fr (by simp[Ac])) ⟨by omega,rfl,hp,by simp,by simp⟩ ?_)
 rintro⟨k,acc,q⟩ ⟨hk,hacc,hq,hl16,hinv⟩
 simp only at hk hacc hq hl16 hinv
 refine zs ?_
 refine zc ?_ ?_<;>intro h
 .refine W.skip ?_
  obtain⟨d,hd⟩:∃d,n-k=d+1:=⟨n-k-1,by omega⟩
  have hd' :n-(k+1)=d:=by omega
  rw[hd] at hinv
  simp only[A2] at hinv
  refine zb ?_
  refine zs ?_
  refine z0 ?_;intro K hK
  have sp:=hf q k hq (by omega)
  cases hr:rd q k with
  |none=>
   simp only[hr,Ix] at sp hinv
   refine Ab.bor sp (by simp[hcv]) ?_
   rintro _ ⟨xs,a,rfl⟩
   refine⟨by simp,?_⟩
   refine zx ?_
   refine zk ?_;clear hK K
   refine zs ?_
   refine zt ?_
   refine zs ?_
   refine W.weak (Wk.thaw (B:=0) (v:=0) (j:=1) (s:=1) (n:=0) (cs:=[.int .i64 0,.own 1 0 []]) (xs:=[]) rfl rfl) ?_
   refine zr ?_
   rw[hinv];rfl
  |some r=>
   simp only[hr,Ix] at sp hinv
   have hr2:=hrd _ _ _ hr (by omega) (by omega) hq
   refine Ab.eq sp (by simp[hcv]) (by simp) ?_
   refine zx ?_
   refine zk ?_;clear hK K
   refine zs ?_
   refine zn ?_
   refine W.skip ?_
   refine z0 ?_;intro K hK
   refine zk ?_;clear hK K
   refine zs ?_
   have hln:(Aw true (acc++List.replicate (n-k) [])).length=n:=by simp;omega
   refine⟨(k+1,acc++[r.1],r.2),by simp;omega,⟨by simp;omega,by simp;omega,hr2.2,?_,?_⟩,(Wk.intern (B:=2) (v:=0) (j:=k) (T:=3) (u:=0) (s:=1) (off:=0) (n:=r.1.length) (cs:=(Aw true (acc++List.replicate (n-k) [])).set k (AV.tok 3 0 1 0 r.1.length)) (xs:=Ad r.1) (by simp) ?_ (by simp) (by simp) (by simp) (by simp)).trans (Wk.cutM (k:=3) (by simp[Ac]) ?_ (by simp) (by simp[hnm]) (by simp) (by simp))⟩
   .intro l hl
    simp at hl
    rcases hl with hl|rfl
    .exact hl16 l hl
    .exact hr2.1
   .rw[hinv,hd']
    simp only[Int.natCast_add,Int.cast_ofNat_Int]
    cases A2 rd d ((k:Int)+1) r.2<;>simp
   .rw[List.getElem?_set_self (by omega)]
   .have e:n-k=(n-(k+1))+1:=by omega
    rw[e,List.replicate_succ]
    simp[Aw,←hacc,Ad];rw[List.take_of_length_le (by simp)]
 .refine W.exit ?_
  have hkn:k=n:=by omega
  subst hkn
  simp[A2] at hinv
  subst hacc
  refine B8 ?_;intro K hK
  refine Ah.eq (JY ⟨acc.length,acc⟩ ⟨by simp;omega,fun l hl=>by have:=hl16 l hl;omega⟩) (by simp) (by simp) ?_
  refine zx ?_
  refine zk ?_;clear hK K
  refine zr ?_
  rw[hinv]
  simp[NO]
end Go.Abs
set_option maxRecDepth 100000
namespace Go.Abs
open Go.Proofs
def Lc (o:Option Gr) (r:AV):Prop:=match o with
 |some g=>r= .tup [.agg (AQ true g),.bool true]
 |none=>∃g:Gr,r= .tup [.agg (AQ true g),.bool false]
theorem Ld (bs:List Bool) (rd:Rd):CA bs rd=match Fq bs with
 |none=>none
 |some x=>match A2 rd (x.1-1) 0 x.2 with
  |none=>none
  |some r=>if r.2=bs.length∧AY ⟨(x.1:Int)-1,r.1⟩ then some ⟨(x.1:Int)-1,r.1⟩ else none:=by
 unfold CA Fq
 cases AH bs 0 with
 |none=>rfl
 |some x=>simp only;split<;>rfl
theorem Rk (b:CL) (hb:C2 b):Rj 198 [.rptr (Ch b)] (CV (Ao b)) (Ao b).length:=by
 intro p v hp hv
 have hl:=BT b
 have h2:=hb.2.1;have h3:=hb.2.2;have h0:=hb.1
 refine Aa.start (fn:=Tryz.f198) [.tmp 5,.tmp 6,.tmp 7] tk rfl rfl rfl (by kernel_rfl) (Nat.le_of_ble_eq_true rfl) rfl (by kernel_rfl) ?_
 simp only[List.cons_append,List.nil_append]
 rw[Bq]
 refine zs ?_
 refine z0 ?_;intro K hK
 have sp:=JV b p v hb (by omega) (by omega)
 cases hr:CV (Ao b) p v with
 |none=>
  simp only[hr,Ix] at sp
  refine Ab.bor sp (by simp) ?_
  rintro _ ⟨xs,a,rfl⟩
  refine⟨by simp,?_⟩
  refine zx ?_
  refine zk ?_;clear hK K
  refine zr ?_
  rw[hr]
  exact⟨xs,a,rfl⟩
 |some r=>
  simp only[hr,Ix] at sp
  refine Ab.eq sp (by simp) (by simp) ?_
  refine zx ?_
  refine zk ?_;clear hK K
  refine zr ?_
  rw[hr]
  rfl
theorem TQ (b:CL) (hb:C2 b):Aa pg 164 [.agg (Ch b)] [] (fun r _=>Lc (Cj (Ao b)) r):=by
 have hl:=BT b
 have h2:=hb.2.1;have h3:=hb.2.2;have h0:=hb.1
 have e0:=Ld (Ao b) (CV (Ao b))
 refine Aa.start (fn:=Tryz.f164) [.cell 2 51,.tmp 3] tk rfl rfl rfl (by kernel_rfl) (Nat.le_of_ble_eq_true rfl) rfl (by kernel_rfl) ?_
 rw[At]
 refine z2 ?_;intro K hK;refine zk ?_;clear hK K
 refine z0 ?_;intro K hK
 have sp:=PW b hb
 cases hh:Fq (Ao b) with
 |none=>
  simp only[hh,NN] at sp e0
  refine Ab.eq sp (by simp) (by simp) ?_
  refine zx ?_
  refine zk ?_;clear hK K
  refine zs ?_
  refine zt ?_
  refine zs ?_
  refine W.weak (Wk.thaw (B:=1) (v:=0) (j:=1) (s:=1) (n:=0) (cs:=[.int .i64 0,.own 1 0 []]) (xs:=[]) rfl rfl) ?_
  refine zr ?_
  rw[Cj,e0]
  exact⟨Au,rfl⟩
 |some x=>
  have hx:x.1≤17∧AH (Ao b) 0=some x:=by
   unfold Fq at hh
   split at hh
   .rename_i y hy
    split at hh
    .simp at hh;subst hh;exact⟨by assumption,hy⟩
    .simp at hh
   .simp at hh
  obtain⟨hx1,hx2,hx3,hx4,_⟩:=AJ hx.2
  have ex:(x.1:Int)-1=((x.1-1:Nat):Int):=by omega
  simp only[hh,NN] at sp e0
  rw[ex] at sp e0
  refine Ab.eq sp (by simp) (by simp) ?_
  refine zx ?_
  refine zk ?_;clear hK K
  refine zs ?_
  refine zn ?_
  refine W.skip ?_
  refine z1 ?_;intro K hK
  have sp:=NP 198 [.rptr (Ch b)] (CV (Ao b)) (x.1-1) x.2 (Ao b).length (by omega) (by omega) (by omega) (Rk b hb) (fun p v r h h1 h2 h3=>by have:=HE (by omega) h;exact⟨this.2.1,this.2.2.2⟩) (by simp) (by simp)
  cases hli:A2 (CV (Ao b)) (x.1-1) 0 x.2 with
  |none=>
   simp only[hli,NO] at sp e0
   refine Ab.eq sp (by simp) (by simp[Au]) ?_
   refine zx ?_
   refine zk ?_;clear hK K
   (repeat refine W.seq ?_);refine W.regdX 0 [(31,2),(31,27)] rfl true Cq (by kernel_rfl) fun K hK=>?_;simp -implicitDefEqProofs (maxSteps:=999999) (disch:=omega)
   (repeat refine⟨by first|assumption|omega,?_⟩);refine hK _ _ (by simp(disch:=omega)) ?_;clear hK K
   refine zr ?_
   rw[Cj,e0]
   exact⟨Au,rfl⟩
  |some q=>
   simp only[hli,NO] at sp e0
   refine Ab.eq sp (by simp) (by simp) ?_
   by_cases hm:AY ⟨((x.1-1:Nat):Int),q.1⟩
   .rw[decide_eq_true hm]
    refine zx ?_
    refine zk ?_;clear hK K
    (repeat refine W.seq ?_);refine W.regdX 0 [(31,2),(31,27)] rfl true Cq (by kernel_rfl) fun K hK=>?_;simp -implicitDefEqProofs (maxSteps:=999999) (disch:=omega)
    (repeat refine⟨by first|assumption|omega,?_⟩);refine hK _ _ (by simp(disch:=omega)) ?_;clear hK K
    refine zr ?_
    rw[Cj,e0]
    by_cases hq:q.2=(Ao b).length
    .rw[if_pos ⟨hq,hm⟩]
     simp[Lc]
     omega
    .rw[if_neg (fun h=>hq h.1)]
     refine⟨⟨((x.1-1:Nat):Int),q.1⟩,?_⟩
     simp
     omega
   .rw[decide_eq_false hm]
    refine zx ?_
    refine zk ?_;clear hK K
    (repeat refine W.seq ?_);refine W.regdX 0 [(31,2),(31,27)] rfl true Cq (by kernel_rfl) fun K hK=>?_;simp -implicitDefEqProofs (maxSteps:=999999) (disch:=omega)
    (repeat refine⟨by first|assumption|omega,?_⟩);refine hK _ _ (by simp(disch:=omega)) ?_;clear hK K
    refine zr ?_
    rw[Cj,e0,if_neg (fun h=>hm h.2)]
    exact⟨⟨((x.1-1:Nat):Int),q.1⟩,by simp⟩
theorem TR (g:Gr) (v:Int) (h0:0≤v) (hg:(g.out.length:Int)=g.n):Aa pg 202 [.agg (AQ false g),.int .i64 v] [] (fun r _=>r= .ro (AC g v).length (Ad (AC g v))∨AC g v=[]∧r= .own 1 0 []):=by
 refine Aa.start (fn:=Tryz.f202) [.tmp 4] tk rfl rfl rfl (by kernel_rfl) (Nat.le_of_ble_eq_true rfl) rfl (by kernel_rfl) ?_
 rw[Am]
 refine z1 ?_;intro K hK;refine zk ?_;clear hK K
 refine z0 ?_;intro K hK
 refine Ab.eq (RO g v) (by simp) (by simp) ?_
 by_cases h:0≤v∧v<g.n
 .rw[decide_eq_true h]
  refine zx ?_
  refine zk ?_;clear hK K
  refine zn ?_
  refine W.skip ?_
  obtain⟨n,rfl⟩:=Int.eq_ofNat_of_zero_le h.1
  have hlt:n<g.out.length:=by omega
  (repeat refine W.seq ?_);refine W.reg 0 rfl fun K hK=>?_;simp -implicitDefEqProofs (maxSteps:=999999) (disch:=omega) [hlt]
  refine zk ?_;clear hK K
  refine zr ?_
  simp[AC,List.getD,hlt]
 .rw[decide_eq_false h]
  refine zx ?_
  refine zk ?_;clear hK K
  refine zt ?_
  refine zs ?_
  refine zr ?_
  show AC g v=[]
  unfold AC
  rw[List.getD_eq_getElem?_getD,List.getElem?_eq_none (by omega)]
  rfl
theorem JZ {bs:List Bool} {p:Nat} {v:Int} {ref:List Int} {r:List Int×Nat} (hv:-100000≤v∧v≤100000) (h:CD bs p v ref=some r):AI r.1∧r.1.length≤16∧r.2≤bs.length:=by
 unfold CD at h
 split at h
 .simp at h
 .split at h
  .split at h
   .simp at h
   .split at h
    .simp at h
    .rename_i r0 hr0
     have g0:=HE hv hr0
     split at h
     .rename_i l hl
      simp at h;subst h
      unfold Cs at hl
      split at hl
      .simp at hl
      .split at hl
       .rename_i hm
        simp at hl;subst hl
        exact⟨hm.1,BQ hm.1,g0.2.2.2⟩
       .simp at hl
     .simp at h
  .simp at h
theorem Rl (b:CL) (g:Gr) (hb:C2 b) (hg:AY g):Rj 200 [.rptr (Ch b),.rptr (AQ false g)] (fun p v=>CD (Ao b) p v (AC g v)) (Ao b).length:=by
 intro p v hp hv
 have hl:=BT b
 have h2:=hb.2.1;have h3:=hb.2.2;have h0:=hb.1
 have hbl:(AC g v).length≤16:=by
  unfold AC
  rw[List.getD_eq_getElem?_getD]
  cases hq:g.out[v.toNat]? with
  |none=>simp
  |some l=>exact BQ (hg.2.2.2.1 l (List.mem_of_getElem? hq)).1
 refine Aa.start (fn:=Tryz.f200) [.tmp 6,.tmp 7,.tmp 8] tk rfl rfl rfl (by kernel_rfl) (Nat.le_of_ble_eq_true rfl) rfl (by kernel_rfl) ?_
 simp only[List.cons_append,List.nil_append]
 rw[Ik]
 refine zs ?_
 refine B8 ?_;intro K hK
 refine⟨_,_,TR g v hv.1 hg.2.2.1,.inr ⟨by simp,?_⟩⟩
 have sp:=Mv b p v (AC g v) hb (by omega) (by omega) (by omega)
 rintro r hr
 cases hc:CD (Ao b) p v (AC g v) with
 |none=>
  simp only[hc,Ix] at sp
  rcases hr with rfl| ⟨h1,rfl⟩
  .refine zx ?_
   refine⟨_,_,sp,.inr ⟨by simp,?_⟩⟩
   rintro _ ⟨xs,a,rfl⟩
   refine zx ?_
   refine zk ?_;clear hK K
   refine zr ?_
   rw[hc]
   exact⟨xs,a,rfl⟩
  .refine zx ?_
   rw[h1] at sp
   refine⟨_,_,sp,.inl ⟨rfl,⟨[],by simp[B2]⟩,?_⟩⟩
   rintro _ ⟨xs,a,rfl⟩
   refine⟨by simp,?_⟩
   refine zx ?_
   refine zk ?_;clear hK K
   refine zr ?_
   rw[hc]
   exact⟨xs,a,rfl⟩
 |some q=>
  simp only[hc,Ix] at sp
  rcases hr with rfl| ⟨h1,rfl⟩
  .refine zx ?_
   refine Ah.eqr sp (by simp) ?_
   refine zx ?_
   refine zk ?_;clear hK K
   refine zr ?_
   rw[hc]
   rfl
  .refine zx ?_
   rw[h1] at sp
   refine Ah.eq sp (by simp) (by simp) ?_
   refine zx ?_
   refine zk ?_;clear hK K
   refine zr ?_
   rw[hc]
   rfl
theorem TS (b:CL) (g:Gr) (hb:C2 b) (hg:AY g):Aa pg 165 [.agg (AQ false g),.agg (Ch b)] [] (fun r _=>Lc (Ck g (Ao b)) r):=by
 have hl:=BT b
 have h2:=hb.2.1;have h3:=hb.2.2;have h0:=hb.1
 have e0:=Ld (Ao b) (fun p v=>CD (Ao b) p v (AC g v))
 refine Aa.start (fn:=Tryz.f165) [.cell 4 51,.tmp 5] tk rfl rfl rfl (by kernel_rfl) (Nat.le_of_ble_eq_true rfl) rfl (by kernel_rfl) ?_
 rw[Am]
 refine z3 ?_;intro K hK;refine zk ?_;clear hK K
 refine z0 ?_;intro K hK
 have sp:=PW b hb
 cases hh:Fq (Ao b) with
 |none=>
  simp only[hh,NN] at sp e0
  refine Ab.eq sp (by simp) (by simp) ?_
  refine zx ?_
  refine zk ?_;clear hK K
  refine zs ?_
  refine zt ?_
  refine zs ?_
  refine W.weak (Wk.thaw (B:=2) (v:=0) (j:=1) (s:=1) (n:=0) (cs:=[.int .i64 0,.own 1 0 []]) (xs:=[]) rfl rfl) ?_
  refine zr ?_
  rw[Ck,e0]
  exact⟨Au,rfl⟩
 |some x=>
  have hx:x.1≤17∧AH (Ao b) 0=some x:=by
   unfold Fq at hh
   split at hh
   .rename_i y hy
    split at hh
    .simp at hh;subst hh;exact⟨by assumption,hy⟩
    .simp at hh
   .simp at hh
  obtain⟨hx1,hx2,hx3,hx4,_⟩:=AJ hx.2
  have ex:(x.1:Int)-1=((x.1-1:Nat):Int):=by omega
  simp only[hh,NN] at sp e0
  rw[ex] at sp e0
  refine Ab.eq sp (by simp) (by simp) ?_
  refine zx ?_
  refine zk ?_;clear hK K
  refine zs ?_
  refine zn ?_
  refine W.skip ?_
  refine z1 ?_;intro K hK
  have sp:=NP 200 [.rptr (Ch b),.rptr (AQ false g)] (fun p v=>CD (Ao b) p v (AC g v)) (x.1-1) x.2 (Ao b).length (by omega) (by omega) (by omega) (Rl b g hb hg) (fun p v r h h1 h2 h3=>by have:=JZ (by omega) h;exact⟨this.2.1,this.2.2⟩) (by simp) (by simp)
  cases hli:A2 (fun p v=>CD (Ao b) p v (AC g v)) (x.1-1) 0 x.2 with
  |none=>
   simp only[hli,NO] at sp e0
   refine Ab.eq sp (by simp) (by simp[Au]) ?_
   refine zx ?_
   refine zk ?_;clear hK K
   (repeat refine W.seq ?_);refine W.regdX 0 [(33,4),(33,29)] rfl true Cq (by kernel_rfl) fun K hK=>?_;simp -implicitDefEqProofs (maxSteps:=999999) (disch:=omega)
   (repeat refine⟨by first|assumption|omega,?_⟩);refine hK _ _ (by simp(disch:=omega)) ?_;clear hK K
   refine zr ?_
   rw[Ck,e0]
   exact⟨Au,rfl⟩
  |some q=>
   simp only[hli,NO] at sp e0
   refine Ab.eq sp (by simp) (by simp) ?_
   by_cases hm:AY ⟨((x.1-1:Nat):Int),q.1⟩
   .rw[decide_eq_true hm]
    refine zx ?_
    refine zk ?_;clear hK K
    (repeat refine W.seq ?_);refine W.regdX 0 [(33,4),(33,29)] rfl true Cq (by kernel_rfl) fun K hK=>?_;simp -implicitDefEqProofs (maxSteps:=999999) (disch:=omega)
    (repeat refine⟨by first|assumption|omega,?_⟩);refine hK _ _ (by simp(disch:=omega)) ?_;clear hK K
    refine zr ?_
    rw[Ck,e0]
    by_cases hq:q.2=(Ao b).length
    .rw[if_pos ⟨hq,hm⟩]
     simp[Lc]
     omega
    .rw[if_neg (fun h=>hq h.1)]
     refine⟨⟨((x.1-1:Nat):Int),q.1⟩,?_⟩
     simp
     omega
   .rw[decide_eq_false hm]
    refine zx ?_
    refine zk ?_;clear hK K
    (repeat refine W.seq ?_);refine W.regdX 0 [(33,4),(33,29)] rfl true Cq (by kernel_rfl) fun K hK=>?_;simp -implicitDefEqProofs (maxSteps:=999999) (disch:=omega)
    (repeat refine⟨by first|assumption|omega,?_⟩);refine hK _ _ (by simp(disch:=omega)) ?_;clear hK K
    refine zr ?_
    rw[Ck,e0,if_neg (fun h=>hm h.2)]
    exact⟨⟨((x.1-1:Nat):Int),q.1⟩,by simp⟩
end Go.Abs
set_option maxRecDepth 100000
namespace Go.Abs
open Go.Proofs
theorem OK (xs:List Obj) (f:Nat) (caps:List AV) (p:Obj→Bool) (hx:xs.length<1000000000000) (hf:∀x∈xs,Aa pg f ([.agg (Av x)]++caps) [] fun r _=>r= .bool (p x)) (hcv:∀M,caps.map (vw M)=caps):
 Aa pg 210 [.ro xs.length (Af Av xs),.fn f caps] [] (fun r _=>r= .int .i64 (BM p xs)):=by
 refine Aa.start (fn:=Tryz.f210) [.tmp 4] tk rfl rfl rfl (by kernel_rfl) (Nat.le_of_ble_eq_true rfl) rfl (by kernel_rfl) ?_
 rw[Am]
 refine zs ?_
 refine zs ?_
 (repeat refine W.seq ?_);refine W.block (W.loopS (fun k:Nat=> [(0,.ro xs.length (Af Av xs)),(1,.fn f caps),(7,.int .i64 xs.length),(8,.int .i64 k)]) (fun _=> []) (fun k=>xs.length-k) (fun k=>k≤xs.length∧∀i (h:i<xs.length),i<k→p xs[i]=false) 0 (Wk.fr ?_) (by simp) ?_)
 .simp[Ac]
 .rintro k ⟨hk,ht⟩
  refine zs ?_
  refine zc ?_ ?_<;>intro h
  .refine W.skip ?_
   have hlt:k<xs.length:=by omega
   refine zb ?_
   refine zs ?_
   (repeat refine W.seq ?_);refine W.reg 0 rfl fun K hK=>?_;simp -implicitDefEqProofs (maxSteps:=999999) (disch:=omega) [hlt]
   have sp:=hf xs[k] (List.getElem_mem hlt)
   refine Ab.eq sp (by simp[hcv]) (by simp) ?_
   refine zx ?_
   refine zk ?_;clear hK K
   cases hp:p xs[k]
   .refine zn ?_
    refine W.skip ?_
    refine zs ?_
    refine⟨k+1,by omega,⟨by omega,?_⟩,Wk.fr (by simp[Ac])⟩
    intro i hi hik
    by_cases e:i=k
    .subst e;exact hp
    .exact ht i hi (by omega)
   .refine zt ?_
    refine zs ?_
    refine zr ?_
    exact(Eg hlt hp fun i hi hik=>ht i hi hik).symm
  .refine W.exit ?_
   refine zs ?_
   refine zr ?_
   exact(DK fun i hi=>ht i hi (by omega)).symm
theorem OL (xs:List Cv) (f:Nat) (caps:List AV) (p:Cv→Bool) (hx:xs.length<1000000000000) (hf:∀x∈xs,Aa pg f ([.agg (A8 x)]++caps) [] fun r _=>r= .bool (p x)) (hcv:∀M,caps.map (vw M)=caps):
 Aa pg 123 [.ro xs.length (Af A8 xs),.fn f caps] [] (fun r _=>r= .int .i64 (BM p xs)):=by
 refine Aa.start (fn:=Tryz.f123) [.tmp 4] tk rfl rfl rfl (by kernel_rfl) (Nat.le_of_ble_eq_true rfl) rfl (by kernel_rfl) ?_
 rw[Am]
 refine zs ?_
 refine zs ?_
 (repeat refine W.seq ?_);refine W.block (W.loopS (fun k:Nat=> [(0,.ro xs.length (Af A8 xs)),(1,.fn f caps),(7,.int .i64 xs.length),(8,.int .i64 k)]) (fun _=> []) (fun k=>xs.length-k) (fun k=>k≤xs.length∧∀i (h:i<xs.length),i<k→p xs[i]=false) 0 (Wk.fr ?_) (by simp) ?_)
 .simp[Ac]
 .rintro k ⟨hk,ht⟩
  refine zs ?_
  refine zc ?_ ?_<;>intro h
  .refine W.skip ?_
   have hlt:k<xs.length:=by omega
   refine zb ?_
   refine zs ?_
   (repeat refine W.seq ?_);refine W.reg 0 rfl fun K hK=>?_;simp -implicitDefEqProofs (maxSteps:=999999) (disch:=omega) [hlt]
   have sp:=hf xs[k] (List.getElem_mem hlt)
   refine Ab.eq sp (by simp[hcv]) (by simp) ?_
   refine zx ?_
   refine zk ?_;clear hK K
   cases hp:p xs[k]
   .refine zn ?_
    refine W.skip ?_
    refine zs ?_
    refine⟨k+1,by omega,⟨by omega,?_⟩,Wk.fr (by simp[Ac])⟩
    intro i hi hik
    by_cases e:i=k
    .subst e;exact hp
    .exact ht i hi (by omega)
   .refine zt ?_
    refine zs ?_
    refine zr ?_
    exact(Eg hlt hp fun i hi hik=>ht i hi hik).symm
  .refine W.exit ?_
   refine zs ?_
   refine zr ?_
   exact(DK fun i hi=>ht i hi (by omega)).symm
theorem OM (xs:List C1) (f:Nat) (caps:List AV) (p:C1→Bool) (hx:xs.length<1000000000000) (hf:∀x∈xs,Aa pg f ([.agg ((AG false) x)]++caps) [] fun r _=>r= .bool (p x)) (hcv:∀M,caps.map (vw M)=caps):
 Aa pg 189 [.ro xs.length (Af (AG false) xs),.fn f caps] [] (fun r _=>r= .int .i64 (BM p xs)):=by
 refine Aa.start (fn:=Tryz.f189) [.tmp 4] tk rfl rfl rfl (by kernel_rfl) (Nat.le_of_ble_eq_true rfl) rfl (by kernel_rfl) ?_
 rw[Am]
 refine zs ?_
 refine zs ?_
 (repeat refine W.seq ?_);refine W.block (W.loopS (fun k:Nat=> [(0,.ro xs.length (Af (AG false) xs)),(1,.fn f caps),(7,.int .i64 xs.length),(8,.int .i64 k)]) (fun _=> []) (fun k=>xs.length-k) (fun k=>k≤xs.length∧∀i (h:i<xs.length),i<k→p xs[i]=false) 0 (Wk.fr ?_) (by simp) ?_)
 .simp[Ac]
 .rintro k ⟨hk,ht⟩
  refine zs ?_
  refine zc ?_ ?_<;>intro h
  .refine W.skip ?_
   have hlt:k<xs.length:=by omega
   refine zb ?_
   refine zs ?_
   (repeat refine W.seq ?_);refine W.reg 0 rfl fun K hK=>?_;simp -implicitDefEqProofs (maxSteps:=999999) (disch:=omega) [hlt]
   have sp:=hf xs[k] (List.getElem_mem hlt)
   refine Ab.eq sp (by simp[hcv]) (by simp) ?_
   refine zx ?_
   refine zk ?_;clear hK K
   cases hp:p xs[k]
   .refine zn ?_
    refine W.skip ?_
    refine zs ?_
    refine⟨k+1,by omega,⟨by omega,?_⟩,Wk.fr (by simp[Ac])⟩
    intro i hi hik
    by_cases e:i=k
    .subst e;exact hp
    .exact ht i hi (by omega)
   .refine zt ?_
    refine zs ?_
    refine zr ?_
    exact(Eg hlt hp fun i hi hik=>ht i hi hik).symm
  .refine W.exit ?_
   refine zs ?_
   refine zr ?_
   exact(DK fun i hi=>ht i hi (by omega)).symm
theorem TT (o:Obj) (id:Int):Aa pg 214 ([.agg (Av o)]++[.rptr [.int .i64 id]]) [] (fun r _=>r= .bool (decide (o.id=id))):=by
 refine Aa.start (fn:=Tryz.f214) [.tmp 3] tk rfl rfl rfl (by kernel_rfl) (Nat.le_of_ble_eq_true rfl) rfl (by kernel_rfl) ?_
 simp only[List.cons_append,List.nil_append]
 rw[Am]
 refine z1 ?_;intro K hK;refine zk ?_;clear hK K
 refine zs ?_
 exact zR
theorem My (xs:List Obj) (id:Int) (hx:xs.length<1000000000000):Aa pg 177 [.ro xs.length (Af Av xs),.int .i64 id] [] (fun r _=>r= .int .i64 (BM (fun o=>decide (o.id=id)) xs)):=by
 refine Aa.start (fn:=Tryz.f177) [.tmp 4] tk rfl rfl rfl (by kernel_rfl) (Nat.le_of_ble_eq_true rfl) rfl (by kernel_rfl) ?_
 rw[Am]
 refine z1 ?_;intro K hK;refine zk ?_;clear hK K
 refine z0 ?_;intro K hK
 refine Ab.eq (OK xs 214 [.rptr [.int .i64 id]] (fun o=>decide (o.id=id)) hx (fun o _=>TT o id) (by simp)) (by simp) (by simp) ?_
 refine zx ?_
 refine zk ?_;clear hK K
 exact zR
end Go.Abs
set_option maxRecDepth 100000
namespace Go.Abs
open Go.Proofs
theorem Rm (x y:Nat) (hx:x<256) (hy:y<256):Cg .and (.int .u8 x) (.int .u8 y)=some (.int .u8 ((x&&&y:Nat):Int)):=by
 rw[Kt]
 have e (n:Nat) (h:n<256):(BitVec.ofInt IntKind.u8.bits (n:Int)).toNat=n:=by
  rw[BitVec.toNat_ofInt];simp[IntKind.bits] at*;omega
 have e1:(BitVec.ofInt IntKind.u8.bits (x:Int)&&&BitVec.ofInt IntKind.u8.bits (y:Int)).toNat=x&&&y:=by
  rw[BitVec.toNat_and,e x hx,e y hy]
 have h4:x&&&y<256:=Nat.lt_of_le_of_lt Nat.and_le_left hx
 rw[e1]
 simp[IntKind.wrap,IntKind.bits,IntKind.signed]
 omega
theorem PX:∀x:Fin 256,∀l:Fin 8,((x.val&&&(255/2^l.val))=0↔∀j:Fin 8,l≤j→x.val/2^(7-j.val)%2≠1):=by decide+kernel
theorem PY {b:CL} (h0:0≤b.n) (h1:b.n≤6000) (h:(b.data.size:Int)=(b.n+8-1)/8) (h2:¬b.n%8=0):DI b↔(CJ b.data (b.data.size-1)&&&(255/2^(b.n%8).toNat))=0:=by
 have hl:=PX ⟨_,GA b.data (b.data.size-1)⟩ ⟨(b.n%8).toNat,by omega⟩
 simp only at hl
 rw[hl]
 refine⟨fun g j hj=>?_,fun g=>⟨h0,h1,by omega,fun i hi hn=>?_⟩⟩
 .have hj2:=Fin.le_def.1 hj
  simp only at hj2
  have:=g.2.2.2 (8*(b.data.size-1)+j) (by omega) (by omega)
  simp only[Ed,decide_eq_false_iff_not] at this
  rw[show(8*(b.data.size-1)+j.val)/8=b.data.size-1 by omega,show(8*(b.data.size-1)+j.val)%8=j.val by omega] at this
  exact this
 .have:=g ⟨i%8,by omega⟩ (Fin.le_def.2 (by simp only;omega))
  simp only[Ed,decide_eq_false_iff_not]
  rw[show i/8=b.data.size-1 by omega]
  exact this
theorem U3 (b:CL) (h3:b.data.size<1000000000):Aa pg 118 [.agg (Ch b)] [] (fun r _=>r= .bool (decide (DI b))):=by
 refine Aa.start (fn:=Tryz.f118) [.tmp 2] tk rfl rfl rfl (by kernel_rfl) (Nat.le_of_ble_eq_true rfl) rfl (by kernel_rfl) ?_
 rw[At]
 refine z1 ?_;intro K hK;refine zk ?_;clear hK K
 by_cases h0:b.n<0
 .refine Ae h0 ?_;intro K hK
  refine zk ?_;clear hK K
  refine zt ?_
  refine zs ?_
  refine zr ?_
  intro h;have:=h.1;omega
 .by_cases h1:b.n≤6000
  .refine Ae (an h0 h1) ?_;intro K hK
   refine zk ?_;clear hK K
   refine zc ?_ ?_<;>intro h
   .refine zs ?_
    refine zr ?_
    intro g;have:=g.2.2.1;omega
   .refine W.skip ?_
    refine zs ?_
    by_cases h2:b.n%8=0
    .refine A5 h2 ?_;intro K hK
     refine zk ?_;clear hK K
     refine zr ?_
     refine⟨by omega,h1,by omega,fun i hi hn=>by omega⟩
    .have e:((255:Int)/2^(b.n%8).toNat)=((255/2^(b.n%8).toNat:Nat):Int):=by simp
     have h8:255/2^(b.n%8).toNat<256:=Nat.lt_of_le_of_lt (Nat.div_le_self _ _) (by omega)
     refine A5 h2 ?_;intro K hK
     refine⟨by omega,?_⟩
     rw[e,Rm _ _ (GA _ _) h8]
     simp
     refine zk ?_;clear hK K
     refine zr ?_
     rw[PY (by omega) h1 h h2]
  .refine Ae (an h0 h1) ?_;intro K hK
   refine zk ?_;clear hK K
   refine zt ?_
   refine zs ?_
   refine zr ?_
   intro h;have:=h.2.1;omega
end Go.Abs
set_option maxRecDepth 100000
namespace Go.Abs
open Go.Proofs
theorem U4 {α:Type} (f:α→Int) (l:List α):l.Pairwise (fun a b=>f a<f b)↔∀k (h:k<l.length),0<k→f (l[k-1]'(by omega))<f l[k]:=by
 constructor
 .intro h k hk h0
  exact List.pairwise_iff_getElem.1 h (k-1) k (by omega) hk (by omega)
 .intro h
  rw[List.pairwise_iff_getElem]
  intro i j hi hj hij
  induction j with
  |zero=>omega
  |succ j ih=>
   have h1:=h (j+1) hj (by omega)
   simp only[Nat.add_sub_cancel] at h1
   by_cases e:i=j
   .subst e;exact h1
   .have:=ih (by omega) (by omega);omega
def D4 (l:List Obj):Prop:=l.length<1000000000000∧∀o∈l,o.data.data.size<1000000000
def J0 (l:List Obj) (o:Obj):Prop:=1≤o.id∧o.id≤1048576∧DI o.data∧o.base≠o.id∧(o.base=0∨∃q∈l,q.id=o.base)
theorem Ji (l:List Obj):CQ l↔l.length≤12∧∀k (h:k<l.length),J0 l l[k]∧(0<k→l[k-1].id<l[k].id):=by
 unfold CQ
 rw[U4 (fun o:Obj=>o.id)]
 constructor
 .rintro⟨h1,h2,h3⟩
  exact⟨h1,fun k h=>⟨h2 _ (List.getElem_mem h),h3 k h⟩⟩
 .rintro⟨h1,h2⟩
  refine⟨h1,fun o ho=>?_,fun k h=>(h2 k h).2⟩
  obtain⟨k,hk,rfl⟩:=List.mem_iff_getElem.1 ho
  exact(h2 k hk).1
theorem U5 (xs:List Obj) (hx:D4 xs):Aa pg 172 [.ro xs.length (Af Av xs)] [] (fun r _=>r= .bool (decide (CQ xs))):=by
 have hx1:=hx.1
 refine Aa.start (fn:=Tryz.f172) [.tmp 2] tk rfl rfl rfl (by kernel_rfl) (Nat.le_of_ble_eq_true rfl) rfl (by kernel_rfl) ?_
 rw[At]
 refine zs ?_
 refine zs ?_
 refine zc ?_ ?_<;>intro h
 .refine zs ?_
  refine zr ?_
  intro g;have:=g.1;omega
 .refine W.skip ?_
  refine zs ?_
  (repeat refine W.seq ?_);refine W.block (W.loopS (fun k:Nat=> [(0,.ro xs.length (Af Av xs)),(8,.ro xs.length (Af Av xs)),(9,.int .i64 xs.length),(10,.int .i64 k)]) (fun _=> []) (fun k=>xs.length-k) (fun k=>k≤xs.length∧∀i (h:i<xs.length),i<k→J0 xs xs[i]∧(0<i→xs[i-1].id<xs[i].id)) 0 (Wk.fr ?_) (by simp) ?_)
  .simp[Ac]
  .rintro k ⟨hk,ht⟩
   refine zs ?_
   refine zc ?_ ?_<;>intro h
   .refine W.skip ?_
    have hlt:k<xs.length:=by omega
    have hB:=U3 xs[k].data (hx.2 _ (List.getElem_mem hlt))
    refine zb ?_
    (repeat refine W.seq ?_);refine W.reg 1 rfl fun K hK=>?_;simp -implicitDefEqProofs (maxSteps:=999999) (disch:=omega) [hlt]
    refine zk ?_;clear hK K
    have bad:¬(J0 xs xs[k]∧(0<k→xs[k-1].id<xs[k].id))→¬CQ xs:=fun g h=>g (((Ji xs).1 h).2 k hlt)
    by_cases c1:xs[k].id<1
    .refine A5 c1 ?_;intro K hK
     refine zk ?_;clear hK K
     refine zt ?_
     refine zs ?_
     refine zr ?_
     exact bad fun g=>by have:=g.1.1;omega
    .by_cases c2:xs[k].id≤1048576
     .by_cases c3:0<k∧xs[k].id≤xs[k-1].id
      .have c3a:=c3.1
       have c3b:=c3.2
       refine A5 (an c1 (an c2 (an c3a c3b))) ?_;intro K hK
       refine⟨by omega,?_⟩
       refine zk ?_;clear hK K
       refine zt ?_
       refine zs ?_
       refine zr ?_
       exact bad fun g=>by have:=g.2 c3a;omega
      .have key:(¬0<k∧True)∨(0<k∧¬xs[k].id≤xs[k-1].id):=by
        by_cases c4:0<k
        .exact .inr ⟨c4,fun h=>c3 ⟨c4,h⟩⟩
        .exact .inl ⟨c4,trivial⟩
       rcases key with⟨c4,c5⟩ | ⟨c4,c5⟩
       all_goals
        refine A5 (an c1 (an c2 (an c4 c5))) ?_;intro K hK
        try refine⟨by omega,?_⟩
        try simp -implicitDefEqProofs (maxSteps:=999999) (disch:=omega) [c1,c2,c4,c5]
        refine Ah.eq hB (by simp) (by simp) ?_
        by_cases hb:DI xs[k].data
        .rw[decide_eq_true hb]
         refine zx ?_
         refine zk ?_;clear hK K
         refine zn ?_
         refine W.skip ?_
         by_cases d1:xs[k].base=xs[k].id
         .refine Ae d1 ?_;intro K hK
          refine zk ?_;clear hK K
          refine zt ?_
          refine zs ?_
          refine zr ?_
          exact bad fun g=>g.1.2.2.2.1 d1
         .by_cases d2:xs[k].base=0
          .refine Ae (an d1 d2) ?_;intro K hK
           refine zk ?_;clear hK K
           refine zn ?_
           refine W.skip ?_
           refine zs ?_
           refine⟨k+1,by omega,⟨by omega,fun i hi hik=>?_⟩,Wk.cutM (k:=0) (by simp[Ac]) (by simp) (by simp) (by simp) (by simp) (by simp)⟩
           by_cases e:i=k
           .subst e;exact⟨⟨by omega,c2,hb,d1,.inl d2⟩,fun _=>by omega⟩
           .exact ht i hi (by omega)
          .refine Ae (an d1 d2) ?_;intro K hK
           refine Ab.eq (My xs xs[k].base hx1) (by simp) (by simp) ?_
           by_cases d3:∃q∈xs,q.id=xs[k].base
           .have d4:0≤BM (fun o:Obj=>decide (o.id=xs[k].base)) xs:=Cw.2 (by simpa using d3)
            refine AM d4 ?_
            refine zk ?_;clear hK K
            refine zn ?_
            refine W.skip ?_
            refine zs ?_
            refine⟨k+1,by omega,⟨by omega,fun i hi hik=>?_⟩,Wk.cutM (k:=0) (by simp[Ac]) (by simp) (by simp) (by simp) (by simp) (by simp)⟩
            by_cases e:i=k
            .subst e;exact⟨⟨by omega,c2,hb,d1,.inr d3⟩,fun _=>by omega⟩
            .exact ht i hi (by omega)
           .have d4:BM (fun o:Obj=>decide (o.id=xs[k].base)) xs<0:=by
             apply Classical.byContradiction
             intro g
             exact d3 (by simpa using Cw.1 (by omega:0≤BM (fun o:Obj=>decide (o.id=xs[k].base)) xs))
            refine AM d4 ?_
            refine zk ?_;clear hK K
            refine zt ?_
            refine zs ?_
            refine zr ?_
            exact bad fun g=>by
             rcases g.1.2.2.2.2 with g|g
             .exact d2 g
             .exact d3 g
        .rw[decide_eq_false hb]
         refine zx ?_
         refine zk ?_;clear hK K
         refine zt ?_
         refine zs ?_
         refine zr ?_
         exact bad fun g=>hb g.1.2.2.1
     .refine A5 (an c1 c2) ?_;intro K hK
      refine zk ?_;clear hK K
      refine zt ?_
      refine zs ?_
      refine zr ?_
      exact bad fun g=>by have:=g.1.2.1;omega
   .refine W.exit ?_
    refine zs ?_
    refine zr ?_
    rw[Ji]
    exact⟨by omega,fun i hi=>ht i hi (by omega)⟩
end Go.Abs
set_option maxRecDepth 100000
namespace Go.Abs
open Go.Proofs
theorem Eh {l:List Obj} {id:Int} {o:Obj} (h:C8 l id=some o):∃k,∃hk:k<l.length,BM (fun o:Obj=>decide (o.id=id)) l=(k:Int)∧l[k]=o∧o.id=id:=by
 unfold C8 at h
 obtain⟨h1,k,hk,h2,h3⟩:=List.find?_eq_some_iff_getElem.1 h
 refine⟨k,hk,Eg hk (by rw[h2];exact h1) (fun i hi hik=>by simpa using h3 i hik),h2,by simpa using h1⟩
theorem J1 {l:List Obj} {id:Int} (h:C8 l id=none):BM (fun o:Obj=>decide (o.id=id)) l=-1:=
 DK fun i hi=>by
  have:=List.find?_eq_none.1 h l[i] (List.getElem_mem hi)
  simpa using this
theorem HF {l:List Obj} {id:Int} (h:∃q∈l,q.id=id):∃o,C8 l id=some o:=by
 cases h' :C8 l id with
 |some o=>exact⟨o,rfl⟩
 |none=>
  obtain⟨q,hq,he⟩:=h
  have:=List.find?_eq_none.1 h' q hq
  simp[he] at this
theorem Dz {l:List Obj} {id:Int} {o:Obj} (h:C8 l id=some o):o∈l:=List.mem_of_find?_eq_some h
theorem Kx (l:List Obj):∀(k:Nat) (id:Int),(Bb l k id).length≤k
 |0,id=>by simp[Bb]
 |k+1,id=>by
  unfold Bb
  split
  .simp
  .split
   .simp;exact Kx l k _
   .simp
theorem RP (xs:List Obj) (id:Int) (m:Nat) (hx:D4 xs) (hm:m≤1000) (hb:∀o∈xs,o.base=0∨∃q∈xs,q.id=o.base) (B2:id=0∨∃q∈xs,q.id=id):Aa pg 163 [.ro xs.length (Af Av xs),.int .i64 id,.int .i64 m] [] (fun r _=>r= .own 4 (Bb xs m id).length (Af Av (Bb xs m id))):=by
 have hx1:=hx.1
 refine Aa.start (fn:=Tryz.f163) [.tmp 6] tk rfl rfl rfl (by kernel_rfl) (Nat.le_of_ble_eq_true rfl) rfl (by kernel_rfl) ?_
 rw[Bq]
 refine zs ?_
 (repeat refine W.seq ?_);refine W.block (W.loopS (fun s:List Obj×Int=> [(0,.ro xs.length (Af Av xs)),(1,.int .i64 s.2),(2,.int .i64 m),(6,.tok 0 s.1.length 4 0 s.1.length)]) (fun s=> [.live s.1.length (Af Av s.1)]) (fun s=>m-s.1.length) (fun s=>s.1.length≤m∧(s.2=0∨∃q∈xs,q.id=s.2)∧Bb xs m id=s.1++Bb xs (m-s.1.length) s.2) ([],id) ((Wk.nil (t:=6) (s:=4) ?_).trans (Wk.fr ?_)) ⟨by simp,B2,by simp⟩ ?_)
 .simp
 .simp[Ac]
 .rintro⟨acc,q⟩ ⟨hk,hq,hw⟩
  simp only at hk hq hw
  by_cases h0:q=0
  .refine Ae h0 ?_;intro K hK
   refine zk ?_;clear hK K
   refine zn ?_
   refine W.exit ?_
   refine zs ?_
   refine zr ?_
   have:Bb xs m id=acc:=by
    rw[hw,h0]
    cases m-acc.length<;>simp[Bb]
   rw[this]
   simp
  .by_cases h1:acc.length<m
   .obtain⟨o,ho⟩:=HF (by rcases hq with h|h;exact absurd h h0;exact h)
    obtain⟨k,hlt,hi,hko,hoi⟩:=Eh ho
    refine Ae (an h0 h1) ?_;intro K hK
    refine zk ?_;clear hK K
    refine zt ?_
    refine W.skip ?_
    refine zb ?_
    refine z1 ?_;intro K hK
    refine Ab.eq (My xs q hx1) (by simp) (by simp) ?_
    rw[hi]
    refine AM (an hlt hko) ?_
    refine zk ?_;clear hK K
    (repeat refine W.seq ?_);refine W.regd 1 rfl true Cq (by kernel_rfl) fun K hK=>?_;simp -implicitDefEqProofs (maxSteps:=999999) (disch:=omega)
    refine⟨by omega,by omega,?_⟩
    refine zk ?_;clear hK K
    refine⟨(acc++[o],o.base),by simp;omega,⟨by simp;omega,hb o (Dz ho),?_⟩,Wk.cutM (k:=1) (by simp[Ac]) (by simp[Cz,AL]) (by simp) (by simp) (by simp) (by simp)⟩
    rw[hw]
    obtain⟨d,hd⟩:∃d,m-acc.length=d+1:=⟨m-acc.length-1,by omega⟩
    rw[hd]
    simp only[Bb,if_neg h0,ho]
    simp
    congr 1
    omega
   .refine Ae (an h0 h1) ?_;intro K hK
    refine zk ?_;clear hK K
    refine zn ?_
    refine W.exit ?_
    refine zs ?_
    refine zr ?_
    have:Bb xs m id=acc:=by
     rw[hw,show m-acc.length=0 by omega]
     simp[Bb]
    rw[this]
    simp
theorem U6 (xs:List Obj) (id:Int) (hx:D4 xs) (hb:∀o∈xs,o.base=0∨∃q∈xs,q.id=o.base):Aa pg 161 [.ro xs.length (Af Av xs),.int .i64 id] [] (fun r _=>r= .tup [.int .i64 (CI xs id).1,.int .i64 (CI xs id).2]):=by
 have hx1:=hx.1
 refine Aa.start (fn:=Tryz.f161) [.tmp 4,.tmp 5] tk rfl rfl rfl (by kernel_rfl) (Nat.le_of_ble_eq_true rfl) rfl (by kernel_rfl) ?_
 rw[Am]
 refine zs ?_
 refine z0 ?_;intro K hK
 refine Ab.eq (My xs id hx1) (by simp) (by simp) ?_
 cases ho:C8 xs id with
 |none=>
  rw[J1 ho]
  refine zx ?_
  refine zk ?_;clear hK K
  refine zt ?_
  refine zs ?_
  refine zr ?_
  simp[CI,ho]
 |some o=>
  obtain⟨k,hlt,hi,hko,hoi⟩:=Eh ho
  rw[hi]
  refine zx ?_
  refine zk ?_;clear hK K
  refine zn ?_
  refine W.skip ?_
  have hw:=Kx xs 4 id
  refine z0 ?_;intro K hK
  refine Ab.eq (RP xs id 4 hx (by omega) hb (.inr ⟨o,Dz ho,hoi⟩)) (by simp) (by simp) ?_
  refine zx ?_
  refine zk ?_;clear hK K
  by_cases h4:3<(Bb xs 4 id).length
  .refine Ae h4 ?_;intro K hK
   refine zk ?_;clear hK K
   refine zt ?_
   refine zs ?_
   refine zr ?_
   simp[CI,ho,h4]
  .refine Ae h4 ?_;intro K hK
   refine zk ?_;clear hK K
   refine zn ?_
   refine W.skip ?_
   refine zs ?_
   refine zr ?_
   simp[CI,ho,h4]
end Go.Abs
set_option maxRecDepth 100000
namespace Go.Abs
open Go.Proofs
theorem ON (w:World) (x:Value):Calls pg 162 #[x] w fun e w' =>e= .returned (.func (.func 195) #[] #[.pointer (some ⟨w.heap.size,0,none⟩)])∧w' =w.alloc (.cells x.cells 65):=by
 refine(callsIn_wide (n:=0)).1 (callsIn_of_wp (n:=0) (fn:=Tryz.f162) rfl rfl trivial ?_)
 refine wpIn_seq (wpIn_region_lit ?_)
 simp[wpListIn,Region.wanted,Oper.wpIn,Oper.semAt,Fence.wide,execOp,Instr.box,newVar,newRow,Act.eval,Act.put,Oper.uponIn_value,Tryz.f162]
 show Code.wpIn _ _ _ _ _ _ _
 refine wpIn_seq (wpIn_region_lit ?_)
 simp[wpListIn,Region.wanted,Oper.wpIn,Oper.semAt,execOp,Act.eval,Act.put,Oper.uponIn_value]
 show Code.wpIn _ _ _ _ _ _ _
 refine wpIn_ret ?_
 simp[bodyPost,results]
 exact⟨rfl,rfl⟩
def Ky (o:Obj):Value:= .agg #[.int .i64 o.id,.int .i64 o.base,.string o.data.data,.int .i64 o.data.n]
theorem TU (w:World) (sh:Nat→Prop) (σ:Nat→Nat→Option St) (o:Obj):VR w sh σ (.agg (Av o)) (Ky o) (fun _=>0):=by
 simp only[VR,Av,Ky]
 exact⟨_,rfl,_,_,_,_,rfl,⟨rfl,fun _=>rfl⟩,⟨_,_,_,_,rfl,⟨rfl,fun _=>rfl⟩,⟨_,_,_,_,rfl,⟨rfl,fun _=>rfl⟩,⟨_,_,_,_,rfl,⟨rfl,fun _=>rfl⟩,⟨rfl,fun _=>rfl⟩,fun _=>rfl⟩,fun _=>rfl⟩,fun _=>rfl⟩,fun _=>rfl⟩
theorem TV {w:World} {sh:Nat→Prop} {σ:Nat→Nat→Option St} {o:Obj} {x:Value} {fp:Nat→Nat} (h:VR w sh σ (.agg (Av o)) x fp):x=Ky o:=by
 simp only[VR,Av,Aq] at h
 obtain⟨cs,rfl,_,_,_,_,h0,⟨rfl,_⟩,⟨_,_,_,_,rfl,⟨rfl,_⟩,⟨_,_,_,_,rfl,⟨rfl,_⟩,⟨_,_,_,_,rfl,⟨rfl,_⟩,⟨rfl,_⟩,_⟩,_⟩,_⟩,_⟩:=h
 unfold Ky
 congr 1
 exact Array.ext' (by simpa using h0)
def RQ (h:Nat) (ws:List Obj) (W:World):Prop:=∃sh:Nat→Prop,(∀g,sh g→g<W.heap.size)∧VR W sh σ0 (.rptr [.ro ws.length (Af Av ws)]) (.pointer (some ⟨h,0,none⟩)) (fun _=>0)
def Mz (l h:Nat) (i:Int) (a:Act):Prop:=a.tmps.size=19∧a.defers=[]∧a.tmps.getD 0 undef= .func (.yield l) #[] #[]∧a.tmps.getD 1 undef= .pointer (some ⟨h,0,none⟩)∧a.tmps.getD 3 undef= .int .i64 i
theorem Bd {a:Act} {d t:Nat} {v:Value} (hd:t≠d):(a.put (some d) v).tmps.getD t undef=a.tmps.getD t undef:=by
 have:¬d=t:=fun e=>hd e.symm
 by_cases ht:t<a.tmps.size<;>simp[Act.put,Array.getD,ht,Array.getElem_setIfInBounds,this]
theorem DU {a:Act} {d:Nat} {v:Value} (hd:d<a.tmps.size):(a.put (some d) v).tmps.getD d undef=v:=by
 simp[Act.put,Array.getD,hd]
theorem Mz.put {l h:Nat} {i:Int} {a:Act} (s:Mz l h i a) {d:Nat} (h0:d≠0) (h1:d≠1) (h3:d≠3) (v:Value):Mz l h i (a.put (some d) v):=
 ⟨by simp[Act.put,s.1],s.2.1,by rw[Bd (Ne.symm h0)];exact s.2.2.1,by rw[Bd (Ne.symm h1)];exact s.2.2.2.1,by rw[Bd (Ne.symm h3)];exact s.2.2.2.2⟩
def Fi (ws:List Obj) (i:Int):Fr:=fun t=>if t=1 then .rptr [.ro ws.length (Af Av ws)] else if t=3 then .int .i64 i else .any
theorem Mz.rel {l h:Nat} {i:Int} {a:Act} {ws:List Obj} {W:World} (s:Mz l h i a) (v:RQ h ws W):∃sh,AF ⟨pg,19,sh,W,fun _=>none,σ0,0,none,[]⟩ (Fi ws i) [] a W σ0 (fun _=>none):=by
 obtain⟨sh,h1,h2⟩:=v
 refine⟨sh,s.1,s.2.1,fun t ht=>?_,Fc _ _,fun g hg=>⟨rfl,h1 g hg⟩,Eu.refl _ _,fun _ _ _ h=>by simp at h⟩
 simp only[Fi]
 by_cases e1:t=1
 .subst e1;rw[if_pos rfl,s.2.2.2.1];exact h2
 .rw[if_neg e1]
  by_cases e3:t=3
  .subst e3;rw[if_pos rfl,s.2.2.2.2];exact⟨rfl,fun _=>rfl⟩
  .rw[if_neg e3];intro g;rfl
theorem Ro {ops:Array Oper} {Q:Exit→Act→World→Prop} {a:Act} {W:World} {d t ty:Nat} {pos:String} {af:Array Edge} {rest:List Oper} {x:Value} (hx:a.tmps.getD t undef=x) (h:wpListIn Fence.wide 0 pg ops Q rest (a.put (some d) x) W):
 wpListIn Fence.wide 0 pg ops Q ({dst:=some d,op:= .move (.tmp t),type:=ty,pos:=pos,after:=af,guard:=none}::rest) a W:=by
 simp only[wpListIn]
 rw[if_pos (by simp[Region.wanted])]
 refine⟨fun _ _=>trivial,?_⟩
 have e:Sem.run pg (execOp a.eval {dst:=some d,op:= .move (.tmp t),type:=ty,pos:=pos,after:=af,guard:=none}) W= .ok (.value x) W:=by
  have:a.eval (.tmp t)=x:=hx
  simp[execOp,this]
 rw[Oper.semAt_eq _ _ _ (by intro c h;cases h),e]
 exact h
theorem PZ {ops:Array Oper} {Q:Exit→Act→World→Prop} {a:Act} {W:World} {d t t1 t2 ty:Nat} {pos:String} {af:Array Edge} {ats:Array TypeId} {rest:List Oper} {l:Nat} {x y:Value} {f:FuncId} {tm:Array Value} {asg bd:Code} {RR:Ending→World→Prop} (h0:a.tmps.getD t undef= .func (.yield l) #[] #[]) (h1:a.tmps.getD t1 undef=x) (h2:a.tmps.getD t2 undef=y)
 (hy:(Instr.yield l #[x,y]).run pg W= .ok (.round l f tm asg bd) W) (hr:RoundIn Fence.wide 0 pg l f tm asg bd W RR) (h:∀e W',RR e W' →∃v,e= .returned v∧wpListIn Fence.wide 0 pg ops Q rest (a.put (some d) v) W'):
 wpListIn Fence.wide 0 pg ops Q ({dst:=some d,op:= .call {callee:= .value (.tmp t),args:= #[.tmp t1,.tmp t2],argTypes:=ats},type:=ty,pos:=pos,after:=af,guard:=none}::rest) a W:=by
 simp only[wpListIn]
 rw[if_pos (by simp[Region.wanted])]
 refine⟨fun _ _=>trivial,?_⟩
 have e0:a.eval (.tmp t)= .func (.yield l) #[] #[]:=h0
 have e1:a.eval (.tmp t1)=x:=h1
 have e2:a.eval (.tmp t2)=y:=h2
 have e:Sem.run pg (execOp a.eval {dst:=some d,op:= .call {callee:= .value (.tmp t),args:= #[.tmp t1,.tmp t2],argTypes:=ats},type:=ty,pos:=pos,after:=af,guard:=none}) W= .ok (.round l f tm asg bd) W:=by
  simp[execOp,resolve,e0,e1,e2,Deferred.ofValue,invoke,hy]
 rw[Oper.semAt_eq _ _ _ (by intro c h;cases h),e]
 refine⟨fun h=>absurd h (by simp[Fence.wide]),RoundIn.mono hr ?_⟩
 intro e W' hR
 obtain⟨v,rfl,hk⟩:=h e W' hR
 exact hk
theorem U7 {a:Act} {W:World} {F:Fr} (hs:a.tmps.size=19) (hd:a.defers=[]) (hF:∀t,VR W (fun _=>False) σ0 (F t) (a.tmps.getD t undef) (fun _=>0)):AF ⟨pg,19,fun _=>False,W,fun _=>none,σ0,0,none,[]⟩ F [] a W σ0 (fun _=>none):=
 ⟨hs,hd,fun t _=>hF t,Fc _ _,fun g hg=>hg.elim,Eu.refl _ _,fun _ _ _ h=>by simp at h⟩
theorem Le {P:Program} {c:Code} {Q:Exit→Act→World→Prop} (n:Nat) (I:Nat→Act→World→Prop) (step:∀k a W,k≤n→I k a W→c.wpIn Fence.wide 0 P (Exit.then (fun a W=>k<n∧I (k+1) a W) Q) a W):
 ∀m k a W,k+m=n→I k a W→Code.roundsIn Fence.wide 0 P c Q (m+1) a W
 |0,k,a,W,hk,hI=>wpIn_mono (step k a W (by omega) hI) fun e a W h=>by
  cases e<;>first|exact h| (have:=h.1;omega)
 |m+1,k,a,W,hk,hI=>wpIn_mono (step k a W (by omega) hI) fun e a W h=>by
  cases e<;>first|exact h|exact Le n I step m (k+1) a W (by omega) h.2
noncomputable abbrev C5 (sh:Nat→Prop) (W:World):A3:=⟨pg,19,sh,W,fun _=>none,σ0,0,none,[]⟩
theorem Rp (h:Nat) (ws:List Obj) (hn:ws.length<1000000000000):UW pg 195 #[.pointer (some ⟨h,0,none⟩)] ws.length (fun k=> #[.int .i64 ((ws.length:Int)-1-k),Ky (ws.getD (ws.length-1-k) ⟨0,0,⟨⟨#[]⟩,0⟩⟩)]) (RQ h ws):=by
 intro l J Jx w hV hR h0
 have sz:ws.length≤9223372036854775807:=by omega
 generalize hRR:(fun e W' =>(∃v,e=Ending.returned v)∧(J ws.length W' ∨Jx W'))=RR
 have key:∀c,Tryz.f195.body=some c→∀a0:Act,a0.tmps.size=19→a0.defers=[]→a0.tmps.getD 0 undef= .func (.yield l) #[] #[]→a0.tmps.getD 1 undef= .pointer (some ⟨h,0,none⟩)→c.wpIn Fence.wide 0 pg (bodyPost pg Tryz.f195 RR) a0 w:=by
  intro c hc a0 h19 hd0 hy0 hp0
  have hc:=Option.some.inj hc
  subst hc
  refine wpIn_seq (wpIn_region_lit ?_)
  obtain⟨sh,hs1,hs2⟩:=hV 0 w h0
  have R:AF (C5 sh w) (fun t=>if t=1 then .rptr [.ro ws.length (Af Av ws)] else .any) [] a0 w σ0 (fun _=>none):=by
   refine⟨h19,hd0,fun t ht=>?_,Fc _ _,fun g hg=>⟨rfl,hs1 g hg⟩,Eu.refl _ _,fun _ _ _ h=>by simp at h⟩
   simp only
   by_cases e1:t=1
   .subst e1;rw[if_pos rfl,hp0];exact hs2
   .rw[if_neg e1];intro g;rfl
  refine Dk (C:=C5 sh _) tk R (by kernel_rfl) rfl (by intro c h;cases h) (r:= .ro ws.length (Af Av ws)) (by simp -implicitDefEqProofs (disch:=omega) [pv]) fun u4 hu4 R4=>?_
  refine Dk (C:=C5 sh _) tk R4 (by kernel_rfl) rfl (by intro c h;cases h) (r:= .int .i64 ws.length) (by simp -implicitDefEqProofs (disch:=omega) [pv]) fun u5 hu5 R5=>?_
  refine Dk (C:=C5 sh _) tk R5 (by kernel_rfl) rfl (by intro c h;cases h) (r:= .int .i64 ((ws.length:Int)-1)) (by simp -implicitDefEqProofs (disch:=omega) [pv]) fun u6 hu6 R6=>?_
  refine Dk (C:=C5 sh _) tk R6 (by kernel_rfl) rfl (by intro c h;cases h) (r:= .int .i64 ((ws.length:Int)-1)) (by simp -implicitDefEqProofs (disch:=omega) [pv]) fun u3 hu3 R3=>?_
  refine wpListIn_nil ?_
  have s0:Mz l h ((ws.length:Int)-1) ((((a0.put (some 4) u4).put (some 5) u5).put (some 6) u6).put (some 3) u3):=by
   refine⟨by simp[Act.put,h19],hd0,?_,?_,?_⟩
   .rw[Bd (by decide),Bd (by decide),Bd (by decide),Bd (by decide)];exact hy0
   .rw[Bd (by decide),Bd (by decide),Bd (by decide),Bd (by decide)];exact hp0
   .rw[DU (by simp[Act.put,h19])];exact hu3.1
  generalize ((((a0.put (some 4) u4).put (some 5) u5).put (some 6) u6).put (some 3) u3)=a1 at s0
  clear R R4 R5 R6 R3 hu4 hu5 hu6 hu3 u4 u5 u6 u3 hs1 hs2 sh h19 hd0 hy0 hp0 a0
  show Code.wpIn _ _ _ _ _ _ _
  refine wpIn_block (wpIn_loop_rounds (ws.length+1) ?_)
  refine Le ws.length (fun k a W=>Mz l h ((ws.length:Int)-1-k) a∧J k W) (fun k a W hk hI=>?_) ws.length 0 a1 w (by omega) ⟨by simpa using s0,h0⟩
  obtain⟨s,hJ⟩:=hI
  obtain⟨sh,R⟩:=s.rel (hV k W hJ)
  refine wpIn_seq (wpIn_seq (wpIn_region_lit ?_))
  refine Dk (C:=C5 sh _) tk R (by kernel_rfl) rfl (by intro c h;cases h) (r:= .int .i64 ((ws.length:Int)-1-k)) (by simp -implicitDefEqProofs (disch:=omega) [pv,Fi]) fun u7 hu7 R7=>?_
  refine Dk (C:=C5 sh _) tk R7 (by kernel_rfl) rfl (by intro c h;cases h) (r:= .bool (decide ((0:Int)≤(ws.length:Int)-1-k))) (by simp -implicitDefEqProofs (disch:=omega) [pv,Fi]) fun u8 hu8 R8=>?_
  refine wpListIn_nil ?_
  have s8:=(s.put (d:=7) (by decide) (by decide) (by decide) u7).put (d:=8) (by decide) (by decide) (by decide) u8
  have hc8:((a.put (some 7) u7).put (some 8) u8).eval (.tmp 8)= .bool (decide ((0:Int)≤(ws.length:Int)-1-k)):=by
   show((a.put (some 7) u7).put (some 8) u8).tmps.getD 8 undef=_
   rw[DU (by simp[Act.put,s.1])];exact hu8.1
  generalize ((a.put (some 7) u7).put (some 8) u8)=a2 at s8 hc8
  clear R R7 R8 hu7 hu8 u7 u8 s
  show Code.wpIn _ _ _ _ _ _ _
  refine wpIn_cond_split hc8 (fun hb=>wpIn_skip ?_) (fun hb=>wpIn_exit ?_)
  rotate_left
  .have hb:¬(0:Int)≤(ws.length:Int)-1-k:=of_decide_eq_false hb
   have:k=ws.length:=by omega
   subst this
   show bodyPost pg _ RR .normal a2 W
   refine⟨s8.2.1,.tuple #[],by simp[results,Tryz.f195],?_⟩
   rw[←hRR]
   exact⟨⟨_,rfl⟩,.inl hJ⟩
  have hb:(0:Int)≤(ws.length:Int)-1-k:=of_decide_eq_true hb
  show Code.wpIn _ _ _ _ _ _ _
  refine wpIn_seq (wpIn_block (wpIn_seq (wpIn_region_lit ?_)))
  obtain⟨sh,R⟩:=s8.rel (hV k W hJ)
  obtain⟨i,hi⟩:∃i:Nat,(ws.length:Int)-1-k=(i:Int):=⟨ws.length-1-k,by omega⟩
  rw[hi] at s8 R
  have hlt:i<ws.length:=by omega
  refine Ro s8.2.2.1 ?_
  have R11:AF (C5 sh W) (Aj (Fi ws i) (some 11) .any) [] (a2.put (some 11) (.func (.yield l) #[] #[])) W σ0 (fun _=>none):=R.put (some 11) (fun _=>rfl)
  refine Dk (C:=C5 sh _) tk R11 (by kernel_rfl) rfl (by intro c h;cases h) (r:= .int .i64 i) (by simp -implicitDefEqProofs (disch:=omega) [pv,Fi]) fun u12 hu12 R12=>?_
  refine Dk (C:=C5 sh _) tk R12 (by kernel_rfl) rfl (by intro c h;cases h) (r:= .ro ws.length (Af Av ws)) (by simp -implicitDefEqProofs (disch:=omega) [pv,Fi]) fun u13 hu13 R13=>?_
  refine Dk (C:=C5 sh _) tk R13 (by kernel_rfl) rfl (by intro c h;cases h) (r:= .int .i64 i) (by simp -implicitDefEqProofs (disch:=omega) [pv,Fi]) fun u14 hu14 R14=>?_
  refine Dk (C:=C5 sh _) tk R14 (by kernel_rfl) rfl (by intro c h;cases h) (r:= .rptr (Av ws[i]++Af Av (ws.drop (i+1)))) (by simp -implicitDefEqProofs (disch:=omega) [pv,Fi,hlt]) fun u15 hu15 R15=>?_
  refine Dk (C:=C5 sh _) tk R15 (by kernel_rfl) rfl (by intro c h;cases h) (r:= .agg (Av ws[i])) (by simp -implicitDefEqProofs (disch:=omega) [pv,Fi,hlt]) fun u16 hu16 R16=>?_
  have ek:ws.length-1-k=i:=by omega
  have eo:ws.getD (ws.length-1-k) ⟨0,0,⟨⟨#[]⟩,0⟩⟩=ws[i]:=by rw[ek];simp[List.getD,hlt]
  obtain⟨f,tm,asg,bd,hy,hr⟩:=hR k W (by omega) hJ
  simp only[hi,eo] at hy
  have s9:=((((((s8.put (d:=11) (by decide) (by decide) (by decide) (.func (.yield l) #[] #[])).put (d:=12) (by decide) (by decide) (by decide) u12).put (d:=13) (by decide) (by decide) (by decide) u13).put (d:=14) (by decide) (by decide) (by decide) u14).put (d:=15) (by decide) (by decide) (by decide) u15).put (d:=16) (by decide) (by decide) (by decide) u16)
  refine PZ (x:= .int .i64 i) (y:=Ky ws[i]) ?_ ?_ ?_ hy hr ?_
  .rw[Bd (by decide),Bd (by decide),Bd (by decide),Bd (by decide),Bd (by decide),DU (by rw[s8.1];decide)]
  .rw[Bd (by decide),Bd (by decide),Bd (by decide),Bd (by decide),DU (by simp[Act.put,s8.1])];exact hu12.1
  .rw[DU (by simp[Act.put,s8.1])];exact TV hu16
  generalize ((((((a2.put (some 11) (Value.func (.yield l) #[] #[])).put (some 12) u12).put (some 13) u13).put (some 14) u14).put (some 15) u15).put (some 16) u16)=a3 at s9
  clear R R11 R12 R13 R14 R15 R16 hu12 hu13 hu14 hu15 hu16 u12 u13 u14 u15 u16 hy hr s8 hc8
  rintro e W' hq
  obtain⟨b,rfl,hq⟩:∃b,e= .returned (.bool b)∧(if b=true then J (k+1) W' else Jx W'):=by
   rcases hq with⟨rfl,h⟩ | ⟨rfl,h⟩
   .exact⟨true,rfl,h⟩
   .exact⟨false,rfl,h⟩
  refine⟨_,rfl,?_⟩
  have s10:=s9.put (d:=17) (by decide) (by decide) (by decide) (.bool b)
  have R17:=U7 (W:=W') (F:=fun t=>if t=17 then .bool b else .any) s10.1 s10.2.1 (fun t=>by
   by_cases e:t=17
   .subst e;simp only[if_true];rw[DU (by rw[s9.1];decide)];exact⟨rfl,fun _=>rfl⟩
   .rw[if_neg e];intro g;rfl)
  refine Dk (C:=C5 (fun _=>False) _) tk R17 (by kernel_rfl) rfl (by intro c h;cases h) (r:= .bool (!b)) (by simp -implicitDefEqProofs (disch:=omega) [pv,Fi]) fun u18 hu18 R18=>?_
  refine wpListIn_nil ?_
  have s11:=s10.put (d:=18) (by decide) (by decide) (by decide) u18
  have hc18:(((a3.put (some 17) (.bool b)).put (some 18) u18)).eval (.tmp 18)= .bool (!b):=by
   show((a3.put (some 17) (.bool b)).put (some 18) u18).tmps.getD 18 undef=_
   rw[DU (by rw[s10.1];decide)];exact hu18.1
  generalize ((a3.put (some 17) (.bool b)).put (some 18) u18)=a4 at s11 hc18
  clear R17 R18 hu18 u18 s9 s10
  show Code.wpIn _ _ _ _ _ _ _
  refine wpIn_cond_split hc18 (fun hb=>wpIn_ret ?_) (fun hb=>wpIn_skip ?_)
  .have hb:b=false:=by simpa using hb
   subst hb
   show bodyPost pg _ RR .ret a4 W'
   refine⟨s11.2.1,.tuple #[],by simp[results,Tryz.f195],?_⟩
   rw[←hRR]
   exact⟨⟨_,rfl⟩,.inr (by simpa using hq)⟩
  .have hb:b=true:=by simpa using hb
   subst hb
   show Code.wpIn _ _ _ _ _ _ _
   refine wpIn_region_lit ?_
   have hq:J (k+1) W' :=by simpa using hq
   obtain⟨sh,R⟩:=s11.rel (hV (k+1) W' hq)
   refine Dk (C:=C5 sh _) tk R (by kernel_rfl) rfl (by intro c h;cases h) (r:= .int .i64 i) (by simp -implicitDefEqProofs (disch:=omega) [pv,Fi]) fun u9 hu9 R9=>?_
   refine Dk (C:=C5 sh _) tk R9 (by kernel_rfl) rfl (by intro c h;cases h) (r:= .int .i64 ((i:Int)-1)) (by simp -implicitDefEqProofs (disch:=omega) [pv,Fi]) fun u10 hu10 R10=>?_
   refine Dk (C:=C5 sh _) tk R10 (by kernel_rfl) rfl (by intro c h;cases h) (r:= .int .i64 ((i:Int)-1)) (by simp -implicitDefEqProofs (disch:=omega) [pv,Fi]) fun u3 hu3 R3=>?_
   refine wpListIn_nil ?_
   show k<ws.length∧_
   refine⟨by omega,?_,hq⟩
   have s12:=(s11.put (d:=9) (by decide) (by decide) (by decide) u9).put (d:=10) (by decide) (by decide) (by decide) u10
   refine⟨by simp[Act.put,s11.1],s11.2.1,?_,?_,?_⟩
   .rw[Bd (by decide)];exact s12.2.2.1
   .rw[Bd (by decide)];exact s12.2.2.2.1
   .rw[DU (by rw[s12.1];decide),hu3.1]
    congr 1
    omega
 have hf:pg.funcs[(195:Nat)]?=some Tryz.f195:=rfl
 have hn:Tryz.f195.ntmps=19:=rfl
 obtain⟨c,hc⟩:∃c,Tryz.f195.body=some c:=⟨_,rfl⟩
 refine callsIn_of_wp (n:=0) hf hc trivial ?_ rfl
 refine key c hc _ ?_ ?_ ?_ ?_
 .simp[hn]
 .simp only
 .simp
 .simp
end Go.Abs
set_option maxRecDepth 100000
namespace Go.Abs
open Go.Proofs
theorem AW.seqW {C:A3} {P:Program} {T:Nat→Option TI} {p:Nat} {x y:Code} {F:Fr} {M:List Ag} {Q:BU} (tk:Bx P T) (hC:C.P=P) (hp:C.p≤p) (hb:Ca C.n x=true) (h:W P T p x F M (De (fun F M=>AW C y F M Q) Q)):AW C (.seq x y) F M Q:=
 AW.seq (h tk C hC hp hb)
theorem GC:AY Au:=by
 simp[AY,Au,Cl]
theorem MA (l:List Obj):∀(k:Nat) (id:Int) (i:Nat) (h:i+1<(Bb l k id).length),((Bb l k id)[i]'(by omega)).base≠0
 |0,id,i,h=>by simp[Bb] at h
 |k+1,id,i,h=>by
  by_cases h0:id=0
  .simp[Bb,h0] at h
  .cases hf:C8 l id with
   |none=>simp[Bb,h0,hf] at h
   |some o=>
    simp only[Bb,h0,hf,if_false] at h ⊢
    cases i with
    |zero=>
     simp only[List.getElem_cons_zero]
     intro e
     rw[e] at h
     have:(Bb l k 0).length=0:=by cases k<;>simp[Bb]
     simp[this] at h
    |succ i=>
     simp only[List.getElem_cons_succ]
     exact MA l k o.base i (by simpa using h)
theorem NQ (l:List Obj):∀(k:Nat) (id:Int),∀o∈Bb l k id,o∈l
 |0,id,o,h=>by simp[Bb] at h
 |k+1,id,o,h=>by
  by_cases h0:id=0
  .simp[Bb,h0] at h
  .cases hf:C8 l id with
   |none=>simp[Bb,h0,hf] at h
   |some q=>
    simp only[Bb,h0,hf,if_false] at h
    rcases List.mem_cons.1 h with rfl|h
    .exact Dz hf
    .exact NQ l k q.base o h
theorem Lf {rf:List Bool→Option Gr} {rd:Gr→List Bool→Option Gr} {ws:List Obj} (hb:∀i (h:i+1<ws.length),(ws[i]'(by omega)).base≠0):∀i,i<ws.length→C9 rf rd (ws.drop i)=none→C9 rf rd ws=none
 |0,_,h=>by simpa using h
 |i+1,hi,h=>by
  refine Lf hb i (by omega) ?_
  rw[List.drop_eq_getElem_cons (by omega:i<ws.length)]
  simp only[C9,hb i hi,if_false,h]
theorem FO {bs:List Bool} {rd:Rd} {g:Gr} (h:CA bs rd=some g):AY g:=by
 unfold CA at h
 split at h
 .simp at h
 .split at h
  .split at h
   .simp at h
   .split at h
    .rename_i hm
     simp at h;subst h;exact hm.2
    .simp at h
  .simp at h
theorem P0 {b:CL} (h:DI b) (hs:b.data.size<1000000000):C2 b:=by
 have h1:=h.1;have h2:=h.2.1;have h3:=h.2.2.1
 refine⟨h1,?_,hs⟩
 omega
theorem Rq {C:A3} (hC:C.P=pg) {ops:Array Oper} {Q:Exit→Act→World→Prop} {a:Act} {w:World} {d t ty:Nat} {pos:String} {af:Array Edge} {ats:Array TypeId} {rest:List Oper} {x:Value} (h0:a.tmps.getD t undef=x)
 (h:wpListIn (FX C) 0 C.P ops Q rest (a.put (some d) (.func (.func 195) #[] #[.pointer (some ⟨w.heap.size,0,none⟩)])) (w.alloc (.cells x.cells 65))):
 wpListIn (FX C) 0 C.P ops Q ({dst:=some d,op:= .call {callee:= .value (.func 162),args:= #[.tmp t],argTypes:=ats},type:=ty,pos:=pos,after:=af,guard:=none}::rest) a w:=by
 simp only[wpListIn]
 rw[if_pos (by simp[Region.wanted])]
 refine⟨fun _ _=>trivial,?_⟩
 have e0:a.eval (.tmp t)=x:=h0
 have ef:a.eval (.func 162)= .func (.func 162) #[] #[]:=rfl
 have hfn:C.P.funcs[(162:Nat)]?=some Tryz.f162:=by rw[hC];rfl
 have hb:¬(Tryz.f162.body=none):=by intro e;cases e
 have hnm:¬(Tryz.f162.name= "runtime.NumGoroutine"):=by simp[Tryz.f162]
 have e:Sem.run C.P (execOp a.eval {dst:=some d,op:= .call {callee:= .value (.func 162),args:= #[.tmp t],argTypes:=ats},type:=ty,pos:=pos,after:=af,guard:=none}) w= .ok (.enter 162 #[x]) w:=by
  simp[execOp,resolve,ef,e0,Deferred.ofValue,invoke,callFunc,hfn,hb,hnm]
 rw[Oper.semAt_eq _ _ _ (by intro c h;cases h),e]
 refine⟨fun h=>absurd h (by simp[FX,Fence.wide]),(callsIn_wide (n:=0-1)).2 ?_⟩
 rw[hC]
 refine(ON w x).mono ?_
 rintro e w' ⟨rfl,rfl⟩
 rw[hC] at h
 exact h
theorem U8 (xs:List Obj) (id:Int) (hx:D4 xs) (hm:CQ xs):Aa pg 126 [.ro xs.length (Af Av xs),.int .i64 id] [] (fun r _=>r= .tup [.agg (AQ true (By xs id).1),.int .i64 (By xs id).2]):=by
 have hx1:=hx.1
 have hb:∀o∈xs,o.base=0∨∃q∈xs,q.id=o.base:=fun o ho=>(hm.2.1 o ho).2.2.2.2
 refine Aa.enterA (fn:=Tryz.f126) tk rfl rfl rfl (Nat.le_of_ble_eq_true rfl) (by kernel_rfl) ?_
 intro C hC hp hn hrd hdf
 have hp0:C.p≤0:=Nat.le_of_eq hp
 have hn48:C.n=48:=hn
 show AW C _ _ _ (Hi tT [.cell 4 51,.cell 5 44] 0 _)
 rw[Am]
 refine AW.seqW tk hC hp0 (by rw[hn48];kernel_rfl) ?_
 refine z2 ?_;intro K hK;refine zk ?_;clear hK K
 refine AW.seqW tk hC hp0 (by rw[hn48];kernel_rfl) ?_
 refine z0 ?_;intro K hK
 refine Ab.eq (U6 xs id hx hb) (by simp) (by simp) ?_
 refine zx ?_
 refine zk ?_;clear hK K
 by_cases hd:(CI xs id).2=0
 .refine Ae hd ?_;intro K hK
  refine zk ?_;clear hK K
  refine zn ?_
  refine W.skip ?_
  refine AW.seqW tk hC hp0 (by rw[hn48];kernel_rfl) ?_
  refine z1 ?_;intro K hK
  refine zk ?_;clear hK K
  have B2:id=0∨∃q∈xs,q.id=id:=by
   right
   cases hf:C8 xs id with
   |none=>simp[CI,hf] at hd
   |some o=>obtain⟨k,hlt,_,hko,hoi⟩:=Eh hf;exact⟨o,Dz hf,hoi⟩
  obtain⟨ws,hWay,hbase,hmem,hwl,hofO⟩:∃ws:List Obj,(Aa pg 163 [.ro xs.length (Af Av xs),.int .i64 id,.int .i64 3] [] (fun r _=>r= .own 4 ws.length (Af Av ws)))∧(∀i (h:i+1<ws.length),(ws[i]'(by omega)).base≠0)∧(∀o∈ws,o∈xs)∧ws.length≤3∧
   By xs id=(match C9 Cj Ck ws with|some g=>(g,0) |none=>(Au,9)):=by
   refine⟨Bb xs 3 id,RP xs id 3 hx (by omega) hb B2,MA xs 3 id,NQ xs 3 id,Kx xs 3 id,?_⟩
   unfold By
   rw[if_neg (by simpa using hd)]
   cases C9 Cj Ck (Bb xs 3 id)<;>rfl
  generalize hQ:(fun(r:AV) (x:List Ag)=>r=AV.tup [AV.agg (AQ true (By xs id).1),AV.int .i64 (By xs id).2])=Q
  show AW C _ _ _ _
  intro a w hr
  refine wpIn_seq (wpIn_seq (wpIn_region_lit ?_))
  obtain⟨S,hS⟩:∃S:List (Nat×AV),S=[(4,.ptr 0 0 0),(5,.ptr 1 0 0),(8,.ptr 2 0 0),(24,.tok 3 0 4 0 ws.length)]:=⟨_,rfl⟩
  let MM:Gr→List Ag:=fun g=> [.live 0 [.int .i64 0,.own 1 0 []],.live 0 [.int .i64 0],.live 0 [.int .i64 g.n,.tok 4 0 1 0 g.out.length],.live 0 (Af Av ws),.live 0 (Aw true g.out)]
  refine(Fh (hC ▸ tk) (K:=fun F' M' =>Wk 0 F' M' (fr S) (MM Au)) ?_ [_,_,_] 3 _ _ a w ?_ ?_ ?_ hr:wpListIn _ _ _ _ _ ([_,_,_]++[_]) a w)
  rotate_left
  .rw[hn48];kernel_rfl
  .rw[hn48];kernel_rfl
  .refine Eb (call:=Ab pg) (call' :=Di C) (fun f args M K K' hk hc=>(hc C hC).mono hk) (fun _ _ h=>h) _ _ _ _ ?_
   simp -implicitDefEqProofs (maxSteps:=999999) (disch:=omega)
   refine Ab.eq hWay (by simp) (by simp) ?_
   refine zx ?_
   refine Wk.trans (Wk.fr (S:=S) (by rw[hS];simp[Ac])) ?_
   refine Wk.trans (Wk.thaw (B:=2) (v:=0) (j:=1) (s:=1) (n:=0) (cs:=[.int .i64 0,.own 1 0 []]) (xs:=[]) rfl rfl) ?_
   exact fun C _=>Cu.refl _ _ _
  clear hr a w
  intro F' M' a w hwk hr
  obtain⟨σ,own,R⟩:=hwk C hp0 a w hr
  clear hr hwk
  have e24:a.eval (.tmp 24)=a.tmps.getD 24 undef:=rfl
  generalize hx24:a.tmps.getD 24 undef=x at*
  have hvx:VR w C.sh σ (.tok 3 0 4 0 ws.length) x (fun _=>0):=by
   have:=R.tmp 24 (by omega)
   rw[hx24,hS] at this
   simpa using this
  have hxc:x.cells= #[x]:=by
   simp only[VR] at hvx
   obtain⟨_,⟨a,c,rfl⟩,_⟩:=hvx
   rfl
  refine Rq hC hx24 (wpListIn_nil ?_)
  have R2:=(R.allocO (.cells x.cells 65)).put (some 25) (av:= .any) (v:= .func (.func 195) #[] #[.pointer (some ⟨w.heap.size,0,none⟩)]) (fun _=>rfl)
  have e25:(a.put (some 25) (.func (.func 195) #[] #[.pointer (some ⟨w.heap.size,0,none⟩)])).eval (.tmp 25)= .func (.func 195) #[] #[.pointer (some ⟨w.heap.size,0,none⟩)]:=DU (by rw[R.size,hn48];decide)
  have e24:(a.put (some 25) (.func (.func 195) #[] #[.pointer (some ⟨w.heap.size,0,none⟩)])).tmps.getD 24 undef=x:=by rw[Bd (by decide)];exact hx24
  have eF:Aj (fr S) (some 25) .any=fr S:=by
   funext t
   simp only[Q5]
   split
   .rename_i e;subst e;rw[hS];rfl
   .rfl
  rw[eF] at R2
  obtain⟨hh,hhe⟩:∃hh,hh=w.heap.size:=⟨_,rfl⟩
  rw[←hhe] at R2 e25 e24 ⊢
  have hcell:(w.alloc (.cells x.cells 65)).heap[hh]?=some (.cells x.cells 65):=by rw[hhe];exact World.alloc_heap_new w _
  generalize hw2:w.alloc (.cells x.cells 65)=w2 at*
  generalize ha2:a.put (some 25) (.func (.func 195) #[] #[.pointer (some ⟨hh,0,none⟩)])=a2 at*
  have hcf:∀args w,(callFunc 195 args).run C.P w= .ok (.enter 195 args) w:=by
   intro args w
   have hfn:C.P.funcs[(195:Nat)]?=some Tryz.f195:=by rw[hC];rfl
   have hb:¬(Tryz.f195.body=none):=by intro e;cases e
   have hnm:¬(Tryz.f195.name= "runtime.NumGoroutine"):=by simp[Tryz.f195]
   simp[callFunc,hfn,hb,hnm]
  have hsz2:hh<w2.heap.size:=(Array.getElem?_eq_some_iff.1 hcell).1
  have hseq:=Rp hh ws (by omega)
  rw[←hC] at hseq
  show Code.wpIn _ _ _ _ _ _ _
  refine Q8 (T:=tT) (hC ▸ tk) hrd hdf R2 e25 hcf hseq (va:=fun k=> .int .i64 ((ws.length:Int)-1-k)) (vb:=fun k=> .agg (Av (ws.getD (ws.length-1-k) ⟨0,0,⟨⟨#[]⟩,0⟩⟩))) (fun k=>⟨_,_,rfl,fun w σ=>⟨⟨rfl,fun _=>rfl⟩,TU w _ σ _⟩⟩) (h:=hh) ?_ hsz2 (by rw[hhe];exact R.ext.size)
   (fun k M' =>∃g,C9 Cj Ck (ws.drop (ws.length-k))=some g∧AY g∧M' =MM g) ⟨Au,by simp[C9],GC,rfl⟩ ?_ ?_ ?_ ?_ ?_ ?_
  .rw[if_neg (by omega)]
  .
   rintro k W M' σ' own' R' hW ⟨g,_,_,rfl⟩
   rw[hcell,hxc] at hW
   have hltW:hh<W.heap.size:=(Array.getElem?_eq_some_iff.1 hW).1
   have hv:=R'.tmp 24 (by omega)
   rw[e24,hS] at hv
   have hv2:=N9 (shB:=fun g=>C.sh g∨(own' g≠none∧g<W.heap.size)∨(g=hh∧g<W.heap.size)) R'.mem (fun g h=> .inl h) (fun g h1 h2=> .inr (.inl ⟨h1,h2⟩)) hv
   have ev:vw (MM g) ((fr [(4,AV.ptr 0 0 0),(5,AV.ptr 1 0 0),(8,AV.ptr 2 0 0),(24,AV.tok 3 0 4 0 ws.length)]) 24)= .ro ws.length (Af Av ws):=by simp[MM,vw]
   rw[ev] at hv2
   refine⟨_,fun g hg=>?_,fun _=>rfl,⟨hh,0,none⟩,[x],rfl,.inr ⟨.inr (.inr ⟨rfl,hltW⟩),?_,x,[],_,_,rfl,hv2,⟨rfl,fun _=>rfl⟩,fun _=>rfl⟩⟩
   .rcases hg with h|h|h
    .exact(R'.shr g h).2
    .exact h.2
    .exact h.2
   .intro i v hi
    rw[Bf,Dq hW]
    cases i with
    |zero=>simpa using hi
    |succ i=>simp at hi
  .rw[hn48];kernel_rfl
  .rw[hn48];kernel_rfl
  .rw[hn48];kernel_rfl
  .
   rintro k M' hk ⟨g,hg,hmay,rfl⟩
   rw[hC]
   obtain⟨i,hi⟩:∃i,i=ws.length-1-k:=⟨_,rfl⟩
   have hlt:i<ws.length:=by omega
   have eo:ws.getD (ws.length-1-k) ⟨0,0,⟨⟨#[]⟩,0⟩⟩=ws[i]:=by rw[←hi];simp[List.getD,hlt]
   simp only[eo]
   have hdr:ws.drop (ws.length-(k+1))=ws[i]::ws.drop (ws.length-k):=by
    rw[show ws.length-(k+1)=i by omega,show ws.length-k=i+1 by omega]
    exact List.drop_eq_getElem_cons hlt
   have hbits:=P0 (hm.2.1 _ (hmem _ (List.getElem_mem hlt))).2.2.1 (hx.2 _ (hmem _ (List.getElem_mem hlt)))
   have hwn:C9 Cj Ck (ws.drop (ws.length-(k+1)))=none→C9 Cj Ck ws=none:=Lf hbase _ (by omega)
   rw[hdr] at hwn ⊢
   generalize ws[i]=o at*
   subst hS
   show W pg tT 5 _ _ _ _
   simp only[MM]
   refine z1 ?_;intro K hK
   refine zk ?_;clear hK K
   refine⟨rfl,?_⟩
   show W pg tT 6 _ _ _ _
   refine zb ?_
   refine zs ?_
   by_cases hb0:o.base=0
   .refine Ae hb0 ?_;intro K hK
    refine zk ?_;clear hK K
    refine zt ?_
    refine z0 ?_;intro K hK
    have sp:=TQ o.data hbits
    cases hf:Cj (Ao o.data) with
    |none=>
     simp only[hf,Lc] at sp
     refine Ab.bor sp (by simp) ?_
     rintro _ ⟨g0,rfl⟩
     refine⟨by simp,?_⟩
     refine zx ?_
     refine zk ?_;clear hK K
     refine zs ?_
     refine zt ?_
     refine zs ?_
     refine W.ret (.inr ⟨rfl,fr [(4,.ptr 0 0 0),(5,.ptr 1 0 0)],[.live 0 [.int .i64 0,.tok 2 0 1 0 0],.live 0 [.int .i64 9],.live 0 []],?_,?_⟩)
     .refine Wk.trans (Wk.cutM (k:=2) (S:=[(4,.ptr 0 0 0),(5,.ptr 1 0 0)]) (M:=[.live 0 [.int .i64 0,.own 1 0 []],.live 0 [.int .i64 9]]) (by simp[Ac]) (by simp) (by simp) (by simp) (by simp) (by omega)) ?_
      refine Wk.trans (Wk.thaw (B:=0) (v:=0) (j:=1) (s:=1) (n:=0) (cs:=[.int .i64 0,.own 1 0 []]) (xs:=[]) rfl rfl) ?_
      exact fun C _=>Cu.refl _ _ _
     .simp only[Cp]
      refine Cd (d:=0) ?_
      rw[←hQ,hofO,hwn (by simp[C9,hb0,hf])]
      simp -implicitDefEqProofs (maxSteps:=999999) (disch:=omega)
      exact⟨rfl,rfl,rfl⟩
    |some g' =>
     simp only[hf,Lc] at sp
     refine Ab.eq sp (by simp) (by simp) ?_
     refine zx ?_
     refine zk ?_;clear hK K
     refine zs ?_
     refine zn ?_
     refine W.skip ?_
     refine .inl ⟨rfl,MM g',?_,g',by simp[C9,hb0,hf],FO hf,rfl⟩
     refine Wk.trans (Wk.intern (B:=2) (v:=0) (j:=1) (T:=6) (u:=0) (s:=1) (off:=0) (n:=g'.out.length) (cs:=[.int .i64 g'.n,.tok 6 0 1 0 g'.out.length]) (xs:=Aw true g'.out) rfl rfl rfl (by decide) (by simp) (by simp)) ?_
     refine Wk.trans (Wk.cutM (k:=4) (S:=[(4,.ptr 0 0 0),(5,.ptr 1 0 0),(8,.ptr 2 0 0),(24,.tok 3 0 4 0 ws.length)]) (M:=[.live 0 [.int .i64 0,.own 1 0 []],.live 0 [.int .i64 0],.live 0 [.int .i64 g'.n,.own 1 g'.out.length (Aw true g'.out)],.live 0 (Af Av ws)]) (by simp[Ac]) (by simp) (by simp) (by simp) (by simp) (by omega)) ?_
     refine Wk.trans (Wk.thaw (B:=2) (v:=0) (j:=1) (s:=1) (n:=g'.out.length) (cs:=[.int .i64 g'.n,.own 1 g'.out.length (Aw true g'.out)]) (xs:=Aw true g'.out) rfl rfl) ?_
     exact fun C _=>Cu.refl _ _ _
   .refine Ae hb0 ?_;intro K hK
    refine zk ?_;clear hK K
    refine zn ?_
    refine z0 ?_;intro K hK
    have sp:=TS o.data g hbits hmay
    cases hf:Ck g (Ao o.data) with
    |none=>
     simp only[hf,Lc] at sp
     refine Ab.bor sp (by simp) ?_
     rintro _ ⟨g0,rfl⟩
     refine⟨by simp,?_⟩
     refine zx ?_
     refine zk ?_;clear hK K
     refine zs ?_
     refine zt ?_
     refine zs ?_
     refine W.ret (.inr ⟨rfl,fr [(4,.ptr 0 0 0),(5,.ptr 1 0 0)],[.live 0 [.int .i64 0,.tok 2 0 1 0 0],.live 0 [.int .i64 9],.live 0 []],?_,?_⟩)
     .refine Wk.trans (Wk.cutM (k:=2) (S:=[(4,.ptr 0 0 0),(5,.ptr 1 0 0)]) (M:=[.live 0 [.int .i64 0,.own 1 0 []],.live 0 [.int .i64 9]]) (by simp[Ac]) (by simp) (by simp) (by simp) (by simp) (by omega)) ?_
      refine Wk.trans (Wk.thaw (B:=0) (v:=0) (j:=1) (s:=1) (n:=0) (cs:=[.int .i64 0,.own 1 0 []]) (xs:=[]) rfl rfl) ?_
      exact fun C _=>Cu.refl _ _ _
     .simp only[Cp]
      refine Cd (d:=0) ?_
      rw[←hQ,hofO,hwn (by simp[C9,hb0,hg,hf])]
      simp -implicitDefEqProofs (maxSteps:=999999) (disch:=omega)
      exact⟨rfl,rfl,rfl⟩
    |some g' =>
     simp only[hf,Lc] at sp
     refine Ab.eq sp (by simp) (by simp) ?_
     refine zx ?_
     refine zk ?_;clear hK K
     refine zs ?_
     refine zn ?_
     refine W.skip ?_
     refine .inl ⟨rfl,MM g',?_,g',by simp[C9,hb0,hg,hf],FO hf,rfl⟩
     refine Wk.trans (Wk.intern (B:=2) (v:=0) (j:=1) (T:=6) (u:=0) (s:=1) (off:=0) (n:=g'.out.length) (cs:=[.int .i64 g'.n,.tok 6 0 1 0 g'.out.length]) (xs:=Aw true g'.out) rfl rfl rfl (by decide) (by simp) (by simp)) ?_
     refine Wk.trans (Wk.cutM (k:=4) (S:=[(4,.ptr 0 0 0),(5,.ptr 1 0 0),(8,.ptr 2 0 0),(24,.tok 3 0 4 0 ws.length)]) (M:=[.live 0 [.int .i64 0,.own 1 0 []],.live 0 [.int .i64 0],.live 0 [.int .i64 g'.n,.own 1 g'.out.length (Aw true g'.out)],.live 0 (Af Av ws)]) (by simp[Ac]) (by simp) (by simp) (by simp) (by simp) (by omega)) ?_
     refine Wk.trans (Wk.thaw (B:=2) (v:=0) (j:=1) (s:=1) (n:=g'.out.length) (cs:=[.int .i64 g'.n,.own 1 g'.out.length (Aw true g'.out)]) (xs:=Aw true g'.out) rfl rfl) ?_
     exact fun C _=>Cu.refl _ _ _
  .
   rintro M' ⟨g,hg,hmay,rfl⟩
   rw[hC]
   subst hS
   show W pg tT 5 _ _ _ _
   simp only[MM]
   refine z0 ?_;intro K hK
   refine zk ?_;clear hK K
   refine W.ret ⟨rfl,?_⟩
   simp only[Cp]
   refine Cd (d:=0) ?_
   have hg' :C9 Cj Ck ws=some g:=by simpa using hg
   rw[←hQ,hofO,hg']
   simp -implicitDefEqProofs (maxSteps:=999999) (disch:=omega)
 .refine Ae hd ?_;intro K hK
  refine zk ?_;clear hK K
  refine zt ?_
  refine zs ?_
  refine W.weak (Wk.thaw (B:=0) (v:=0) (j:=1) (s:=1) (n:=0) (cs:=[.int .i64 0,.own 1 0 []]) (xs:=[]) rfl rfl) ?_
  refine zr ?_
  simp[By,hd,Au]
end Go.Abs
set_option maxRecDepth 100000
namespace Go.Abs
open Go.Proofs
theorem NR (k:Int):Aa pg 249 [.int .i64 k] [] (fun r _=>r= .bool (BO k)):=by
 refine Aa.start (fn:=Tryz.f249) [.tmp 2] tk rfl rfl rfl (by kernel_rfl) (Nat.le_of_ble_eq_true rfl) rfl (by kernel_rfl) ?_
 rw[At]
 refine zs ?_
 by_cases h1:k=1
 .refine Ae h1 ?_;intro K hK
  refine zk ?_;clear hK K
  refine zr ?_
  simp[BO,h1]
 .by_cases h2:k=2
  .refine Ae (an h1 h2) ?_;intro K hK
   refine zk ?_;clear hK K
   refine zr ?_
   simp[BO,h2]
  .refine Ae (an h1 h2) ?_;intro K hK
   refine zk ?_;clear hK K
   refine zr ?_
   simp[BO,h1,h2]
theorem TW (g:Gr) (k a:Int) (hg:Et g) (hm:AY g):Aa pg 237 [.agg (AQ false g),.int .i64 k,.int .i64 a] [] (fun r _=>r= .int .i64 (Da g k a)):=by
 refine Aa.start (fn:=Tryz.f237) [.tmp 6] tk rfl rfl rfl (by kernel_rfl) (Nat.le_of_ble_eq_true rfl) rfl (by kernel_rfl) ?_
 rw[Bq]
 refine z1 ?_;intro K hK;refine zk ?_;clear hK K
 refine zb ?_
 have hM:=JY g hg
 rw[decide_eq_true hm] at hM
 by_cases h1:k<1
 .refine Ae h1 ?_;intro K hK
  refine Ab.eq hM (by simp) (by simp) ?_
  refine AM h1 ?_
  refine zk ?_;clear hK K
  refine zt ?_
  refine zs ?_
  refine zr ?_
  rw[Da,if_pos (by omega)]
 .by_cases h2:k≤6
  .refine Ae (an h1 h2) ?_;intro K hK
   refine Ab.eq hM (by simp) (by simp) ?_
   refine AM (an h1 h2) ?_
   refine zk ?_;clear hK K
   refine zn ?_
   refine z0 ?_;intro K hK
   refine Ab.eq (NR k) (by simp) (by simp) ?_
   cases hn:BO k
   .refine zx ?_
    refine zk ?_;clear hK K
    refine zn ?_
    refine W.skip ?_
    refine zs ?_
    refine zr ?_
    rw[Da,if_neg (by omega),if_neg (by simp[hn])]
   .refine zx ?_
    refine Ab.eq (RO g a) (by simp) (by simp) ?_
    by_cases h3:0≤a∧a<g.n
    .rw[decide_eq_true h3]
     refine zx ?_
     refine zk ?_;clear hK K
     refine zn ?_
     refine W.skip ?_
     refine zs ?_
     refine zr ?_
     rw[Da,if_neg (by omega),if_neg (by simp[h3])]
    .rw[decide_eq_false h3]
     refine zx ?_
     refine zk ?_;clear hK K
     refine zt ?_
     refine zs ?_
     refine zr ?_
     rw[Da,if_neg (by omega),if_pos ⟨hn,h3⟩]
  .refine Ae (an h1 h2) ?_;intro K hK
   refine Ab.eq hM (by simp) (by simp) ?_
   refine AM (an h1 h2) ?_
   refine zk ?_;clear hK K
   refine zt ?_
   refine zs ?_
   refine zr ?_
   rw[Da,if_pos (by omega)]
theorem MB (g:Gr) (j:BX) (hl:j.list.length<1000000000000):Aa pg 194 [.agg (AQ false g),.agg (BI false j)] [] (fun r _=>r= .bool (Br g j)):=by
 refine Aa.start (fn:=Tryz.f194) [.tmp 4] tk rfl rfl rfl (by kernel_rfl) (Nat.le_of_ble_eq_true rfl) rfl (by kernel_rfl) ?_
 rw[Am]
 refine z2 ?_;intro K hK;refine zk ?_;clear hK K
 refine zs ?_
 refine zb ?_
 refine zs ?_
 refine zc ?_ ?_<;>intro h
 .refine zs ?_
  refine zr ?_
  simp[Br,h]
 .have h1:=h;clear h
  refine zs ?_
  refine zc ?_ ?_<;>intro h
  .refine zs ?_
   refine zr ?_
   simp[Br,h]
  .refine W.skip ?_
   refine zs ?_
   refine zr ?_
   simp[Br, *]
theorem P1 (a b:BX) (ha:a.list.length<1000000000000∧a.out.length<1000000000000):Aa pg 218 [.agg (BI false a),.agg (BI false b)] [] (fun r _=>r= .bool (decide (a=b))):=by
 have e0:(a=b)↔a.kind=b.kind∧a.a=b.a∧a.at_=b.at_∧a.move=b.move∧a.list=b.list∧a.out=b.out:=BX.ext_iff
 refine Aa.start (fn:=Tryz.f218) [.tmp 4] tk rfl rfl rfl (by kernel_rfl) (Nat.le_of_ble_eq_true rfl) rfl (by kernel_rfl) ?_
 rw[Am]
 refine z2 ?_;intro K hK;refine zk ?_;clear hK K
 by_cases h1:a.kind=b.kind
 .by_cases h2:a.a=b.a
  .by_cases h3:a.at_=b.at_
   .by_cases h4:a.move=b.move
    .refine Ae (an h1 (an h2 (an h3 h4))) ?_;intro K hK
     refine Ab.eq (G2 a.list b.list (by omega)) (by simp) (by simp) ?_
     by_cases h5:a.list=b.list
     .rw[decide_eq_true h5]
      refine zx ?_
      refine Ab.eq (G2 a.out b.out (by omega)) (by simp) (by simp) ?_
      refine zx ?_
      refine zk ?_;clear hK K
      refine zr ?_
      simp[e0,h1,h2,h3,h4,h5]
     .rw[decide_eq_false h5]
      refine zx ?_
      refine zk ?_;clear hK K
      refine zr ?_
      simp[e0,h5]
    .refine Ae (an h1 (an h2 (an h3 h4))) ?_;intro K hK
     refine zk ?_;clear hK K
     refine zr ?_
     simp[e0,h4]
   .refine Ae (an h1 (an h2 h3)) ?_;intro K hK
    refine zk ?_;clear hK K
    refine zr ?_
    simp[e0,h3]
  .refine Ae (an h1 h2) ?_;intro K hK
   refine zk ?_;clear hK K
   refine zr ?_
   simp[e0,h2]
 .refine Ae h1 ?_;intro K hK
  refine zk ?_;clear hK K
  refine zr ?_
  simp[e0,h1]
theorem MC (g:Gr):Aa pg 190 [.agg (AQ false g)] [] (fun r _=>r= .bool (decide (g=Au))):=by
 have e0:(g=Au)↔g.n=0∧g.out=[]:=Gr.ext_iff
 refine Aa.start (fn:=Tryz.f190) [.tmp 2] tk rfl rfl rfl (by kernel_rfl) (Nat.le_of_ble_eq_true rfl) rfl (by kernel_rfl) ?_
 rw[At]
 refine z1 ?_;intro K hK;refine zk ?_;clear hK K
 by_cases h1:g.n=0
 .refine Ae h1 ?_;intro K hK
  refine zk ?_;clear hK K
  refine zr ?_
  simp[e0,h1]
 .refine Ae h1 ?_;intro K hK
  refine zk ?_;clear hK K
  refine zr ?_
  simp[e0,h1]
theorem Iz (j:BX) (hj:j.list.length<1000000000000∧j.out.length<1000000000000):Aa pg 191 [.agg (BI false j)] [] (fun r _=>r= .bool (decide (j=B5))):=by
 have e0:(j=B5)↔j.kind=0∧j.a=0∧j.at_=0∧j.move=false∧j.list=[]∧j.out=[]:=BX.ext_iff
 refine Aa.start (fn:=Tryz.f191) [.tmp 2] tk rfl rfl rfl (by kernel_rfl) (Nat.le_of_ble_eq_true rfl) rfl (by kernel_rfl) ?_
 rw[At]
 refine z1 ?_;intro K hK;refine zk ?_;clear hK K
 by_cases h1:j.kind=0
 .by_cases h2:j.a=0
  .by_cases h3:j.at_=0
   .cases h4:j.move
    .refine Ae (an h1 (an h2 (an h3 h4))) ?_;intro K hK
     refine zk ?_;clear hK K
     refine zr ?_
     simp[e0,h1,h2,h3,h4]
     rw[←List.length_eq_zero_iff,←List.length_eq_zero_iff]
     omega
    .refine Ae (an h1 (an h2 (an h3 h4))) ?_;intro K hK
     refine zk ?_;clear hK K
     refine zr ?_
     simp[e0,h4]
   .refine Ae (an h1 (an h2 h3)) ?_;intro K hK
    refine zk ?_;clear hK K
    refine zr ?_
    simp[e0,h3]
  .refine Ae (an h1 h2) ?_;intro K hK
   refine zk ?_;clear hK K
   refine zr ?_
   simp[e0,h2]
 .refine Ae h1 ?_;intro K hK
  refine zk ?_;clear hK K
  refine zr ?_
  simp[e0,h1]
end Go.Abs
set_option maxRecDepth 100000
namespace Go.Abs
open Go.Proofs
def AZ (s:AP):Prop:=s.vers.length<1000000000∧s.sess.length<1000000000∧∀v∈s.vers,v.data.data.size<1000000000
theorem AZ.objs {s:AP} (h:AZ s):D4 (Ar s):=by
 refine⟨by have:=h.1;simp[Ar];omega,fun o ho=>?_⟩
 simp only[Ar,List.mem_map] at ho
 obtain⟨v,hv,rfl⟩:=ho
 exact h.2.2 v hv
theorem J2 (s:AP) (hs:AZ s):Aa pg 80 [.agg (Ay false s)] [] (fun r _=>r= .own 4 (Ar s).length (Af Av (Ar s))):=by
 have h1:=hs.1
 refine Aa.start (fn:=Tryz.f80) [.tmp 2] tk rfl rfl rfl (by kernel_rfl) (Nat.le_of_ble_eq_true rfl) rfl (by kernel_rfl) ?_
 rw[At]
 refine z1 ?_;intro K hK;refine zk ?_;clear hK K
 refine zs ?_
 (repeat refine W.seq ?_);refine W.block (W.loopS (fun k:Nat=> [(2,.tok 1 k 4 0 k),(6,FL false s.vers),(7,.int .i64 s.vers.length),(8,.int .i64 k)]) (fun k=> [.live 0 (Ay false s),.live k (Af Av ((Ar s).take k))]) (fun k=>s.vers.length-k) (fun k=>k≤s.vers.length) 0 ((Wk.nil (t:=2) (s:=4) ?_).trans (Wk.fr ?_)) (by simp) ?_)
 .simp
 .simp[Ac]
 .intro k hk
  refine zs ?_
  refine zc ?_ ?_<;>intro h
  .refine W.skip ?_
   have hlt:k<s.vers.length:=by omega
   have hto:(Ar s).take (k+1)=(Ar s).take k++[Hz s.vers[k]]:=by
    rw[List.take_add_one];simp[Ar,hlt]
   have hlo:k≤(Ar s).length:=by simp[Ar];omega
   refine zb ?_
   (repeat refine W.seq ?_);refine W.reg 1 rfl fun K hK=>?_;simp -implicitDefEqProofs (maxSteps:=999999) (disch:=omega) [hlt]
   refine zk ?_;clear hK K
   refine Mk hlo ?_;intro K hK
   refine⟨by omega,by omega,?_⟩
   refine zk ?_;clear hK K
   refine zs ?_
   refine⟨k+1,by omega,by omega,Wk.cutM (k:=2) (by simp[Ac]) ?_ (by simp) (by simp) (by simp) (by simp)⟩
   rw[hto]
   simp[Cz,AL,Hz]
  .refine W.exit ?_
   have hk' :k=s.vers.length:=by omega
   subst hk'
   have e:(Ar s).take s.vers.length=Ar s:=List.take_of_length_le (by simp[Ar])
   rw[e]
   refine zs ?_
   refine zr ?_
   rw[e]
   simp[Ar]
theorem IA (s:AP) (hs:AZ s):Aa pg 76 [.agg (Ay false s)] [] (fun r _=>r= .int .i64 (Ct s.vers)):=by
 have h1:=hs.1
 refine Aa.start (fn:=Tryz.f76) [.tmp 2] tk rfl rfl rfl (by kernel_rfl) (Nat.le_of_ble_eq_true rfl) rfl (by kernel_rfl) ?_
 rw[At]
 refine z1 ?_;intro K hK;refine zk ?_;clear hK K
 refine zs ?_
 refine zc ?_ ?_<;>intro h
 .refine zs ?_
  refine zr ?_
  simp[Ct,h]
 .refine W.skip ?_
  have hp:0<s.vers.length:=List.length_pos_iff.2 h
  have hlt:s.vers.length-1<s.vers.length:=by omega
  (repeat refine W.seq ?_);refine W.reg 0 rfl fun K hK=>?_;simp -implicitDefEqProofs (maxSteps:=999999) (disch:=omega) [hlt]
  refine⟨by omega,?_⟩
  refine zk ?_;clear hK K
  refine zr ?_
  rw[Ct,List.getLast?_eq_getElem?,List.getElem?_eq_getElem hlt]
theorem Rs (v:Cv) (id:Int):Aa pg 124 ([.agg (A8 v)]++[.rptr [.int .i64 id]]) [] (fun r _=>r= .bool (decide (v.id=id))):=by
 refine Aa.start (fn:=Tryz.f124) [.tmp 3] tk rfl rfl rfl (by kernel_rfl) (Nat.le_of_ble_eq_true rfl) rfl (by kernel_rfl) ?_
 simp only[List.cons_append,List.nil_append]
 rw[Am]
 refine z1 ?_;intro K hK;refine zk ?_;clear hK K
 refine zs ?_
 exact zR
theorem Kz (s:AP) (id:Int) (hs:AZ s):Aa pg 82 [.agg (Ay false s),.int .i64 id] [] (fun r _=>r= .int .i64 (BM (fun v=>decide (v.id=id)) s.vers)):=by
 have h1:=hs.1
 refine Aa.start (fn:=Tryz.f82) [.tmp 4] tk rfl rfl rfl (by kernel_rfl) (Nat.le_of_ble_eq_true rfl) rfl (by kernel_rfl) ?_
 rw[Am]
 refine z2 ?_;intro K hK;refine zk ?_;clear hK K
 refine z0 ?_;intro K hK
 refine Ab.eq (OL s.vers 124 [.rptr [.int .i64 id]] (fun v=>decide (v.id=id)) (by omega) (fun v _=>Rs v id) (by simp)) (by simp) (by simp) ?_
 refine zx ?_
 refine zk ?_;clear hK K
 exact zR
theorem Rt (b:CL) (hb:b.data.size<1000000000):Aa pg 120 [.agg (Ch b)] [] (fun r _=>r= .int .i64 (HA b)):=by
 refine Aa.start (fn:=Tryz.f120) [.tmp 2] tk rfl rfl rfl (by kernel_rfl) (Nat.le_of_ble_eq_true rfl) rfl (by kernel_rfl) ?_
 rw[At]
 refine z1 ?_;intro K hK;refine zk ?_;clear hK K
 refine z0 ?_;intro K hK
 refine zk ?_;clear hK K
 refine zr ?_
 unfold HA
 congr 1
 omega
theorem Ru (n:Int):Aa pg 160 [.int .i64 n] [] (fun r _=>r= .bool (decide (1≤n∧n≤100))):=by
 refine Aa.start (fn:=Tryz.f160) [.tmp 2] tk rfl rfl rfl (by kernel_rfl) (Nat.le_of_ble_eq_true rfl) rfl (by kernel_rfl) ?_
 rw[At]
 refine zs ?_
 by_cases h1:1≤n
 .refine Ae h1 ?_;intro K hK
  refine zk ?_;clear hK K
  exact zR
 .refine Ae h1 ?_;intro K hK
  refine zk ?_;clear hK K
  exact zR
theorem MD (s:AP) (id:Int) (hs:AZ s) (hm:CQ (Ar s)) (B2:id≠0):Aa pg 83 [.agg (Ay false s),.int .i64 id] [] (fun r _=>r= .agg (AQ true (By (Ar s) id).1)):=by
 have h1:=hs.1
 refine Aa.start (fn:=Tryz.f83) [.cell 4 51] tk rfl rfl rfl (by kernel_rfl) (Nat.le_of_ble_eq_true rfl) rfl (by kernel_rfl) ?_
 rw[Am]
 refine z2 ?_;intro K hK;refine zk ?_;clear hK K
 refine Ae B2 ?_;intro K hK
 refine zk ?_;clear hK K
 refine zn ?_
 refine W.skip ?_
 refine z1 ?_;intro K hK
 refine Ab.eq (J2 s hs) (by simp) (by simp) ?_
 refine zx ?_
 refine Ab.eq (U8 (Ar s) id hs.objs hm) (by simp) (by simp) ?_
 refine zx ?_
 refine zk ?_;clear hK K
 refine zs ?_
 exact zR
theorem TX (s:AP):Aa pg 83 [.agg (Ay false s),.int .i64 0] [] (fun r _=>r= .agg (AQ true Au)):=by
 refine Aa.start (fn:=Tryz.f83) [.cell 4 51] tk rfl rfl rfl (by kernel_rfl) (Nat.le_of_ble_eq_true rfl) rfl (by kernel_rfl) ?_
 rw[Am]
 refine z2 ?_;intro K hK;refine zk ?_;clear hK K
 refine zs ?_
 refine zt ?_
 refine z0 ?_;intro K hK
 refine Ab.eq (NM 0 (by omega)) (by simp) (by simp) ?_
 refine zx ?_
 refine zk ?_;clear hK K
 refine zr ?_
 exact⟨rfl,rfl,rfl⟩
def dY (x:Int×Int):List AV:=Al x
theorem ME (s:AP) (hs:AZ s):Aa pg 79 [.agg (Ay false s)] [] (fun r _=>r= .own 2 (AE s).length (Af Al (AE s))):=by
 have h1:=hs.1
 refine Aa.start (fn:=Tryz.f79) [.tmp 2] tk rfl rfl rfl (by kernel_rfl) (Nat.le_of_ble_eq_true rfl) rfl (by kernel_rfl) ?_
 rw[At]
 refine z1 ?_;intro K hK;refine zk ?_;clear hK K
 refine zs ?_
 (repeat refine W.seq ?_);refine W.block (W.loopS (fun k:Nat=> [(2,.tok 1 k 2 0 k),(6,FL false s.vers),(7,.int .i64 s.vers.length),(8,.int .i64 k)]) (fun k=> [.live 0 (Ay false s),.live k (Af Al ((AE s).take k))]) (fun k=>s.vers.length-k) (fun k=>k≤s.vers.length) 0 ((Wk.nil (t:=2) (s:=2) ?_).trans (Wk.fr ?_)) (by simp) ?_)
 .simp
 .simp[Ac]
 .intro k hk
  refine zs ?_
  refine zc ?_ ?_<;>intro h
  .refine W.skip ?_
   have hlt:k<s.vers.length:=by omega
   have hto:(AE s).take (k+1)=(AE s).take k++[(s.vers[k].at_,HA s.vers[k].data)]:=by
    rw[List.take_add_one];simp[AE,hlt]
   have hlo:k≤(AE s).length:=by simp[AE];omega
   have hB:=Rt s.vers[k].data (hs.2.2 _ (List.getElem_mem hlt))
   refine zb ?_
   (repeat refine W.seq ?_);refine W.reg 1 rfl fun K hK=>?_;simp -implicitDefEqProofs (maxSteps:=999999) (disch:=omega) [hlt]
   refine zk ?_;clear hK K
   (repeat refine W.seq ?_);refine W.regd 1 rfl true Cq (by kernel_rfl) fun K hK=>?_;simp -implicitDefEqProofs (maxSteps:=999999) (disch:=omega) [hlo]
   refine Ah.eq hB (by simp) (by simp) ?_
   refine AM hlo ?_
   refine⟨by omega,by omega,?_⟩
   refine zk ?_;clear hK K
   refine zs ?_
   refine⟨k+1,by omega,by omega,Wk.cutM (k:=2) (by simp[Ac]) ?_ (by simp) (by simp) (by simp) (by simp)⟩
   rw[hto]
   simp[Cz,AL,Al]
  .refine W.exit ?_
   have hk' :k=s.vers.length:=by omega
   subst hk'
   have e:(AE s).take s.vers.length=AE s:=List.take_of_length_le (by simp[AE])
   rw[e]
   refine zs ?_
   refine zr ?_
   rw[e]
   simp[AE]
end Go.Abs
set_option maxRecDepth 100000
namespace Go.Abs
open Go.Proofs
theorem IB (l:List Cv):Gc l=false↔∀i (h:i<l.length),i=l.length-1→l[i].gone=false:=by
 rw[Gc,List.getLast?_eq_getElem?]
 by_cases h:0<l.length
 .rw[List.getElem?_eq_getElem (by omega)]
  constructor
  .intro g i hi e;subst e;exact g
  .intro g;exact g _ (by omega) rfl
 .rw[List.getElem?_eq_none (by omega)]
  simp
  intro i hi;omega
theorem KA (s:AP) (hs:AZ s):Aa pg 154 [.agg (Ay false s)] [] (fun r _=>r= .bool (decide (Fk s))):=by
 have h1:=hs.1
 refine Aa.start (fn:=Tryz.f154) [.tmp 2] tk rfl rfl rfl (by kernel_rfl) (Nat.le_of_ble_eq_true rfl) rfl (by kernel_rfl) ?_
 rw[At]
 refine z1 ?_;intro K hK;refine zk ?_;clear hK K
 by_cases c1:s.keep<1
 .refine Ae c1 ?_;intro K hK
  refine zk ?_;clear hK K
  refine zt ?_
  refine zs ?_
  refine zr ?_
  intro g;have:=g.1;omega
 by_cases c2:s.keep≤8
 rotate_left
 .refine Ae (an c1 c2) ?_;intro K hK
  refine zk ?_;clear hK K
  refine zt ?_
  refine zs ?_
  refine zr ?_
  intro g;have:=g.2.1;omega
 by_cases c3:s.blocks<1
 .refine Ae (an c1 (an c2 c3)) ?_;intro K hK
  refine zk ?_;clear hK K
  refine zt ?_
  refine zs ?_
  refine zr ?_
  intro g;have:=g.2.2.1;omega
 by_cases c4:s.blocks≤100
 rotate_left
 .refine Ae (an c1 (an c2 (an c3 c4))) ?_;intro K hK
  refine zk ?_;clear hK K
  refine zt ?_
  refine zs ?_
  refine zr ?_
  intro g;have:=g.2.2.2.1;omega
 refine Ae (an c1 (an c2 (an c3 c4))) ?_;intro K hK
 refine zk ?_;clear hK K
 refine zn ?_
 refine W.skip ?_
 refine zs ?_
 (repeat refine W.seq ?_);refine W.block (W.loopS (fun k:Nat=> [(1,.ptr 0 0 0),(24,FL false s.vers),(25,.int .i64 s.vers.length),(26,.int .i64 k)]) (fun k=> [.live 0 (Ay false s)]) (fun k=>s.vers.length-k) (fun k=>k≤s.vers.length∧∀i (h:i<s.vers.length),i<k→Gx s.vers[i]∧(i=s.vers.length-1→s.vers[i].gone=false)) 0 (Wk.fr (by simp[Ac])) (by simp) ?_)
 rintro k ⟨hk,ht⟩
 refine zs ?_
 refine zc ?_ ?_<;>intro h
 .refine W.skip ?_
  have hlt:k<s.vers.length:=by omega
  have bad:¬(Gx s.vers[k]∧(k=s.vers.length-1→s.vers[k].gone=false))→¬Fk s:=fun g w=>g ⟨w.2.2.2.2.1 _ (List.getElem_mem hlt),fun e=>(IB _).1 w.2.2.2.2.2.1 k hlt e⟩
  refine zb ?_
  (repeat refine W.seq ?_);refine W.reg 1 rfl fun K hK=>?_;simp -implicitDefEqProofs (maxSteps:=999999) (disch:=omega) [hlt]
  refine zk ?_;clear hK K
  have fail:¬(Gx s.vers[k]∧(k=s.vers.length-1→s.vers[k].gone=false))→¬Fk s:=bad
  generalize hv:s.vers[k]=v at*
  by_cases d1:v.parent<0
  .refine Ae d1 ?_;intro K hK
   refine zk ?_;clear hK K
   refine zt ?_
   refine zs ?_
   refine zr ?_
   exact bad fun g=>by have:=g.1.1;omega
  by_cases d2:v.parent<v.id
  rotate_left
  .refine Ae (an d1 d2) ?_;intro K hK
   refine zk ?_;clear hK K
   refine zt ?_
   refine zs ?_
   refine zr ?_
   exact bad fun g=>d2 g.1.2.1
  cases d3:v.gone
  .cases d4:v.tag
   all_goals
    refine Ae (an d1 (an d2 (an d3 d4))) ?_;intro K hK
    refine zk ?_;clear hK K
    refine zn ?_
    refine W.skip ?_
    refine zs ?_
    refine⟨k+1,by omega,⟨by omega,fun i hi hik=>?_⟩,Wk.cutM (k:=1) (by simp[Ac]) (by simp) (by simp) (by simp) (by simp) (by simp)⟩
    by_cases e:i=k
    .subst e;rw[hv];exact⟨⟨by omega,d2,by simp[d3]⟩,fun _=>d3⟩
    .exact ht i hi (by omega)
  .cases d4:v.tag
   .by_cases d5:k=s.vers.length-1
    .have d5' :(k:Int)=(s.vers.length:Int)-1:=by omega
     refine Ae (an d1 (an d2 (an d3 (an d4 d5')))) ?_;intro K hK
     refine zk ?_;clear hK K
     refine zt ?_
     refine zs ?_
     refine zr ?_
     exact bad fun g=>by have:=g.2 d5;simp[d3] at this
    .have d5' :¬(k:Int)=(s.vers.length:Int)-1:=by omega
     refine Ae (an d1 (an d2 (an d3 (an d4 d5')))) ?_;intro K hK
     refine zk ?_;clear hK K
     refine zn ?_
     refine W.skip ?_
     refine zs ?_
     refine⟨k+1,by omega,⟨by omega,fun i hi hik=>?_⟩,Wk.cutM (k:=1) (by simp[Ac]) (by simp) (by simp) (by simp) (by simp) (by simp)⟩
     by_cases e:i=k
     .subst e;rw[hv];exact⟨⟨by omega,d2,by simp[d4]⟩,fun e=>absurd e d5⟩
     .exact ht i hi (by omega)
   .refine Ae (an d1 (an d2 (an d3 d4))) ?_;intro K hK
    refine zk ?_;clear hK K
    refine zt ?_
    refine zs ?_
    refine zr ?_
    exact bad fun g=>g.1.2.2 ⟨d4,d3⟩
 .refine W.exit ?_
  have hk' :k=s.vers.length:=by omega
  refine z0 ?_;intro K hK
  refine Ab.eq (J2 s hs) (by simp) (by simp) ?_
  refine zx ?_
  refine Ab.eq (U5 (Ar s) hs.objs) (by simp) (by simp) ?_
  refine zx ?_
  refine zk ?_;clear hK K
  refine zr ?_
  constructor
  .intro hm
   exact⟨by omega,c2,by omega,c4,fun v hv=>by
    obtain⟨i,hi,rfl⟩:=List.mem_iff_getElem.1 hv
    exact(ht i hi (by omega)).1,(IB _).2 fun i hi e=>(ht i hi (by omega)).2 e,hm⟩
  .intro w;exact w.2.2.2.2.2.2
end Go.Abs
