/- Graphs: may one be? -/
import Derived.Test.YtoklapibcmnaeaaGreatP7
set_option linter.unusedVariables false
set_option linter.unusedSimpArgs false
set_option maxRecDepth 100000
namespace Go.Abs
open Go.Proofs
def EA (g:Gr):Prop:=g.out.length<1000000000∧∀l∈g.out,l.length<1000000000
theorem JN (out:List (List Int)) (k:Nat):Cg (out.take k)≤Cg out:=by
 have:Cg out=Cg (out.take k)+Cg (out.drop k):=by rw[Cg,Cg,Cg,←List.sum_append,←List.map_append,List.take_append_drop]
 omega
theorem JO {out:List (List Int)} {k:Nat} (hk:k<out.length):Cg (out.take (k+1))=Cg (out.take k)+out[k].length:=by
 have e:out.take (k+1)=out.take k++[out[k]]:=by rw[List.take_add_one,List.getElem?_eq_getElem hk];rfl
 rw[e,Cg,List.map_append,List.sum_append];simp[Cg]
theorem Uy (g:Gr) (h1:g.out.length<1000000000) (h2:Cg g.out<4611686018427387904):Aa pg 216 [.agg (AO false g)] [] (fun r _=>r= .int .i64 (Cg g.out)):=by
 refine Aa.start (fn:=Tryz.f216) [.tmp 2] tk rfl rfl rfl (by kernel_rfl) (Nat.le_of_ble_eq_true rfl) rfl (by kernel_rfl) ?_
 rw[As]
 refine z1 ?_;intro K hK;refine zk ?_;clear hK K
 refine zs ?_
 refine zs ?_
 (repeat refine W.seq ?_);refine W.block (W.loopS (fun k:Nat=> [(3,.int .i64 (Cg (g.out.take k))),(7,DQ false g.out),(8,.int .i64 g.out.length),(9,.int .i64 k)]) (fun _=> []) (fun k=>g.out.length-k) (fun k=>k≤g.out.length) 0 (Wk.cutM (k:=0) (by simp[Ad,Cg]) (by simp) (by simp) (by simp) (by simp) (by simp)) (by simp) ?_)
 intro k hk
 refine zs ?_
 refine zc ?_ ?_<;>intro h
 .refine W.skip ?_
  have hlt:k<g.out.length:=by omega
  have hs:=JO hlt
  have ht:=JN g.out (k+1)
  refine zb ?_
  refine z0 ?_;intro K hK
  refine zk ?_;clear hK K
  refine zs ?_
  refine zs ?_
  refine⟨k+1,by omega,by omega,Wk.fr (by simp[Ad,hs])⟩
 .refine W.exit ?_
  have:k=g.out.length:=by omega
  subst this
  refine zs ?_
  exact zR
theorem Rp (g:Gr) (v:Int):Aa pg 228 [.agg (AO false g),.int .i64 v] [] (fun r _=>r= .bool (decide (0≤v∧v<g.n))):=by
 refine Aa.start (fn:=Tryz.f228) [.tmp 4] tk rfl rfl rfl (by kernel_rfl) (Nat.le_of_ble_eq_true rfl) rfl (by kernel_rfl) ?_
 rw[Aq]
 refine z1 ?_;intro K hK;refine zk ?_;clear hK K
 by_cases h:0≤v
 .refine z0 ?_;intro K hK
  refine zk ?_;clear hK K
  exact zR
 .refine z0 ?_;intro K hK
  refine zk ?_;clear hK K
  exact zR
theorem Mf (n:Nat):Dw n [AV.own 1 0 []]=Ax true (List.replicate n []):=by
 induction n with
 |zero=>rfl
 |succ n ih=>rw[List.replicate_succ,Dk,←ih];rfl
theorem Tl (n:Nat) (hn:n<1000000):Aa pg 125 [.int .i64 n] [] (fun r _=>r= .agg (AO true ⟨n,List.replicate n []⟩)):=by
 refine Aa.start (fn:=Tryz.f125) [.cell 2 51] tk rfl rfl rfl (by kernel_rfl) (Nat.le_of_ble_eq_true rfl) rfl (by kernel_rfl) ?_
 rw[As]
 refine z1 ?_;intro K hK;refine zk ?_;clear hK K
 refine z1 ?_;intro K hK
 refine zk ?_;clear hK K
 refine zr ?_
 simp[Mf]
def EZ (n:Int) (l:List Int):Prop:=AG l∧∀x∈l,x<n
instance (n:Int) (l:List Int):Decidable (EZ n l):=inferInstanceAs (Decidable (_∧_))
theorem KU {n:Int} {l:List Int} (hm:AG l) (h:0<l.length):EZ n l↔l[l.length-1]<n:=by
 constructor
 .intro⟨_,h2⟩;exact h2 _ (List.getElem_mem _)
 .intro h2
  refine⟨hm,fun x hx=>?_⟩
  obtain⟨i,hi,rfl⟩:=List.mem_iff_getElem.1 hx
  by_cases e:i=l.length-1
  .subst e;exact h2
  .have:=List.pairwise_iff_getElem.1 hm.2 i (l.length-1) hi (by omega) (by omega)
   omega
theorem HJ {α:Type} {l:List α} {k:Nat} (hk:k<l.length) (x:α):x∈l.take (k+1)↔x∈l.take k∨x=l[k]:=by
 have e:l.take (k+1)=l.take k++[l[k]]:=by rw[List.take_add_one,List.getElem?_eq_getElem hk];rfl
 rw[e,List.mem_append,List.mem_singleton]
theorem In {n:Int}:∀{out:List (List Int)},(∀l∈out,EZ n l)→Cg out≤16*out.length
 | [],_=>by simp[Cg]
 |l::out,h=>by
  have h1:=BK (h l (by simp)).1
  have h2:=In (out:=out) fun x hx=>h x (by simp[hx])
  simp[Cg] at*;omega
theorem JP (g:Gr) (hg:EA g):Aa pg 192 [.agg (AO false g)] [] (fun r _=>r= .bool (decide (A1 g))):=by
 obtain⟨h1,h2⟩:=hg
 refine Aa.start (fn:=Tryz.f192) [.tmp 2] tk rfl rfl rfl (by kernel_rfl) (Nat.le_of_ble_eq_true rfl) rfl (by kernel_rfl) ?_
 rw[As]
 refine z1 ?_;intro K hK;refine zk ?_;clear hK K
 by_cases hbad:¬(0≤g.n∧g.n≤16∧(g.out.length:Int)=g.n)
 .have hm:¬A1 g:=fun h=>hbad ⟨h.1,h.2.1,h.2.2.1⟩
  (repeat refine W.seq ?_);refine W.midS (fun _:Unit=> [(20,.bool true)]) (fun _=> []) (fun _=>True) ?_ ?_
  .by_cases c1:g.n<0
   .refine z0 ?_;intro K hK
    refine zk ?_;clear hK K
    exact⟨(),trivial,Wk.cutM (k:=0) (by simp[Ad]) (by simp) (by simp) (by simp) (by simp) (by simp)⟩
   by_cases c2:16<g.n
   .refine z0 ?_;intro K hK
    refine zk ?_;clear hK K
    exact⟨(),trivial,Wk.cutM (k:=0) (by simp[Ad]) (by simp) (by simp) (by simp) (by simp) (by simp)⟩
   .have c3:¬(g.out.length:Int)=g.n:=fun e=>hbad ⟨by omega,by omega,e⟩
    refine Af c3 ?_;intro K hK
    refine zk ?_;clear hK K
    exact⟨(),trivial,Wk.cutM (k:=0) (by simp[Ad]) (by simp) (by simp) (by simp) (by simp) (by simp)⟩
  .rintro _ _
   refine zt ?_
   refine zs ?_
   refine zr ?_
   exact hm
 .have hbad:=Classical.not_not.1 hbad
  refine Af hbad.2.2 ?_;intro K hK
  refine zk ?_;clear hK K
  refine zn ?_
  refine W.skip ?_
  refine zs ?_
  (repeat refine W.seq ?_);refine W.block (W.loopS (fun k:Nat=> [(1,.ptr 0 0 0),(22,DQ false g.out),(23,.int .i64 g.out.length),(24,.int .i64 k)]) (fun _=> [.live 0 (AO false g)]) (fun k=>g.out.length-k) (fun k=>k≤g.out.length∧∀l∈g.out.take k,EZ g.n l) 0 (Wk.fr (by simp[Ad])) (by simp) ?_)
  rintro k ⟨hk,hinv⟩
  refine zs ?_
  refine zc ?_ ?_<;>intro h
  .refine W.skip ?_
   have hlt:k<g.out.length:=by omega
   have hl2:=h2 _ (List.getElem_mem hlt)
   have hmem:=List.getElem_mem hlt
   refine zb ?_
   refine z0 ?_;intro K hK
   refine zk ?_;clear hK K
   have hmi:=HJ hlt
   generalize g.out[k]=l at hl2 hmem hmi
   (repeat refine W.seq ?_);refine W.midS (fun b:Bool=> [(1,.ptr 0 0 0),(22,DQ false g.out),(23,.int .i64 g.out.length),(24,.int .i64 k),(46,.bool b)]) (fun _=> [.live 0 (AO false g)]) (fun b=>b=false↔EZ g.n l) ?_ ?_
   .refine Co ?_;intro K hK
    refine Ah.eq (Lh l (by omega)) (by simp) (by simp) ?_
    by_cases hm:AG l
    .rw[decide_eq_true hm]
     by_cases h0:0<l.length
     .have hla:=KU (n:=g.n) hm h0
      refine zx ?_
      refine zk ?_;clear hK K
      exact⟨decide (g.n≤l[l.length-1]),by rw[hla];simp,Wk.fr (by simp[Ad])⟩
     .have hl0:l=[]:=List.eq_nil_of_length_eq_zero (by omega)
      subst hl0
      refine zx ?_
      refine zk ?_;clear hK K
      exact⟨false,by simp[EZ,AG],Wk.fr (by simp[Ad])⟩
    .rw[decide_eq_false hm]
     refine zx ?_
     refine zk ?_;clear hK K
     exact⟨true,by simp[EZ,hm],Wk.fr (by simp[Ad])⟩
   .intro b hb
    refine zc ?_ ?_<;>intro h
    .refine zs ?_
     refine zr ?_
     intro h'
     have h3:=h'.2.2.2.1 l hmem
     have h4:=hb.2 h3
     have h5:b=true:=by assumption
     rw[h4] at h5;cases h5
    .refine W.skip ?_
     refine zs ?_
     refine⟨k+1,by omega,⟨by omega,fun x hx=>?_⟩,Wk.fr (by simp[Ad])⟩
     rcases(hmi x).1 hx with h6|h6
     .exact hinv x h6
     .rw[h6];exact hb.1 (by assumption)
  .refine W.exit ?_
   have:k=g.out.length:=by omega
   subst this
   rw[List.take_length] at hinv
   refine z0 ?_;intro K hK
   refine Ab.eq (Uy g h1 (by have:=In hinv;omega)) (by simp) (by simp) ?_
   refine zx ?_
   refine zk ?_;clear hK K
   refine zr ?_
   exact⟨fun h=>⟨hbad.1,hbad.2.1,hbad.2.2,hinv,by omega⟩,fun h=>by have:=h.2.2.2.2;omega⟩
end Go.Abs
set_option maxRecDepth 100000
namespace Go.Abs
open Go.Proofs
def Nq (o:Option (Nat×Nat)):AV:=match o with|some x=> .tup [.int .i64 ((x.1:Int)-1),.int .i64 x.2,.bool true] |none=> .tup [.int .i64 0,.int .i64 0,.bool false]
def Fj (bs:List Bool):Option (Nat×Nat):=match AF bs 0 with|some x=>if x.1≤17 then some x else none|none=>none
theorem PB (b:CI) (hb:CV b):Aa pg 196 [.agg (Cb b)] [] (fun r _=>r=Nq (Fj (Am b))):=by
 refine Aa.start (fn:=Tryz.f196) [.tmp 2,.tmp 3,.tmp 4] tk rfl rfl rfl (by kernel_rfl) (Nat.le_of_ble_eq_true rfl) rfl (by kernel_rfl) ?_
 rw[As]
 refine z1 ?_;intro K hK;refine zk ?_;clear hK K
 refine z0 ?_;intro K hK
 have sp:=Ft b 0 hb (by omega)
 cases hg:AF (Am b) 0 with
 |none=>
  simp only[hg,E2] at sp
  refine Ab.eq sp (by simp) (by simp) ?_
  refine zx ?_
  refine zk ?_;clear hK K
  refine z0 ?_;intro K hK;refine zk ?_;clear hK K
  refine zt ?_
  refine z0 ?_;intro K hK;refine zk ?_;clear hK K
  refine zr ?_
  simp[Fj,hg,Nq]
 |some x=>
  simp only[hg,E2] at sp
  obtain⟨hx1,hx2,hx3,hx4,_⟩:=AH hg
  refine Ab.eq sp (by simp) (by simp) ?_
  refine zx ?_
  refine zk ?_;clear hK K
  refine z0 ?_;intro K hK;refine zk ?_;clear hK K
  refine zc ?_ ?_<;>intro h
  .refine z0 ?_;intro K hK;refine zk ?_;clear hK K
   refine zr ?_
   simp only[Fj,hg];rw[if_neg (by omega)];rfl
  .refine W.skip ?_
   refine z0 ?_;intro K hK;refine zk ?_;clear hK K
   refine zr ?_
   simp only[Fj,hg];rw[if_pos (by omega)];rfl
def QU (f:Nat) (caps:List AV) (rd:Rd) (n:Nat):Prop:=∀(p:Nat) (v:Int),p≤n→0≤v∧v<1000→Aa pg f ([.int .i64 p,.int .i64 v]++caps) [] fun r _=>Im (rd p v) r
def Nr (n:Nat) (o:Option (List (List Int)×Nat)):AV:=match o with
 |some q=> .tup [.agg (AO true ⟨n,q.1⟩),.int .i64 q.2,.bool (decide (A1 ⟨n,q.1⟩))]
 |none=> .tup [.agg (AO true AD),.int .i64 0,.bool false]
theorem Ns (f:Nat) (caps:List AV) (rd:Rd) (n p m:Nat) (hn:n≤16) (hp:p≤m) (hm:m<10000000000) (hf:QU f caps rd m) (hrd:∀p v r,rd p v=some r→0≤v→v<1000→p≤m→r.1.length≤16∧r.2≤m) (hcv:∀M,caps.map (vw M)=caps) (hnm:∀k,Dj k caps=true):
 Aa pg 197 [.int .i64 n,.int .i64 n,.int .i64 p,.fn f caps] [] (fun r _=>r=Nr n (AZ rd n 0 p)):=by
 refine Aa.start (fn:=Tryz.f197) [.cell 8 51,.tmp 9,.tmp 10] tk rfl rfl rfl (by kernel_rfl) (Nat.le_of_ble_eq_true rfl) rfl (by kernel_rfl) ?_
 rw[H9]
 refine z1 ?_;intro K hK;refine zk ?_;clear hK K
 refine z1 ?_;intro K hK
 refine Ab.eq (Tl n (by omega)) (by simp) (by simp) ?_
 refine zx ?_
 refine zk ?_;clear hK K
 refine z0 ?_;intro K hK
 refine zk ?_;clear hK K
 (repeat refine W.seq ?_);refine W.block (W.loopS (fun s:Nat×List (List Int)×Nat=> [(2,.int .i64 s.2.2),(3,.fn f caps),(8,.ptr 0 0 0),(11,.ptr 1 0 0),(18,.int .i64 n),(19,.int .i64 s.1)]) (fun s=> [.live 0 [.int .i64 0,.own 1 0 []],.live 0 [.int .i64 n,.tok 2 0 1 0 n],.live 0 (Ax true (s.2.1++List.replicate (n-s.1) []))]) (fun s=>n-s.1)
   (fun s=>s.1≤n∧s.2.1.length=s.1∧s.2.2≤m∧(∀l∈s.2.1,l.length≤16)∧AZ rd n 0 p=(AZ rd (n-s.1) s.1 s.2.2).map fun r=>(s.2.1++r.1,r.2)) (0,[],p) (Wk.fr (by simp[Ad])) ⟨by omega,rfl,hp,by simp,by simp⟩ ?_)
 rintro⟨k,acc,q⟩ ⟨hk,hacc,hq,hl16,hinv⟩
 simp only at hk hacc hq hl16 hinv
 refine zs ?_
 refine zc ?_ ?_<;>intro h
 .refine W.skip ?_
  obtain⟨d,hd⟩:∃d,n-k=d+1:=⟨n-k-1,by omega⟩
  have hd' :n-(k+1)=d:=by omega
  rw[hd] at hinv
  simp only[AZ] at hinv
  refine zb ?_
  refine zs ?_
  refine z0 ?_;intro K hK
  have sp:=hf q k hq (by omega)
  cases hr:rd q k with
  |none=>
   simp only[hr,Im] at sp hinv
   refine Ab.bor sp (by simp[hcv]) ?_
   rintro _ ⟨xs,a,rfl⟩
   refine⟨by simp,?_⟩
   refine zx ?_
   refine zk ?_;clear hK K
   refine zs ?_
   refine zt ?_
   refine zs ?_
   refine W.weak (Wk.thaw (B:=0) (v:=0) (j:=1) (s:=1) (n:=0) (cs:=[.int .i64 0,.own 1 0 []]) (xs:=[]) rfl rfl) ?_
   refine zr ?_
   rw[hinv];rfl
  |some r=>
   simp only[hr,Im] at sp hinv
   have hr2:=hrd _ _ _ hr (by omega) (by omega) hq
   refine Ab.eq sp (by simp[hcv]) (by simp) ?_
   refine zx ?_
   refine zk ?_;clear hK K
   refine zs ?_
   refine zn ?_
   refine W.skip ?_
   refine z0 ?_;intro K hK
   refine zk ?_;clear hK K
   refine zs ?_
   have hln:(Ax true (acc++List.replicate (n-k) [])).length=n:=by simp;omega
   refine⟨(k+1,acc++[r.1],r.2),by simp;omega,⟨by simp;omega,by simp;omega,hr2.2,?_,?_⟩,(Wk.intern (B:=2) (v:=0) (j:=k) (T:=3) (u:=0) (s:=1) (off:=0) (n:=r.1.length) (cs:=(Ax true (acc++List.replicate (n-k) [])).set k (AV.tok 3 0 1 0 r.1.length)) (xs:=Ac r.1) (by simp) ?_ (by simp) (by simp) (by simp) (by simp)).trans (Wk.cutM (k:=3) (by simp[Ad]) ?_ (by simp) (by simp[hnm]) (by simp) (by simp))⟩
   .intro l hl
    simp at hl
    rcases hl with hl|rfl
    .exact hl16 l hl
    .exact hr2.1
   .rw[hinv,hd']
    simp only[Int.natCast_add,Int.cast_ofNat_Int]
    cases AZ rd d ((k:Int)+1) r.2<;>simp
   .rw[List.getElem?_set_self (by omega)]
   .have e:n-k=(n-(k+1))+1:=by omega
    rw[e,List.replicate_succ]
    simp[Ax,←hacc,Ac];rw[List.take_of_length_le (by simp)]
 .refine W.exit ?_
  have hkn:k=n:=by omega
  subst hkn
  simp[AZ] at hinv
  subst hacc
  refine Co ?_;intro K hK
  refine Ah.eq (JP ⟨acc.length,acc⟩ ⟨by simp;omega,fun l hl=>by have:=hl16 l hl;omega⟩) (by simp) (by simp) ?_
  refine zx ?_
  refine zk ?_;clear hK K
  refine zr ?_
  rw[hinv]
  simp[Nr]
end Go.Abs
set_option maxRecDepth 100000
namespace Go.Abs
open Go.Proofs
def KV (o:Option Gr) (r:AV):Prop:=match o with
 |some g=>r= .tup [.agg (AO true g),.bool true]
 |none=>∃g:Gr,r= .tup [.agg (AO true g),.bool false]
theorem KW (bs:List Bool) (rd:Rd):Cp bs rd=match Fj bs with
 |none=>none
 |some x=>match AZ rd (x.1-1) 0 x.2 with
  |none=>none
  |some r=>if r.2=bs.length∧A1 ⟨(x.1:Int)-1,r.1⟩ then some ⟨(x.1:Int)-1,r.1⟩ else none:=by
 unfold Cp Fj
 cases AF bs 0 with
 |none=>rfl
 |some x=>simp only;split<;>rfl
theorem QV (b:CI) (hb:CV b):QU 198 [.rptr (Cb b)] (CO (Am b)) (Am b).length:=by
 intro p v hp hv
 have hl:=BM b
 have h2:=hb.2.1;have h3:=hb.2.2;have h0:=hb.1
 refine Aa.start (fn:=Tryz.f198) [.tmp 5,.tmp 6,.tmp 7] tk rfl rfl rfl (by kernel_rfl) (Nat.le_of_ble_eq_true rfl) rfl (by kernel_rfl) ?_
 simp only[List.cons_append,List.nil_append]
 rw[Bm]
 refine zs ?_
 refine z0 ?_;intro K hK
 have sp:=JM b p v hb (by omega) (by omega)
 cases hr:CO (Am b) p v with
 |none=>
  simp only[hr,Im] at sp
  refine Ab.bor sp (by simp) ?_
  rintro _ ⟨xs,a,rfl⟩
  refine⟨by simp,?_⟩
  refine zx ?_
  refine zk ?_;clear hK K
  refine zr ?_
  rw[hr]
  exact⟨xs,a,rfl⟩
 |some r=>
  simp only[hr,Im] at sp
  refine Ab.eq sp (by simp) (by simp) ?_
  refine zx ?_
  refine zk ?_;clear hK K
  refine zr ?_
  rw[hr]
  rfl
theorem Tm (b:CI) (hb:CV b):Aa pg 164 [.agg (Cb b)] [] (fun r _=>KV (Ce (Am b)) r):=by
 have hl:=BM b
 have h2:=hb.2.1;have h3:=hb.2.2;have h0:=hb.1
 have e0:=KW (Am b) (CO (Am b))
 refine Aa.start (fn:=Tryz.f164) [.cell 2 51,.tmp 3] tk rfl rfl rfl (by kernel_rfl) (Nat.le_of_ble_eq_true rfl) rfl (by kernel_rfl) ?_
 rw[As]
 refine z2 ?_;intro K hK;refine zk ?_;clear hK K
 refine z0 ?_;intro K hK
 have sp:=PB b hb
 cases hh:Fj (Am b) with
 |none=>
  simp only[hh,Nq] at sp e0
  refine Ab.eq sp (by simp) (by simp) ?_
  refine zx ?_
  refine zk ?_;clear hK K
  refine zs ?_
  refine zt ?_
  refine zs ?_
  refine W.weak (Wk.thaw (B:=1) (v:=0) (j:=1) (s:=1) (n:=0) (cs:=[.int .i64 0,.own 1 0 []]) (xs:=[]) rfl rfl) ?_
  refine zr ?_
  rw[Ce,e0]
  exact⟨AD,rfl⟩
 |some x=>
  have hx:x.1≤17∧AF (Am b) 0=some x:=by
   unfold Fj at hh
   split at hh
   .rename_i y hy
    split at hh
    .simp at hh;subst hh;exact⟨by assumption,hy⟩
    .simp at hh
   .simp at hh
  obtain⟨hx1,hx2,hx3,hx4,_⟩:=AH hx.2
  have ex:(x.1:Int)-1=((x.1-1:Nat):Int):=by omega
  simp only[hh,Nq] at sp e0
  rw[ex] at sp e0
  refine Ab.eq sp (by simp) (by simp) ?_
  refine zx ?_
  refine zk ?_;clear hK K
  refine zs ?_
  refine zn ?_
  refine W.skip ?_
  refine z1 ?_;intro K hK
  have sp:=Ns 198 [.rptr (Cb b)] (CO (Am b)) (x.1-1) x.2 (Am b).length (by omega) (by omega) (by omega) (QV b hb) (fun p v r h h1 h2 h3=>by have:=Hr (by omega) h;exact⟨this.2.1,this.2.2.2⟩) (by simp) (by simp)
  cases hli:AZ (CO (Am b)) (x.1-1) 0 x.2 with
  |none=>
   simp only[hli,Nr] at sp e0
   refine Ab.eq sp (by simp) (by simp[AD]) ?_
   refine zx ?_
   refine zk ?_;clear hK K
   (repeat refine W.seq ?_);refine W.regdX 0 [(31,2),(31,27)] rfl true Cc (by kernel_rfl) fun K hK=>?_;simp -implicitDefEqProofs (maxSteps:=999999) (disch:=omega)
   (repeat refine⟨by first|assumption|omega,?_⟩);refine hK _ _ (by simp(disch:=omega)) ?_;clear hK K
   refine zr ?_
   rw[Ce,e0]
   exact⟨AD,rfl⟩
  |some q=>
   simp only[hli,Nr] at sp e0
   refine Ab.eq sp (by simp) (by simp) ?_
   by_cases hm:A1 ⟨((x.1-1:Nat):Int),q.1⟩
   .rw[decide_eq_true hm]
    refine zx ?_
    refine zk ?_;clear hK K
    (repeat refine W.seq ?_);refine W.regdX 0 [(31,2),(31,27)] rfl true Cc (by kernel_rfl) fun K hK=>?_;simp -implicitDefEqProofs (maxSteps:=999999) (disch:=omega)
    (repeat refine⟨by first|assumption|omega,?_⟩);refine hK _ _ (by simp(disch:=omega)) ?_;clear hK K
    refine zr ?_
    rw[Ce,e0]
    by_cases hq:q.2=(Am b).length
    .rw[if_pos ⟨hq,hm⟩]
     simp[KV]
     omega
    .rw[if_neg (fun h=>hq h.1)]
     refine⟨⟨((x.1-1:Nat):Int),q.1⟩,?_⟩
     simp
     omega
   .rw[decide_eq_false hm]
    refine zx ?_
    refine zk ?_;clear hK K
    (repeat refine W.seq ?_);refine W.regdX 0 [(31,2),(31,27)] rfl true Cc (by kernel_rfl) fun K hK=>?_;simp -implicitDefEqProofs (maxSteps:=999999) (disch:=omega)
    (repeat refine⟨by first|assumption|omega,?_⟩);refine hK _ _ (by simp(disch:=omega)) ?_;clear hK K
    refine zr ?_
    rw[Ce,e0,if_neg (fun h=>hm h.2)]
    exact⟨⟨((x.1-1:Nat):Int),q.1⟩,by simp⟩
theorem Tn (g:Gr) (v:Int) (h0:0≤v) (hg:(g.out.length:Int)=g.n):Aa pg 202 [.agg (AO false g),.int .i64 v] [] (fun r _=>r= .ro (Az g v).length (Ac (Az g v))∨Az g v=[]∧r= .own 1 0 []):=by
 refine Aa.start (fn:=Tryz.f202) [.tmp 4] tk rfl rfl rfl (by kernel_rfl) (Nat.le_of_ble_eq_true rfl) rfl (by kernel_rfl) ?_
 rw[Aq]
 refine z1 ?_;intro K hK;refine zk ?_;clear hK K
 refine z0 ?_;intro K hK
 refine Ab.eq (Rp g v) (by simp) (by simp) ?_
 by_cases h:0≤v∧v<g.n
 .rw[decide_eq_true h]
  refine zx ?_
  refine zk ?_;clear hK K
  refine zn ?_
  refine W.skip ?_
  obtain⟨n,rfl⟩:=Int.eq_ofNat_of_zero_le h.1
  have hlt:n<g.out.length:=by omega
  (repeat refine W.seq ?_);refine W.reg 0 rfl fun K hK=>?_;simp -implicitDefEqProofs (maxSteps:=999999) (disch:=omega) [hlt]
  refine zk ?_;clear hK K
  refine zr ?_
  simp[Az,List.getD,hlt]
 .rw[decide_eq_false h]
  refine zx ?_
  refine zk ?_;clear hK K
  refine zt ?_
  refine zs ?_
  refine zr ?_
  show Az g v=[]
  unfold Az
  rw[List.getD_eq_getElem?_getD,List.getElem?_eq_none (by omega)]
  rfl
theorem JQ {bs:List Bool} {p:Nat} {v:Int} {ref:List Int} {r:List Int×Nat} (hv:-100000≤v∧v≤100000) (h:Cr bs p v ref=some r):AG r.1∧r.1.length≤16∧r.2≤bs.length:=by
 unfold Cr at h
 split at h
 .simp at h
 .split at h
  .split at h
   .simp at h
   .split at h
    .simp at h
    .rename_i r0 hr0
     have g0:=Hr hv hr0
     split at h
     .rename_i l hl
      simp at h;subst h
      unfold Cj at hl
      split at hl
      .simp at hl
      .split at hl
       .rename_i hm
        simp at hl;subst hl
        exact⟨hm.1,BK hm.1,g0.2.2.2⟩
       .simp at hl
     .simp at h
  .simp at h
theorem QW (b:CI) (g:Gr) (hb:CV b) (hg:A1 g):QU 200 [.rptr (Cb b),.rptr (AO false g)] (fun p v=>Cr (Am b) p v (Az g v)) (Am b).length:=by
 intro p v hp hv
 have hl:=BM b
 have h2:=hb.2.1;have h3:=hb.2.2;have h0:=hb.1
 have hbl:(Az g v).length≤16:=by
  unfold Az
  rw[List.getD_eq_getElem?_getD]
  cases hq:g.out[v.toNat]? with
  |none=>simp
  |some l=>exact BK (hg.2.2.2.1 l (List.mem_of_getElem? hq)).1
 refine Aa.start (fn:=Tryz.f200) [.tmp 6,.tmp 7,.tmp 8] tk rfl rfl rfl (by kernel_rfl) (Nat.le_of_ble_eq_true rfl) rfl (by kernel_rfl) ?_
 simp only[List.cons_append,List.nil_append]
 rw[H9]
 refine zs ?_
 refine Co ?_;intro K hK
 refine⟨_,_,Tn g v hv.1 hg.2.2.1,.inr ⟨by simp,?_⟩⟩
 have sp:=Md b p v (Az g v) hb (by omega) (by omega) (by omega)
 rintro r hr
 cases hc:Cr (Am b) p v (Az g v) with
 |none=>
  simp only[hc,Im] at sp
  rcases hr with rfl| ⟨h1,rfl⟩
  .refine zx ?_
   refine⟨_,_,sp,.inr ⟨by simp,?_⟩⟩
   rintro _ ⟨xs,a,rfl⟩
   refine zx ?_
   refine zk ?_;clear hK K
   refine zr ?_
   rw[hc]
   exact⟨xs,a,rfl⟩
  .refine zx ?_
   rw[h1] at sp
   refine⟨_,_,sp,.inl ⟨rfl,⟨[],by simp[Bu]⟩,?_⟩⟩
   rintro _ ⟨xs,a,rfl⟩
   refine⟨by simp,?_⟩
   refine zx ?_
   refine zk ?_;clear hK K
   refine zr ?_
   rw[hc]
   exact⟨xs,a,rfl⟩
 |some q=>
  simp only[hc,Im] at sp
  rcases hr with rfl| ⟨h1,rfl⟩
  .refine zx ?_
   refine Ah.eqr sp (by simp) ?_
   refine zx ?_
   refine zk ?_;clear hK K
   refine zr ?_
   rw[hc]
   rfl
  .refine zx ?_
   rw[h1] at sp
   refine Ah.eq sp (by simp) (by simp) ?_
   refine zx ?_
   refine zk ?_;clear hK K
   refine zr ?_
   rw[hc]
   rfl
theorem To (b:CI) (g:Gr) (hb:CV b) (hg:A1 g):Aa pg 165 [.agg (AO false g),.agg (Cb b)] [] (fun r _=>KV (Cf g (Am b)) r):=by
 have hl:=BM b
 have h2:=hb.2.1;have h3:=hb.2.2;have h0:=hb.1
 have e0:=KW (Am b) (fun p v=>Cr (Am b) p v (Az g v))
 refine Aa.start (fn:=Tryz.f165) [.cell 4 51,.tmp 5] tk rfl rfl rfl (by kernel_rfl) (Nat.le_of_ble_eq_true rfl) rfl (by kernel_rfl) ?_
 rw[Aq]
 refine z3 ?_;intro K hK;refine zk ?_;clear hK K
 refine z0 ?_;intro K hK
 have sp:=PB b hb
 cases hh:Fj (Am b) with
 |none=>
  simp only[hh,Nq] at sp e0
  refine Ab.eq sp (by simp) (by simp) ?_
  refine zx ?_
  refine zk ?_;clear hK K
  refine zs ?_
  refine zt ?_
  refine zs ?_
  refine W.weak (Wk.thaw (B:=2) (v:=0) (j:=1) (s:=1) (n:=0) (cs:=[.int .i64 0,.own 1 0 []]) (xs:=[]) rfl rfl) ?_
  refine zr ?_
  rw[Cf,e0]
  exact⟨AD,rfl⟩
 |some x=>
  have hx:x.1≤17∧AF (Am b) 0=some x:=by
   unfold Fj at hh
   split at hh
   .rename_i y hy
    split at hh
    .simp at hh;subst hh;exact⟨by assumption,hy⟩
    .simp at hh
   .simp at hh
  obtain⟨hx1,hx2,hx3,hx4,_⟩:=AH hx.2
  have ex:(x.1:Int)-1=((x.1-1:Nat):Int):=by omega
  simp only[hh,Nq] at sp e0
  rw[ex] at sp e0
  refine Ab.eq sp (by simp) (by simp) ?_
  refine zx ?_
  refine zk ?_;clear hK K
  refine zs ?_
  refine zn ?_
  refine W.skip ?_
  refine z1 ?_;intro K hK
  have sp:=Ns 200 [.rptr (Cb b),.rptr (AO false g)] (fun p v=>Cr (Am b) p v (Az g v)) (x.1-1) x.2 (Am b).length (by omega) (by omega) (by omega) (QW b g hb hg) (fun p v r h h1 h2 h3=>by have:=JQ (by omega) h;exact⟨this.2.1,this.2.2⟩) (by simp) (by simp)
  cases hli:AZ (fun p v=>Cr (Am b) p v (Az g v)) (x.1-1) 0 x.2 with
  |none=>
   simp only[hli,Nr] at sp e0
   refine Ab.eq sp (by simp) (by simp[AD]) ?_
   refine zx ?_
   refine zk ?_;clear hK K
   (repeat refine W.seq ?_);refine W.regdX 0 [(33,4),(33,29)] rfl true Cc (by kernel_rfl) fun K hK=>?_;simp -implicitDefEqProofs (maxSteps:=999999) (disch:=omega)
   (repeat refine⟨by first|assumption|omega,?_⟩);refine hK _ _ (by simp(disch:=omega)) ?_;clear hK K
   refine zr ?_
   rw[Cf,e0]
   exact⟨AD,rfl⟩
  |some q=>
   simp only[hli,Nr] at sp e0
   refine Ab.eq sp (by simp) (by simp) ?_
   by_cases hm:A1 ⟨((x.1-1:Nat):Int),q.1⟩
   .rw[decide_eq_true hm]
    refine zx ?_
    refine zk ?_;clear hK K
    (repeat refine W.seq ?_);refine W.regdX 0 [(33,4),(33,29)] rfl true Cc (by kernel_rfl) fun K hK=>?_;simp -implicitDefEqProofs (maxSteps:=999999) (disch:=omega)
    (repeat refine⟨by first|assumption|omega,?_⟩);refine hK _ _ (by simp(disch:=omega)) ?_;clear hK K
    refine zr ?_
    rw[Cf,e0]
    by_cases hq:q.2=(Am b).length
    .rw[if_pos ⟨hq,hm⟩]
     simp[KV]
     omega
    .rw[if_neg (fun h=>hq h.1)]
     refine⟨⟨((x.1-1:Nat):Int),q.1⟩,?_⟩
     simp
     omega
   .rw[decide_eq_false hm]
    refine zx ?_
    refine zk ?_;clear hK K
    (repeat refine W.seq ?_);refine W.regdX 0 [(33,4),(33,29)] rfl true Cc (by kernel_rfl) fun K hK=>?_;simp -implicitDefEqProofs (maxSteps:=999999) (disch:=omega)
    (repeat refine⟨by first|assumption|omega,?_⟩);refine hK _ _ (by simp(disch:=omega)) ?_;clear hK K
    refine zr ?_
    rw[Cf,e0,if_neg (fun h=>hm h.2)]
    exact⟨⟨((x.1-1:Nat):Int),q.1⟩,by simp⟩
end Go.Abs
set_option maxRecDepth 100000
namespace Go.Abs
open Go.Proofs
theorem Ol (xs:List Obj) (f:Nat) (caps:List AV) (p:Obj→Bool) (hx:xs.length<1000000000000) (hf:∀x∈xs,Aa pg f ([.agg (Au x)]++caps) [] fun r _=>r= .bool (p x)) (hcv:∀M,caps.map (vw M)=caps):
 Aa pg 210 [.ro xs.length (Ag Au xs),.fn f caps] [] (fun r _=>r= .int .i64 (BX p xs)):=by
 refine Aa.start (fn:=Tryz.f210) [.tmp 4] tk rfl rfl rfl (by kernel_rfl) (Nat.le_of_ble_eq_true rfl) rfl (by kernel_rfl) ?_
 rw[Aq]
 refine zs ?_
 refine zs ?_
 (repeat refine W.seq ?_);refine W.block (W.loopS (fun k:Nat=> [(0,.ro xs.length (Ag Au xs)),(1,.fn f caps),(7,.int .i64 xs.length),(8,.int .i64 k)]) (fun _=> []) (fun k=>xs.length-k) (fun k=>k≤xs.length∧∀i (h:i<xs.length),i<k→p xs[i]=false) 0 (Wk.fr ?_) (by simp) ?_)
 .simp[Ad]
 .rintro k ⟨hk,ht⟩
  refine zs ?_
  refine zc ?_ ?_<;>intro h
  .refine W.skip ?_
   have hlt:k<xs.length:=by omega
   refine zb ?_
   refine zs ?_
   (repeat refine W.seq ?_);refine W.reg 0 rfl fun K hK=>?_;simp -implicitDefEqProofs (maxSteps:=999999) (disch:=omega) [hlt]
   have sp:=hf xs[k] (List.getElem_mem hlt)
   refine Ab.eq sp (by simp[hcv]) (by simp) ?_
   refine zx ?_
   refine zk ?_;clear hK K
   cases hp:p xs[k]
   .refine zn ?_
    refine W.skip ?_
    refine zs ?_
    refine⟨k+1,by omega,⟨by omega,?_⟩,Wk.fr (by simp[Ad])⟩
    intro i hi hik
    by_cases e:i=k
    .subst e;exact hp
    .exact ht i hi (by omega)
   .refine zt ?_
    refine zs ?_
    refine zr ?_
    exact(Ea hlt hp fun i hi hik=>ht i hi hik).symm
  .refine W.exit ?_
   refine zs ?_
   refine zr ?_
   exact(DC fun i hi=>ht i hi (by omega)).symm
theorem Om (xs:List Cw) (f:Nat) (caps:List AV) (p:Cw→Bool) (hx:xs.length<1000000000000) (hf:∀x∈xs,Aa pg f ([.agg (AU x)]++caps) [] fun r _=>r= .bool (p x)) (hcv:∀M,caps.map (vw M)=caps):
 Aa pg 123 [.ro xs.length (Ag AU xs),.fn f caps] [] (fun r _=>r= .int .i64 (BX p xs)):=by
 refine Aa.start (fn:=Tryz.f123) [.tmp 4] tk rfl rfl rfl (by kernel_rfl) (Nat.le_of_ble_eq_true rfl) rfl (by kernel_rfl) ?_
 rw[Aq]
 refine zs ?_
 refine zs ?_
 (repeat refine W.seq ?_);refine W.block (W.loopS (fun k:Nat=> [(0,.ro xs.length (Ag AU xs)),(1,.fn f caps),(7,.int .i64 xs.length),(8,.int .i64 k)]) (fun _=> []) (fun k=>xs.length-k) (fun k=>k≤xs.length∧∀i (h:i<xs.length),i<k→p xs[i]=false) 0 (Wk.fr ?_) (by simp) ?_)
 .simp[Ad]
 .rintro k ⟨hk,ht⟩
  refine zs ?_
  refine zc ?_ ?_<;>intro h
  .refine W.skip ?_
   have hlt:k<xs.length:=by omega
   refine zb ?_
   refine zs ?_
   (repeat refine W.seq ?_);refine W.reg 0 rfl fun K hK=>?_;simp -implicitDefEqProofs (maxSteps:=999999) (disch:=omega) [hlt]
   have sp:=hf xs[k] (List.getElem_mem hlt)
   refine Ab.eq sp (by simp[hcv]) (by simp) ?_
   refine zx ?_
   refine zk ?_;clear hK K
   cases hp:p xs[k]
   .refine zn ?_
    refine W.skip ?_
    refine zs ?_
    refine⟨k+1,by omega,⟨by omega,?_⟩,Wk.fr (by simp[Ad])⟩
    intro i hi hik
    by_cases e:i=k
    .subst e;exact hp
    .exact ht i hi (by omega)
   .refine zt ?_
    refine zs ?_
    refine zr ?_
    exact(Ea hlt hp fun i hi hik=>ht i hi hik).symm
  .refine W.exit ?_
   refine zs ?_
   refine zr ?_
   exact(DC fun i hi=>ht i hi (by omega)).symm
theorem On (xs:List C8) (f:Nat) (caps:List AV) (p:C8→Bool) (hx:xs.length<1000000000000) (hf:∀x∈xs,Aa pg f ([.agg ((AQ false) x)]++caps) [] fun r _=>r= .bool (p x)) (hcv:∀M,caps.map (vw M)=caps):
 Aa pg 189 [.ro xs.length (Ag (AQ false) xs),.fn f caps] [] (fun r _=>r= .int .i64 (BX p xs)):=by
 refine Aa.start (fn:=Tryz.f189) [.tmp 4] tk rfl rfl rfl (by kernel_rfl) (Nat.le_of_ble_eq_true rfl) rfl (by kernel_rfl) ?_
 rw[Aq]
 refine zs ?_
 refine zs ?_
 (repeat refine W.seq ?_);refine W.block (W.loopS (fun k:Nat=> [(0,.ro xs.length (Ag (AQ false) xs)),(1,.fn f caps),(7,.int .i64 xs.length),(8,.int .i64 k)]) (fun _=> []) (fun k=>xs.length-k) (fun k=>k≤xs.length∧∀i (h:i<xs.length),i<k→p xs[i]=false) 0 (Wk.fr ?_) (by simp) ?_)
 .simp[Ad]
 .rintro k ⟨hk,ht⟩
  refine zs ?_
  refine zc ?_ ?_<;>intro h
  .refine W.skip ?_
   have hlt:k<xs.length:=by omega
   refine zb ?_
   refine zs ?_
   (repeat refine W.seq ?_);refine W.reg 0 rfl fun K hK=>?_;simp -implicitDefEqProofs (maxSteps:=999999) (disch:=omega) [hlt]
   have sp:=hf xs[k] (List.getElem_mem hlt)
   refine Ab.eq sp (by simp[hcv]) (by simp) ?_
   refine zx ?_
   refine zk ?_;clear hK K
   cases hp:p xs[k]
   .refine zn ?_
    refine W.skip ?_
    refine zs ?_
    refine⟨k+1,by omega,⟨by omega,?_⟩,Wk.fr (by simp[Ad])⟩
    intro i hi hik
    by_cases e:i=k
    .subst e;exact hp
    .exact ht i hi (by omega)
   .refine zt ?_
    refine zs ?_
    refine zr ?_
    exact(Ea hlt hp fun i hi hik=>ht i hi hik).symm
  .refine W.exit ?_
   refine zs ?_
   refine zr ?_
   exact(DC fun i hi=>ht i hi (by omega)).symm
theorem Tp (o:Obj) (id:Int):Aa pg 214 ([.agg (Au o)]++[.rptr [.int .i64 id]]) [] (fun r _=>r= .bool (decide (o.id=id))):=by
 refine Aa.start (fn:=Tryz.f214) [.tmp 3] tk rfl rfl rfl (by kernel_rfl) (Nat.le_of_ble_eq_true rfl) rfl (by kernel_rfl) ?_
 simp only[List.cons_append,List.nil_append]
 rw[Aq]
 refine z1 ?_;intro K hK;refine zk ?_;clear hK K
 refine zs ?_
 exact zR
theorem Mg (xs:List Obj) (id:Int) (hx:xs.length<1000000000000):Aa pg 177 [.ro xs.length (Ag Au xs),.int .i64 id] [] (fun r _=>r= .int .i64 (BX (fun o=>decide (o.id=id)) xs)):=by
 refine Aa.start (fn:=Tryz.f177) [.tmp 4] tk rfl rfl rfl (by kernel_rfl) (Nat.le_of_ble_eq_true rfl) rfl (by kernel_rfl) ?_
 rw[Aq]
 refine z1 ?_;intro K hK;refine zk ?_;clear hK K
 refine z0 ?_;intro K hK
 refine Ab.eq (Ol xs 214 [.rptr [.int .i64 id]] (fun o=>decide (o.id=id)) hx (fun o _=>Tp o id) (by simp)) (by simp) (by simp) ?_
 refine zx ?_
 refine zk ?_;clear hK K
 exact zR
end Go.Abs
set_option maxRecDepth 100000
namespace Go.Abs
open Go.Proofs
theorem QX (x y:Nat) (hx:x<256) (hy:y<256):Ca .and (.int .u8 x) (.int .u8 y)=some (.int .u8 ((x&&&y:Nat):Int)):=by
 rw[Ke]
 have e (n:Nat) (h:n<256):(BitVec.ofInt IntKind.u8.bits (n:Int)).toNat=n:=by
  rw[BitVec.toNat_ofInt];simp[IntKind.bits] at*;omega
 have e1:(BitVec.ofInt IntKind.u8.bits (x:Int)&&&BitVec.ofInt IntKind.u8.bits (y:Int)).toNat=x&&&y:=by
  rw[BitVec.toNat_and,e x hx,e y hy]
 have h4:x&&&y<256:=Nat.lt_of_le_of_lt Nat.and_le_left hx
 rw[e1]
 simp[IntKind.wrap,IntKind.bits,IntKind.signed]
 omega
theorem PC:∀x:Fin 256,∀l:Fin 8,((x.val&&&(255/2^l.val))=0↔∀j:Fin 8,l≤j→x.val/2^(7-j.val)%2≠1):=by decide+kernel
theorem PD {b:CI} (h0:0≤b.n) (h1:b.n≤6000) (h:(b.data.size:Int)=(b.n+8-1)/8) (h2:¬b.n%8=0):DR b↔(CA b.data (b.data.size-1)&&&(255/2^(b.n%8).toNat))=0:=by
 have hl:=PC ⟨_,Gq b.data (b.data.size-1)⟩ ⟨(b.n%8).toNat,by omega⟩
 simp only at hl
 rw[hl]
 refine⟨fun g j hj=>?_,fun g=>⟨h0,h1,by omega,fun i hi hn=>?_⟩⟩
 .have hj2:=Fin.le_def.1 hj
  simp only at hj2
  have:=g.2.2.2 (8*(b.data.size-1)+j) (by omega) (by omega)
  simp only[D7,decide_eq_false_iff_not] at this
  rw[show(8*(b.data.size-1)+j.val)/8=b.data.size-1 by omega,show(8*(b.data.size-1)+j.val)%8=j.val by omega] at this
  exact this
 .have:=g ⟨i%8,by omega⟩ (Fin.le_def.2 (by simp only;omega))
  simp only[D7,decide_eq_false_iff_not]
  rw[show i/8=b.data.size-1 by omega]
  exact this
theorem Uz (b:CI) (h3:b.data.size<1000000000):Aa pg 118 [.agg (Cb b)] [] (fun r _=>r= .bool (decide (DR b))):=by
 refine Aa.start (fn:=Tryz.f118) [.tmp 2] tk rfl rfl rfl (by kernel_rfl) (Nat.le_of_ble_eq_true rfl) rfl (by kernel_rfl) ?_
 rw[As]
 refine z1 ?_;intro K hK;refine zk ?_;clear hK K
 by_cases h0:b.n<0
 .refine Af h0 ?_;intro K hK
  refine zk ?_;clear hK K
  refine zt ?_
  refine zs ?_
  refine zr ?_
  intro h;have:=h.1;omega
 .by_cases h1:b.n≤6000
  .refine Af (an h0 h1) ?_;intro K hK
   refine zk ?_;clear hK K
   refine zc ?_ ?_<;>intro h
   .refine zs ?_
    refine zr ?_
    intro g;have:=g.2.2.1;omega
   .refine W.skip ?_
    refine zs ?_
    by_cases h2:b.n%8=0
    .refine Bi h2 ?_;intro K hK
     refine zk ?_;clear hK K
     refine zr ?_
     refine⟨by omega,h1,by omega,fun i hi hn=>by omega⟩
    .have e:((255:Int)/2^(b.n%8).toNat)=((255/2^(b.n%8).toNat:Nat):Int):=by simp
     have h8:255/2^(b.n%8).toNat<256:=Nat.lt_of_le_of_lt (Nat.div_le_self _ _) (by omega)
     refine Bi h2 ?_;intro K hK
     refine⟨by omega,?_⟩
     rw[e,QX _ _ (Gq _ _) h8]
     simp
     refine zk ?_;clear hK K
     refine zr ?_
     rw[PD (by omega) h1 h h2]
  .refine Af (an h0 h1) ?_;intro K hK
   refine zk ?_;clear hK K
   refine zt ?_
   refine zs ?_
   refine zr ?_
   intro h;have:=h.2.1;omega
end Go.Abs
set_option maxRecDepth 100000
namespace Go.Abs
open Go.Proofs
theorem UA {α:Type} (f:α→Int) (l:List α):l.Pairwise (fun a b=>f a<f b)↔∀k (h:k<l.length),0<k→f (l[k-1]'(by omega))<f l[k]:=by
 constructor
 .intro h k hk h0
  exact List.pairwise_iff_getElem.1 h (k-1) k (by omega) hk (by omega)
 .intro h
  rw[List.pairwise_iff_getElem]
  intro i j hi hj hij
  induction j with
  |zero=>omega
  |succ j ih=>
   have h1:=h (j+1) hj (by omega)
   simp only[Nat.add_sub_cancel] at h1
   by_cases e:i=j
   .subst e;exact h1
   .have:=ih (by omega) (by omega);omega
def DW (l:List Obj):Prop:=l.length<1000000000000∧∀o∈l,o.data.data.size<1000000000
def JR (l:List Obj) (o:Obj):Prop:=1≤o.id∧o.id≤1048576∧DR o.data∧o.base≠o.id∧(o.base=0∨∃q∈l,q.id=o.base)
theorem I9 (l:List Obj):CT l↔l.length≤12∧∀k (h:k<l.length),JR l l[k]∧(0<k→l[k-1].id<l[k].id):=by
 unfold CT
 rw[UA (fun o:Obj=>o.id)]
 constructor
 .rintro⟨h1,h2,h3⟩
  exact⟨h1,fun k h=>⟨h2 _ (List.getElem_mem h),h3 k h⟩⟩
 .rintro⟨h1,h2⟩
  refine⟨h1,fun o ho=>?_,fun k h=>(h2 k h).2⟩
  obtain⟨k,hk,rfl⟩:=List.mem_iff_getElem.1 ho
  exact(h2 k hk).1
theorem UB (xs:List Obj) (hx:DW xs):Aa pg 172 [.ro xs.length (Ag Au xs)] [] (fun r _=>r= .bool (decide (CT xs))):=by
 have hx1:=hx.1
 refine Aa.start (fn:=Tryz.f172) [.tmp 2] tk rfl rfl rfl (by kernel_rfl) (Nat.le_of_ble_eq_true rfl) rfl (by kernel_rfl) ?_
 rw[As]
 refine zs ?_
 refine zs ?_
 refine zc ?_ ?_<;>intro h
 .refine zs ?_
  refine zr ?_
  intro g;have:=g.1;omega
 .refine W.skip ?_
  refine zs ?_
  (repeat refine W.seq ?_);refine W.block (W.loopS (fun k:Nat=> [(0,.ro xs.length (Ag Au xs)),(8,.ro xs.length (Ag Au xs)),(9,.int .i64 xs.length),(10,.int .i64 k)]) (fun _=> []) (fun k=>xs.length-k) (fun k=>k≤xs.length∧∀i (h:i<xs.length),i<k→JR xs xs[i]∧(0<i→xs[i-1].id<xs[i].id)) 0 (Wk.fr ?_) (by simp) ?_)
  .simp[Ad]
  .rintro k ⟨hk,ht⟩
   refine zs ?_
   refine zc ?_ ?_<;>intro h
   .refine W.skip ?_
    have hlt:k<xs.length:=by omega
    have hB:=Uz xs[k].data (hx.2 _ (List.getElem_mem hlt))
    refine zb ?_
    (repeat refine W.seq ?_);refine W.reg 1 rfl fun K hK=>?_;simp -implicitDefEqProofs (maxSteps:=999999) (disch:=omega) [hlt]
    refine zk ?_;clear hK K
    have bad:¬(JR xs xs[k]∧(0<k→xs[k-1].id<xs[k].id))→¬CT xs:=fun g h=>g (((I9 xs).1 h).2 k hlt)
    by_cases c1:xs[k].id<1
    .refine Bi c1 ?_;intro K hK
     refine zk ?_;clear hK K
     refine zt ?_
     refine zs ?_
     refine zr ?_
     exact bad fun g=>by have:=g.1.1;omega
    .by_cases c2:xs[k].id≤1048576
     .by_cases c3:0<k∧xs[k].id≤xs[k-1].id
      .have c3a:=c3.1
       have c3b:=c3.2
       refine Bi (an c1 (an c2 (an c3a c3b))) ?_;intro K hK
       refine⟨by omega,?_⟩
       refine zk ?_;clear hK K
       refine zt ?_
       refine zs ?_
       refine zr ?_
       exact bad fun g=>by have:=g.2 c3a;omega
      .have key:(¬0<k∧True)∨(0<k∧¬xs[k].id≤xs[k-1].id):=by
        by_cases c4:0<k
        .exact .inr ⟨c4,fun h=>c3 ⟨c4,h⟩⟩
        .exact .inl ⟨c4,trivial⟩
       rcases key with⟨c4,c5⟩ | ⟨c4,c5⟩
       all_goals
        refine Bi (an c1 (an c2 (an c4 c5))) ?_;intro K hK
        try refine⟨by omega,?_⟩
        try simp -implicitDefEqProofs (maxSteps:=999999) (disch:=omega) [c1,c2,c4,c5]
        refine Ah.eq hB (by simp) (by simp) ?_
        by_cases hb:DR xs[k].data
        .rw[decide_eq_true hb]
         refine zx ?_
         refine zk ?_;clear hK K
         refine zn ?_
         refine W.skip ?_
         by_cases d1:xs[k].base=xs[k].id
         .refine Af d1 ?_;intro K hK
          refine zk ?_;clear hK K
          refine zt ?_
          refine zs ?_
          refine zr ?_
          exact bad fun g=>g.1.2.2.2.1 d1
         .by_cases d2:xs[k].base=0
          .refine Af (an d1 d2) ?_;intro K hK
           refine zk ?_;clear hK K
           refine zn ?_
           refine W.skip ?_
           refine zs ?_
           refine⟨k+1,by omega,⟨by omega,fun i hi hik=>?_⟩,Wk.cutM (k:=0) (by simp[Ad]) (by simp) (by simp) (by simp) (by simp) (by simp)⟩
           by_cases e:i=k
           .subst e;exact⟨⟨by omega,c2,hb,d1,.inl d2⟩,fun _=>by omega⟩
           .exact ht i hi (by omega)
          .refine Af (an d1 d2) ?_;intro K hK
           refine Ab.eq (Mg xs xs[k].base hx1) (by simp) (by simp) ?_
           by_cases d3:∃q∈xs,q.id=xs[k].base
           .have d4:0≤BX (fun o:Obj=>decide (o.id=xs[k].base)) xs:=Cl.2 (by simpa using d3)
            refine AJ d4 ?_
            refine zk ?_;clear hK K
            refine zn ?_
            refine W.skip ?_
            refine zs ?_
            refine⟨k+1,by omega,⟨by omega,fun i hi hik=>?_⟩,Wk.cutM (k:=0) (by simp[Ad]) (by simp) (by simp) (by simp) (by simp) (by simp)⟩
            by_cases e:i=k
            .subst e;exact⟨⟨by omega,c2,hb,d1,.inr d3⟩,fun _=>by omega⟩
            .exact ht i hi (by omega)
           .have d4:BX (fun o:Obj=>decide (o.id=xs[k].base)) xs<0:=by
             apply Classical.byContradiction
             intro g
             exact d3 (by simpa using Cl.1 (by omega:0≤BX (fun o:Obj=>decide (o.id=xs[k].base)) xs))
            refine AJ d4 ?_
            refine zk ?_;clear hK K
            refine zt ?_
            refine zs ?_
            refine zr ?_
            exact bad fun g=>by
             rcases g.1.2.2.2.2 with g|g
             .exact d2 g
             .exact d3 g
        .rw[decide_eq_false hb]
         refine zx ?_
         refine zk ?_;clear hK K
         refine zt ?_
         refine zs ?_
         refine zr ?_
         exact bad fun g=>hb g.1.2.2.1
     .refine Bi (an c1 c2) ?_;intro K hK
      refine zk ?_;clear hK K
      refine zt ?_
      refine zs ?_
      refine zr ?_
      exact bad fun g=>by have:=g.1.2.1;omega
   .refine W.exit ?_
    refine zs ?_
    refine zr ?_
    rw[I9]
    exact⟨by omega,fun i hi=>ht i hi (by omega)⟩
end Go.Abs
set_option maxRecDepth 100000
namespace Go.Abs
open Go.Proofs
theorem Eb {l:List Obj} {id:Int} {o:Obj} (h:CY l id=some o):∃k,∃hk:k<l.length,BX (fun o:Obj=>decide (o.id=id)) l=(k:Int)∧l[k]=o∧o.id=id:=by
 unfold CY at h
 obtain⟨h1,k,hk,h2,h3⟩:=List.find?_eq_some_iff_getElem.1 h
 refine⟨k,hk,Ea hk (by rw[h2];exact h1) (fun i hi hik=>by simpa using h3 i hik),h2,by simpa using h1⟩
theorem JS {l:List Obj} {id:Int} (h:CY l id=none):BX (fun o:Obj=>decide (o.id=id)) l=-1:=
 DC fun i hi=>by
  have:=List.find?_eq_none.1 h l[i] (List.getElem_mem hi)
  simpa using this
theorem Hu {l:List Obj} {id:Int} (h:∃q∈l,q.id=id):∃o,CY l id=some o:=by
 cases h' :CY l id with
 |some o=>exact⟨o,rfl⟩
 |none=>
  obtain⟨q,hq,he⟩:=h
  have:=List.find?_eq_none.1 h' q hq
  simp[he] at this
theorem Dn {l:List Obj} {id:Int} {o:Obj} (h:CY l id=some o):o∈l:=List.mem_of_find?_eq_some h
theorem Ki (l:List Obj):∀(k:Nat) (id:Int),(A8 l k id).length≤k
 |0,id=>by simp[A8]
 |k+1,id=>by
  unfold A8
  split
  .simp
  .split
   .simp;exact Ki l k _
   .simp
theorem Rq (xs:List Obj) (id:Int) (m:Nat) (hx:DW xs) (hm:m≤1000) (hb:∀o∈xs,o.base=0∨∃q∈xs,q.id=o.base) (Bu:id=0∨∃q∈xs,q.id=id):Aa pg 163 [.ro xs.length (Ag Au xs),.int .i64 id,.int .i64 m] [] (fun r _=>r= .own 4 (A8 xs m id).length (Ag Au (A8 xs m id))):=by
 have hx1:=hx.1
 refine Aa.start (fn:=Tryz.f163) [.tmp 6] tk rfl rfl rfl (by kernel_rfl) (Nat.le_of_ble_eq_true rfl) rfl (by kernel_rfl) ?_
 rw[Bm]
 refine zs ?_
 (repeat refine W.seq ?_);refine W.block (W.loopS (fun s:List Obj×Int=> [(0,.ro xs.length (Ag Au xs)),(1,.int .i64 s.2),(2,.int .i64 m),(6,.tok 0 s.1.length 4 0 s.1.length)]) (fun s=> [.live s.1.length (Ag Au s.1)]) (fun s=>m-s.1.length) (fun s=>s.1.length≤m∧(s.2=0∨∃q∈xs,q.id=s.2)∧A8 xs m id=s.1++A8 xs (m-s.1.length) s.2) ([],id) ((Wk.nil (t:=6) (s:=4) ?_).trans (Wk.fr ?_)) ⟨by simp,Bu,by simp⟩ ?_)
 .simp
 .simp[Ad]
 .rintro⟨acc,q⟩ ⟨hk,hq,hw⟩
  simp only at hk hq hw
  by_cases h0:q=0
  .refine Af h0 ?_;intro K hK
   refine zk ?_;clear hK K
   refine zn ?_
   refine W.exit ?_
   refine zs ?_
   refine zr ?_
   have:A8 xs m id=acc:=by
    rw[hw,h0]
    cases m-acc.length<;>simp[A8]
   rw[this]
   simp
  .by_cases h1:acc.length<m
   .obtain⟨o,ho⟩:=Hu (by rcases hq with h|h;exact absurd h h0;exact h)
    obtain⟨k,hlt,hi,hko,hoi⟩:=Eb ho
    refine Af (an h0 h1) ?_;intro K hK
    refine zk ?_;clear hK K
    refine zt ?_
    refine W.skip ?_
    refine zb ?_
    refine z1 ?_;intro K hK
    refine Ab.eq (Mg xs q hx1) (by simp) (by simp) ?_
    rw[hi]
    refine AJ (an hlt hko) ?_
    refine zk ?_;clear hK K
    (repeat refine W.seq ?_);refine W.regd 1 rfl true Cc (by kernel_rfl) fun K hK=>?_;simp -implicitDefEqProofs (maxSteps:=999999) (disch:=omega)
    refine⟨by omega,by omega,?_⟩
    refine zk ?_;clear hK K
    refine⟨(acc++[o],o.base),by simp;omega,⟨by simp;omega,hb o (Dn ho),?_⟩,Wk.cutM (k:=1) (by simp[Ad]) (by simp[CS,AM]) (by simp) (by simp) (by simp) (by simp)⟩
    rw[hw]
    obtain⟨d,hd⟩:∃d,m-acc.length=d+1:=⟨m-acc.length-1,by omega⟩
    rw[hd]
    simp only[A8,if_neg h0,ho]
    simp
    congr 1
    omega
   .refine Af (an h0 h1) ?_;intro K hK
    refine zk ?_;clear hK K
    refine zn ?_
    refine W.exit ?_
    refine zs ?_
    refine zr ?_
    have:A8 xs m id=acc:=by
     rw[hw,show m-acc.length=0 by omega]
     simp[A8]
    rw[this]
    simp
theorem UC (xs:List Obj) (id:Int) (hx:DW xs) (hb:∀o∈xs,o.base=0∨∃q∈xs,q.id=o.base):Aa pg 161 [.ro xs.length (Ag Au xs),.int .i64 id] [] (fun r _=>r= .tup [.int .i64 (Cz xs id).1,.int .i64 (Cz xs id).2]):=by
 have hx1:=hx.1
 refine Aa.start (fn:=Tryz.f161) [.tmp 4,.tmp 5] tk rfl rfl rfl (by kernel_rfl) (Nat.le_of_ble_eq_true rfl) rfl (by kernel_rfl) ?_
 rw[Aq]
 refine zs ?_
 refine z0 ?_;intro K hK
 refine Ab.eq (Mg xs id hx1) (by simp) (by simp) ?_
 cases ho:CY xs id with
 |none=>
  rw[JS ho]
  refine zx ?_
  refine zk ?_;clear hK K
  refine zt ?_
  refine zs ?_
  refine zr ?_
  simp[Cz,ho]
 |some o=>
  obtain⟨k,hlt,hi,hko,hoi⟩:=Eb ho
  rw[hi]
  refine zx ?_
  refine zk ?_;clear hK K
  refine zn ?_
  refine W.skip ?_
  have hw:=Ki xs 4 id
  refine z0 ?_;intro K hK
  refine Ab.eq (Rq xs id 4 hx (by omega) hb (.inr ⟨o,Dn ho,hoi⟩)) (by simp) (by simp) ?_
  refine zx ?_
  refine zk ?_;clear hK K
  by_cases h4:3<(A8 xs 4 id).length
  .refine Af h4 ?_;intro K hK
   refine zk ?_;clear hK K
   refine zt ?_
   refine zs ?_
   refine zr ?_
   simp[Cz,ho,h4]
  .refine Af h4 ?_;intro K hK
   refine zk ?_;clear hK K
   refine zn ?_
   refine W.skip ?_
   refine zs ?_
   refine zr ?_
   simp[Cz,ho,h4]
end Go.Abs
set_option maxRecDepth 100000
namespace Go.Abs
open Go.Proofs
theorem Oo (w:World) (x:Value):Calls pg 162 #[x] w fun e w' =>e= .returned (.func (.func 195) #[] #[.pointer (some ⟨w.heap.size,0,none⟩)])∧w' =w.alloc (.cells x.cells 65):=by
 refine(callsIn_wide (n:=0)).1 (callsIn_of_wp (n:=0) (fn:=Tryz.f162) rfl rfl trivial ?_)
 refine wpIn_seq (wpIn_region_lit ?_)
 simp[wpListIn,Region.wanted,Oper.wpIn,Oper.semAt,Fence.wide,execOp,Instr.box,newVar,newRow,Act.eval,Act.put,Oper.uponIn_value,Tryz.f162]
 show Code.wpIn _ _ _ _ _ _ _
 refine wpIn_seq (wpIn_region_lit ?_)
 simp[wpListIn,Region.wanted,Oper.wpIn,Oper.semAt,execOp,Act.eval,Act.put,Oper.uponIn_value]
 show Code.wpIn _ _ _ _ _ _ _
 refine wpIn_ret ?_
 simp[bodyPost,results]
 exact⟨rfl,rfl⟩
def Kk (o:Obj):Value:= .agg #[.int .i64 o.id,.int .i64 o.base,.string o.data.data,.int .i64 o.data.n]
theorem Tq (w:World) (sh:Nat→Prop) (σ:Nat→Nat→Option St) (o:Obj):VR w sh σ (.agg (Au o)) (Kk o) (fun _=>0):=by
 simp only[VR,Au,Kk]
 exact⟨_,rfl,_,_,_,_,rfl,⟨rfl,fun _=>rfl⟩,⟨_,_,_,_,rfl,⟨rfl,fun _=>rfl⟩,⟨_,_,_,_,rfl,⟨rfl,fun _=>rfl⟩,⟨_,_,_,_,rfl,⟨rfl,fun _=>rfl⟩,⟨rfl,fun _=>rfl⟩,fun _=>rfl⟩,fun _=>rfl⟩,fun _=>rfl⟩,fun _=>rfl⟩
theorem Tr {w:World} {sh:Nat→Prop} {σ:Nat→Nat→Option St} {o:Obj} {x:Value} {fp:Nat→Nat} (h:VR w sh σ (.agg (Au o)) x fp):x=Kk o:=by
 simp only[VR,Au,An] at h
 obtain⟨cs,rfl,_,_,_,_,h0,⟨rfl,_⟩,⟨_,_,_,_,rfl,⟨rfl,_⟩,⟨_,_,_,_,rfl,⟨rfl,_⟩,⟨_,_,_,_,rfl,⟨rfl,_⟩,⟨rfl,_⟩,_⟩,_⟩,_⟩,_⟩:=h
 unfold Kk
 congr 1
 exact Array.ext' (by simpa using h0)
def Rs (h:Nat) (ws:List Obj) (W:World):Prop:=∃sh:Nat→Prop,(∀g,sh g→g<W.heap.size)∧VR W sh σ0 (.rptr [.ro ws.length (Ag Au ws)]) (.pointer (some ⟨h,0,none⟩)) (fun _=>0)
def Mh (l h:Nat) (i:Int) (a:Act):Prop:=a.tmps.size=19∧a.defers=[]∧a.tmps.getD 0 undef= .func (.yield l) #[] #[]∧a.tmps.getD 1 undef= .pointer (some ⟨h,0,none⟩)∧a.tmps.getD 3 undef= .int .i64 i
theorem Ba {a:Act} {d t:Nat} {v:Value} (hd:t≠d):(a.put (some d) v).tmps.getD t undef=a.tmps.getD t undef:=by
 have:¬d=t:=fun e=>hd e.symm
 by_cases ht:t<a.tmps.size<;>simp[Act.put,Array.getD,ht,Array.getElem_setIfInBounds,this]
theorem DM {a:Act} {d:Nat} {v:Value} (hd:d<a.tmps.size):(a.put (some d) v).tmps.getD d undef=v:=by
 simp[Act.put,Array.getD,hd]
theorem Mh.put {l h:Nat} {i:Int} {a:Act} (s:Mh l h i a) {d:Nat} (h0:d≠0) (h1:d≠1) (h3:d≠3) (v:Value):Mh l h i (a.put (some d) v):=
 ⟨by simp[Act.put,s.1],s.2.1,by rw[Ba (Ne.symm h0)];exact s.2.2.1,by rw[Ba (Ne.symm h1)];exact s.2.2.2.1,by rw[Ba (Ne.symm h3)];exact s.2.2.2.2⟩
def Fi (ws:List Obj) (i:Int):Fr:=fun t=>if t=1 then .rptr [.ro ws.length (Ag Au ws)] else if t=3 then .int .i64 i else .any
theorem Mh.rel {l h:Nat} {i:Int} {a:Act} {ws:List Obj} {W:World} (s:Mh l h i a) (v:Rs h ws W):∃sh,AE ⟨pg,19,sh,W,fun _=>none,σ0,0,none,[]⟩ (Fi ws i) [] a W σ0 (fun _=>none):=by
 obtain⟨sh,h1,h2⟩:=v
 refine⟨sh,s.1,s.2.1,fun t ht=>?_,E6 _ _,fun g hg=>⟨rfl,h1 g hg⟩,Em.refl _ _,fun _ _ _ h=>by simp at h⟩
 simp only[Fi]
 by_cases e1:t=1
 .subst e1;rw[if_pos rfl,s.2.2.2.1];exact h2
 .rw[if_neg e1]
  by_cases e3:t=3
  .subst e3;rw[if_pos rfl,s.2.2.2.2];exact⟨rfl,fun _=>rfl⟩
  .rw[if_neg e3];intro g;rfl
theorem QY {ops:Array Oper} {Q:Exit→Act→World→Prop} {a:Act} {W:World} {d t ty:Nat} {pos:String} {af:Array Edge} {rest:List Oper} {x:Value} (hx:a.tmps.getD t undef=x) (h:wpListIn Fence.wide 0 pg ops Q rest (a.put (some d) x) W):
 wpListIn Fence.wide 0 pg ops Q ({dst:=some d,op:= .move (.tmp t),type:=ty,pos:=pos,after:=af,guard:=none}::rest) a W:=by
 simp only[wpListIn]
 rw[if_pos (by simp[Region.wanted])]
 refine⟨fun _ _=>trivial,?_⟩
 have e:Sem.run pg (execOp a.eval {dst:=some d,op:= .move (.tmp t),type:=ty,pos:=pos,after:=af,guard:=none}) W= .ok (.value x) W:=by
  have:a.eval (.tmp t)=x:=hx
  simp[execOp,this]
 rw[Oper.semAt_eq _ _ _ (by intro c h;cases h),e]
 exact h
theorem PE {ops:Array Oper} {Q:Exit→Act→World→Prop} {a:Act} {W:World} {d t t1 t2 ty:Nat} {pos:String} {af:Array Edge} {ats:Array TypeId} {rest:List Oper} {l:Nat} {x y:Value} {f:FuncId} {tm:Array Value} {asg bd:Code} {RR:Ending→World→Prop} (h0:a.tmps.getD t undef= .func (.yield l) #[] #[]) (h1:a.tmps.getD t1 undef=x) (h2:a.tmps.getD t2 undef=y)
 (hy:(Instr.yield l #[x,y]).run pg W= .ok (.round l f tm asg bd) W) (hr:RoundIn Fence.wide 0 pg l f tm asg bd W RR) (h:∀e W',RR e W' →∃v,e= .returned v∧wpListIn Fence.wide 0 pg ops Q rest (a.put (some d) v) W'):
 wpListIn Fence.wide 0 pg ops Q ({dst:=some d,op:= .call {callee:= .value (.tmp t),args:= #[.tmp t1,.tmp t2],argTypes:=ats},type:=ty,pos:=pos,after:=af,guard:=none}::rest) a W:=by
 simp only[wpListIn]
 rw[if_pos (by simp[Region.wanted])]
 refine⟨fun _ _=>trivial,?_⟩
 have e0:a.eval (.tmp t)= .func (.yield l) #[] #[]:=h0
 have e1:a.eval (.tmp t1)=x:=h1
 have e2:a.eval (.tmp t2)=y:=h2
 have e:Sem.run pg (execOp a.eval {dst:=some d,op:= .call {callee:= .value (.tmp t),args:= #[.tmp t1,.tmp t2],argTypes:=ats},type:=ty,pos:=pos,after:=af,guard:=none}) W= .ok (.round l f tm asg bd) W:=by
  simp[execOp,resolve,e0,e1,e2,Deferred.ofValue,invoke,hy]
 rw[Oper.semAt_eq _ _ _ (by intro c h;cases h),e]
 refine⟨fun h=>absurd h (by simp[Fence.wide]),RoundIn.mono hr ?_⟩
 intro e W' hR
 obtain⟨v,rfl,hk⟩:=h e W' hR
 exact hk
theorem UD {a:Act} {W:World} {F:Fr} (hs:a.tmps.size=19) (hd:a.defers=[]) (hF:∀t,VR W (fun _=>False) σ0 (F t) (a.tmps.getD t undef) (fun _=>0)):AE ⟨pg,19,fun _=>False,W,fun _=>none,σ0,0,none,[]⟩ F [] a W σ0 (fun _=>none):=
 ⟨hs,hd,fun t _=>hF t,E6 _ _,fun g hg=>hg.elim,Em.refl _ _,fun _ _ _ h=>by simp at h⟩
theorem KX {P:Program} {c:Code} {Q:Exit→Act→World→Prop} (n:Nat) (I:Nat→Act→World→Prop) (step:∀k a W,k≤n→I k a W→c.wpIn Fence.wide 0 P (Exit.then (fun a W=>k<n∧I (k+1) a W) Q) a W):
 ∀m k a W,k+m=n→I k a W→Code.roundsIn Fence.wide 0 P c Q (m+1) a W
 |0,k,a,W,hk,hI=>wpIn_mono (step k a W (by omega) hI) fun e a W h=>by
  cases e<;>first|exact h| (have:=h.1;omega)
 |m+1,k,a,W,hk,hI=>wpIn_mono (step k a W (by omega) hI) fun e a W h=>by
  cases e<;>first|exact h|exact KX n I step m (k+1) a W (by omega) h.2
noncomputable abbrev C5 (sh:Nat→Prop) (W:World):A2:=⟨pg,19,sh,W,fun _=>none,σ0,0,none,[]⟩
theorem QZ (h:Nat) (ws:List Obj) (hn:ws.length<1000000000000):Us pg 195 #[.pointer (some ⟨h,0,none⟩)] ws.length (fun k=> #[.int .i64 ((ws.length:Int)-1-k),Kk (ws.getD (ws.length-1-k) ⟨0,0,⟨⟨#[]⟩,0⟩⟩)]) (Rs h ws):=by
 intro l J Jx w hV hR h0
 have sz:ws.length≤9223372036854775807:=by omega
 generalize hRR:(fun e W' =>(∃v,e=Ending.returned v)∧(J ws.length W' ∨Jx W'))=RR
 have key:∀c,Tryz.f195.body=some c→∀a0:Act,a0.tmps.size=19→a0.defers=[]→a0.tmps.getD 0 undef= .func (.yield l) #[] #[]→a0.tmps.getD 1 undef= .pointer (some ⟨h,0,none⟩)→c.wpIn Fence.wide 0 pg (bodyPost pg Tryz.f195 RR) a0 w:=by
  intro c hc a0 h19 hd0 hy0 hp0
  have hc:=Option.some.inj hc
  subst hc
  refine wpIn_seq (wpIn_region_lit ?_)
  obtain⟨sh,hs1,hs2⟩:=hV 0 w h0
  have R:AE (C5 sh w) (fun t=>if t=1 then .rptr [.ro ws.length (Ag Au ws)] else .any) [] a0 w σ0 (fun _=>none):=by
   refine⟨h19,hd0,fun t ht=>?_,E6 _ _,fun g hg=>⟨rfl,hs1 g hg⟩,Em.refl _ _,fun _ _ _ h=>by simp at h⟩
   simp only
   by_cases e1:t=1
   .subst e1;rw[if_pos rfl,hp0];exact hs2
   .rw[if_neg e1];intro g;rfl
  refine C7 (C:=C5 sh _) tk R (by kernel_rfl) rfl (by intro c h;cases h) (r:= .ro ws.length (Ag Au ws)) (by simp -implicitDefEqProofs (disch:=omega) [pv]) fun u4 hu4 R4=>?_
  refine C7 (C:=C5 sh _) tk R4 (by kernel_rfl) rfl (by intro c h;cases h) (r:= .int .i64 ws.length) (by simp -implicitDefEqProofs (disch:=omega) [pv]) fun u5 hu5 R5=>?_
  refine C7 (C:=C5 sh _) tk R5 (by kernel_rfl) rfl (by intro c h;cases h) (r:= .int .i64 ((ws.length:Int)-1)) (by simp -implicitDefEqProofs (disch:=omega) [pv]) fun u6 hu6 R6=>?_
  refine C7 (C:=C5 sh _) tk R6 (by kernel_rfl) rfl (by intro c h;cases h) (r:= .int .i64 ((ws.length:Int)-1)) (by simp -implicitDefEqProofs (disch:=omega) [pv]) fun u3 hu3 R3=>?_
  refine wpListIn_nil ?_
  have s0:Mh l h ((ws.length:Int)-1) ((((a0.put (some 4) u4).put (some 5) u5).put (some 6) u6).put (some 3) u3):=by
   refine⟨by simp[Act.put,h19],hd0,?_,?_,?_⟩
   .rw[Ba (by decide),Ba (by decide),Ba (by decide),Ba (by decide)];exact hy0
   .rw[Ba (by decide),Ba (by decide),Ba (by decide),Ba (by decide)];exact hp0
   .rw[DM (by simp[Act.put,h19])];exact hu3.1
  generalize ((((a0.put (some 4) u4).put (some 5) u5).put (some 6) u6).put (some 3) u3)=a1 at s0
  clear R R4 R5 R6 R3 hu4 hu5 hu6 hu3 u4 u5 u6 u3 hs1 hs2 sh h19 hd0 hy0 hp0 a0
  show Code.wpIn _ _ _ _ _ _ _
  refine wpIn_block (wpIn_loop_rounds (ws.length+1) ?_)
  refine KX ws.length (fun k a W=>Mh l h ((ws.length:Int)-1-k) a∧J k W) (fun k a W hk hI=>?_) ws.length 0 a1 w (by omega) ⟨by simpa using s0,h0⟩
  obtain⟨s,hJ⟩:=hI
  obtain⟨sh,R⟩:=s.rel (hV k W hJ)
  refine wpIn_seq (wpIn_seq (wpIn_region_lit ?_))
  refine C7 (C:=C5 sh _) tk R (by kernel_rfl) rfl (by intro c h;cases h) (r:= .int .i64 ((ws.length:Int)-1-k)) (by simp -implicitDefEqProofs (disch:=omega) [pv,Fi]) fun u7 hu7 R7=>?_
  refine C7 (C:=C5 sh _) tk R7 (by kernel_rfl) rfl (by intro c h;cases h) (r:= .bool (decide ((0:Int)≤(ws.length:Int)-1-k))) (by simp -implicitDefEqProofs (disch:=omega) [pv,Fi]) fun u8 hu8 R8=>?_
  refine wpListIn_nil ?_
  have s8:=(s.put (d:=7) (by decide) (by decide) (by decide) u7).put (d:=8) (by decide) (by decide) (by decide) u8
  have hc8:((a.put (some 7) u7).put (some 8) u8).eval (.tmp 8)= .bool (decide ((0:Int)≤(ws.length:Int)-1-k)):=by
   show((a.put (some 7) u7).put (some 8) u8).tmps.getD 8 undef=_
   rw[DM (by simp[Act.put,s.1])];exact hu8.1
  generalize ((a.put (some 7) u7).put (some 8) u8)=a2 at s8 hc8
  clear R R7 R8 hu7 hu8 u7 u8 s
  show Code.wpIn _ _ _ _ _ _ _
  refine wpIn_cond_split hc8 (fun hb=>wpIn_skip ?_) (fun hb=>wpIn_exit ?_)
  rotate_left
  .have hb:¬(0:Int)≤(ws.length:Int)-1-k:=of_decide_eq_false hb
   have:k=ws.length:=by omega
   subst this
   show bodyPost pg _ RR .normal a2 W
   refine⟨s8.2.1,.tuple #[],by simp[results,Tryz.f195],?_⟩
   rw[←hRR]
   exact⟨⟨_,rfl⟩,.inl hJ⟩
  have hb:(0:Int)≤(ws.length:Int)-1-k:=of_decide_eq_true hb
  show Code.wpIn _ _ _ _ _ _ _
  refine wpIn_seq (wpIn_block (wpIn_seq (wpIn_region_lit ?_)))
  obtain⟨sh,R⟩:=s8.rel (hV k W hJ)
  obtain⟨i,hi⟩:∃i:Nat,(ws.length:Int)-1-k=(i:Int):=⟨ws.length-1-k,by omega⟩
  rw[hi] at s8 R
  have hlt:i<ws.length:=by omega
  refine QY s8.2.2.1 ?_
  have R11:AE (C5 sh W) (Aj (Fi ws i) (some 11) .any) [] (a2.put (some 11) (.func (.yield l) #[] #[])) W σ0 (fun _=>none):=R.put (some 11) (fun _=>rfl)
  refine C7 (C:=C5 sh _) tk R11 (by kernel_rfl) rfl (by intro c h;cases h) (r:= .int .i64 i) (by simp -implicitDefEqProofs (disch:=omega) [pv,Fi]) fun u12 hu12 R12=>?_
  refine C7 (C:=C5 sh _) tk R12 (by kernel_rfl) rfl (by intro c h;cases h) (r:= .ro ws.length (Ag Au ws)) (by simp -implicitDefEqProofs (disch:=omega) [pv,Fi]) fun u13 hu13 R13=>?_
  refine C7 (C:=C5 sh _) tk R13 (by kernel_rfl) rfl (by intro c h;cases h) (r:= .int .i64 i) (by simp -implicitDefEqProofs (disch:=omega) [pv,Fi]) fun u14 hu14 R14=>?_
  refine C7 (C:=C5 sh _) tk R14 (by kernel_rfl) rfl (by intro c h;cases h) (r:= .rptr (Au ws[i]++Ag Au (ws.drop (i+1)))) (by simp -implicitDefEqProofs (disch:=omega) [pv,Fi,hlt]) fun u15 hu15 R15=>?_
  refine C7 (C:=C5 sh _) tk R15 (by kernel_rfl) rfl (by intro c h;cases h) (r:= .agg (Au ws[i])) (by simp -implicitDefEqProofs (disch:=omega) [pv,Fi,hlt]) fun u16 hu16 R16=>?_
  have ek:ws.length-1-k=i:=by omega
  have eo:ws.getD (ws.length-1-k) ⟨0,0,⟨⟨#[]⟩,0⟩⟩=ws[i]:=by rw[ek];simp[List.getD,hlt]
  obtain⟨f,tm,asg,bd,hy,hr⟩:=hR k W (by omega) hJ
  simp only[hi,eo] at hy
  have s9:=((((((s8.put (d:=11) (by decide) (by decide) (by decide) (.func (.yield l) #[] #[])).put (d:=12) (by decide) (by decide) (by decide) u12).put (d:=13) (by decide) (by decide) (by decide) u13).put (d:=14) (by decide) (by decide) (by decide) u14).put (d:=15) (by decide) (by decide) (by decide) u15).put (d:=16) (by decide) (by decide) (by decide) u16)
  refine PE (x:= .int .i64 i) (y:=Kk ws[i]) ?_ ?_ ?_ hy hr ?_
  .rw[Ba (by decide),Ba (by decide),Ba (by decide),Ba (by decide),Ba (by decide),DM (by rw[s8.1];decide)]
  .rw[Ba (by decide),Ba (by decide),Ba (by decide),Ba (by decide),DM (by simp[Act.put,s8.1])];exact hu12.1
  .rw[DM (by simp[Act.put,s8.1])];exact Tr hu16
  generalize ((((((a2.put (some 11) (Value.func (.yield l) #[] #[])).put (some 12) u12).put (some 13) u13).put (some 14) u14).put (some 15) u15).put (some 16) u16)=a3 at s9
  clear R R11 R12 R13 R14 R15 R16 hu12 hu13 hu14 hu15 hu16 u12 u13 u14 u15 u16 hy hr s8 hc8
  rintro e W' hq
  obtain⟨b,rfl,hq⟩:∃b,e= .returned (.bool b)∧(if b=true then J (k+1) W' else Jx W'):=by
   rcases hq with⟨rfl,h⟩ | ⟨rfl,h⟩
   .exact⟨true,rfl,h⟩
   .exact⟨false,rfl,h⟩
  refine⟨_,rfl,?_⟩
  have s10:=s9.put (d:=17) (by decide) (by decide) (by decide) (.bool b)
  have R17:=UD (W:=W') (F:=fun t=>if t=17 then .bool b else .any) s10.1 s10.2.1 (fun t=>by
   by_cases e:t=17
   .subst e;simp only[if_true];rw[DM (by rw[s9.1];decide)];exact⟨rfl,fun _=>rfl⟩
   .rw[if_neg e];intro g;rfl)
  refine C7 (C:=C5 (fun _=>False) _) tk R17 (by kernel_rfl) rfl (by intro c h;cases h) (r:= .bool (!b)) (by simp -implicitDefEqProofs (disch:=omega) [pv,Fi]) fun u18 hu18 R18=>?_
  refine wpListIn_nil ?_
  have s11:=s10.put (d:=18) (by decide) (by decide) (by decide) u18
  have hc18:(((a3.put (some 17) (.bool b)).put (some 18) u18)).eval (.tmp 18)= .bool (!b):=by
   show((a3.put (some 17) (.bool b)).put (some 18) u18).tmps.getD 18 undef=_
   rw[DM (by rw[s10.1];decide)];exact hu18.1
  generalize ((a3.put (some 17) (.bool b)).put (some 18) u18)=a4 at s11 hc18
  clear R17 R18 hu18 u18 s9 s10
  show Code.wpIn _ _ _ _ _ _ _
  refine wpIn_cond_split hc18 (fun hb=>wpIn_ret ?_) (fun hb=>wpIn_skip ?_)
  .have hb:b=false:=by simpa using hb
   subst hb
   show bodyPost pg _ RR .ret a4 W'
   refine⟨s11.2.1,.tuple #[],by simp[results,Tryz.f195],?_⟩
   rw[←hRR]
   exact⟨⟨_,rfl⟩,.inr (by simpa using hq)⟩
  .have hb:b=true:=by simpa using hb
   subst hb
   show Code.wpIn _ _ _ _ _ _ _
   refine wpIn_region_lit ?_
   have hq:J (k+1) W' :=by simpa using hq
   obtain⟨sh,R⟩:=s11.rel (hV (k+1) W' hq)
   refine C7 (C:=C5 sh _) tk R (by kernel_rfl) rfl (by intro c h;cases h) (r:= .int .i64 i) (by simp -implicitDefEqProofs (disch:=omega) [pv,Fi]) fun u9 hu9 R9=>?_
   refine C7 (C:=C5 sh _) tk R9 (by kernel_rfl) rfl (by intro c h;cases h) (r:= .int .i64 ((i:Int)-1)) (by simp -implicitDefEqProofs (disch:=omega) [pv,Fi]) fun u10 hu10 R10=>?_
   refine C7 (C:=C5 sh _) tk R10 (by kernel_rfl) rfl (by intro c h;cases h) (r:= .int .i64 ((i:Int)-1)) (by simp -implicitDefEqProofs (disch:=omega) [pv,Fi]) fun u3 hu3 R3=>?_
   refine wpListIn_nil ?_
   show k<ws.length∧_
   refine⟨by omega,?_,hq⟩
   have s12:=(s11.put (d:=9) (by decide) (by decide) (by decide) u9).put (d:=10) (by decide) (by decide) (by decide) u10
   refine⟨by simp[Act.put,s11.1],s11.2.1,?_,?_,?_⟩
   .rw[Ba (by decide)];exact s12.2.2.1
   .rw[Ba (by decide)];exact s12.2.2.2.1
   .rw[DM (by rw[s12.1];decide),hu3.1]
    congr 1
    omega
 have hf:pg.funcs[(195:Nat)]?=some Tryz.f195:=rfl
 have hn:Tryz.f195.ntmps=19:=rfl
 obtain⟨c,hc⟩:∃c,Tryz.f195.body=some c:=⟨_,rfl⟩
 refine callsIn_of_wp (n:=0) hf hc trivial ?_ rfl
 refine key c hc _ ?_ ?_ ?_ ?_
 .simp[hn]
 .simp only
 .simp
 .simp
end Go.Abs
set_option maxRecDepth 100000
namespace Go.Abs
open Go.Proofs
theorem AW.seqW {C:A2} {P:Program} {T:Nat→Option TI} {p:Nat} {x y:Code} {F:Fr} {M:List Ae} {Q:BN} (tk:Bt P T) (hC:C.P=P) (hp:C.p≤p) (hb:B3 C.n x=true) (h:W P T p x F M (C2 (fun F M=>AW C y F M Q) Q)):AW C (.seq x y) F M Q:=
 AW.seq (h tk C hC hp hb)
theorem Gt:A1 AD:=by
 simp[A1,AD,Cg]
theorem Mi (l:List Obj):∀(k:Nat) (id:Int) (i:Nat) (h:i+1<(A8 l k id).length),((A8 l k id)[i]'(by omega)).base≠0
 |0,id,i,h=>by simp[A8] at h
 |k+1,id,i,h=>by
  by_cases h0:id=0
  .simp[A8,h0] at h
  .cases hf:CY l id with
   |none=>simp[A8,h0,hf] at h
   |some o=>
    simp only[A8,h0,hf,if_false] at h ⊢
    cases i with
    |zero=>
     simp only[List.getElem_cons_zero]
     intro e
     rw[e] at h
     have:(A8 l k 0).length=0:=by cases k<;>simp[A8]
     simp[this] at h
    |succ i=>
     simp only[List.getElem_cons_succ]
     exact Mi l k o.base i (by simpa using h)
theorem Nt (l:List Obj):∀(k:Nat) (id:Int),∀o∈A8 l k id,o∈l
 |0,id,o,h=>by simp[A8] at h
 |k+1,id,o,h=>by
  by_cases h0:id=0
  .simp[A8,h0] at h
  .cases hf:CY l id with
   |none=>simp[A8,h0,hf] at h
   |some q=>
    simp only[A8,h0,hf,if_false] at h
    rcases List.mem_cons.1 h with rfl|h
    .exact Dn hf
    .exact Nt l k q.base o h
theorem KY {rf:List Bool→Option Gr} {rd:Gr→List Bool→Option Gr} {ws:List Obj} (hb:∀i (h:i+1<ws.length),(ws[i]'(by omega)).base≠0):∀i,i<ws.length→CZ rf rd (ws.drop i)=none→CZ rf rd ws=none
 |0,_,h=>by simpa using h
 |i+1,hi,h=>by
  refine KY hb i (by omega) ?_
  rw[List.drop_eq_getElem_cons (by omega:i<ws.length)]
  simp only[CZ,hb i hi,if_false,h]
theorem FH {bs:List Bool} {rd:Rd} {g:Gr} (h:Cp bs rd=some g):A1 g:=by
 unfold Cp at h
 split at h
 .simp at h
 .split at h
  .split at h
   .simp at h
   .split at h
    .rename_i hm
     simp at h;subst h;exact hm.2
    .simp at h
  .simp at h
theorem PF {b:CI} (h:DR b) (hs:b.data.size<1000000000):CV b:=by
 have h1:=h.1;have h2:=h.2.1;have h3:=h.2.2.1
 refine⟨h1,?_,hs⟩
 omega
theorem Q0 {C:A2} (hC:C.P=pg) {ops:Array Oper} {Q:Exit→Act→World→Prop} {a:Act} {w:World} {d t ty:Nat} {pos:String} {af:Array Edge} {ats:Array TypeId} {rest:List Oper} {x:Value} (h0:a.tmps.getD t undef=x)
 (h:wpListIn (FX C) 0 C.P ops Q rest (a.put (some d) (.func (.func 195) #[] #[.pointer (some ⟨w.heap.size,0,none⟩)])) (w.alloc (.cells x.cells 65))):
 wpListIn (FX C) 0 C.P ops Q ({dst:=some d,op:= .call {callee:= .value (.func 162),args:= #[.tmp t],argTypes:=ats},type:=ty,pos:=pos,after:=af,guard:=none}::rest) a w:=by
 simp only[wpListIn]
 rw[if_pos (by simp[Region.wanted])]
 refine⟨fun _ _=>trivial,?_⟩
 have e0:a.eval (.tmp t)=x:=h0
 have ef:a.eval (.func 162)= .func (.func 162) #[] #[]:=rfl
 have hfn:C.P.funcs[(162:Nat)]?=some Tryz.f162:=by rw[hC];rfl
 have hb:¬(Tryz.f162.body=none):=by intro e;cases e
 have hnm:¬(Tryz.f162.name= "runtime.NumGoroutine"):=by simp[Tryz.f162]
 have e:Sem.run C.P (execOp a.eval {dst:=some d,op:= .call {callee:= .value (.func 162),args:= #[.tmp t],argTypes:=ats},type:=ty,pos:=pos,after:=af,guard:=none}) w= .ok (.enter 162 #[x]) w:=by
  simp[execOp,resolve,ef,e0,Deferred.ofValue,invoke,callFunc,hfn,hb,hnm]
 rw[Oper.semAt_eq _ _ _ (by intro c h;cases h),e]
 refine⟨fun h=>absurd h (by simp[FX,Fence.wide]),(callsIn_wide (n:=0-1)).2 ?_⟩
 rw[hC]
 refine(Oo w x).mono ?_
 rintro e w' ⟨rfl,rfl⟩
 rw[hC] at h
 exact h
theorem UE (xs:List Obj) (id:Int) (hx:DW xs) (hm:CT xs):Aa pg 126 [.ro xs.length (Ag Au xs),.int .i64 id] [] (fun r _=>r= .tup [.agg (AO true (BD xs id).1),.int .i64 (BD xs id).2]):=by
 have hx1:=hx.1
 have hb:∀o∈xs,o.base=0∨∃q∈xs,q.id=o.base:=fun o ho=>(hm.2.1 o ho).2.2.2.2
 refine Aa.enterA (fn:=Tryz.f126) tk rfl rfl rfl (Nat.le_of_ble_eq_true rfl) (by kernel_rfl) ?_
 intro C hC hp hn hrd hdf
 have hp0:C.p≤0:=Nat.le_of_eq hp
 have hn48:C.n=48:=hn
 show AW C _ _ _ (Ha tT [.cell 4 51,.cell 5 44] 0 _)
 rw[Aq]
 refine AW.seqW tk hC hp0 (by rw[hn48];kernel_rfl) ?_
 refine z2 ?_;intro K hK;refine zk ?_;clear hK K
 refine AW.seqW tk hC hp0 (by rw[hn48];kernel_rfl) ?_
 refine z0 ?_;intro K hK
 refine Ab.eq (UC xs id hx hb) (by simp) (by simp) ?_
 refine zx ?_
 refine zk ?_;clear hK K
 by_cases hd:(Cz xs id).2=0
 .refine Af hd ?_;intro K hK
  refine zk ?_;clear hK K
  refine zn ?_
  refine W.skip ?_
  refine AW.seqW tk hC hp0 (by rw[hn48];kernel_rfl) ?_
  refine z1 ?_;intro K hK
  refine zk ?_;clear hK K
  have Bu:id=0∨∃q∈xs,q.id=id:=by
   right
   cases hf:CY xs id with
   |none=>simp[Cz,hf] at hd
   |some o=>obtain⟨k,hlt,_,hko,hoi⟩:=Eb hf;exact⟨o,Dn hf,hoi⟩
  obtain⟨ws,hWay,hbase,hmem,hwl,hofO⟩:∃ws:List Obj,(Aa pg 163 [.ro xs.length (Ag Au xs),.int .i64 id,.int .i64 3] [] (fun r _=>r= .own 4 ws.length (Ag Au ws)))∧(∀i (h:i+1<ws.length),(ws[i]'(by omega)).base≠0)∧(∀o∈ws,o∈xs)∧ws.length≤3∧
   BD xs id=(match CZ Ce Cf ws with|some g=>(g,0) |none=>(AD,9)):=by
   refine⟨A8 xs 3 id,Rq xs id 3 hx (by omega) hb Bu,Mi xs 3 id,Nt xs 3 id,Ki xs 3 id,?_⟩
   unfold BD
   rw[if_neg (by simpa using hd)]
   cases CZ Ce Cf (A8 xs 3 id)<;>rfl
  generalize hQ:(fun(r:AV) (x:List Ae)=>r=AV.tup [AV.agg (AO true (BD xs id).1),AV.int .i64 (BD xs id).2])=Q
  show AW C _ _ _ _
  intro a w hr
  refine wpIn_seq (wpIn_seq (wpIn_region_lit ?_))
  obtain⟨S,hS⟩:∃S:List (Nat×AV),S=[(4,.ptr 0 0 0),(5,.ptr 1 0 0),(8,.ptr 2 0 0),(24,.tok 3 0 4 0 ws.length)]:=⟨_,rfl⟩
  let MM:Gr→List Ae:=fun g=> [.live 0 [.int .i64 0,.own 1 0 []],.live 0 [.int .i64 0],.live 0 [.int .i64 g.n,.tok 4 0 1 0 g.out.length],.live 0 (Ag Au ws),.live 0 (Ax true g.out)]
  refine(E9 (hC ▸ tk) (K:=fun F' M' =>Wk 0 F' M' (fr S) (MM AD)) ?_ [_,_,_] 3 _ _ a w ?_ ?_ ?_ hr:wpListIn _ _ _ _ _ ([_,_,_]++[_]) a w)
  rotate_left
  .rw[hn48];kernel_rfl
  .rw[hn48];kernel_rfl
  .refine D4 (call:=Ab pg) (call' :=C4 C) (fun f args M K K' hk hc=>(hc C hC).mono hk) (fun _ _ h=>h) _ _ _ _ ?_
   simp -implicitDefEqProofs (maxSteps:=999999) (disch:=omega)
   refine Ab.eq hWay (by simp) (by simp) ?_
   refine zx ?_
   refine Wk.trans (Wk.fr (S:=S) (by rw[hS];simp[Ad])) ?_
   refine Wk.trans (Wk.thaw (B:=2) (v:=0) (j:=1) (s:=1) (n:=0) (cs:=[.int .i64 0,.own 1 0 []]) (xs:=[]) rfl rfl) ?_
   exact fun C _=>Ck.refl _ _ _
  clear hr a w
  intro F' M' a w hwk hr
  obtain⟨σ,own,R⟩:=hwk C hp0 a w hr
  clear hr hwk
  have e24:a.eval (.tmp 24)=a.tmps.getD 24 undef:=rfl
  generalize hx24:a.tmps.getD 24 undef=x at*
  have hvx:VR w C.sh σ (.tok 3 0 4 0 ws.length) x (fun _=>0):=by
   have:=R.tmp 24 (by omega)
   rw[hx24,hS] at this
   simpa using this
  have hxc:x.cells= #[x]:=by
   simp only[VR] at hvx
   obtain⟨_,⟨a,c,rfl⟩,_⟩:=hvx
   rfl
  refine Q0 hC hx24 (wpListIn_nil ?_)
  have R2:=(R.allocO (.cells x.cells 65)).put (some 25) (av:= .any) (v:= .func (.func 195) #[] #[.pointer (some ⟨w.heap.size,0,none⟩)]) (fun _=>rfl)
  have e25:(a.put (some 25) (.func (.func 195) #[] #[.pointer (some ⟨w.heap.size,0,none⟩)])).eval (.tmp 25)= .func (.func 195) #[] #[.pointer (some ⟨w.heap.size,0,none⟩)]:=DM (by rw[R.size,hn48];decide)
  have e24:(a.put (some 25) (.func (.func 195) #[] #[.pointer (some ⟨w.heap.size,0,none⟩)])).tmps.getD 24 undef=x:=by rw[Ba (by decide)];exact hx24
  have eF:Aj (fr S) (some 25) .any=fr S:=by
   funext t
   simp only[QH]
   split
   .rename_i e;subst e;rw[hS];rfl
   .rfl
  rw[eF] at R2
  obtain⟨hh,hhe⟩:∃hh,hh=w.heap.size:=⟨_,rfl⟩
  rw[←hhe] at R2 e25 e24 ⊢
  have hcell:(w.alloc (.cells x.cells 65)).heap[hh]?=some (.cells x.cells 65):=by rw[hhe];exact World.alloc_heap_new w _
  generalize hw2:w.alloc (.cells x.cells 65)=w2 at*
  generalize ha2:a.put (some 25) (.func (.func 195) #[] #[.pointer (some ⟨hh,0,none⟩)])=a2 at*
  have hcf:∀args w,(callFunc 195 args).run C.P w= .ok (.enter 195 args) w:=by
   intro args w
   have hfn:C.P.funcs[(195:Nat)]?=some Tryz.f195:=by rw[hC];rfl
   have hb:¬(Tryz.f195.body=none):=by intro e;cases e
   have hnm:¬(Tryz.f195.name= "runtime.NumGoroutine"):=by simp[Tryz.f195]
   simp[callFunc,hfn,hb,hnm]
  have hsz2:hh<w2.heap.size:=(Array.getElem?_eq_some_iff.1 hcell).1
  have hseq:=QZ hh ws (by omega)
  rw[←hC] at hseq
  show Code.wpIn _ _ _ _ _ _ _
  refine QK (T:=tT) (hC ▸ tk) hrd hdf R2 e25 hcf hseq (va:=fun k=> .int .i64 ((ws.length:Int)-1-k)) (vb:=fun k=> .agg (Au (ws.getD (ws.length-1-k) ⟨0,0,⟨⟨#[]⟩,0⟩⟩))) (fun k=>⟨_,_,rfl,fun w σ=>⟨⟨rfl,fun _=>rfl⟩,Tq w _ σ _⟩⟩) (h:=hh) ?_ hsz2 (by rw[hhe];exact R.ext.size)
   (fun k M' =>∃g,CZ Ce Cf (ws.drop (ws.length-k))=some g∧A1 g∧M' =MM g) ⟨AD,by simp[CZ],Gt,rfl⟩ ?_ ?_ ?_ ?_ ?_ ?_
  .rw[if_neg (by omega)]
  .
   rintro k W M' σ' own' R' hW ⟨g,_,_,rfl⟩
   rw[hcell,hxc] at hW
   have hltW:hh<W.heap.size:=(Array.getElem?_eq_some_iff.1 hW).1
   have hv:=R'.tmp 24 (by omega)
   rw[e24,hS] at hv
   have hv2:=NN (shB:=fun g=>C.sh g∨(own' g≠none∧g<W.heap.size)∨(g=hh∧g<W.heap.size)) R'.mem (fun g h=> .inl h) (fun g h1 h2=> .inr (.inl ⟨h1,h2⟩)) hv
   have ev:vw (MM g) ((fr [(4,AV.ptr 0 0 0),(5,AV.ptr 1 0 0),(8,AV.ptr 2 0 0),(24,AV.tok 3 0 4 0 ws.length)]) 24)= .ro ws.length (Ag Au ws):=by simp[MM,vw]
   rw[ev] at hv2
   refine⟨_,fun g hg=>?_,fun _=>rfl,⟨hh,0,none⟩,[x],rfl,.inr ⟨.inr (.inr ⟨rfl,hltW⟩),?_,x,[],_,_,rfl,hv2,⟨rfl,fun _=>rfl⟩,fun _=>rfl⟩⟩
   .rcases hg with h|h|h
    .exact(R'.shr g h).2
    .exact h.2
    .exact h.2
   .intro i v hi
    rw[Bc,De hW]
    cases i with
    |zero=>simpa using hi
    |succ i=>simp at hi
  .rw[hn48];kernel_rfl
  .rw[hn48];kernel_rfl
  .rw[hn48];kernel_rfl
  .
   rintro k M' hk ⟨g,hg,hmay,rfl⟩
   rw[hC]
   obtain⟨i,hi⟩:∃i,i=ws.length-1-k:=⟨_,rfl⟩
   have hlt:i<ws.length:=by omega
   have eo:ws.getD (ws.length-1-k) ⟨0,0,⟨⟨#[]⟩,0⟩⟩=ws[i]:=by rw[←hi];simp[List.getD,hlt]
   simp only[eo]
   have hdr:ws.drop (ws.length-(k+1))=ws[i]::ws.drop (ws.length-k):=by
    rw[show ws.length-(k+1)=i by omega,show ws.length-k=i+1 by omega]
    exact List.drop_eq_getElem_cons hlt
   have hbits:=PF (hm.2.1 _ (hmem _ (List.getElem_mem hlt))).2.2.1 (hx.2 _ (hmem _ (List.getElem_mem hlt)))
   have hwn:CZ Ce Cf (ws.drop (ws.length-(k+1)))=none→CZ Ce Cf ws=none:=KY hbase _ (by omega)
   rw[hdr] at hwn ⊢
   generalize ws[i]=o at*
   subst hS
   show W pg tT 5 _ _ _ _
   simp only[MM]
   refine z1 ?_;intro K hK
   refine zk ?_;clear hK K
   refine⟨rfl,?_⟩
   show W pg tT 6 _ _ _ _
   refine zb ?_
   refine zs ?_
   by_cases hb0:o.base=0
   .refine Af hb0 ?_;intro K hK
    refine zk ?_;clear hK K
    refine zt ?_
    refine z0 ?_;intro K hK
    have sp:=Tm o.data hbits
    cases hf:Ce (Am o.data) with
    |none=>
     simp only[hf,KV] at sp
     refine Ab.bor sp (by simp) ?_
     rintro _ ⟨g0,rfl⟩
     refine⟨by simp,?_⟩
     refine zx ?_
     refine zk ?_;clear hK K
     refine zs ?_
     refine zt ?_
     refine zs ?_
     refine W.ret (.inr ⟨rfl,fr [(4,.ptr 0 0 0),(5,.ptr 1 0 0)],[.live 0 [.int .i64 0,.tok 2 0 1 0 0],.live 0 [.int .i64 9],.live 0 []],?_,?_⟩)
     .refine Wk.trans (Wk.cutM (k:=2) (S:=[(4,.ptr 0 0 0),(5,.ptr 1 0 0)]) (M:=[.live 0 [.int .i64 0,.own 1 0 []],.live 0 [.int .i64 9]]) (by simp[Ad]) (by simp) (by simp) (by simp) (by simp) (by omega)) ?_
      refine Wk.trans (Wk.thaw (B:=0) (v:=0) (j:=1) (s:=1) (n:=0) (cs:=[.int .i64 0,.own 1 0 []]) (xs:=[]) rfl rfl) ?_
      exact fun C _=>Ck.refl _ _ _
     .simp only[Ch]
      refine B8 (d:=0) ?_
      rw[←hQ,hofO,hwn (by simp[CZ,hb0,hf])]
      simp -implicitDefEqProofs (maxSteps:=999999) (disch:=omega)
      exact⟨rfl,rfl,rfl⟩
    |some g' =>
     simp only[hf,KV] at sp
     refine Ab.eq sp (by simp) (by simp) ?_
     refine zx ?_
     refine zk ?_;clear hK K
     refine zs ?_
     refine zn ?_
     refine W.skip ?_
     refine .inl ⟨rfl,MM g',?_,g',by simp[CZ,hb0,hf],FH hf,rfl⟩
     refine Wk.trans (Wk.intern (B:=2) (v:=0) (j:=1) (T:=6) (u:=0) (s:=1) (off:=0) (n:=g'.out.length) (cs:=[.int .i64 g'.n,.tok 6 0 1 0 g'.out.length]) (xs:=Ax true g'.out) rfl rfl rfl (by decide) (by simp) (by simp)) ?_
     refine Wk.trans (Wk.cutM (k:=4) (S:=[(4,.ptr 0 0 0),(5,.ptr 1 0 0),(8,.ptr 2 0 0),(24,.tok 3 0 4 0 ws.length)]) (M:=[.live 0 [.int .i64 0,.own 1 0 []],.live 0 [.int .i64 0],.live 0 [.int .i64 g'.n,.own 1 g'.out.length (Ax true g'.out)],.live 0 (Ag Au ws)]) (by simp[Ad]) (by simp) (by simp) (by simp) (by simp) (by omega)) ?_
     refine Wk.trans (Wk.thaw (B:=2) (v:=0) (j:=1) (s:=1) (n:=g'.out.length) (cs:=[.int .i64 g'.n,.own 1 g'.out.length (Ax true g'.out)]) (xs:=Ax true g'.out) rfl rfl) ?_
     exact fun C _=>Ck.refl _ _ _
   .refine Af hb0 ?_;intro K hK
    refine zk ?_;clear hK K
    refine zn ?_
    refine z0 ?_;intro K hK
    have sp:=To o.data g hbits hmay
    cases hf:Cf g (Am o.data) with
    |none=>
     simp only[hf,KV] at sp
     refine Ab.bor sp (by simp) ?_
     rintro _ ⟨g0,rfl⟩
     refine⟨by simp,?_⟩
     refine zx ?_
     refine zk ?_;clear hK K
     refine zs ?_
     refine zt ?_
     refine zs ?_
     refine W.ret (.inr ⟨rfl,fr [(4,.ptr 0 0 0),(5,.ptr 1 0 0)],[.live 0 [.int .i64 0,.tok 2 0 1 0 0],.live 0 [.int .i64 9],.live 0 []],?_,?_⟩)
     .refine Wk.trans (Wk.cutM (k:=2) (S:=[(4,.ptr 0 0 0),(5,.ptr 1 0 0)]) (M:=[.live 0 [.int .i64 0,.own 1 0 []],.live 0 [.int .i64 9]]) (by simp[Ad]) (by simp) (by simp) (by simp) (by simp) (by omega)) ?_
      refine Wk.trans (Wk.thaw (B:=0) (v:=0) (j:=1) (s:=1) (n:=0) (cs:=[.int .i64 0,.own 1 0 []]) (xs:=[]) rfl rfl) ?_
      exact fun C _=>Ck.refl _ _ _
     .simp only[Ch]
      refine B8 (d:=0) ?_
      rw[←hQ,hofO,hwn (by simp[CZ,hb0,hg,hf])]
      simp -implicitDefEqProofs (maxSteps:=999999) (disch:=omega)
      exact⟨rfl,rfl,rfl⟩
    |some g' =>
     simp only[hf,KV] at sp
     refine Ab.eq sp (by simp) (by simp) ?_
     refine zx ?_
     refine zk ?_;clear hK K
     refine zs ?_
     refine zn ?_
     refine W.skip ?_
     refine .inl ⟨rfl,MM g',?_,g',by simp[CZ,hb0,hg,hf],FH hf,rfl⟩
     refine Wk.trans (Wk.intern (B:=2) (v:=0) (j:=1) (T:=6) (u:=0) (s:=1) (off:=0) (n:=g'.out.length) (cs:=[.int .i64 g'.n,.tok 6 0 1 0 g'.out.length]) (xs:=Ax true g'.out) rfl rfl rfl (by decide) (by simp) (by simp)) ?_
     refine Wk.trans (Wk.cutM (k:=4) (S:=[(4,.ptr 0 0 0),(5,.ptr 1 0 0),(8,.ptr 2 0 0),(24,.tok 3 0 4 0 ws.length)]) (M:=[.live 0 [.int .i64 0,.own 1 0 []],.live 0 [.int .i64 0],.live 0 [.int .i64 g'.n,.own 1 g'.out.length (Ax true g'.out)],.live 0 (Ag Au ws)]) (by simp[Ad]) (by simp) (by simp) (by simp) (by simp) (by omega)) ?_
     refine Wk.trans (Wk.thaw (B:=2) (v:=0) (j:=1) (s:=1) (n:=g'.out.length) (cs:=[.int .i64 g'.n,.own 1 g'.out.length (Ax true g'.out)]) (xs:=Ax true g'.out) rfl rfl) ?_
     exact fun C _=>Ck.refl _ _ _
  .
   rintro M' ⟨g,hg,hmay,rfl⟩
   rw[hC]
   subst hS
   show W pg tT 5 _ _ _ _
   simp only[MM]
   refine z0 ?_;intro K hK
   refine zk ?_;clear hK K
   refine W.ret ⟨rfl,?_⟩
   simp only[Ch]
   refine B8 (d:=0) ?_
   have hg' :CZ Ce Cf ws=some g:=by simpa using hg
   rw[←hQ,hofO,hg']
   simp -implicitDefEqProofs (maxSteps:=999999) (disch:=omega)
 .refine Af hd ?_;intro K hK
  refine zk ?_;clear hK K
  refine zt ?_
  refine zs ?_
  refine W.weak (Wk.thaw (B:=0) (v:=0) (j:=1) (s:=1) (n:=0) (cs:=[.int .i64 0,.own 1 0 []]) (xs:=[]) rfl rfl) ?_
  refine zr ?_
  simp[BD,hd,AD]
end Go.Abs
set_option maxRecDepth 100000
namespace Go.Abs
open Go.Proofs
theorem Nu (k:Int):Aa pg 249 [.int .i64 k] [] (fun r _=>r= .bool (BI k)):=by
 refine Aa.start (fn:=Tryz.f249) [.tmp 2] tk rfl rfl rfl (by kernel_rfl) (Nat.le_of_ble_eq_true rfl) rfl (by kernel_rfl) ?_
 rw[As]
 refine zs ?_
 by_cases h1:k=1
 .refine Af h1 ?_;intro K hK
  refine zk ?_;clear hK K
  refine zr ?_
  simp[BI,h1]
 .by_cases h2:k=2
  .refine Af (an h1 h2) ?_;intro K hK
   refine zk ?_;clear hK K
   refine zr ?_
   simp[BI,h2]
  .refine Af (an h1 h2) ?_;intro K hK
   refine zk ?_;clear hK K
   refine zr ?_
   simp[BI,h1,h2]
theorem Tt (g:Gr) (k a:Int) (hg:EA g) (hm:A1 g):Aa pg 237 [.agg (AO false g),.int .i64 k,.int .i64 a] [] (fun r _=>r= .int .i64 (C0 g k a)):=by
 refine Aa.start (fn:=Tryz.f237) [.tmp 6] tk rfl rfl rfl (by kernel_rfl) (Nat.le_of_ble_eq_true rfl) rfl (by kernel_rfl) ?_
 rw[Bm]
 refine z1 ?_;intro K hK;refine zk ?_;clear hK K
 refine zb ?_
 have hM:=JP g hg
 rw[decide_eq_true hm] at hM
 by_cases h1:k<1
 .refine Af h1 ?_;intro K hK
  refine Ab.eq hM (by simp) (by simp) ?_
  refine AJ h1 ?_
  refine zk ?_;clear hK K
  refine zt ?_
  refine zs ?_
  refine zr ?_
  rw[C0,if_pos (by omega)]
 .by_cases h2:k≤6
  .refine Af (an h1 h2) ?_;intro K hK
   refine Ab.eq hM (by simp) (by simp) ?_
   refine AJ (an h1 h2) ?_
   refine zk ?_;clear hK K
   refine zn ?_
   refine z0 ?_;intro K hK
   refine Ab.eq (Nu k) (by simp) (by simp) ?_
   cases hn:BI k
   .refine zx ?_
    refine zk ?_;clear hK K
    refine zn ?_
    refine W.skip ?_
    refine zs ?_
    refine zr ?_
    rw[C0,if_neg (by omega),if_neg (by simp[hn])]
   .refine zx ?_
    refine Ab.eq (Rp g a) (by simp) (by simp) ?_
    by_cases h3:0≤a∧a<g.n
    .rw[decide_eq_true h3]
     refine zx ?_
     refine zk ?_;clear hK K
     refine zn ?_
     refine W.skip ?_
     refine zs ?_
     refine zr ?_
     rw[C0,if_neg (by omega),if_neg (by simp[h3])]
    .rw[decide_eq_false h3]
     refine zx ?_
     refine zk ?_;clear hK K
     refine zt ?_
     refine zs ?_
     refine zr ?_
     rw[C0,if_neg (by omega),if_pos ⟨hn,h3⟩]
  .refine Af (an h1 h2) ?_;intro K hK
   refine Ab.eq hM (by simp) (by simp) ?_
   refine AJ (an h1 h2) ?_
   refine zk ?_;clear hK K
   refine zt ?_
   refine zs ?_
   refine zr ?_
   rw[C0,if_pos (by omega)]
theorem Mj (g:Gr) (j:BQ) (hl:j.list.length<1000000000000):Aa pg 194 [.agg (AO false g),.agg (BA false j)] [] (fun r _=>r= .bool (Bn g j)):=by
 refine Aa.start (fn:=Tryz.f194) [.tmp 4] tk rfl rfl rfl (by kernel_rfl) (Nat.le_of_ble_eq_true rfl) rfl (by kernel_rfl) ?_
 rw[Aq]
 refine z2 ?_;intro K hK;refine zk ?_;clear hK K
 refine zs ?_
 refine zb ?_
 refine zs ?_
 refine zc ?_ ?_<;>intro h
 .refine zs ?_
  refine zr ?_
  simp[Bn,h]
 .have h1:=h;clear h
  refine zs ?_
  refine zc ?_ ?_<;>intro h
  .refine zs ?_
   refine zr ?_
   simp[Bn,h]
  .refine W.skip ?_
   refine zs ?_
   refine zr ?_
   simp[Bn, *]
theorem PG (a b:BQ) (ha:a.list.length<1000000000000∧a.out.length<1000000000000):Aa pg 218 [.agg (BA false a),.agg (BA false b)] [] (fun r _=>r= .bool (decide (a=b))):=by
 have e0:(a=b)↔a.kind=b.kind∧a.a=b.a∧a.at_=b.at_∧a.move=b.move∧a.list=b.list∧a.out=b.out:=BQ.ext_iff
 refine Aa.start (fn:=Tryz.f218) [.tmp 4] tk rfl rfl rfl (by kernel_rfl) (Nat.le_of_ble_eq_true rfl) rfl (by kernel_rfl) ?_
 rw[Aq]
 refine z2 ?_;intro K hK;refine zk ?_;clear hK K
 by_cases h1:a.kind=b.kind
 .by_cases h2:a.a=b.a
  .by_cases h3:a.at_=b.at_
   .by_cases h4:a.move=b.move
    .refine Af (an h1 (an h2 (an h3 h4))) ?_;intro K hK
     refine Ab.eq (GV a.list b.list (by omega)) (by simp) (by simp) ?_
     by_cases h5:a.list=b.list
     .rw[decide_eq_true h5]
      refine zx ?_
      refine Ab.eq (GV a.out b.out (by omega)) (by simp) (by simp) ?_
      refine zx ?_
      refine zk ?_;clear hK K
      refine zr ?_
      simp[e0,h1,h2,h3,h4,h5]
     .rw[decide_eq_false h5]
      refine zx ?_
      refine zk ?_;clear hK K
      refine zr ?_
      simp[e0,h5]
    .refine Af (an h1 (an h2 (an h3 h4))) ?_;intro K hK
     refine zk ?_;clear hK K
     refine zr ?_
     simp[e0,h4]
   .refine Af (an h1 (an h2 h3)) ?_;intro K hK
    refine zk ?_;clear hK K
    refine zr ?_
    simp[e0,h3]
  .refine Af (an h1 h2) ?_;intro K hK
   refine zk ?_;clear hK K
   refine zr ?_
   simp[e0,h2]
 .refine Af h1 ?_;intro K hK
  refine zk ?_;clear hK K
  refine zr ?_
  simp[e0,h1]
theorem Mk (g:Gr):Aa pg 190 [.agg (AO false g)] [] (fun r _=>r= .bool (decide (g=AD))):=by
 have e0:(g=AD)↔g.n=0∧g.out=[]:=Gr.ext_iff
 refine Aa.start (fn:=Tryz.f190) [.tmp 2] tk rfl rfl rfl (by kernel_rfl) (Nat.le_of_ble_eq_true rfl) rfl (by kernel_rfl) ?_
 rw[As]
 refine z1 ?_;intro K hK;refine zk ?_;clear hK K
 by_cases h1:g.n=0
 .refine Af h1 ?_;intro K hK
  refine zk ?_;clear hK K
  refine zr ?_
  simp[e0,h1]
 .refine Af h1 ?_;intro K hK
  refine zk ?_;clear hK K
  refine zr ?_
  simp[e0,h1]
theorem Io (j:BQ) (hj:j.list.length<1000000000000∧j.out.length<1000000000000):Aa pg 191 [.agg (BA false j)] [] (fun r _=>r= .bool (decide (j=B6))):=by
 have e0:(j=B6)↔j.kind=0∧j.a=0∧j.at_=0∧j.move=false∧j.list=[]∧j.out=[]:=BQ.ext_iff
 refine Aa.start (fn:=Tryz.f191) [.tmp 2] tk rfl rfl rfl (by kernel_rfl) (Nat.le_of_ble_eq_true rfl) rfl (by kernel_rfl) ?_
 rw[As]
 refine z1 ?_;intro K hK;refine zk ?_;clear hK K
 by_cases h1:j.kind=0
 .by_cases h2:j.a=0
  .by_cases h3:j.at_=0
   .cases h4:j.move
    .refine Af (an h1 (an h2 (an h3 h4))) ?_;intro K hK
     refine zk ?_;clear hK K
     refine zr ?_
     simp[e0,h1,h2,h3,h4]
     rw[←List.length_eq_zero_iff,←List.length_eq_zero_iff]
     omega
    .refine Af (an h1 (an h2 (an h3 h4))) ?_;intro K hK
     refine zk ?_;clear hK K
     refine zr ?_
     simp[e0,h4]
   .refine Af (an h1 (an h2 h3)) ?_;intro K hK
    refine zk ?_;clear hK K
    refine zr ?_
    simp[e0,h3]
  .refine Af (an h1 h2) ?_;intro K hK
   refine zk ?_;clear hK K
   refine zr ?_
   simp[e0,h2]
 .refine Af h1 ?_;intro K hK
  refine zk ?_;clear hK K
  refine zr ?_
  simp[e0,h1]
end Go.Abs
set_option maxRecDepth 100000
namespace Go.Abs
open Go.Proofs
def Be (s:AS):Prop:=s.vers.length<1000000000∧s.sess.length<1000000000∧∀v∈s.vers,v.data.data.size<1000000000
theorem Be.objs {s:AS} (h:Be s):DW (Ar s):=by
 refine⟨by have:=h.1;simp[Ar];omega,fun o ho=>?_⟩
 simp only[Ar,List.mem_map] at ho
 obtain⟨v,hv,rfl⟩:=ho
 exact h.2.2 v hv
theorem Ml (s:AS) (hs:Be s):Aa pg 80 [.agg (AC false s)] [] (fun r _=>r= .own 4 (Ar s).length (Ag Au (Ar s))):=by
 have h1:=hs.1
 refine Aa.start (fn:=Tryz.f80) [.tmp 2] tk rfl rfl rfl (by kernel_rfl) (Nat.le_of_ble_eq_true rfl) rfl (by kernel_rfl) ?_
 rw[As]
 refine z1 ?_;intro K hK;refine zk ?_;clear hK K
 refine zs ?_
 (repeat refine W.seq ?_);refine W.block (W.loopS (fun k:Nat=> [(2,.tok 1 k 4 0 k),(6,FE false s.vers),(7,.int .i64 s.vers.length),(8,.int .i64 k)]) (fun k=> [.live 0 (AC false s),.live k (Ag Au ((Ar s).take k))]) (fun k=>s.vers.length-k) (fun k=>k≤s.vers.length) 0 ((Wk.nil (t:=2) (s:=4) ?_).trans (Wk.fr ?_)) (by simp) ?_)
 .simp
 .simp[Ad]
 .intro k hk
  refine zs ?_
  refine zc ?_ ?_<;>intro h
  .refine W.skip ?_
   have hlt:k<s.vers.length:=by omega
   have hto:(Ar s).take (k+1)=(Ar s).take k++[Gl s.vers[k]]:=by
    rw[List.take_add_one];simp[Ar,hlt]
   have hlo:k≤(Ar s).length:=by simp[Ar];omega
   refine zb ?_
   (repeat refine W.seq ?_);refine W.reg 1 rfl fun K hK=>?_;simp -implicitDefEqProofs (maxSteps:=999999) (disch:=omega) [hlt]
   refine zk ?_;clear hK K
   refine Pw hlo ?_;intro K hK
   refine⟨by omega,by omega,?_⟩
   refine zk ?_;clear hK K
   refine zs ?_
   refine⟨k+1,by omega,by omega,Wk.cutM (k:=2) (by simp[Ad]) ?_ (by simp) (by simp) (by simp) (by simp)⟩
   rw[hto]
   simp[CS,AM,Gl]
  .refine W.exit ?_
   have hk' :k=s.vers.length:=by omega
   subst hk'
   have e:(Ar s).take s.vers.length=Ar s:=List.take_of_length_le (by simp[Ar])
   rw[e]
   refine zs ?_
   refine zr ?_
   rw[e]
   simp[Ar]
theorem Ip (s:AS) (hs:Be s):Aa pg 76 [.agg (AC false s)] [] (fun r _=>r= .int .i64 (B1 s.vers)):=by
 have h1:=hs.1
 refine Aa.start (fn:=Tryz.f76) [.tmp 2] tk rfl rfl rfl (by kernel_rfl) (Nat.le_of_ble_eq_true rfl) rfl (by kernel_rfl) ?_
 rw[As]
 refine z1 ?_;intro K hK;refine zk ?_;clear hK K
 refine zs ?_
 refine zc ?_ ?_<;>intro h
 .refine zs ?_
  refine zr ?_
  simp[B1,h]
 .refine W.skip ?_
  have hp:0<s.vers.length:=List.length_pos_iff.2 h
  have hlt:s.vers.length-1<s.vers.length:=by omega
  (repeat refine W.seq ?_);refine W.reg 0 rfl fun K hK=>?_;simp -implicitDefEqProofs (maxSteps:=999999) (disch:=omega) [hlt]
  refine⟨by omega,?_⟩
  refine zk ?_;clear hK K
  refine zr ?_
  rw[B1,List.getLast?_eq_getElem?,List.getElem?_eq_getElem hlt]
theorem Q1 (v:Cw) (id:Int):Aa pg 124 ([.agg (AU v)]++[.rptr [.int .i64 id]]) [] (fun r _=>r= .bool (decide (v.id=id))):=by
 refine Aa.start (fn:=Tryz.f124) [.tmp 3] tk rfl rfl rfl (by kernel_rfl) (Nat.le_of_ble_eq_true rfl) rfl (by kernel_rfl) ?_
 simp only[List.cons_append,List.nil_append]
 rw[Aq]
 refine z1 ?_;intro K hK;refine zk ?_;clear hK K
 refine zs ?_
 exact zR
theorem Nv (s:AS) (id:Int) (hs:Be s):Aa pg 82 [.agg (AC false s),.int .i64 id] [] (fun r _=>r= .int .i64 (BX (fun v=>decide (v.id=id)) s.vers)):=by
 have h1:=hs.1
 refine Aa.start (fn:=Tryz.f82) [.tmp 4] tk rfl rfl rfl (by kernel_rfl) (Nat.le_of_ble_eq_true rfl) rfl (by kernel_rfl) ?_
 rw[Aq]
 refine z2 ?_;intro K hK;refine zk ?_;clear hK K
 refine z0 ?_;intro K hK
 refine Ab.eq (Om s.vers 124 [.rptr [.int .i64 id]] (fun v=>decide (v.id=id)) (by omega) (fun v _=>Q1 v id) (by simp)) (by simp) (by simp) ?_
 refine zx ?_
 refine zk ?_;clear hK K
 exact zR
theorem Q2 (b:CI) (hb:b.data.size<1000000000):Aa pg 120 [.agg (Cb b)] [] (fun r _=>r= .int .i64 (I6 b)):=by
 refine Aa.start (fn:=Tryz.f120) [.tmp 2] tk rfl rfl rfl (by kernel_rfl) (Nat.le_of_ble_eq_true rfl) rfl (by kernel_rfl) ?_
 rw[As]
 refine z1 ?_;intro K hK;refine zk ?_;clear hK K
 refine z0 ?_;intro K hK
 refine zk ?_;clear hK K
 refine zr ?_
 unfold I6
 congr 1
 omega
theorem Q3 (n:Int):Aa pg 160 [.int .i64 n] [] (fun r _=>r= .bool (decide (1≤n∧n≤100))):=by
 refine Aa.start (fn:=Tryz.f160) [.tmp 2] tk rfl rfl rfl (by kernel_rfl) (Nat.le_of_ble_eq_true rfl) rfl (by kernel_rfl) ?_
 rw[As]
 refine zs ?_
 by_cases h1:1≤n
 .refine Af h1 ?_;intro K hK
  refine zk ?_;clear hK K
  exact zR
 .refine Af h1 ?_;intro K hK
  refine zk ?_;clear hK K
  exact zR
theorem PH (s:AS) (id:Int) (hs:Be s) (hm:CT (Ar s)) (Bu:id≠0):Aa pg 83 [.agg (AC false s),.int .i64 id] [] (fun r _=>r= .agg (AO true (BD (Ar s) id).1)):=by
 have h1:=hs.1
 refine Aa.start (fn:=Tryz.f83) [.cell 4 51] tk rfl rfl rfl (by kernel_rfl) (Nat.le_of_ble_eq_true rfl) rfl (by kernel_rfl) ?_
 rw[Aq]
 refine z2 ?_;intro K hK;refine zk ?_;clear hK K
 refine Af Bu ?_;intro K hK
 refine zk ?_;clear hK K
 refine zn ?_
 refine W.skip ?_
 refine z1 ?_;intro K hK
 refine Ab.eq (Ml s hs) (by simp) (by simp) ?_
 refine zx ?_
 refine Ab.eq (UE (Ar s) id hs.objs hm) (by simp) (by simp) ?_
 refine zx ?_
 refine zk ?_;clear hK K
 refine zs ?_
 exact zR
def di (x:Int×Int):List AV:=Av x
theorem Q4 (s:AS) (hs:Be s):Aa pg 79 [.agg (AC false s)] [] (fun r _=>r= .own 2 (A0 s).length (Ag Av (A0 s))):=by
 have h1:=hs.1
 refine Aa.start (fn:=Tryz.f79) [.tmp 2] tk rfl rfl rfl (by kernel_rfl) (Nat.le_of_ble_eq_true rfl) rfl (by kernel_rfl) ?_
 rw[As]
 refine z1 ?_;intro K hK;refine zk ?_;clear hK K
 refine zs ?_
 (repeat refine W.seq ?_);refine W.block (W.loopS (fun k:Nat=> [(2,.tok 1 k 2 0 k),(6,FE false s.vers),(7,.int .i64 s.vers.length),(8,.int .i64 k)]) (fun k=> [.live 0 (AC false s),.live k (Ag Av ((A0 s).take k))]) (fun k=>s.vers.length-k) (fun k=>k≤s.vers.length) 0 ((Wk.nil (t:=2) (s:=2) ?_).trans (Wk.fr ?_)) (by simp) ?_)
 .simp
 .simp[Ad]
 .intro k hk
  refine zs ?_
  refine zc ?_ ?_<;>intro h
  .refine W.skip ?_
   have hlt:k<s.vers.length:=by omega
   have hto:(A0 s).take (k+1)=(A0 s).take k++[(s.vers[k].at_,I6 s.vers[k].data)]:=by
    rw[List.take_add_one];simp[A0,hlt]
   have hlo:k≤(A0 s).length:=by simp[A0];omega
   have hB:=Q2 s.vers[k].data (hs.2.2 _ (List.getElem_mem hlt))
   refine zb ?_
   (repeat refine W.seq ?_);refine W.reg 1 rfl fun K hK=>?_;simp -implicitDefEqProofs (maxSteps:=999999) (disch:=omega) [hlt]
   refine zk ?_;clear hK K
   (repeat refine W.seq ?_);refine W.regd 1 rfl true Cc (by kernel_rfl) fun K hK=>?_;simp -implicitDefEqProofs (maxSteps:=999999) (disch:=omega) [hlo]
   refine Ah.eq hB (by simp) (by simp) ?_
   refine AJ hlo ?_
   refine⟨by omega,by omega,?_⟩
   refine zk ?_;clear hK K
   refine zs ?_
   refine⟨k+1,by omega,by omega,Wk.cutM (k:=2) (by simp[Ad]) ?_ (by simp) (by simp) (by simp) (by simp)⟩
   rw[hto]
   simp[CS,AM,Av]
  .refine W.exit ?_
   have hk' :k=s.vers.length:=by omega
   subst hk'
   have e:(A0 s).take s.vers.length=A0 s:=List.take_of_length_le (by simp[A0])
   rw[e]
   refine zs ?_
   refine zr ?_
   rw[e]
   simp[A0]
end Go.Abs
set_option maxRecDepth 100000
namespace Go.Abs
open Go.Proofs
theorem Iq (l:List Cw):F6 l=false↔∀i (h:i<l.length),i=l.length-1→l[i].gone=false:=by
 rw[F6,List.getLast?_eq_getElem?]
 by_cases h:0<l.length
 .rw[List.getElem?_eq_getElem (by omega)]
  constructor
  .intro g i hi e;subst e;exact g
  .intro g;exact g _ (by omega) rfl
 .rw[List.getElem?_eq_none (by omega)]
  simp
  intro i hi;omega
theorem Kl (s:AS) (hs:Be s):Aa pg 154 [.agg (AC false s)] [] (fun r _=>r= .bool (decide (Fa s))):=by
 have h1:=hs.1
 refine Aa.start (fn:=Tryz.f154) [.tmp 2] tk rfl rfl rfl (by kernel_rfl) (Nat.le_of_ble_eq_true rfl) rfl (by kernel_rfl) ?_
 rw[As]
 refine z1 ?_;intro K hK;refine zk ?_;clear hK K
 by_cases c1:s.keep<1
 .refine Af c1 ?_;intro K hK
  refine zk ?_;clear hK K
  refine zt ?_
  refine zs ?_
  refine zr ?_
  intro g;have:=g.1;omega
 by_cases c2:s.keep≤8
 rotate_left
 .refine Af (an c1 c2) ?_;intro K hK
  refine zk ?_;clear hK K
  refine zt ?_
  refine zs ?_
  refine zr ?_
  intro g;have:=g.2.1;omega
 by_cases c3:s.blocks<1
 .refine Af (an c1 (an c2 c3)) ?_;intro K hK
  refine zk ?_;clear hK K
  refine zt ?_
  refine zs ?_
  refine zr ?_
  intro g;have:=g.2.2.1;omega
 by_cases c4:s.blocks≤100
 rotate_left
 .refine Af (an c1 (an c2 (an c3 c4))) ?_;intro K hK
  refine zk ?_;clear hK K
  refine zt ?_
  refine zs ?_
  refine zr ?_
  intro g;have:=g.2.2.2.1;omega
 refine Af (an c1 (an c2 (an c3 c4))) ?_;intro K hK
 refine zk ?_;clear hK K
 refine zn ?_
 refine W.skip ?_
 refine zs ?_
 (repeat refine W.seq ?_);refine W.block (W.loopS (fun k:Nat=> [(1,.ptr 0 0 0),(24,FE false s.vers),(25,.int .i64 s.vers.length),(26,.int .i64 k)]) (fun k=> [.live 0 (AC false s)]) (fun k=>s.vers.length-k) (fun k=>k≤s.vers.length∧∀i (h:i<s.vers.length),i<k→Gm s.vers[i]∧(i=s.vers.length-1→s.vers[i].gone=false)) 0 (Wk.fr (by simp[Ad])) (by simp) ?_)
 rintro k ⟨hk,ht⟩
 refine zs ?_
 refine zc ?_ ?_<;>intro h
 .refine W.skip ?_
  have hlt:k<s.vers.length:=by omega
  have bad:¬(Gm s.vers[k]∧(k=s.vers.length-1→s.vers[k].gone=false))→¬Fa s:=fun g w=>g ⟨w.2.2.2.2.1 _ (List.getElem_mem hlt),fun e=>(Iq _).1 w.2.2.2.2.2.1 k hlt e⟩
  refine zb ?_
  (repeat refine W.seq ?_);refine W.reg 1 rfl fun K hK=>?_;simp -implicitDefEqProofs (maxSteps:=999999) (disch:=omega) [hlt]
  refine zk ?_;clear hK K
  have fail:¬(Gm s.vers[k]∧(k=s.vers.length-1→s.vers[k].gone=false))→¬Fa s:=bad
  generalize hv:s.vers[k]=v at*
  by_cases d1:v.parent<0
  .refine Af d1 ?_;intro K hK
   refine zk ?_;clear hK K
   refine zt ?_
   refine zs ?_
   refine zr ?_
   exact bad fun g=>by have:=g.1.1;omega
  by_cases d2:v.parent<v.id
  rotate_left
  .refine Af (an d1 d2) ?_;intro K hK
   refine zk ?_;clear hK K
   refine zt ?_
   refine zs ?_
   refine zr ?_
   exact bad fun g=>d2 g.1.2.1
  cases d3:v.gone
  .cases d4:v.tag
   all_goals
    refine Af (an d1 (an d2 (an d3 d4))) ?_;intro K hK
    refine zk ?_;clear hK K
    refine zn ?_
    refine W.skip ?_
    refine zs ?_
    refine⟨k+1,by omega,⟨by omega,fun i hi hik=>?_⟩,Wk.cutM (k:=1) (by simp[Ad]) (by simp) (by simp) (by simp) (by simp) (by simp)⟩
    by_cases e:i=k
    .subst e;rw[hv];exact⟨⟨by omega,d2,by simp[d3]⟩,fun _=>d3⟩
    .exact ht i hi (by omega)
  .cases d4:v.tag
   .by_cases d5:k=s.vers.length-1
    .have d5' :(k:Int)=(s.vers.length:Int)-1:=by omega
     refine Af (an d1 (an d2 (an d3 (an d4 d5')))) ?_;intro K hK
     refine zk ?_;clear hK K
     refine zt ?_
     refine zs ?_
     refine zr ?_
     exact bad fun g=>by have:=g.2 d5;simp[d3] at this
    .have d5' :¬(k:Int)=(s.vers.length:Int)-1:=by omega
     refine Af (an d1 (an d2 (an d3 (an d4 d5')))) ?_;intro K hK
     refine zk ?_;clear hK K
     refine zn ?_
     refine W.skip ?_
     refine zs ?_
     refine⟨k+1,by omega,⟨by omega,fun i hi hik=>?_⟩,Wk.cutM (k:=1) (by simp[Ad]) (by simp) (by simp) (by simp) (by simp) (by simp)⟩
     by_cases e:i=k
     .subst e;rw[hv];exact⟨⟨by omega,d2,by simp[d4]⟩,fun e=>absurd e d5⟩
     .exact ht i hi (by omega)
   .refine Af (an d1 (an d2 (an d3 d4))) ?_;intro K hK
    refine zk ?_;clear hK K
    refine zt ?_
    refine zs ?_
    refine zr ?_
    exact bad fun g=>g.1.2.2 ⟨d4,d3⟩
 .refine W.exit ?_
  have hk' :k=s.vers.length:=by omega
  refine z0 ?_;intro K hK
  refine Ab.eq (Ml s hs) (by simp) (by simp) ?_
  refine zx ?_
  refine Ab.eq (UB (Ar s) hs.objs) (by simp) (by simp) ?_
  refine zx ?_
  refine zk ?_;clear hK K
  refine zr ?_
  constructor
  .intro hm
   exact⟨by omega,c2,by omega,c4,fun v hv=>by
    obtain⟨i,hi,rfl⟩:=List.mem_iff_getElem.1 hv
    exact(ht i hi (by omega)).1,(Iq _).2 fun i hi e=>(ht i hi (by omega)).2 e,hm⟩
  .intro w;exact w.2.2.2.2.2.2
end Go.Abs
