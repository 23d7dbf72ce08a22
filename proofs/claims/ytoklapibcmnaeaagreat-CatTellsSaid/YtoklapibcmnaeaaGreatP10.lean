/- References: gaps written. -/
import Derived.Test.YtoklapibcmnaeaaGreatP9
set_option linter.unusedVariables false
set_option linter.unusedSimpArgs false
set_option maxRecDepth 100000
namespace Go.Abs
open Go.Proofs
theorem Jq (v:Int):∀(l:List Int) (i:Nat) (f:Bool) (e:Int) (h:i<l.length),C7 v (l.take (i+1)) f e=C7 v (l.take i) f e++Ba (if i=0 then(if f=true then D3 (l[i]-v)+1 else l[i]-e) else l[i]-l[i-1]).toNat
 | [],i,f,e,h=>by simp at h
 |x::t,0,f,e,h=>by simp[C7]
 |x::t,i+1,f,e,h=>by
  have ih:=Jq v t i false x (by simpa using h)
  simp only[List.take_succ_cons,C7,List.getElem_cons_succ,Nat.add_sub_cancel] at ih ⊢
  rw[ih,List.append_assoc]
  congr 3
  cases i with
  |zero=>simp
  |succ i=>simp
theorem FU (n:Nat) (h:n<1099511627776):(Ba n).length≤81:=by
 have:=Gy n
 by_cases h0:n=0
 .subst h0;simp[Ba,Bv]
 .have:=(Nat.log2_lt (n:=n) (k:=40) h0).2 (by omega)
  omega
theorem Ud (xs:List Bool) (u:Nat) (v:Int) (l:List Int) (hx:xs.length<10000000) (hv:0≤v∧v≤16) (hl:AI l):Aa pg 206 [.tok 0 u 1 0 xs.length,.int .i64 v,.ro l.length (Ad l)] [.live u (AK xs)] (fun r M=>r= .own 1 (xs++DS v l).length (AK (xs++DS v l))∧M=[.dead]):=by
 have hll:=BQ hl
 refine Aa.start (fn:=Tryz.f206) [.tmp 6] tk rfl rfl rfl (by kernel_rfl) (Nat.le_of_ble_eq_true rfl) rfl (by kernel_rfl) ?_
 rw[Bq]
 refine zs ?_
 have hg0:=FU (l.length+1) (by omega)
 refine z0 ?_;intro K hK
 refine Ab.pass [0] (ER xs u (l.length+1) (by omega) (by omega) (by omega)) (by simp) (by simp) (by simp) (by simp) ?_
 rintro r M ⟨rfl,rfl⟩ _
 refine zx ?_
 refine zk ?_;clear hK K
 refine zs ?_
 (repeat refine W.seq ?_);refine W.block (W.loopS (fun z:Nat×List Bool=> [(0,.tok 1 0 1 0 z.2.length),(1,.int .i64 v),(2,.ro l.length (Ad l)),(7,.int .i64 (z.1:Nat))]) (fun z=> [.dead,.live 0 (AK z.2)]) (fun z=>l.length-z.1) (fun z=>z.1≤l.length∧z.2=xs++(Ba (l.length+1)++C7 v (l.take z.1) true 0)∧z.2.length≤xs.length+81*(z.1+1)) (0,xs++Ba (l.length+1)) (Wk.fr (by simp[Ac])) ⟨by simp,by simp[C7],by simp;omega⟩ ?_)
 rintro⟨i,B⟩ ⟨hi,hB,hBl⟩
 simp only at hi hB hBl
 refine zs ?_
 refine zc ?_ ?_<;>intro h
 .refine W.skip ?_
  have hlt:i<l.length:=by omega
  have hto:=Jq v l i true 0 hlt
  have hbd:=hl.1 _ (List.getElem_mem hlt)
  refine zb ?_
  by_cases h0:i=0
  .subst h0
   have hz:=FN (l[0]-v)
   have hz2:D3 (l[0]-v)≤100:=by unfold D3;split<;>omega
   obtain⟨c,hc⟩:=Int.eq_ofNat_of_zero_le (show 0≤D3 (l[0]-v)+1 by omega)
   have hcl:=FU c (by omega)
   refine z0 ?_;intro K hK
   refine zk ?_;clear hK K
   refine zt ?_
   (repeat refine W.seq ?_);refine W.reg 0 rfl fun K hK=>?_;simp -implicitDefEqProofs (maxSteps:=999999) (disch:=omega) [hlt]
   refine Ab.eq (RT (l[0]-v) (by omega)) (by simp) (by simp) ?_
   refine AM hc ?_
   refine Ab.pass [1] (ER B 0 c (by omega) (by omega) (by omega)) (by simp) (by simp) (by simp) (by simp) ?_
   rintro r M ⟨rfl,rfl⟩ _
   refine zx ?_
   refine zk ?_;clear hK K
   refine zs ?_
   refine⟨(1,B++Ba c),by simp only;omega,⟨by simp only;omega,?_,by simp;omega⟩,?_⟩
   .simp only[hto,if_true,hc,Int.toNat_natCast]
    rw[hB];simp[C7]
   .simp only[List.length_append]
    exact Wk.sink (k:=1) (j:=2) (by rfl) (by simp) (by omega) (by simp) (by simp[Ac]) (by simp) (by simp) (by simp)
  .have hup:=List.pairwise_iff_getElem.1 hl.2 (i-1) i (by omega) hlt (by omega)
   have hbd2:=hl.1 _ (List.getElem_mem (show i-1<l.length by omega))
   obtain⟨c,hc⟩:=Int.eq_ofNat_of_zero_le (show 0≤l[i]-l[i-1] by omega)
   have hcl:=FU c (by omega)
   refine Ae h0 ?_;intro K hK
   refine zk ?_;clear hK K
   refine zn ?_
   (repeat refine W.seq ?_);refine W.regdS 0 11 rfl true Cq (by kernel_rfl) fun K hK=>?_;simp -implicitDefEqProofs (maxSteps:=999999) (disch:=omega) [hlt,hc]
   refine⟨by omega,?_⟩
   refine Ab.pass [1] (ER B 0 c (by omega) (by omega) (by omega)) (by simp) (by simp) (by simp) (by simp) ?_
   rintro r M ⟨rfl,rfl⟩ _
   refine zx ?_
   refine zk ?_;clear hK K
   refine zs ?_
   refine⟨(i+1,B++Ba c),by simp only;omega,⟨by simp only;omega,?_,by simp;omega⟩,?_⟩
   .simp only[hto,if_neg h0,hc,Int.toNat_natCast]
    rw[hB];simp
   .simp only[List.length_append]
    exact Wk.sink (k:=1) (j:=2) (by rfl) (by simp) (by omega) (by simp) (by simp[Ac]) (by simp) (by simp) (by simp)
 .refine W.exit ?_
  have hi' :i=l.length:=by omega
  subst hi'
  rw[List.take_length] at hB
  have hB' :B=xs++DS v l:=hB
  subst hB'
  refine zs ?_
  refine zr ?_
  rw[List.take_of_length_le (by simp)]
end Go.Abs
set_option maxRecDepth 100000
namespace Go.Abs
open Go.Proofs
theorem RZ (l:List Int) (hl:l.length<1000000000) (hb:∀x∈l,-1000000000000<x∧x<1000000000000):Aa pg 204 [.ro l.length (Ad l)] [] (fun r _=>r=Mt (As l)):=by
 have hb' :∀i (h:i<l.length),-1000000000000<l[i]∧l[i]<1000000000000:=fun i h=>hb _ (List.getElem_mem h)
 refine Aa.start (fn:=Tryz.f204) [.tmp 2,.tmp 3] tk rfl rfl rfl (by kernel_rfl) (Nat.le_of_ble_eq_true rfl) rfl (by kernel_rfl) ?_
 rw[At]
 refine zs ?_
 refine zs ?_
 refine zs ?_
 refine zs ?_
 (repeat refine W.seq ?_);refine W.block (W.loopS (fun s:Nat×List (Int×Int)×List Int×Nat=> [(0,.ro l.length (Ad l)),(4,.tok 0 s.2.1.length 2 0 s.2.1.length),(5,.tok 1 s.2.2.2 1 0 s.2.2.1.length),(6,.int .i64 s.1)]) (fun s=> [.live s.2.1.length (Af Al s.2.1),.live s.2.2.2 (Ad s.2.2.1)]) (fun s=>l.length-s.1)
   (fun s=>s.1≤l.length∧s.2.1.length≤s.1∧s.2.2.1.length≤s.1∧As l=(s.2.1++(As (l.drop s.1)).1,s.2.2.1++(As (l.drop s.1)).2)) (0,[],[],0) ((Wk.nil (t:=4) (s:=2) (by simp)).trans ((Wk.nil (t:=5) (s:=1) (by simp)).trans (Wk.fr (by simp[Ac])))) (by simp) ?_)
 rintro⟨i,ra,sa,c⟩ ⟨hi,hra,hsa,hinv⟩
 simp only at hi hra hsa hinv
 refine zs ?_
 refine zc ?_ ?_<;>intro h
 .refine W.skip ?_
  refine zb ?_
  refine zs ?_
  (repeat refine W.seq ?_);refine W.block (W.loopS (fun k:Nat=> [(0,.ro l.length (Ad l)),(4,.tok 0 ra.length 2 0 ra.length),(5,.tok 1 c 1 0 sa.length),(6,.int .i64 i),(7,.int .i64 k)]) (fun _=> [.live ra.length (Af Al ra),.live c (Ad sa)]) (fun k=>l.length-k)
    (fun k=>i<k∧k≤l.length∧∀j (h:j<l.length),i<j→j<k→l[j]=l[j-1]+1) (i+1) (Wk.fr (by simp[Ac])) ⟨by omega,by omega,fun j h h1 h2=>by omega⟩ ?_)
  rintro k ⟨hik,hk,hrun⟩
  (repeat refine W.seq ?_);refine W.midS (fun b:Bool=> [(0,.ro l.length (Ad l)),(4,.tok 0 ra.length 2 0 ra.length),(5,.tok 1 c 1 0 sa.length),(6,.int .i64 i),(7,.int .i64 k),(30,.bool b)]) (fun _=> [.live ra.length (Af Al ra),.live c (Ad sa)]) (fun b=>b=true↔∃h:k<l.length,l[k]=l[k-1]+1) ?_ ?_
  .by_cases h2:k<l.length
   .have h3:=hb' k h2
    have h4:=hb' (k-1) (by omega)
    refine B8 ?_;intro K hK
    refine zk ?_;clear hK K
    exact⟨decide (l[k]=l[k-1]+1),by simp[h2],Wk.fr (by simp[Ac])⟩
   .refine B8 ?_;intro K hK
    refine zk ?_;clear hK K
    exact⟨false,by simp[h2],Wk.fr (by simp[Ac])⟩
  .intro b hbb
   refine zc ?_ ?_<;>intro h
   .refine W.skip ?_
    obtain⟨h2,h3⟩:=hbb.1 (by assumption)
    refine zb ?_
    refine zs ?_
    refine⟨k+1,by omega,⟨by omega,by omega,fun j hj h4 h5=>?_⟩,Wk.fr (by simp[Ac])⟩
    by_cases e:j=k
    .subst e;exact h3
    .exact hrun j hj h4 (by omega)
   .refine W.exit ?_
    have hend:∀h:k<l.length,l[k]≠l[k-1]+1:=fun h2 h3=>by simp_all
    have hrl:=K6 hik hk hrun hend
    have hpa:=Ms (by omega) hrl hik hk
    refine zs ?_
    refine zc ?_ ?_<;>intro h
    .rw[if_pos (by omega)] at hpa
     refine z1 ?_;intro K hK
     refine zk ?_;clear hK K
     refine zs ?_
     refine⟨(k,ra++[(l[i],((k-i:Nat):Int))],sa,c),by simp;omega,⟨hk,by simp;omega,by simp;omega,?_⟩,Wk.cutM (k:=2) (by simp[Ac]) ?_ (by simp) (by simp) (by simp) (by simp)⟩
     .rw[hinv,hpa];simp
     .simp[Cz,AL,Al];omega
    .rw[if_neg (by omega)] at hpa
     refine zs ?_
     refine zs ?_
     refine⟨(k,ra,sa++(l.drop i).take (k-i),c+1),by simp;omega,⟨hk,by simp;omega,by simp;omega,?_⟩,Wk.cutM (k:=2) (by simp[Ac];omega) ?_ (by simp) (by simp) (by simp) (by simp)⟩
     .rw[hinv,hpa];simp
     .simp[BE]
 .refine W.exit ?_
  refine zs ?_
  refine zr ?_
  rw[hinv]
  simp[Mt,List.drop_of_length_le h,As]
end Go.Abs
set_option maxRecDepth 100000
namespace Go.Abs
open Go.Proofs
@[simp] theorem P7 {n:Int} (h0:0≤n) (h1:n≤18446744073709551615):IntKind.u64.wrap n=n:=by
  simp[IntKind.wrap,IntKind.bits,IntKind.signed]
  omega
theorem H4 (x:Nat) (hx:x<4294967296):Cg .and (.int .u64 x) (.int .u64 4294967295)=some (.int .u64 x):=by
 rw[Kt]
 have e (n:Nat) (h:n<18446744073709551616):(BitVec.ofInt IntKind.u64.bits (n:Int)).toNat=n:=by
  rw[BitVec.toNat_ofInt];simp[IntKind.bits] at*;omega
 have e1:(BitVec.ofInt IntKind.u64.bits (x:Int)&&&BitVec.ofInt IntKind.u64.bits ((4294967295:Nat):Int)).toNat=x&&&4294967295:=by
  rw[BitVec.toNat_and,e x (by omega),e 4294967295 (by omega)]
 have e2:x&&&4294967295=x:=by
  rw[show 4294967295=2^32-1 by rfl,Nat.and_two_pow_sub_one_eq_mod];omega
 have e3:((4294967295:Int))=((4294967295:Nat):Int):=rfl
 rw[e3,e1,e2,P7 (by omega) (by omega)]
theorem Sa (n:Nat) (hn:n<1000):Aa pg 269 [.int .u64 1,.int .u64 n] [] (fun r _=>r= .tup [.int .u64 0,.int .u64 n]):=by
 refine Aa.start (fn:=Tryz.f269) [.tmp 4,.tmp 5] tk rfl rfl rfl (by kernel_rfl) (Nat.le_of_ble_eq_true rfl) rfl (by kernel_rfl) ?_
 rw[Am]
 have a1:Cg .and (.int .u64 1) (.int .u64 4294967295)=some (.int .u64 1):=H4 1 (by omega)
 have a0:Cg .and (.int .u64 0) (.int .u64 4294967295)=some (.int .u64 0):=H4 0 (by omega)
 have an:=H4 n (by omega)
 have dn:(n:Int)/4294967296=0:=by omega
 refine zs ?_
 refine Ae a1 ?_;intro K hK
 refine zk ?_;clear hK K
 refine zs ?_
 refine Ae an ?_;intro K hK
 refine zk ?_;clear hK K
 refine Ae dn ?_;intro K hK
 refine zk ?_;clear hK K
 refine zs ?_
 refine Ae dn ?_;intro K hK
 refine zk ?_;clear hK K
 refine Ae a0 ?_;intro K hK
 refine zk ?_;clear hK K
 refine zs ?_
 refine zs ?_
 refine zs ?_
 refine zs ?_
 exact zR
theorem W.condF {P:Program} {T:Nat→Option TI} {p:Nat} {F:Fr} {M:List Ag} {Q:BU} {x y:Code} (h:W P T p y F M Q):W P T p (.cond (.const (.bool false)) x y) F M Q:=fun tk C hC hp hb=>by
 simp only[Ca,Bool.and_eq_true] at hb
 exact AW.cond false (fun t e=>by cases e) rfl (fun h=>by cases h) (fun _=>h tk C hC hp hb.2)
theorem Vl (n:Nat) (hn:n<1000):Aa pg 256 [.int .u64 1,.int .u64 n] [] (fun r _=>r= .tup [.int .u64 0,.int .u64 n]):=by
 refine Aa.start (fn:=Tryz.f256) [.tmp 4,.tmp 5] tk rfl rfl rfl (by kernel_rfl) (Nat.le_of_ble_eq_true rfl) rfl (by kernel_rfl) ?_
 rw[Am]
 refine zs ?_
 (repeat refine W.seq ?_);refine W.condF (W.skip ?_)
 refine z0 ?_;intro K hK
 refine Ab.eq (Sa n hn) (by simp) (by simp) ?_
 refine zx ?_
 refine zk ?_;clear hK K
 refine zs ?_
 exact zR
end Go.Abs
set_option maxRecDepth 100000
namespace Go.Abs
open Go.Proofs
def Bh:Prop:=∀n:Nat,1≤n→n<1000→Aa pg 250 [.ro 1 [.int .i64 (-1)],.int .i64 n] [] (fun r _=>r= .own 1 n (Ad (List.replicate n (-1))))
theorem LF (k:Nat):Iu (k+1)=Iu k++[(k:Int)]:=by simp[Iu,List.range_succ]
@[simp] theorem Yo (k:Nat):(Iu k).length=k:=by simp[Iu]
theorem Sb (hR:Bh) (g:Gr) (k a:Int) (hm:AY g) (hk:Da g k a=0):Aa pg 238 [.agg (AQ false g),.int .i64 k,.int .i64 a] [] (fun r _=>r= .agg (BI true (B0 g k a))):=by
 obtain⟨n,hn⟩:=Int.eq_ofNat_of_zero_le hm.1
 have hn16:n≤16:=by have:=hm.2.1;omega
 have hk16:1≤k∧k≤6:=by
  unfold Da at hk
  split at hk
  .simp at hk
  .omega
 have hka:BO k=true→0≤a∧a<g.n:=by
  intro hnm
  unfold Da at hk
  split at hk
  .simp at hk
  .split at hk
   .simp at hk
   .rename_i h;exact Classical.byContradiction fun g=>h ⟨hnm,g⟩
 refine Aa.start (fn:=Tryz.f238) [.cell 6 53] tk rfl rfl rfl (by kernel_rfl) (Nat.le_of_ble_eq_true rfl) rfl (by kernel_rfl) ?_
 rw[Bq]
 refine z2 ?_;intro K hK;refine zk ?_;clear hK K
 refine z1 ?_;intro K hK;refine zk ?_;clear hK K
 refine z0 ?_;intro K hK
 refine Ab.eq (NR k) (by simp) (by simp) ?_
 cases hnm:BO k
 .refine zx ?_
  refine zk ?_;clear hK K
  refine zn ?_
  refine W.skip ?_
  have h4:¬k=4:=fun e=>by simp[BO,e] at hnm
  refine zs ?_
  refine zb ?_
  refine Ae h4 ?_;intro K hK
  refine zk ?_;clear hK K
  refine zn ?_
  by_cases h5:k=5
  .refine Ae h5 ?_;intro K hK
   refine zk ?_;clear hK K
   refine zt ?_
   refine W.weak (Wk.thaw (B:=2) (v:=0) (j:=4) (s:=1) (n:=0) (xs:=[]) rfl rfl) ?_
   refine W.weak (Wk.thaw (B:=2) (v:=0) (j:=5) (s:=1) (n:=0) (xs:=[]) rfl rfl) ?_
   refine Ae hn ?_;intro K hK
   refine zk ?_;clear hK K
   (repeat refine W.seq ?_);refine W.block (W.loopS (fun i:Nat=> [(6,.ptr 1 0 0),(7,.ptr 2 0 0),(33,.int .i64 n),(34,.int .i64 i)]) (fun i=> [.live 0 [.int .i64 n,DX false g.out],.live 0 [.int .i64 0,.int .i64 0,.int .i64 0,.bool false,.own 1 0 [],.own 1 0 []],.live 0 [.int .i64 5,.int .i64 0,.int .i64 0,.bool false,.tok 3 0 1 0 0,.tok 4 i 1 0 i],.live 0 [],.live i (Ad (Iu i))]) (fun i=>n-i) (fun i=>i≤n) 0 (Wk.fr ?_) (Nat.zero_le _) ?_)
   .simp[Ac]
   intro i hi
   refine zs ?_
   refine zc ?_ ?_<;>intro h
   .refine W.skip ?_
    refine zb ?_
    refine zs ?_
    refine z1 ?_;intro K hK
    refine⟨by omega,by omega,?_⟩
    refine zk ?_;clear hK K
    refine zs ?_
    refine⟨i+1,by omega,by omega,Wk.cutM (k:=5) (by simp[Ac]) ?_ (by simp) (by simp) (by simp) (by simp)⟩
    rw[LF]
    simp[BE,Ad]
   .refine W.exit ?_
    have:i=n:=by omega
    subst this
    refine z0 ?_;intro K hK
    refine zk ?_;clear hK K
    refine zr ?_
    simp[B0,hnm,h4,h5,hn]
    exact⟨by simp[BO],by rw[List.take_of_length_le (by simp)]⟩
  .refine Ae h5 ?_;intro K hK
   refine zk ?_;clear hK K
   refine zn ?_
   refine W.skip ?_
   refine W.weak (Wk.thaw (B:=2) (v:=0) (j:=4) (s:=1) (n:=0) (xs:=[]) rfl rfl) ?_
   refine W.weak (Wk.thaw (B:=2) (v:=0) (j:=5) (s:=1) (n:=0) (xs:=[]) rfl rfl) ?_
   refine z0 ?_;intro K hK
   refine zk ?_;clear hK K
   refine zr ?_
   simp[B0,hnm,h4,h5]
 .have ha:=hka hnm
  obtain⟨b,rfl⟩:=Int.eq_ofNat_of_zero_le ha.1
  have hbn:b<n:=by omega
  refine zx ?_
  refine zk ?_;clear hK K
  refine zt ?_
  refine zs ?_
  refine zs ?_
  refine zb ?_
  by_cases h4:k=4
  .refine Ae h4 ?_;intro K hK
   refine zk ?_;clear hK K
   refine zt ?_
   refine z2 ?_;intro K hK
   refine Ab.eq (hR n (by omega) (by omega)) (by simp[hn]) (by simp) ?_
   refine zx ?_
   refine zk ?_;clear hK K
   refine Ae hbn ?_;intro K hK
   refine⟨by omega,?_⟩
   have es:(Ad (List.replicate n (-1))).set b (.int .i64 0)=Ad ((List.replicate n (-1)).set b 0):=by simp[Ad]
   rw[es]
   refine zk ?_;clear hK K
   refine z0 ?_;intro K hK
   refine zk ?_;clear hK K
   refine zr ?_
   simp[B0,hnm,h4,hn,si,Ad]
   exact⟨by simp[BO],List.take_of_length_le (by simp)⟩
  .have h5:¬k=5:=fun e=>by simp[BO,e] at hnm
   refine Ae h4 ?_;intro K hK
   refine zk ?_;clear hK K
   refine zn ?_
   refine Ae h5 ?_;intro K hK
   refine zk ?_;clear hK K
   refine zn ?_
   refine W.skip ?_
   refine W.weak (Wk.thaw (B:=2) (v:=0) (j:=4) (s:=1) (n:=0) (xs:=[]) rfl rfl) ?_
   refine W.weak (Wk.thaw (B:=2) (v:=0) (j:=5) (s:=1) (n:=0) (xs:=[]) rfl rfl) ?_
   refine z0 ?_;intro K hK
   refine zk ?_;clear hK K
   refine zr ?_
   simp[B0,hnm,h4,h5]
theorem No (hR:Bh) (g:Gr) (k a:Int) (hg:Et g) (hm:AY g):Aa pg 217 [.agg (AQ false g),.int .i64 k,.int .i64 a] [] (fun r _=>r= .tup [.agg (BI true (if Da g k a=0 then B0 g k a else B5)),.int .i64 (Da g k a)]):=by
 refine Aa.start (fn:=Tryz.f217) [.cell 6 53,.tmp 7] tk rfl rfl rfl (by kernel_rfl) (Nat.le_of_ble_eq_true rfl) rfl (by kernel_rfl) ?_
 rw[Bq]
 refine z2 ?_;intro K hK;refine zk ?_;clear hK K
 refine z0 ?_;intro K hK
 refine Ab.eq (TW g k a hg hm) (by simp) (by simp) ?_
 refine zx ?_
 refine zk ?_;clear hK K
 by_cases h:Da g k a=0
 .refine Ae h ?_;intro K hK
  refine zk ?_;clear hK K
  refine zn ?_
  refine W.skip ?_
  refine z0 ?_;intro K hK
  refine Ab.eq (Sb hR g k a hm h) (by simp) (by simp) ?_
  refine zx ?_
  refine zk ?_;clear hK K
  refine zr ?_
  simp[h]
 .refine Ae h ?_;intro K hK
  refine zk ?_;clear hK K
  refine zt ?_
  refine zs ?_
  refine W.weak (Wk.thaw (B:=1) (v:=0) (j:=4) (s:=1) (n:=0) (xs:=[]) rfl rfl) ?_
  refine W.weak (Wk.thaw (B:=1) (v:=0) (j:=5) (s:=1) (n:=0) (xs:=[]) rfl rfl) ?_
  refine zr ?_
  simp[h,B5]
end Go.Abs
namespace Go.Abs
def FV (l:List Int):Nat:=l.countP fun x=>decide (x<0)
structure E7 (g:Gr) (j:BX):Prop where
 k1:1≤j.kind
 k2:j.kind≤6
 na:BO j.kind=true→0≤j.a∧j.a<g.n
 a0:0≤j.at_
 an:j.at_≤g.n
 ls:j.kind≠4→j.list=[]
 c1:j.kind=1→j.at_≤1∧j.out.length≤16
 c2:j.kind=2→(j.out.length:Int)≤j.at_
 c3:j.kind=3→j.out.length≤17∧∀x∈j.out,0≤x∧x≤j.at_
 c4:j.kind=4→(j.out.length:Int)=g.n∧FV j.out+j.list.length=j.out.length∧j.at_≤j.list.length∧(∀x∈j.list,0≤x∧x<g.n∧0≤gi j.out x)∧∀x∈j.out,x<j.list.length
 c5:j.kind=5→(j.out.length:Int)=g.n∧∀x∈j.out,0≤x∧x<g.n
 c6:j.kind=6→(j.out.length:Int)≤32*j.at_
theorem LG {l:List Int} {i:Int} (h0:0≤i) (h:i<l.length):gi l i∈l:=by
 have e:gi l i=l[i.toNat]'(by omega):=by simp[gi,List.getD_eq_getElem?_getD,List.getElem?_eq_getElem (show i.toNat<l.length by omega)]
 rw[e];exact List.getElem_mem _
theorem C0 {l:List Int} {i:Nat} (h:i<l.length):gi l (i:Int)=l[i]:=by
 simp[gi,List.getD_eq_getElem?_getD,List.getElem?_eq_getElem h]
theorem H5 (l:List Int) (i x:Int):(si l i x).length=l.length:=by simp[si]
theorem H6 {l:List Int} {i x y:Int} (h:y∈si l i x):y∈l∨y=x:=List.mem_or_eq_of_mem_set h
theorem I5:∀(l:List Int) (i:Nat) (x:Int) (h:i<l.length),Ef (l.set i x)+(l[i]).toNat=Ef l+x.toNat
 | [],i,x,h=>by simp at h
 |y::l,0,x,h=>by simp[Ef];omega
 |y::l,i+1,x,h=>by
  have:=I5 l i x (by simpa using h)
  simp[Ef] at*
  omega
theorem I6:∀(l:List Int) (i:Nat) (x:Int) (h:i<l.length),l[i]<0→0≤x→FV (l.set i x)+1=FV l
 | [],i,x,h,_,_=>by simp at h
 |y::l,0,x,h,h1,h2=>by
  simp at h1
  simp[FV,List.countP_cons,h1]
  omega
 |y::l,i+1,x,h,h1,h2=>by
  have:=I6 l i x (by simpa using h) (by simpa using h1) h2
  simp[FV,List.countP_cons] at*
  omega
theorem EL {g:Gr} (hg:AY g) {v x:Int} (h:x∈AC g v):0≤x∧x<g.n:=by
 unfold AC at h
 rw[List.getD_eq_getElem?_getD] at h
 cases hx:g.out[v.toNat]? with
 |none=>rw[hx] at h;simp at h
 |some l=>
  rw[hx] at h
  have:=hg.2.2.2.1 l (List.mem_of_getElem? hx)
  exact⟨(this.1.1 x h).1,this.2 x h⟩
theorem CE {g:Gr} (hg:AY g) (v:Int):(AC g v).length≤16:=BQ (ID hg v)
theorem P8 {v w x:Int} {s:List Int×List Int} (hx0:0≤x) (hw0:0≤w) (h0:0≤gi s.1 v) (hx:0≤gi s.1 x):0≤gi (AU v s w).1 x:=by
 unfold AU
 split
 .rename_i hn
  have hne:w≠x:=fun e=>by subst e;omega
  simp only[gi,si,List.getD_eq_getElem?_getD]
  rw[List.getElem?_set_ne (by omega)]
  rw[gi,List.getD_eq_getElem?_getD] at hx
  exact hx
 .exact hx
theorem P9 {n v w:Int} {s:List Int×List Int} (hv:0≤v∧v<n) (hw:0≤w∧w<n) (h0:0≤gi s.1 v) (h1:(s.1.length:Int)=n) (h2:FV s.1+s.2.length=s.1.length) (h3:∀x∈s.2,0≤x∧x<n∧0≤gi s.1 x) (h4:∀x∈s.1,x<s.2.length):
 0≤gi (AU v s w).1 v∧((AU v s w).1.length:Int)=n∧FV (AU v s w).1+(AU v s w).2.length=(AU v s w).1.length∧(∀x∈(AU v s w).2,0≤x∧x<n∧0≤gi (AU v s w).1 x)∧(∀x∈(AU v s w).1,x<(AU v s w).2.length)∧s.2.length≤(AU v s w).2.length:=by
 have keep:=fun x hx0=>P8 (v:=v) (w:=w) (x:=x) (s:=s) hx0 hw.1 h0
 have k0:=keep v hv.1 h0
 have k3:∀x∈s.2,0≤x∧x<n∧0≤gi (AU v s w).1 x:=fun x hx=>⟨(h3 x hx).1,(h3 x hx).2.1,keep x (h3 x hx).1 (h3 x hx).2.2⟩
 refine⟨k0,?_⟩
 clear k0
 unfold AU at*
 split
 .rename_i hn
  rw[if_pos hn] at k3
  have hwl:w.toNat<s.1.length:=by omega
  have e:gi s.1 w=s.1[w.toNat]:=by simp[gi,List.getD_eq_getElem?_getD,List.getElem?_eq_getElem hwl]
  have hx:=I6 s.1 w.toNat (gi s.1 v+1) hwl (by rw[←e];exact hn) (by omega)
  have hvm:=h4 _ (LG (l:=s.1) hv.1 (by omega))
  refine⟨by simp only[H5];exact h1,?_,?_,?_,by simp⟩
  .simp only[List.length_append,List.length_singleton,si,List.length_set]
   omega
  .intro x hx
   simp only[List.mem_append,List.mem_singleton] at hx
   rcases hx with hx|rfl
   .exact k3 x hx
   .refine⟨hw.1,hw.2,?_⟩
    simp only[gi,si,List.getD_eq_getElem?_getD]
    rw[List.getElem?_set_self hwl]
    simp only[Option.getD_some]
    rw[gi,List.getD_eq_getElem?_getD] at h0;omega
  .intro x hx
   simp only[List.length_append,List.length_singleton]
   rcases H6 hx with hx|rfl
   .have:=h4 x hx;omega
   .omega
 .exact⟨h1,h2,h3,h4,Nat.le_refl _⟩
theorem G6 {n v:Int} (hv:0≤v∧v<n):∀(ws:List Int) (s:List Int×List Int),(∀w∈ws,0≤w∧w<n)→0≤gi s.1 v→(s.1.length:Int)=n→FV s.1+s.2.length=s.1.length→(∀x∈s.2,0≤x∧x<n∧0≤gi s.1 x)→(∀x∈s.1,x<s.2.length)→
 0≤gi (ws.foldl (AU v) s).1 v∧((ws.foldl (AU v) s).1.length:Int)=n∧FV (ws.foldl (AU v) s).1+(ws.foldl (AU v) s).2.length=(ws.foldl (AU v) s).1.length∧(∀x∈(ws.foldl (AU v) s).2,0≤x∧x<n∧0≤gi (ws.foldl (AU v) s).1 x)∧(∀x∈(ws.foldl (AU v) s).1,x<(ws.foldl (AU v) s).2.length)∧s.2.length≤(ws.foldl (AU v) s).2.length
 | [],s,_,h0,h1,h2,h3,h4=>⟨h0,h1,h2,h3,h4,Nat.le_refl _⟩
 |w::ws,s,hw,h0,h1,h2,h3,h4=>by
  obtain⟨a0,a1,a2,a3,a4,a5⟩:=P9 hv (hw w (by simp)) h0 h1 h2 h3 h4
  obtain⟨b0,b1,b2,b3,b4,b5⟩:=G6 hv ws (AU v s w) (fun x hx=>hw x (by simp[hx])) a0 a1 a2 a3 a4
  exact⟨b0,b1,b2,b3,b4,by simp only[List.foldl_cons];omega⟩
theorem OU {n v w:Int} {s:List Int×Bool} (hv:0≤v∧v<n) (hw:0≤w∧w<n) (h1:(s.1.length:Int)=n) (h2:∀x∈s.1,0≤x∧x<n):
 ((A4 v s w).1.length:Int)=n∧(∀x∈(A4 v s w).1,0≤x∧x<n)∧(((A4 v s w).2=s.2∧Ef (A4 v s w).1=Ef s.1)∨Ef (A4 v s w).1<Ef s.1):=by
 have hvl:v.toNat<s.1.length:=by omega
 have hwl:w.toNat<s.1.length:=by omega
 have ev:gi s.1 v=s.1[v.toNat]:=by simp[gi,List.getD_eq_getElem?_getD,List.getElem?_eq_getElem hvl]
 have ew:gi s.1 w=s.1[w.toNat]:=by simp[gi,List.getD_eq_getElem?_getD,List.getElem?_eq_getElem hwl]
 have bv:=h2 _ (List.getElem_mem hvl)
 have bw:=h2 _ (List.getElem_mem hwl)
 rw[←ev] at bv
 rw[←ew] at bw
 have g1:=I5 s.1 v.toNat (min (gi s.1 v) (gi s.1 w)) hvl
 have g2:=I5 (s.1.set v.toNat (min (gi s.1 v) (gi s.1 w))) w.toNat (min (gi s.1 v) (gi s.1 w)) (by simpa using hwl)
 rw[List.getElem_set] at g2
 refine⟨by simp only[A4,H5];exact h1,?_,?_⟩
 .intro x hx
  simp only[A4] at hx
  rcases H6 hx with hx|rfl
  .rcases H6 hx with hx|rfl
   .exact h2 x hx
   .omega
  .omega
 .simp only[A4,si]
  by_cases e:gi s.1 v=gi s.1 w
  .left
   refine⟨by simp[e],?_⟩
   rw[←ev] at g1
   split at g2
   .omega
   .rw[←ew] at g2;omega
  .right
   rw[←ev] at g1
   split at g2
   .rename_i h;exfalso;apply e;simp only[gi];rw[h]
   .rw[←ew] at g2;omega
theorem Gk {n v:Int} (hv:0≤v∧v<n):∀(ws:List Int) (s:List Int×Bool),(∀w∈ws,0≤w∧w<n)→(s.1.length:Int)=n→(∀x∈s.1,0≤x∧x<n)→
 ((ws.foldl (A4 v) s).1.length:Int)=n∧(∀x∈(ws.foldl (A4 v) s).1,0≤x∧x<n)∧(((ws.foldl (A4 v) s).2=s.2∧Ef (ws.foldl (A4 v) s).1=Ef s.1)∨Ef (ws.foldl (A4 v) s).1<Ef s.1)
 | [],s,_,h1,h2=>⟨h1,h2,.inl ⟨rfl,rfl⟩⟩
 |w::ws,s,hw,h1,h2=>by
  obtain⟨a1,a2,a3⟩:=OU hv (hw w (by simp)) h1 h2
  obtain⟨b1,b2,b3⟩:=Gk hv ws (A4 v s w) (fun x hx=>hw x (by simp[hx])) a1 a2
  refine⟨b1,b2,?_⟩
  simp only[List.foldl_cons]
  rcases a3 with⟨a3,a4⟩ |a3
  .rcases b3 with⟨b3,b4⟩ |b3
   .exact .inl ⟨by rw[b3,a3],by rw[b4,a4]⟩
   .exact .inr (by omega)
  .rcases b3 with⟨b3,b4⟩ |b3
   .exact .inr (by omega)
   .exact .inr (by omega)
theorem LH (l:List Int) (n:Nat):(CR l n).length=max l.length (n+1):=by simp[CR];omega
theorem I7 {l:List Int} {n:Nat} {x:Int} (h:x∈CR l n):x∈l∨x=0:=by
 simp only[CR,List.mem_append,List.mem_replicate] at h
 rcases h with h|h
 .exact .inl h
 .exact .inr h.2
theorem G7 {g:Gr} {j:BX} (hg:AY g) (h:E7 g j) (ho:Br g j=false):E7 g (AN g j)∧EG g (AN g j)<EG g j:=by
 have hn:=hg.2.1
 have hN:j.kind≠4→j.at_<g.n:=by
  intro h4
  unfold Br at ho
  split at ho
  .rename_i e
   have:=h.na (by rw[e];rfl)
   simp at ho;omega
  .simp at ho
   simpa[h4] using ho
 by_cases e1:j.kind=1
 .have hv:AN g j={j with at_:=j.at_+1,out:=AC g j.a}:=by simp[AN,e1]
  simp[Br,e1] at ho
  have:=h.na (by rw[e1];rfl)
  have h0:=h.a0
  rw[hv]
  refine⟨⟨h.k1,h.k2,h.na,by show 0≤j.at_+1;omega,by show j.at_+1≤g.n;omega,h.ls,fun _=>⟨by show j.at_+1≤1;omega,CE hg _⟩,fun e=>?_,fun e=>?_,fun e=>?_,fun e=>?_,fun e=>?_⟩,?_⟩
  rotate_right
  .simp[EG,e1];omega
  all_goals exact absurd (e1.symm.trans e) (by decide)
 by_cases e2:j.kind=2
 .have hv:AN g j={j with at_:=j.at_+1,out:=j.out++if (AC g j.at_).contains j.a=true then [j.at_] else []}:=by simp[AN,e2]
  have h0:=h.a0
  have h1:=hN (by omega)
  rw[hv]
  refine⟨⟨h.k1,h.k2,h.na,by show 0≤j.at_+1;omega,by show j.at_+1≤g.n;omega,h.ls,fun e=>?_,fun _=>?_,fun e=>?_,fun e=>?_,fun e=>?_,fun e=>?_⟩,?_⟩
  rotate_right
  .simp[EG,e2];omega
  .exact absurd (e2.symm.trans e) (by decide)
  .have:=h.c2 e2
   simp only[List.length_append]
   split<;>simp<;>omega
  all_goals exact absurd (e2.symm.trans e) (by decide)
 by_cases e3:j.kind=3
 .have hv:AN g j={j with at_:=j.at_+1,out:=si (CR j.out (AC g j.at_).length) (AC g j.at_).length (gi (CR j.out (AC g j.at_).length) (AC g j.at_).length+1)}:=by simp[AN,e3]
  have h0:=h.a0
  have h1:=hN (by omega)
  obtain⟨c1,c2⟩:=h.c3 e3
  have hb:=CE hg j.at_
  rw[hv]
  refine⟨⟨h.k1,h.k2,h.na,by show 0≤j.at_+1;omega,by show j.at_+1≤g.n;omega,h.ls,fun e=>?_,fun e=>?_,fun _=>⟨?_,fun x hx=>?_⟩,fun e=>?_,fun e=>?_,fun e=>?_⟩,?_⟩
  rotate_right
  .simp[EG,e3];omega
  .exact absurd (e3.symm.trans e) (by decide)
  .exact absurd (e3.symm.trans e) (by decide)
  .simp only[H5,LH];omega
  .have hm:=LG (l:=CR j.out (AC g j.at_).length) (i:=((AC g j.at_).length:Int)) (by omega) (by rw[LH];omega)
   have hu:∀y∈CR j.out (AC g j.at_).length,0≤y∧y≤j.at_:=fun y hy=>by
    rcases I7 hy with hy|rfl
    .exact c2 y hy
    .omega
   show 0≤x∧x≤j.at_+1
   rcases H6 hx with hx|rfl
   .have:=hu x hx;omega
   .have:=hu _ hm;omega
  all_goals exact absurd (e3.symm.trans e) (by decide)
 by_cases e4:j.kind=4
 .have hv:AN g j={j with at_:=j.at_+1,out:=((AC g (gi j.list j.at_)).foldl (AU (gi j.list j.at_)) (j.out,j.list)).1,list:=((AC g (gi j.list j.at_)).foldl (AU (gi j.list j.at_)) (j.out,j.list)).2}:=by simp[AN,e4]
  have h0:=h.a0
  obtain⟨c1,c2,c3,c4,c5⟩:=h.c4 e4
  simp[Br,e4] at ho
  have hm:=c4 _ (LG (l:=j.list) h0 ho)
  obtain⟨f1,f2,f3,f4,f5,f6⟩:=G6 (n:=g.n) (v:=gi j.list j.at_) ⟨hm.1,hm.2.1⟩ (AC g (gi j.list j.at_)) (j.out,j.list) (fun w hw=>EL hg hw) hm.2.2 c1 c2 c4 c5
  generalize (AC g (gi j.list j.at_)).foldl (AU (gi j.list j.at_)) (j.out,j.list)=q at*
  rw[hv]
  refine⟨⟨h.k1,h.k2,h.na,by show 0≤j.at_+1;omega,by show j.at_+1≤g.n;simp only at f6;omega,fun e=>absurd e4 e,fun e=>?_,fun e=>?_,fun e=>?_,fun _=>⟨f2,f3,by show j.at_+1≤q.2.length;simp only at f6;omega,f4,f5⟩,fun e=>?_,fun e=>?_⟩,?_⟩
  rotate_right
  .simp[EG,e4];omega
  all_goals exact absurd (e4.symm.trans e) (by decide)
 by_cases e5:j.kind=5
 .have h0:=h.a0
  have h1:=hN (by omega)
  obtain⟨c1,c2⟩:=h.c5 e5
  obtain⟨f1,f2,f3⟩:=Gk (n:=g.n) (v:=j.at_) ⟨h0,h1⟩ (AC g j.at_) (j.out,j.move) (fun w hw=>EL hg hw) c1 c2
  have hv:AN g j=if j.at_+1=g.n∧((AC g j.at_).foldl (A4 j.at_) (j.out,j.move)).2=true then{j with at_:=0,move:=false,out:=((AC g j.at_).foldl (A4 j.at_) (j.out,j.move)).1} else{j with at_:=j.at_+1,move:=((AC g j.at_).foldl (A4 j.at_) (j.out,j.move)).2,out:=((AC g j.at_).foldl (A4 j.at_) (j.out,j.move)).1}:=by simp[AN,e5]
  generalize (AC g j.at_).foldl (A4 j.at_) (j.out,j.move)=q at*
  simp only at f3
  have hmul:Ef q.1<Ef j.out→Ef q.1*(2*g.n.toNat+2)+(2*g.n.toNat+2)≤Ef j.out*(2*g.n.toNat+2):=fun h=>by
   have:=Nat.mul_le_mul_right (2*g.n.toNat+2) (Nat.succ_le_of_lt h)
   rw[Nat.succ_mul] at this;exact this
  rw[hv]
  split
  .rename_i hc
   refine⟨⟨h.k1,h.k2,h.na,by show(0:Int)≤0;omega,by show 0≤g.n;omega,h.ls,fun e=>?_,fun e=>?_,fun e=>?_,fun e=>?_,fun _=>⟨f1,f2⟩,fun e=>?_⟩,?_⟩
   rotate_right
   .simp only[EG,e5]
    simp only[show¬((5:Int)=1) by decide,if_false,if_true,Bool.false_eq_true]
    rcases f3 with⟨f3,f4⟩ |f3
    .rw[f4,←f3,hc.2];simp only[if_true];omega
    .have:=hmul f3
     split<;>omega
   all_goals exact absurd (e5.symm.trans e) (by decide)
  .rename_i hc
   refine⟨⟨h.k1,h.k2,h.na,by show 0≤j.at_+1;omega,by show j.at_+1≤g.n;omega,h.ls,fun e=>?_,fun e=>?_,fun e=>?_,fun e=>?_,fun _=>⟨f1,f2⟩,fun e=>?_⟩,?_⟩
   rotate_right
   .simp only[EG,e5]
    simp only[show¬((5:Int)=1) by decide,if_false,if_true]
    rcases f3 with⟨f3,f4⟩ |f3
    .rw[f4,f3];split<;>omega
    .have:=hmul f3
     split<;>split<;>omega
   all_goals exact absurd (e5.symm.trans e) (by decide)
 have e6:j.kind=6:=by have:=h.k1;have:=h.k2;omega
 have hv:AN g j={j with at_:=j.at_+1,out:=j.out++((AC g j.at_).map fun w=> [j.at_,w]).flatten}:=by simp[AN,e6]
 have h0:=h.a0
 have h1:=hN (by omega)
 rw[hv]
 refine⟨⟨h.k1,h.k2,h.na,by show 0≤j.at_+1;omega,by show j.at_+1≤g.n;omega,h.ls,fun e=>?_,fun e=>?_,fun e=>?_,fun e=>?_,fun e=>?_,fun _=>?_⟩,?_⟩
 rotate_right
 .simp[EG,e6];omega
 rotate_right
 .have:=h.c6 e6
  have hb:=CE hg j.at_
  have hl:∀ws:List Int,(ws.map fun w=> [j.at_,w]).flatten.length=2*ws.length:=by
   intro ws;induction ws with
   |nil=>rfl
   |cons w ws ih=>simp only[List.map_cons,List.flatten_cons,List.length_append,ih,List.length_cons,List.length_nil];omega
  simp only[List.length_append,hl]
  show((j.out.length+2*(AC g j.at_).length:Nat):Int)≤32*(j.at_+1)
  omega
 all_goals exact absurd (e6.symm.trans e) (by decide)
theorem LI {g:Gr} {k a:Int} (hg:AY g) (h:Da g k a=0):E7 g (B0 g k a):=by
 have hn:=hg.2.1
 have hn0:=hg.1
 unfold Da at h
 split at h
 .simp at h
 .rename_i hk
  split at h
  .simp at h
  .rename_i ha
   have hk' :1≤k∧k≤6:=by omega
   have ha' :BO k=true→0≤a∧a<g.n:=fun e=>by
    by_cases c:0≤a∧a<g.n
    .exact c
    .exact absurd ⟨e,c⟩ ha
   refine⟨hk'.1,hk'.2,fun e=>?_,Int.le_refl _,hn0,fun e=>?_,fun e=>?_,fun e=>?_,fun e=>?_,fun e=>?_,fun e=>?_,fun e=>?_⟩
   .have e' :BO k=true:=e
    simp only[B0,e',if_true];exact ha' e'
   .have e' :k≠4:=e
    simp[B0,e']
   all_goals (have e' :k=_:=e)
   .subst e';simp[B0]
   .subst e';simp[B0]
   .subst e';simp[B0]
   .subst e'
    have ha2:=ha' rfl
    have hlen:(List.replicate g.n.toNat (-1:Int)).length=g.n.toNat:=by simp
    have hl:a.toNat<(List.replicate g.n.toNat (-1:Int)).length:=by omega
    simp only[B0,if_true]
    have ngl:∀n:Nat,FV (List.replicate n (-1:Int))=n:=fun n=>by simp[FV,List.countP_replicate]
    have hneg:=I6 (List.replicate g.n.toNat (-1:Int)) a.toNat 0 hl (by simp) (by omega)
    rw[ngl] at hneg
    refine⟨by rw[H5,hlen];omega,by rw[H5,hlen];simp only[si,List.length_singleton];omega,by simp,fun x hx=>?_,fun x hx=>?_⟩
    .simp only[List.mem_singleton] at hx
     subst hx
     refine⟨ha2.1,ha2.2,?_⟩
     simp only[gi,si,List.getD_eq_getElem?_getD]
     rw[List.getElem?_set_self hl];simp
    .rcases H6 hx with hx|rfl
     .have:=(List.mem_replicate.1 hx).2;subst this;simp
     .simp
   .subst e'
    simp only[B0,if_true,show¬((5:Int)=4) by decide,if_false]
    refine⟨by simp[Iu];omega,fun x hx=>?_⟩
    simp only[Iu,List.mem_map,List.mem_range] at hx
    obtain⟨i,hi,rfl⟩:=hx
    omega
   .subst e';simp[B0]
def D6 (g:Gr) (j x:BX):Bool:=Fn g j (EG g x+1) x
theorem G8 {g:Gr} {j:BX} (hg:AY g):∀(k:Nat) (x:BX),E7 g x→EG g x<k→Fn g j k x=D6 g j x
 |0,x,_,h=>by omega
 |k+1,x,hx,h=>by
  unfold D6
  simp only[Fn]
  by_cases e:x=j
  .rw[if_pos e,if_pos e]
  .rw[if_neg e,if_neg e]
   cases ho:Br g x with
   |true=>rfl
   |false=>
    simp only[Bool.false_eq_true,if_false]
    obtain⟨h1,h2⟩:=G7 hg hx ho
    rw[G8 hg k _ h1 (by omega),G8 hg (EG g x) _ h1 h2]
theorem Np {g:Gr} {j x:BX} (h:x=j):D6 g j x=true:=by unfold D6;simp only[Fn];rw[if_pos h]
theorem KG {g:Gr} {j x:BX} (h:x≠j) (ho:Br g x=true):D6 g j x=false:=by unfold D6;simp only[Fn];rw[if_neg h,if_pos ho]
theorem Nq {g:Gr} {j x:BX} (hg:AY g) (hx:E7 g x) (h:x≠j) (ho:Br g x=false):D6 g j x=D6 g j (AN g x):=by
 conv=>lhs;unfold D6;simp only[Fn]
 rw[if_neg h,ho]
 simp only[Bool.false_eq_true,if_false]
 obtain⟨h1,h2⟩:=G7 hg hx ho
 exact G8 hg _ _ h1 h2
theorem I8 (g:Gr) (j:BX):CN g j=(decide (Da g j.kind j.a=0)&&D6 g j (B0 g j.kind j.a)):=rfl
theorem E7.small {g:Gr} {j:BX} (hg:AY g) (h:E7 g j):j.list.length≤16∧j.out.length≤512:=by
 have hn:=hg.2.1
 have:=h.an
 by_cases e4:j.kind=4
 .have c:=h.c4 e4;omega
 .refine⟨by rw[h.ls e4];simp,?_⟩
  have k1:=h.k1;have k2:=h.k2
  have:j.kind=1∨j.kind=2∨j.kind=3∨j.kind=5∨j.kind=6:=by omega
  rcases this with e|e|e|e|e
  .have:=h.c1 e;omega
  .have:=h.c2 e;omega
  .have:=(h.c3 e).1;omega
  .have:=(h.c5 e).1;omega
  .have:=h.c6 e;omega
end Go.Abs
set_option maxRecDepth 100000
namespace Go.Abs
open Go.Proofs
theorem CX (xs:List Int) (i:Nat) (x:Int):(Ad xs).set i (.int .i64 x)=Ad (xs.set i x):=by simp[Ad]
theorem FI {α β:Type} (f:β→α→β) (s:β) (ws:List α) (k:Nat) (h:k<ws.length):(ws.take (k+1)).foldl f s=f ((ws.take k).foldl f s) ws[k]:=by
 rw[List.take_add_one,List.getElem?_eq_getElem h,List.foldl_append]
 rfl
theorem Ue (g:Gr) (j:BX) (hgi:Et g) (hg:AY g) (h:E7 g j) (h5:j.kind=5) (ho:Br g j=false):Aa pg 239 [.agg (AQ false g),.ptr 0 0 0] [.live 0 (BI true j)] (fun r M=>r= .tup []∧M=[.live 0 (BI true (AN g j))]):=by
 obtain⟨c1,c2⟩:=h.c5 h5
 obtain⟨n,hn⟩:=Int.eq_ofNat_of_zero_le hg.1
 obtain⟨v,hv⟩:=Int.eq_ofNat_of_zero_le h.a0
 have hn16:n≤16:=by have:=hg.2.1;omega
 have hvn:v<n:=by
  simp[Br,h5] at ho;omega
 have hlo:j.out.length=n:=by omega
 have hout:g.out.length=n:=by have:=hg.2.2.1;omega
 have hvl:v<g.out.length:=by omega
 have hb:AC g j.at_=g.out[v]:=by rw[hv];simp[AC,List.getD_eq_getElem?_getD,List.getElem?_eq_getElem hvl]
 have hws:∀w∈g.out[v],0≤w∧w<g.n:=fun w hw=>EL hg (v:=j.at_) (by rw[hb];exact hw)
 have hwl:g.out[v].length≤16:=by rw[←hb];exact CE hg _
 have hf:=fun k=>Gk (n:=g.n) (v:=(v:Int)) ⟨by omega,by omega⟩ (g.out[v].take k) (j.out,j.move) (fun w hw=>hws w (List.mem_of_mem_take hw)) c1 c2
 refine Aa.start (fn:=Tryz.f239) [] tk rfl rfl rfl (by kernel_rfl) (Nat.le_of_ble_eq_true rfl) rfl (by kernel_rfl) ?_
 rw[Am]
 refine W.weak (Wk.thaw (B:=0) (v:=0) (j:=5) (s:=1) (n:=j.out.length) (xs:=Ad j.out) rfl rfl) ?_
 refine z1 ?_;intro K hK;refine zk ?_;clear hK K
 refine z0 ?_;intro K hK;refine zk ?_;clear hK K
 refine Ae (an hv hvl) ?_;intro K hK
 refine zk ?_;clear hK K
 (repeat refine W.seq ?_);refine W.block (W.loopS (fun k:Nat=> [(1,.ptr 0 0 0),(2,.ptr 2 0 0),(4,.int .i64 v),(16,.ro g.out[v].length (Ad g.out[v])),(17,.int .i64 g.out[v].length),(18,.int .i64 k)]) (fun k=> [.live 0 [.int .i64 j.kind,.int .i64 j.a,.int .i64 v,.bool ((g.out[v].take k).foldl (A4 v) (j.out,j.move)).2,.own 1 j.list.length (Ad j.list),.tok 1 0 1 0 n],.live 0 (Ad ((g.out[v].take k).foldl (A4 v) (j.out,j.move)).1),.live 0 (AQ false g)]) (fun k=>g.out[v].length-k) (fun k=>k≤g.out[v].length) 0 ?_ (by simp) ?_)
 .rw[hlo]
  exact Wk.fr (by simp[Ac])
 .intro k hk
  refine zs ?_
  refine zc ?_ ?_<;>intro h
  .refine W.skip ?_
   have hlt:k<g.out[v].length:=by omega
   have hst:=FI (A4 (v:Int)) (j.out,j.move) g.out[v] k hlt
   obtain⟨f1,f2,_⟩:=hf k
   have hw:=hws _ (List.getElem_mem hlt)
   generalize (g.out[v].take k).foldl (A4 v) (j.out,j.move)=s at*
   obtain⟨w,hwe⟩:=Int.eq_ofNat_of_zero_le hw.1
   rw[hwe] at hst hw
   have hl1:v<s.1.length:=by omega
   have hl2:w<s.1.length:=by omega
   have hmin:min s.1[v] s.1[w]=if s.1[w]<s.1[v] then s.1[w] else s.1[v]:=by split<;>omega
   have hps:A4 (v:Int) s w=((s.1.set v (if s.1[w]<s.1[v] then s.1[w] else s.1[v])).set w (if s.1[w]<s.1[v] then s.1[w] else s.1[v]),s.2||!decide (s.1[v]=s.1[w])):=by
    simp only[A4,C0 hl1,C0 hl2,si,hmin];rfl
   rw[hps] at hst
   refine zb ?_
   refine Ae (an hlt hwe) ?_;intro K hK
   refine zk ?_;clear hK K
   refine A5 (an hl1 hl2) ?_;intro K hK
   refine zk ?_;clear hK K
   cases hm:s.2
   .refine A5 (an hl1 (an hl2 hm)) ?_;intro K hK
    refine zk ?_;clear hK K
    rw[hm] at hst
    refine A5 (an hl1 hl2) ?_;intro K hK
    refine zk ?_;clear hK K
    rw[CX,CX]
    refine zs ?_
    refine⟨k+1,by omega,by omega,?_⟩
    rw[hst]
    exact Wk.fr (by simp[Ac])
   .refine A5 (an hl1 (an hl2 hm)) ?_;intro K hK
    refine zk ?_;clear hK K
    rw[hm] at hst
    refine A5 (an hl1 hl2) ?_;intro K hK
    refine zk ?_;clear hK K
    rw[CX,CX]
    refine zs ?_
    refine⟨k+1,by omega,by omega,?_⟩
    rw[hst]
    exact Wk.fr (by simp[Ac])
  .refine W.exit ?_
   have hk' :k=g.out[v].length:=by omega
   subst hk'
   rw[List.take_length]
   have hvis:AN g j=(if (v:Int)+1=n∧(g.out[v].foldl (A4 v) (j.out,j.move)).2=true then{j with at_:=0,move:=false,out:=(g.out[v].foldl (A4 v) (j.out,j.move)).1} else{j with at_:=(v:Int)+1,move:=(g.out[v].foldl (A4 v) (j.out,j.move)).2,out:=(g.out[v].foldl (A4 v) (j.out,j.move)).1}):=by
    rw[hv] at hb;simp[AN,h5,hb,hv,hn]
   have hfin:=(hf g.out[v].length).1
   rw[List.take_length] at hfin
   rw[hvis]
   generalize g.out[v].foldl (A4 v) (j.out,j.move)=s at*
   have hsl:s.1.length=n:=by omega
   refine z0 ?_;intro K hK
   refine zk ?_;clear hK K
   refine W.weak (Wk.intern (B:=0) (v:=0) (j:=5) (T:=1) (u:=0) (s:=1) (off:=0) (n:=n) (xs:=Ad s.1) (by rfl) (by rfl) (by rfl) (by simp) (by simp;omega) (by simp)) ?_
   by_cases hvn1:(v:Int)+1=n
   .cases hm:s.2
    .refine A5 (an hvn1 (an hn hm)) ?_;intro K hK
     refine zk ?_;clear hK K
     refine zn ?_
     refine W.skip ?_
     (try simp only[Cn,Co,Df,Dg,if_true]);refine Fg (d:=0) ?_;simp -implicitDefEqProofs (maxSteps:=999999) (disch:=omega)
     exact⟨hvn1.symm,hsl.symm,by rw[List.take_of_length_le (by omega)]⟩
    .refine A5 (an hvn1 (an hn hm)) ?_;intro K hK
     refine zk ?_;clear hK K
     refine zt ?_
     refine z0 ?_;intro K hK
     refine zk ?_;clear hK K
     (try simp only[Cn,Co,Df,Dg,if_true]);refine Fg (d:=0) ?_;simp -implicitDefEqProofs (maxSteps:=999999) (disch:=omega)
     simp[hvn1,hsl]
     rw[List.take_of_length_le (by omega)]
   .refine A5 (an hvn1 hn) ?_;intro K hK
    refine zk ?_;clear hK K
    refine zn ?_
    refine W.skip ?_
    (try simp only[Cn,Co,Df,Dg,if_true]);refine Fg (d:=0) ?_;simp -implicitDefEqProofs (maxSteps:=999999) (disch:=omega)
    simp[hvn1,hsl]
    rw[List.take_of_length_le (by omega)]
end Go.Abs
set_option maxRecDepth 100000
namespace Go.Abs
open Go.Proofs
theorem Be {g:Gr} {v:Nat} (h:v<g.out.length):AC g (v:Int)=g.out[v]:=by simp[AC,List.getD_eq_getElem?_getD,List.getElem?_eq_getElem h]
def Eo (v:Int) (ws:List Int):List Int:=(ws.map fun w=> [v,w]).flatten
theorem LJ (v:Int) (ws:List Int) (w:Int):Eo v (ws++[w])=Eo v ws++[v,w]:=by simp[Eo]
theorem IG (v:Int) (ws:List Int):(Eo v ws).length=2*ws.length:=by
 unfold Eo
 induction ws with
 |nil=>rfl
 |cons w ws ih=>simp only[List.map_cons,List.flatten_cons,List.length_append,ih,List.length_cons,List.length_nil];omega
theorem Sc (g:Gr) (j:BX) (hgi:Et g) (hg:AY g) (h:E7 g j) (ho:Br g j=false):Aa pg 219 [.agg (AQ false g),.ptr 0 0 0] [.live 0 (BI true j)] (fun r M=>r= .tup []∧M=[.live 0 (BI true (AN g j))]):=by
 obtain⟨n,hn⟩:=Int.eq_ofNat_of_zero_le hg.1
 obtain⟨v,hv⟩:=Int.eq_ofNat_of_zero_le h.a0
 have hn16:n≤16:=by have:=hg.2.1;omega
 have hvn:v≤n:=by have:=h.an;omega
 have hout:g.out.length=n:=by have:=hg.2.2.1;omega
 have hk1:=h.k1
 have hk2:=h.k2
 have hsm:=h.small hg
 have hwl:∀i (hi:i<g.out.length),g.out[i].length≤16:=fun i hi=>by rw[←Be hi];exact CE hg _
 by_cases h5:j.kind=5
 .refine Aa.start (fn:=Tryz.f219) [] tk rfl rfl rfl (by kernel_rfl) (Nat.le_of_ble_eq_true rfl) rfl (by kernel_rfl) ?_
  rw[Am]
  refine z1 ?_;intro K hK;refine zk ?_;clear hK K
  refine Ae h5 ?_;intro K hK
  refine zk ?_;clear hK K
  refine zt ?_
  refine z0 ?_;intro K hK
  refine Ab.pass [0] (Ue g j hgi hg h h5 ho) (by simp) (by simp[h5]) (by simp) (by simp) ?_
  rintro r M ⟨rfl,rfl⟩ _
  refine zx ?_
  refine zk ?_;clear hK K
  exact zR
 by_cases h1:j.kind=1
 .have ha:=h.na (by rw[h1];rfl)
  obtain⟨a,hae⟩:=Int.eq_ofNat_of_zero_le ha.1
  have hal:a<g.out.length:=by omega
  have hvis:AN g j={j with at_:=(v:Int)+1,out:=g.out[a]}:=by
   simp[AN,h1,hv,hae,Be hal]
  rw[hvis]
  refine Aa.start (fn:=Tryz.f219) [] tk rfl rfl rfl (by kernel_rfl) (Nat.le_of_ble_eq_true rfl) rfl (by kernel_rfl) ?_
  rw[Am]
  refine z1 ?_;intro K hK;refine zk ?_;clear hK K
  refine Ae h1 ?_;intro K hK
  refine zk ?_;clear hK K
  refine zn ?_
  refine W.skip ?_
  refine z0 ?_;intro K hK;refine zk ?_;clear hK K
  refine Ae hv ?_;intro K hK
  refine zk ?_;clear hK K
  refine Ae h1 ?_;intro K hK
  refine zk ?_;clear hK K
  (repeat refine W.seq ?_);refine W.block (W.late ?_)
  refine Ae h1 ?_;intro K hK
  refine zk ?_;clear hK K
  refine zt ?_
  refine A5 (an hae hal) ?_;intro K hK
  refine Ah.eq (Kw g.out[a] (by have:=hwl a hal;omega)) (by simp) (by simp) ?_
  refine zx ?_
  refine zk ?_;clear hK K
  refine⟨_,_,Wk.intern (B:=0) (v:=0) (j:=5) (T:=2) (u:=0) (s:=1) (off:=0) (n:=g.out[a].length) (xs:=Ad g.out[a]) (by rfl) (by rfl) (by rfl) (by simp) (by simp) (by simp),?_⟩
  (try simp only[Cn,Co,Df,Dg,if_true]);refine Fg (d:=0) ?_;simp -implicitDefEqProofs (maxSteps:=999999) (disch:=omega)
  exact⟨h1.symm,hae.symm⟩
 have hvn2:j.kind≠4→v<n:=by
  intro h4
  unfold Br at ho
  simp[h1,h4] at ho
  omega
 by_cases h2:j.kind=2
 .have hvl:v<g.out.length:=by have:=hvn2 (by omega);omega
  have hc2:=h.c2 h2
  have hvis:AN g j={j with at_:=(v:Int)+1,out:=j.out++if g.out[v].contains j.a=true then [(v:Int)] else []}:=by
   simp[AN,h2,hv,Be hvl]
  rw[hvis]
  refine Aa.start (fn:=Tryz.f219) [] tk rfl rfl rfl (by kernel_rfl) (Nat.le_of_ble_eq_true rfl) rfl (by kernel_rfl) ?_
  rw[Am]
  refine z1 ?_;intro K hK;refine zk ?_;clear hK K
  refine Ae h2 ?_;intro K hK
  refine zk ?_;clear hK K
  refine zn ?_
  refine W.skip ?_
  refine z0 ?_;intro K hK;refine zk ?_;clear hK K
  refine Ae hv ?_;intro K hK
  refine zk ?_;clear hK K
  refine Ae h2 ?_;intro K hK
  refine zk ?_;clear hK K
  (repeat refine W.seq ?_);refine W.block (W.late ?_)
  refine Ae h2 ?_;intro K hK
  refine zk ?_;clear hK K
  refine zn ?_
  refine Ae h2 ?_;intro K hK
  refine zk ?_;clear hK K
  refine zt ?_
  (repeat refine W.seq ?_);refine W.regd 0 rfl true Cq (by kernel_rfl) fun K hK=>?_;simp -implicitDefEqProofs (maxSteps:=999999) (disch:=omega) [hvl]
  refine Ah.eq (E4 g.out[v] j.a (by have:=hwl v hvl;omega)) (by simp) (by simp) ?_
  cases hc:g.out[v].contains j.a
  .refine AM hc ?_
   refine zk ?_;clear hK K
   refine zn ?_
   refine W.skip ?_
   refine⟨_,_,Wk.refl,?_⟩
   (try simp only[Cn,Co,Df,Dg,if_true]);refine Fg (d:=0) ?_;simp -implicitDefEqProofs (maxSteps:=999999) (disch:=omega)
   have hc' :¬j.a∈g.out[v]:=by simpa using hc
   simp[h2,hc']
  .refine AM hc ?_
   refine zk ?_;clear hK K
   refine zt ?_
   refine W.weak (Wk.thaw (B:=0) (v:=0) (j:=5) (s:=1) (n:=j.out.length) (xs:=Ad j.out) (by rfl) (by rfl)) ?_
   refine z1 ?_;intro K hK
   refine⟨by omega,by omega,?_⟩
   refine zk ?_;clear hK K
   have e:Ad j.out++[AV.int .i64 v]=Ad (j.out++[(v:Int)]):=by simp[Ad]
   rw[e]
   refine⟨_,_,Wk.intern (B:=0) (v:=0) (j:=5) (T:=2) (u:=1) (s:=1) (off:=0) (n:=(j.out.length+1)) (xs:=Ad (j.out++[(v:Int)])) (by rfl) (by rfl) (by rfl) (by simp) (by simp) (by simp),?_⟩
   (try simp only[Cn,Co,Df,Dg,if_true]);refine Fg (d:=0) ?_;simp -implicitDefEqProofs (maxSteps:=999999) (disch:=omega)
   have hc' :j.a∈g.out[v]:=by simpa using hc
   simp[h2,hc']
   rw[List.take_of_length_le (by simp)]
 by_cases h3:j.kind=3
 .have hvl:v<g.out.length:=by have:=hvn2 (by omega);omega
  obtain⟨hc3,hc3b⟩:=h.c3 h3
  obtain⟨m,hm⟩:∃m,m=g.out[v].length:=⟨_,rfl⟩
  have hm16:m≤16:=by have:=hwl v hvl;omega
  have hvis:AN g j={j with at_:=(v:Int)+1,out:=si (CR j.out m) m (gi (CR j.out m) m+1)}:=by
   simp[AN,h3,hv,Be hvl,hm]
  rw[hvis]
  refine Aa.start (fn:=Tryz.f219) [] tk rfl rfl rfl (by kernel_rfl) (Nat.le_of_ble_eq_true rfl) rfl (by kernel_rfl) ?_
  rw[Am]
  refine z1 ?_;intro K hK;refine zk ?_;clear hK K
  refine Ae h3 ?_;intro K hK
  refine zk ?_;clear hK K
  refine zn ?_
  refine W.skip ?_
  refine z0 ?_;intro K hK;refine zk ?_;clear hK K
  refine Ae hv ?_;intro K hK
  refine zk ?_;clear hK K
  refine Ae h3 ?_;intro K hK
  refine zk ?_;clear hK K
  (repeat refine W.seq ?_);refine W.block (W.late ?_)
  refine Ae h3 ?_;intro K hK
  refine zk ?_;clear hK K
  refine zn ?_
  refine Ae h3 ?_;intro K hK
  refine zk ?_;clear hK K
  refine zn ?_
  refine Ae h3 ?_;intro K hK
  refine zk ?_;clear hK K
  refine zt ?_
  refine W.weak (Wk.thaw (B:=0) (v:=0) (j:=5) (s:=1) (n:=j.out.length) (xs:=Ad j.out) (by rfl) (by rfl)) ?_
  rw[show Ad j.out=Ad (j.out++List.replicate 0 0) by simp]
  (repeat refine W.seq ?_);refine W.block (W.loopS (fun k:Nat=> [(1,.ptr 0 0 0),(2,.ptr 1 0 0),(4,.int .i64 v)]) (fun k=> [.live 0 [.int .i64 3,.int .i64 j.a,.int .i64 ((v:Int)+1),.bool j.move,.own 1 j.list.length (Ad j.list),.tok 2 k 1 0 (j.out.length+k)],.live 0 (AQ false g),.live k (Ad (j.out++List.replicate k 0))]) (fun k=>m+1-(j.out.length+k)) (fun k=>k=0∨j.out.length+k≤m+1) 0 (Wk.fr (by simp[Ac])) (.inl rfl) ?_)
  intro k hk
  by_cases hle:j.out.length+k≤g.out[v].length
  .refine A5 (an hvl hle) ?_;intro K hK
   refine zk ?_;clear hK K
   refine zt ?_
   refine W.skip ?_
   refine zb ?_
   refine z1 ?_;intro K hK
   refine⟨by omega,by omega,?_⟩
   refine zk ?_;clear hK K
   have e:Ad (j.out++List.replicate k 0)++[AV.int .i64 0]=Ad (j.out++List.replicate (k+1) 0):=by rw[List.replicate_succ'];simp[Ad]
   refine⟨k+1,by omega,.inr (by omega),Wk.cutM (k:=3) (by simp[Ac]) ?_ (by simp) (by simp) (by simp) (by simp)⟩
   rw[←e];rfl
  .refine A5 (an hvl hle) ?_;intro K hK
   refine zk ?_;clear hK K
   refine zn ?_
   refine W.exit ?_
   have hU:j.out++List.replicate k 0=CR j.out m:=by rw[CR,show m+1-j.out.length=k by omega]
   have hUl:(CR j.out m).length=j.out.length+k:=by rw[←hU];simp
   have hml:m<(CR j.out m).length:=by omega
   have hUb:∀y∈CR j.out m,0≤y∧y≤j.at_:=fun y hy=>by
    rcases I7 hy with hy|rfl
    .exact hc3b y hy
    .exact⟨Int.le_refl _,h.a0⟩
   have hb:=hUb _ (List.getElem_mem hml)
   rw[hU,C0 hml,si]
   simp only[Int.toNat_natCast]
   generalize CR j.out m=U at*
   subst hm
   refine A5 (an hvl hml) ?_;intro K hK
   refine zk ?_;clear hK K
   rw[CX]
   refine⟨_,_,Wk.intern (B:=0) (v:=0) (j:=5) (T:=2) (u:=k) (s:=1) (off:=0) (n:=(j.out.length+k)) (xs:=Ad (U.set g.out[v].length (U[g.out[v].length]+1))) (by rfl) (by rfl) (by simp[Ai]) (by simp) (by simp;try omega) (by simp),?_⟩
   (try simp only[Cn,Co,Df,Dg,if_true]);refine Fg (d:=0) ?_;simp -implicitDefEqProofs (maxSteps:=999999) (disch:=omega)
   simp[h3,hUl]
   rw[List.take_of_length_le (by simp;omega)]
 by_cases h6:j.kind=6
 .have hvl:v<g.out.length:=by have:=hvn2 (by omega);omega
  have hc6:=h.c6 h6
  have hvis:AN g j={j with at_:=(v:Int)+1,out:=j.out++Eo v g.out[v]}:=by
   simp[AN,h6,hv,Be hvl,Eo]
  rw[hvis]
  refine Aa.start (fn:=Tryz.f219) [] tk rfl rfl rfl (by kernel_rfl) (Nat.le_of_ble_eq_true rfl) rfl (by kernel_rfl) ?_
  rw[Am]
  refine z1 ?_;intro K hK;refine zk ?_;clear hK K
  refine Ae h6 ?_;intro K hK
  refine zk ?_;clear hK K
  refine zn ?_
  refine W.skip ?_
  refine z0 ?_;intro K hK;refine zk ?_;clear hK K
  refine Ae hv ?_;intro K hK
  refine zk ?_;clear hK K
  refine Ae h6 ?_;intro K hK
  refine zk ?_;clear hK K
  (repeat refine W.seq ?_);refine W.block (W.late ?_)
  refine Ae h6 ?_;intro K hK
  refine zk ?_;clear hK K
  refine zn ?_
  refine Ae h6 ?_;intro K hK
  refine zk ?_;clear hK K
  refine zn ?_
  refine Ae h6 ?_;intro K hK
  refine zk ?_;clear hK K
  refine zn ?_
  refine Ae h6 ?_;intro K hK
  refine zk ?_;clear hK K
  refine zn ?_
  refine Ae h6 ?_;intro K hK
  refine zk ?_;clear hK K
  refine zt ?_
  refine W.weak (Wk.thaw (B:=0) (v:=0) (j:=5) (s:=1) (n:=j.out.length) (xs:=Ad j.out) (by rfl) (by rfl)) ?_
  (repeat refine W.seq ?_);refine W.reg 0 rfl fun K hK=>?_;simp -implicitDefEqProofs (maxSteps:=999999) (disch:=omega) [hvl]
  refine zk ?_;clear hK K
  rw[show Ad j.out=Ad (j.out++Eo v (g.out[v].take 0)) by simp[Eo]]
  have hvv:=hwl v hvl
  (repeat refine W.seq ?_);refine W.block (W.loopS (fun k:Nat=> [(1,.ptr 0 0 0),(2,.ptr 1 0 0),(4,.int .i64 v),(163,.ro g.out[v].length (Ad g.out[v])),(164,.int .i64 g.out[v].length),(165,.int .i64 k)]) (fun k=> [.live 0 [.int .i64 6,.int .i64 j.a,.int .i64 ((v:Int)+1),.bool j.move,.own 1 j.list.length (Ad j.list),.tok 2 k 1 0 (j.out.length+2*k)],.live 0 (AQ false g),.live k (Ad (j.out++Eo v (g.out[v].take k)))]) (fun k=>g.out[v].length-k) (fun k=>k≤g.out[v].length) 0 (Wk.fr (by simp[Ac])) (by simp) ?_)
  intro k hk
  refine zs ?_
  refine zc ?_ ?_<;>intro h
  .refine W.skip ?_
   have hlt:k<g.out[v].length:=by omega
   have hto:g.out[v].take (k+1)=g.out[v].take k++[g.out[v][k]]:=by rw[List.take_add_one];simp[hlt]
   refine zb ?_
   have hr2:Dn 2 [AV.int .i64 0]=[AV.int .i64 0,AV.int .i64 0]:=rfl
   have hpk:(Eo v (g.out[v].take k)).length=2*k:=by rw[IG];simp;omega
   (repeat refine W.seq ?_);refine W.reg 0 rfl fun K hK=>?_;simp -implicitDefEqProofs (maxSteps:=999999) (disch:=omega) [hlt]
   refine zk ?_;clear hK K
   refine Mk (an hr2 hpk) ?_;intro K hK
   refine⟨by omega,by omega,?_⟩
   refine zk ?_;clear hK K
   refine zs ?_
   have e:Ad (j.out++Eo v (g.out[v].take k))++[AV.int .i64 v,AV.int .i64 g.out[v][k]]=Ad (j.out++Eo v (g.out[v].take (k+1))):=by rw[hto,LJ];simp[Ad]
   refine⟨k+1,by omega,by omega,Wk.cutM (k:=3) (by simp[Ac]) ?_ (by simp) (by simp) (by simp) (by simp)⟩
   rw[←e];rfl
  .refine W.exit ?_
   have hk' :k=g.out[v].length:=by omega
   subst hk'
   rw[List.take_length]
   have hfl:=IG (v:Int) g.out[v]
   refine⟨_,_,Wk.intern (B:=0) (v:=0) (j:=5) (T:=2) (u:=g.out[v].length) (s:=1) (off:=0) (n:=(j.out.length+2*g.out[v].length)) (xs:=Ad (j.out++Eo v g.out[v])) (by rfl) (by rfl) (by simp[Ai]) (by simp) (by simp only[Q7,List.length_append,hfl];omega) (by simp),?_⟩
   (try simp only[Cn,Co,Df,Dg,if_true]);refine Fg (d:=0) ?_;simp -implicitDefEqProofs (maxSteps:=999999) (disch:=omega)
   refine⟨h6.symm,?_,?_⟩
   .rw[hfl]
   .rw[List.take_of_length_le (by rw[List.length_append,hfl];exact Nat.le_refl _)]
 have h4:j.kind=4:=by omega
 obtain⟨c1,c2,c3,c4,c5⟩:=h.c4 h4
 have hvl:v<j.list.length:=by simp[Br,h4] at ho;omega
 have hm:=c4 _ (List.getElem_mem hvl)
 obtain⟨u,hu⟩:=Int.eq_ofNat_of_zero_le hm.1
 rw[hu] at hm
 have hul:u<g.out.length:=by omega
 have hul2:=hwl u hul
 have hws:∀w∈g.out[u],0≤w∧w<g.n:=fun w hw=>EL hg (v:=(u:Int)) (by rw[Be hul];exact hw)
 have hf:=fun k=>G6 (n:=g.n) (v:=(u:Int)) ⟨hm.1,hm.2.1⟩ (g.out[u].take k) (j.out,j.list) (fun w hw=>hws w (List.mem_of_mem_take hw)) hm.2.2 c1 c2 c4 c5
 have hvis:AN g j={j with at_:=(v:Int)+1,out:=(g.out[u].foldl (AU u) (j.out,j.list)).1,list:=(g.out[u].foldl (AU u) (j.out,j.list)).2}:=by
  have e:gi j.list (v:Int)=(u:Int):=by rw[C0 hvl,hu]
  simp[AN,h4,hv,e,Be hul]
 rw[hvis]
 refine Aa.start (fn:=Tryz.f219) [] tk rfl rfl rfl (by kernel_rfl) (Nat.le_of_ble_eq_true rfl) rfl (by kernel_rfl) ?_
 rw[Am]
 refine z1 ?_;intro K hK;refine zk ?_;clear hK K
 refine Ae h4 ?_;intro K hK
 refine zk ?_;clear hK K
 refine zn ?_
 refine W.skip ?_
 refine z0 ?_;intro K hK;refine zk ?_;clear hK K
 refine Ae hv ?_;intro K hK
 refine zk ?_;clear hK K
 refine Ae h4 ?_;intro K hK
 refine zk ?_;clear hK K
 (repeat refine W.seq ?_);refine W.block (W.late ?_)
 refine Ae h4 ?_;intro K hK
 refine zk ?_;clear hK K
 refine zn ?_
 refine Ae h4 ?_;intro K hK
 refine zk ?_;clear hK K
 refine zn ?_
 refine Ae h4 ?_;intro K hK
 refine zk ?_;clear hK K
 refine zn ?_
 refine Ae h4 ?_;intro K hK
 refine zk ?_;clear hK K
 refine zt ?_
 refine W.weak (Wk.thaw (B:=0) (v:=0) (j:=4) (s:=1) (n:=j.list.length) (xs:=Ad j.list) (by rfl) (by rfl)) ?_
 refine W.weak (Wk.thaw (B:=0) (v:=0) (j:=5) (s:=1) (n:=j.out.length) (xs:=Ad j.out) (by rfl) (by rfl)) ?_
 refine Ae (an hvl hu) ?_;intro K hK
 refine zk ?_;clear hK K
 (repeat refine W.seq ?_);refine W.reg 0 rfl fun K hK=>?_;simp -implicitDefEqProofs (maxSteps:=999999) (disch:=omega) [hul]
 refine zk ?_;clear hK K
 rw[show j.out.length=n by omega]
 (repeat refine W.seq ?_);refine W.block (W.loopS (fun k:Nat=> [(1,.ptr 0 0 0),(2,.ptr 1 0 0),(4,.int .i64 u),(118,.ro g.out[u].length (Ad g.out[u])),(119,.int .i64 g.out[u].length),(120,.int .i64 k)]) (fun k=> [.live 0 [.int .i64 4,.int .i64 j.a,.int .i64 ((v:Int)+1),.bool j.move,.tok 2 (((g.out[u].take k).foldl (AU u) (j.out,j.list)).2.length-j.list.length) 1 0 ((g.out[u].take k).foldl (AU u) (j.out,j.list)).2.length,.tok 3 0 1 0 n],.live 0 (AQ false g),.live (((g.out[u].take k).foldl (AU u) (j.out,j.list)).2.length-j.list.length) (Ad ((g.out[u].take k).foldl (AU u) (j.out,j.list)).2),.live 0 (Ad ((g.out[u].take k).foldl (AU u) (j.out,j.list)).1)]) (fun k=>g.out[u].length-k) (fun k=>k≤g.out[u].length) 0 ?_ (by simp) ?_)
 .have e:((g.out[u].take 0).foldl (AU u) (j.out,j.list))=(j.out,j.list):=rfl
  rw[e]
  simp only[Nat.sub_self]
  exact Wk.fr (by simp[Ac])
 intro k hk
 refine zs ?_
 refine zc ?_ ?_<;>intro h
 .refine W.skip ?_
  have hlt:k<g.out[u].length:=by omega
  have hst:=FI (AU (u:Int)) (j.out,j.list) g.out[u] k hlt
  obtain⟨f0,f1,f2,f3,f4,f5⟩:=hf k
  have hw:=hws _ (List.getElem_mem hlt)
  generalize (g.out[u].take k).foldl (AU u) (j.out,j.list)=s at*
  simp only at f5
  obtain⟨w,hwe⟩:=Int.eq_ofNat_of_zero_le hw.1
  rw[hwe] at hw hst
  have hl1:u<s.1.length:=by omega
  have hl2:w<s.1.length:=by omega
  rw[C0 hl1] at f0
  have hub:=f4 _ (List.getElem_mem hl1)
  have hs2:s.2.length≤16:=by omega
  refine zb ?_
  refine Ae (an hlt hwe) ?_;intro K hK
  refine zk ?_;clear hK K
  by_cases hneg:s.1[w]<0
  .have hps:AU (u:Int) s w=(s.1.set w (s.1[u]+1),s.2++[(w:Int)]):=by
    simp only[AU,C0 hl1,C0 hl2,si]
    rw[if_pos hneg];rfl
   rw[hps] at hst
   refine Ae (an hl2 hneg) ?_;intro K hK
   refine zk ?_;clear hK K
   refine zt ?_
   (repeat refine W.seq ?_);refine W.regdX 1 [(132,149),(132,151),(133,149),(133,151),(134,149),(134,151),(138,149),(138,151),(139,149),(139,151),(140,149),(140,151),(141,149),(141,151),(142,149),(142,151),(143,149),(143,151)] rfl true Cq (by kernel_rfl) fun K hK=>?_;simp -implicitDefEqProofs (maxSteps:=999999) (disch:=omega) [hl1,hl2]
   (repeat refine⟨by first|assumption|omega,?_⟩);refine hK _ _ (by simp(disch:=omega)) ?_;clear hK K
   rw[CX]
   refine zs ?_
   refine⟨k+1,by omega,by omega,?_⟩
   rw[hst]
   have hver:(s.2++[(w:Int)]).length-j.list.length=s.2.length-j.list.length+1:=by simp;omega
   have e:Ad s.2++[AV.int .i64 w]=Ad (s.2++[(w:Int)]):=by simp[Ad]
   simp only[hver]
   refine Wk.cutM (k:=4) (by simp[Ac]) ?_ (by simp) (by simp) (by simp) (by simp)
   rw[e]
   simp
  .have hps:AU (u:Int) s w=s:=by
    simp only[AU,C0 hl2]
    rw[if_neg hneg]
   rw[hps] at hst
   refine Ae (an hl2 hneg) ?_;intro K hK
   refine zk ?_;clear hK K
   refine zn ?_
   refine W.skip ?_
   refine zs ?_
   refine⟨k+1,by omega,by omega,?_⟩
   rw[hst]
   exact Wk.fr (by simp[Ac])
 .refine W.exit ?_
  have hk' :k=g.out[u].length:=by omega
  subst hk'
  rw[List.take_length]
  obtain⟨f0,f1,f2,f3,f4,f5⟩:=hf g.out[u].length
  rw[List.take_length] at f1
  generalize g.out[u].foldl (AU u) (j.out,j.list)=s at*
  refine⟨_,_,(Wk.intern (B:=0) (v:=0) (j:=4) (T:=2) (u:=s.2.length-j.list.length) (s:=1) (off:=0) (n:=s.2.length) (xs:=Ad s.2) (by rfl) (by rfl) (by simp[Ai]) (by simp) (by simp) (by simp)).trans (Wk.intern (B:=0) (v:=0) (j:=5) (T:=3) (u:=0) (s:=1) (off:=0) (n:=n) (xs:=Ad s.1) (by rfl) (by rfl) (by rfl) (by simp) (by simp;omega) (by simp)),?_⟩
  (try simp only[Cn,Co,Df,Dg,if_true]);refine Fg (d:=0) ?_;simp -implicitDefEqProofs (maxSteps:=999999) (disch:=omega)
  exact⟨h4.symm,by omega,by rw[List.take_of_length_le (by omega)]⟩
end Go.Abs
set_option maxRecDepth 100000
namespace Go.Abs
open Go.Proofs
def Zr (j:BX):Prop:=j.list.length<1000000000∧j.out.length<1000000000
theorem OV (hR:Bh) (g:Gr) (j:BX) (hgi:Et g) (hg:AY g) (hj:j.list.length<1000000000∧j.out.length<1000000000):Aa pg 193 [.agg (AQ false g),.agg (BI false j)] [] (fun r _=>r= .bool (CN g j)):=by
 refine Aa.start (fn:=Tryz.f193) [.tmp 4] tk rfl rfl rfl (by kernel_rfl) (Nat.le_of_ble_eq_true rfl) rfl (by kernel_rfl) ?_
 rw[Am]
 refine z2 ?_;intro K hK;refine zk ?_;clear hK K
 refine W.scope (fun _ _ _ h=>h) ?_
 by_cases hk:Da g j.kind j.a=0
 rotate_left
 .have sp:=No hR g j.kind j.a hgi hg
  rw[if_neg hk] at sp
  refine z1 ?_;intro K hK
  refine Ab.eq sp (by simp) (by simp) ?_
  refine zx ?_
  refine zk ?_;clear hK K
  refine Ae hk ?_;intro K hK
  refine zk ?_;clear hK K
  refine zt ?_
  refine zs ?_
  refine zr ?_
  simp[CN,hk]
 have sp:=No hR g j.kind j.a hgi hg
 rw[if_pos hk] at sp
 have hb:=LI hg hk
 have hx0:CN g j=D6 g j (B0 g j.kind j.a):=by rw[I8,decide_eq_true hk,Bool.true_and]
 refine z1 ?_;intro K hK
 refine Ab.eq sp (by simp) (by simp) ?_
 generalize B0 g j.kind j.a=x0 at*
 refine zx ?_
 refine zk ?_;clear hK K
 have hsm:=hb.small hg
 refine W.weak (Wk.intern (B:=2) (v:=0) (j:=4) (T:=3) (u:=0) (s:=1) (off:=0) (n:=x0.list.length) (xs:=Ad x0.list) (by rfl) (by rfl) (by rfl) (by simp) (by simp) (by simp)) ?_
 refine W.weak (Wk.intern (B:=2) (v:=0) (j:=5) (T:=4) (u:=0) (s:=1) (off:=0) (n:=x0.out.length) (xs:=Ad x0.out) (by rfl) (by rfl) (by rfl) (by simp) (by simp) (by simp)) ?_
 refine Ae hk ?_;intro K hK
 refine zk ?_;clear hK K
 refine zn ?_
 refine W.skip ?_
 refine W.seq ?_
 refine W.label ?_
 (repeat refine W.seq ?_);refine W.block (W.loopS (fun x:BX=> [(2,.ptr 0 0 0),(3,.ptr 1 0 0),(5,.ptr 2 0 0)]) (fun x=> [.live 0 (AQ false g),.live 0 (BI false j),.live 0 (BI true x)]) (fun x=>EG g x) (fun x=>E7 g x∧D6 g j x=D6 g j x0) x0 (Wk.cutM (k:=3) (by simp[Ac]) (by simp) (by simp) (by simp) (by simp) (by simp)) ⟨hb,rfl⟩ ?_)
 rintro x ⟨hx,hxj⟩
 refine zb ?_
 refine zb ?_
 refine W.weak (Wk.thaw (B:=2) (v:=0) (j:=4) (s:=1) (n:=x.list.length) (xs:=Ad x.list) (by rfl) (by rfl)) ?_
 refine W.weak (Wk.thaw (B:=2) (v:=0) (j:=5) (s:=1) (n:=x.out.length) (xs:=Ad x.out) (by rfl) (by rfl)) ?_
 have hsx:=hx.small hg
 by_cases e:x=j
 .refine z0 ?_;intro K hK
  refine Ab.eq (P1 x j (by omega)) (by simp) (by simp) ?_
  refine AM e ?_
  refine zk ?_;clear hK K
  refine zt ?_
  refine zs ?_
  refine zr ?_
  rw[hx0,←hxj,Np e]
 .refine z0 ?_;intro K hK
  refine Ab.eq (P1 x j (by omega)) (by simp) (by simp) ?_
  refine AM e ?_
  refine zk ?_;clear hK K
  refine zn ?_
  refine z0 ?_;intro K hK
  refine Ab.eq (MB g x (by omega)) (by simp) (by simp) ?_
  cases ho:Br g x
  .refine zx ?_
   refine zk ?_;clear hK K
   refine zn ?_
   refine W.skip ?_
   refine W.weak (Wk.intern (B:=2) (v:=0) (j:=4) (T:=3) (u:=0) (s:=1) (off:=0) (n:=x.list.length) (xs:=Ad x.list) (by rfl) (by rfl) (by rfl) (by simp) (by simp) (by simp)) ?_
   refine W.weak (Wk.intern (B:=2) (v:=0) (j:=5) (T:=4) (u:=0) (s:=1) (off:=0) (n:=x.out.length) (xs:=Ad x.out) (by rfl) (by rfl) (by rfl) (by simp) (by simp) (by simp)) ?_
   refine z0 ?_;intro K hK
   refine Ab.pass [2] (Sc g x hgi hg hx ho) (by simp) (by simp) (by simp) (by simp) ?_
   rintro r M ⟨rfl,rfl⟩ _
   refine zx ?_
   refine zk ?_;clear hK K
   obtain⟨h1,h2⟩:=G7 hg hx ho
   refine⟨AN g x,h2,⟨h1,by rw[←Nq hg hx e ho];exact hxj⟩,Wk.cutM (k:=3) (by simp[Ac]) (by simp) (by simp) (by simp) (by simp) (by simp)⟩
  .refine zx ?_
   refine zk ?_;clear hK K
   refine zt ?_
   refine W.exit ?_
   refine zs ?_
   refine zr ?_
   rw[hx0,←hxj,KG e ho]
end Go.Abs
set_option maxRecDepth 100000
namespace Go.Abs
open Go.Proofs
theorem Qa:∀{ws:List Obj} {g:Gr},C9 Cj Ck ws=some g→AY g
 | [],g,h=>by simp[C9] at h;subst h;exact GC
 |o::w,g,h=>by
  simp only[C9] at h
  split at h
  .exact FO h
  .split at h
   .simp at h
   .exact FO h
theorem FP (l:List Obj) (id:Int):AY (By l id).1:=by
 unfold By
 split
 .exact GC
 .split
  .rename_i g hg;exact Qa hg
  .exact GC
theorem AY.inn {g:Gr} (h:AY g):Et g:=⟨by have:=h.2.1;have:=h.2.2.1;omega,fun l hl=>by have:=BQ (h.2.2.2.1 l hl).1;omega⟩
theorem OW (hR:Bh) (s:AP) (x:C1) (hs:AZ s) (hx:Db x) (hm:CQ (Ar s)) (ho:x.opn=false):Aa pg 157 [.agg (Ay false s),.agg (AG false x)] [] (fun r _=>r= .bool (decide (AA s (Ar s) x))):=by
 have e0:(x=Cm)↔x.opn=false∧x.pin=0∧x.on=false∧x.frm=0∧x.stage=Au∧x.job=B5:=C1.ext_iff
 refine Aa.start (fn:=Tryz.f157) [.tmp 4] tk rfl rfl rfl (by kernel_rfl) (Nat.le_of_ble_eq_true rfl) rfl (by kernel_rfl) ?_
 rw[Am]
 refine z2 ?_;intro K hK;refine zk ?_;clear hK K
 refine zb ?_
 refine Ae ho ?_;intro K hK
 refine zk ?_;clear hK K
 refine zt ?_
 by_cases hp:x.pin=0
 .cases hon:x.on
  .by_cases hf:x.frm=0
   .refine Ae (an hp (an hon hf)) ?_;intro K hK
    refine Ab.eq (MC x.stage) (by simp) (by simp) ?_
    by_cases hst:x.stage=Au
    .rw[decide_eq_true hst]
     refine zx ?_
     refine Ab.eq (Iz x.job (by have:=hx.2.1;have:=hx.2.2;omega)) (by simp) (by simp) ?_
     refine zx ?_
     refine zk ?_;clear hK K
     refine zr ?_
     simp[AA,e0,ho,hp,hon,hf,hst]
    .rw[decide_eq_false hst]
     refine zx ?_
     refine zk ?_;clear hK K
     refine zr ?_
     simp[AA,e0,ho,hp,hon,hf,hst]
   .refine Ae (an hp (an hon hf)) ?_;intro K hK
    refine zk ?_;clear hK K
    refine zr ?_
    simp[AA,e0,ho,hp,hon,hf]
  .refine Ae (an hp hon) ?_;intro K hK
   refine zk ?_;clear hK K
   refine zr ?_
   simp[AA,e0,ho,hp,hon]
 .refine Ae hp ?_;intro K hK
  refine zk ?_;clear hK K
  refine zr ?_
  simp[AA,e0,ho,hp]
theorem OX (hR:Bh) (s:AP) (x:C1) (hs:AZ s) (hx:Db x) (hm:CQ (Ar s)) (ho:x.opn=true) (hp:x.pin=0):Aa pg 157 [.agg (Ay false s),.agg (AG false x)] [] (fun r _=>r= .bool (decide (AA s (Ar s) x))):=by
 refine Aa.start (fn:=Tryz.f157) [.tmp 4] tk rfl rfl rfl (by kernel_rfl) (Nat.le_of_ble_eq_true rfl) rfl (by kernel_rfl) ?_
 rw[Am]
 refine z2 ?_;intro K hK;refine zk ?_;clear hK K
 refine zb ?_
 refine Ae ho ?_;intro K hK
 refine zk ?_;clear hK K
 refine zn ?_
 refine Ae hp ?_;intro K hK
 refine zk ?_;clear hK K
 refine zn ?_
 cases hon:x.on
 .refine A5 hon ?_;intro K hK
  refine zk ?_;clear hK K
  refine zn ?_
  by_cases hf:x.frm=0
  .refine Ae (an hon hf) ?_;intro K hK
   refine Ab.eq (MC x.stage) (by simp) (by simp) ?_
   by_cases hst:x.stage=Au
   .rw[decide_eq_true hst]
    refine zx ?_
    refine zk ?_;clear hK K
    refine zn ?_
    refine z0 ?_;intro K hK
    refine Ab.eq (Iz x.job (by have:=hx.2.1;have:=hx.2.2;omega)) (by simp) (by simp) ?_
    by_cases hj:x.job=B5
    .rw[decide_eq_true hj]
     refine zx ?_
     refine zk ?_;clear hK K
     refine zt ?_
     refine zs ?_
     refine zr ?_
     simp[AA,ho,hp,hon,hf,hst,hj]
    .rw[decide_eq_false hj]
     refine zx ?_
     refine zk ?_;clear hK K
     refine zn ?_
     refine Ae hp ?_;intro K hK
     refine zk ?_;clear hK K
     refine zt ?_
     refine zs ?_
     refine zr ?_
     simp[AA,ho,hp,hon,hf,hst,hj]
   .rw[decide_eq_false hst]
    refine zx ?_
    refine zk ?_;clear hK K
    refine zt ?_
    refine zs ?_
    refine zr ?_
    simp[AA,ho,hp,hon,hf,hst]
  .refine Ae (an hon hf) ?_;intro K hK
   refine zk ?_;clear hK K
   refine zt ?_
   refine zs ?_
   refine zr ?_
   simp[AA,ho,hp,hon,hf]
 .by_cases hf:x.frm<0
  .refine A5 (an hon hf) ?_;intro K hK
   refine zk ?_;clear hK K
   refine zt ?_
   refine zs ?_
   refine zr ?_
   simp[AA,ho,hp,hon]
   try omega
  .by_cases hl:Ct s.vers<x.frm
   .refine A5 (an hon hf) ?_;intro K hK
    refine Ah.eq (IA s hs) (by simp) (by simp) ?_
    refine AM hl ?_
    refine zk ?_;clear hK K
    refine zt ?_
    refine zs ?_
    refine zr ?_
    simp[AA,ho,hp,hon]
    try omega
   .refine A5 (an hon hf) ?_;intro K hK
    refine Ah.eq (IA s hs) (by simp) (by simp) ?_
    refine AM hl ?_
    refine Ah.eq (JY x.stage hx.1) (by simp) (by simp) ?_
    by_cases hst:AY x.stage
    .rw[decide_eq_true hst]
     refine zx ?_
     refine zk ?_;clear hK K
     refine zn ?_
     refine Ae hon ?_;intro K hK
     refine zk ?_;clear hK K
     refine zn ?_
     have hf' :0≤x.frm:=by omega
     have hl' :x.frm≤Ct s.vers:=by omega
     refine z0 ?_;intro K hK
     refine Ab.eq (Iz x.job (by have:=hx.2.1;have:=hx.2.2;omega)) (by simp) (by simp) ?_
     by_cases hj:x.job=B5
     .rw[decide_eq_true hj]
      refine zx ?_
      refine zk ?_;clear hK K
      refine zt ?_
      refine zs ?_
      refine zr ?_
      simp[AA,ho,hp,hon,hf',hl',hst,hj]
     .rw[decide_eq_false hj]
      refine zx ?_
      refine zk ?_;clear hK K
      refine zn ?_
      refine Ae hp ?_;intro K hK
      refine zk ?_;clear hK K
      refine zt ?_
      refine zs ?_
      refine zr ?_
      simp[AA,ho,hp,hon,hf',hl',hst,hj]
    .rw[decide_eq_false hst]
     refine zx ?_
     refine zk ?_;clear hK K
     refine zt ?_
     refine zs ?_
     refine zr ?_
     simp[AA,ho,hp,hon,hst]
theorem OY (hR:Bh) (s:AP) (x:C1) (hs:AZ s) (hx:Db x) (hm:CQ (Ar s)) (ho:x.opn=true) (hp:¬x.pin=0) (hin:∃v∈s.vers,v.id=x.pin):Aa pg 157 [.agg (Ay false s),.agg (AG false x)] [] (fun r _=>r= .bool (decide (AA s (Ar s) x))):=by
 refine Aa.start (fn:=Tryz.f157) [.tmp 4] tk rfl rfl rfl (by kernel_rfl) (Nat.le_of_ble_eq_true rfl) rfl (by kernel_rfl) ?_
 rw[Am]
 refine z2 ?_;intro K hK;refine zk ?_;clear hK K
 refine zb ?_
 refine Ae ho ?_;intro K hK
 refine zk ?_;clear hK K
 refine zn ?_
 refine Ae hp ?_;intro K hK
 refine Ab.eq (Kz s x.pin hs) (by simp) (by simp) ?_
 have hix:¬BM (fun v:Cv=>decide (v.id=x.pin)) s.vers<0:=by
  have:=(Cw (f:=fun v:Cv=>decide (v.id=x.pin)) (l:=s.vers)).2 (by simpa using hin)
  omega
 have hin' :(∃v∈s.vers,v.id=x.pin)=True:=eq_true hin
 refine AM hix ?_
 refine zk ?_;clear hK K
 refine zn ?_
 cases hon:x.on
 .refine A5 hon ?_;intro K hK
  refine zk ?_;clear hK K
  refine zn ?_
  by_cases hf:x.frm=0
  .refine Ae (an hon hf) ?_;intro K hK
   refine Ab.eq (MC x.stage) (by simp) (by simp) ?_
   by_cases hst:x.stage=Au
   .rw[decide_eq_true hst]
    refine zx ?_
    refine zk ?_;clear hK K
    refine zn ?_
    refine z0 ?_;intro K hK
    refine Ab.eq (Iz x.job (by have:=hx.2.1;have:=hx.2.2;omega)) (by simp) (by simp) ?_
    by_cases hj:x.job=B5
    .rw[decide_eq_true hj]
     refine zx ?_
     refine zk ?_;clear hK K
     refine zt ?_
     refine zs ?_
     refine zr ?_
     simp[AA,ho,hp,hin',hon,hf,hst,hj]
    .rw[decide_eq_false hj]
     refine zx ?_
     refine zk ?_;clear hK K
     refine zn ?_
     refine Ae hp ?_;intro K hK
     refine zk ?_;clear hK K
     refine zn ?_
     refine W.skip ?_
     have hgm:=FP (Ar s) x.pin
     have hgi:=hgm.inn
     have hre:AA s (Ar s) x↔(CN (By (Ar s) x.pin).1 x.job=true∧Br (By (Ar s) x.pin).1 x.job=false):=by simp[AA,ho,hp,hin',hon,hf,hst,hj]
     have spO:=MD s x.pin hs hm hp
     obtain⟨g,hg⟩:∃g,g=(By (Ar s) x.pin).1:=⟨_,rfl⟩
     rw[←hg] at hgm hgi hre spO
     have hde:decide (AA s (Ar s) x)=(CN g x.job&&!Br g x.job):=by rw[Bool.eq_iff_iff];simp[hre]
     rw[hde]
     refine z1 ?_;intro K hK
     refine Ab.eq spO (by simp) (by simp) ?_
     refine zx ?_
     refine zk ?_;clear hK K
     refine z0 ?_;intro K hK
     refine Ab.eq (OV hR g x.job hgi hgm hx.2) (by simp) (by simp) ?_
     cases hjo:CN g x.job
     .refine zx ?_
      refine zk ?_;clear hK K
      refine zr ?_
      simp[hjo]
     .refine zx ?_
      refine Ab.eq (MB g x.job (by have:=hx.2.1;omega)) (by simp) (by simp) ?_
      refine zx ?_
      refine zk ?_;clear hK K
      refine zr ?_
      simp[hjo]
   .rw[decide_eq_false hst]
    refine zx ?_
    refine zk ?_;clear hK K
    refine zt ?_
    refine zs ?_
    refine zr ?_
    simp[AA,ho,hp,hin',hon,hf,hst]
  .refine Ae (an hon hf) ?_;intro K hK
   refine zk ?_;clear hK K
   refine zt ?_
   refine zs ?_
   refine zr ?_
   simp[AA,ho,hp,hin',hon,hf]
 .by_cases hf:x.frm<0
  .refine A5 (an hon hf) ?_;intro K hK
   refine zk ?_;clear hK K
   refine zt ?_
   refine zs ?_
   refine zr ?_
   simp[AA,ho,hp,hin',hon]
   try omega
  .by_cases hl:Ct s.vers<x.frm
   .refine A5 (an hon hf) ?_;intro K hK
    refine Ah.eq (IA s hs) (by simp) (by simp) ?_
    refine AM hl ?_
    refine zk ?_;clear hK K
    refine zt ?_
    refine zs ?_
    refine zr ?_
    simp[AA,ho,hp,hin',hon]
    try omega
   .refine A5 (an hon hf) ?_;intro K hK
    refine Ah.eq (IA s hs) (by simp) (by simp) ?_
    refine AM hl ?_
    refine Ah.eq (JY x.stage hx.1) (by simp) (by simp) ?_
    by_cases hst:AY x.stage
    .rw[decide_eq_true hst]
     refine zx ?_
     refine zk ?_;clear hK K
     refine zn ?_
     refine Ae hon ?_;intro K hK
     refine zk ?_;clear hK K
     refine zn ?_
     have hf' :0≤x.frm:=by omega
     have hl' :x.frm≤Ct s.vers:=by omega
     refine z0 ?_;intro K hK
     refine Ab.eq (Iz x.job (by have:=hx.2.1;have:=hx.2.2;omega)) (by simp) (by simp) ?_
     by_cases hj:x.job=B5
     .rw[decide_eq_true hj]
      refine zx ?_
      refine zk ?_;clear hK K
      refine zt ?_
      refine zs ?_
      refine zr ?_
      simp[AA,ho,hp,hin',hon,hf',hl',hst,hj]
     .rw[decide_eq_false hj]
      refine zx ?_
      refine zk ?_;clear hK K
      refine zn ?_
      refine Ae hp ?_;intro K hK
      refine zk ?_;clear hK K
      refine zn ?_
      refine W.skip ?_
      have hgm:=FP (Ar s) x.pin
      have hgi:=hgm.inn
      have hre:AA s (Ar s) x↔(CN (By (Ar s) x.pin).1 x.job=true∧Br (By (Ar s) x.pin).1 x.job=false):=by simp[AA,ho,hp,hin',hon,hf',hl',hst,hj]
      have spO:=MD s x.pin hs hm hp
      obtain⟨g,hg⟩:∃g,g=(By (Ar s) x.pin).1:=⟨_,rfl⟩
      rw[←hg] at hgm hgi hre spO
      have hde:decide (AA s (Ar s) x)=(CN g x.job&&!Br g x.job):=by rw[Bool.eq_iff_iff];simp[hre]
      rw[hde]
      refine z1 ?_;intro K hK
      refine Ab.eq spO (by simp) (by simp) ?_
      refine zx ?_
      refine zk ?_;clear hK K
      refine z0 ?_;intro K hK
      refine Ab.eq (OV hR g x.job hgi hgm hx.2) (by simp) (by simp) ?_
      cases hjo:CN g x.job
      .refine zx ?_
       refine zk ?_;clear hK K
       refine zr ?_
       simp[hjo]
      .refine zx ?_
       refine Ab.eq (MB g x.job (by have:=hx.2.1;omega)) (by simp) (by simp) ?_
       refine zx ?_
       refine zk ?_;clear hK K
       refine zr ?_
       simp[hjo]
    .rw[decide_eq_false hst]
     refine zx ?_
     refine zk ?_;clear hK K
     refine zt ?_
     refine zs ?_
     refine zr ?_
     simp[AA,ho,hp,hin',hon,hst]
theorem OZ (hR:Bh) (s:AP) (x:C1) (hs:AZ s) (hx:Db x) (hm:CQ (Ar s)):Aa pg 157 [.agg (Ay false s),.agg (AG false x)] [] (fun r _=>r= .bool (decide (AA s (Ar s) x))):=by
 cases ho:x.opn
 .exact OW hR s x hs hx hm ho
 by_cases hp:x.pin=0
 .exact OX hR s x hs hx hm ho hp
 by_cases hin:∃v∈s.vers,v.id=x.pin
 .exact OY hR s x hs hx hm ho hp hin
 refine Aa.start (fn:=Tryz.f157) [.tmp 4] tk rfl rfl rfl (by kernel_rfl) (Nat.le_of_ble_eq_true rfl) rfl (by kernel_rfl) ?_
 rw[Am]
 refine z2 ?_;intro K hK;refine zk ?_;clear hK K
 refine zb ?_
 refine Ae ho ?_;intro K hK
 refine zk ?_;clear hK K
 refine zn ?_
 refine Ae hp ?_;intro K hK
 refine Ab.eq (Kz s x.pin hs) (by simp) (by simp) ?_
 have hix:BM (fun v:Cv=>decide (v.id=x.pin)) s.vers<0:=by
  have:=mt (Cw (f:=fun v:Cv=>decide (v.id=x.pin)) (l:=s.vers)).1 (by simpa using hin)
  omega
 have hin' :(∃v∈s.vers,v.id=x.pin)=False:=eq_false hin
 refine AM hix ?_
 refine zk ?_;clear hK K
 refine zt ?_
 refine zs ?_
 refine zr ?_
 simp only[AA,ho,hin',hp]
 simp
end Go.Abs
set_option maxRecDepth 100000
namespace Go.Abs
open Go.Proofs
theorem Bg {α:Type} {f:α→List AV} {s:Nat} (h:∀x,(f x).length=s) {k i:Nat} {xs:List α} (hk:k<xs.length) (hi:i<s):(Af f xs)[k*s+i]?=(f xs[k])[i]?:=by
 rw[←List.getElem?_drop,Fy f h hk,List.getElem?_append_left (by rw[h];exact hi)]
def CO (s:AP):Prop:=∀x∈s.sess,Db x
theorem Sd (hR:Bh) (s:AP) (x:C1) (hs:AZ s) (hx:Db x) (hm:CQ (Ar s)):Aa pg 156 ([.agg (AG false x)]++[.rptr (Ay false s)]) [] (fun r _=>r= .bool (!decide (AA s (Ar s) x))):=by
 refine Aa.start (fn:=Tryz.f156) [.tmp 3] tk rfl rfl rfl (by kernel_rfl) (Nat.le_of_ble_eq_true rfl) rfl (by kernel_rfl) ?_
 simp only[List.cons_append,List.nil_append]
 rw[Am]
 refine z1 ?_;intro K hK;refine zk ?_;clear hK K
 refine z0 ?_;intro K hK
 refine Ab.eq (OZ hR s x hs hx hm) (by simp) (by simp) ?_
 refine zx ?_
 refine zk ?_;clear hK K
 exact zR
theorem O0 (hR:Bh) (s:AP) (hs:AZ s) (hx:CO s):Aa pg 114 [.agg (Ay false s)] [] (fun r _=>r= .bool (decide (Gd s))):=by
 refine Aa.start (fn:=Tryz.f114) [.tmp 2] tk rfl rfl rfl (by kernel_rfl) (Nat.le_of_ble_eq_true rfl) rfl (by kernel_rfl) ?_
 rw[At]
 refine z1 ?_;intro K hK;refine zk ?_;clear hK K
 by_cases hw:Fk s
 rotate_left
 .refine z0 ?_;intro K hK
  refine Ab.eq (KA s hs) (by simp) (by simp) ?_
  rw[decide_eq_false hw]
  refine zx ?_
  refine zk ?_;clear hK K
  refine zt ?_
  refine zs ?_
  refine zr ?_
  exact fun h=>hw h.1
 have hm:=hw.2.2.2.2.2.2
 by_cases h3:s.sess.length=3
 rotate_left
 .refine z0 ?_;intro K hK
  refine Ab.eq (KA s hs) (by simp) (by simp) ?_
  rw[decide_eq_true hw]
  refine AM h3 ?_
  refine zk ?_;clear hK K
  refine zt ?_
  refine zs ?_
  refine zr ?_
  exact fun h=>h3 h.2.1
 refine z0 ?_;intro K hK
 refine Ab.eq (KA s hs) (by simp) (by simp) ?_
 rw[decide_eq_true hw]
 have h3' :((s.sess.length:Int)=3)=True:=eq_true (by omega)
 refine AM h3' ?_
 refine zk ?_;clear hK K
 refine zn ?_
 refine W.skip ?_
 refine z0 ?_;intro K hK
 refine Ab.eq (J2 s hs) (by simp) (by simp) ?_
 obtain⟨l,hl⟩:∃l,l=Ar s:=⟨_,rfl⟩
 rw[←hl]
 refine zx ?_
 refine zk ?_;clear hK K
 refine zs ?_
 (repeat refine W.seq ?_);refine W.block (W.loopS (fun k:Nat=> [(1,.ptr 0 0 0),(3,.tok 1 0 4 0 l.length),(19,.tok 1 0 4 0 l.length),(20,.int .i64 l.length),(21,.int .i64 k)]) (fun _=> [.live 0 (Ay false s),.live 0 (Af Av l)]) (fun k=>l.length-k) (fun k=>k≤l.length∧∀i (h:i<l.length),i<k→(By l l[i].id).2=0) 0 (Wk.fr ?_) ⟨by omega,by simp⟩ ?_)
 .simp[Ac]
 rintro k ⟨hk,hd⟩
 refine zs ?_
 refine zc ?_ ?_<;>intro h
 .refine W.skip ?_
  have hlt:k<l.length:=by omega
  refine zb ?_
  have hml:CQ l:=by rw[hl];exact hm
  have hil:D4 l:=by rw[hl];exact hs.objs
  have spO:=U8 l l[k].id hil hml
  have hil1:=hil.1
  obtain⟨g,hg⟩:∃g,g=(By l l[k].id).1:=⟨_,rfl⟩
  rw[←hg] at spO
  have c0:(Af Av l)[k*4]?=some (.int .i64 l[k].id):=Bg (f:=Av) (s:=4) (fun _=>rfl) hlt (i:=0) (by omega)
  have c1:(Af Av l)[k*4+1]?=some (.int .i64 l[k].base):=Bg (f:=Av) (s:=4) (fun _=>rfl) hlt (i:=1) (by omega)
  have c2:(Af Av l)[k*4+1+1]?=some (.str l[k].data.data):=Bg (f:=Av) (s:=4) (fun _=>rfl) hlt (i:=2) (by omega)
  have c3:(Af Av l)[k*4+1+1+1]?=some (.int .i64 l[k].data.n):=Bg (f:=Av) (s:=4) (fun _=>rfl) hlt (i:=3) (by omega)
  refine Mk (an hlt (an c0 (an c1 (an c2 c3)))) ?_;intro K hK
  refine zk ?_;clear hK K
  refine z1 ?_;intro K hK
  refine Ab.eq spO (by simp) (by simp) ?_
  by_cases he:(By l l[k].id).2=0
  .rw[he]
   refine zx ?_
   refine zk ?_;clear hK K
   refine zs ?_
   refine zn ?_
   refine W.skip ?_
   refine zs ?_
   refine⟨k+1,by omega,⟨by omega,?_⟩,Wk.cutM (k:=2) (by simp[Ac]) (by simp) (by simp) (by simp) (by simp) (by simp)⟩
   intro i hi hik
   by_cases e:i=k
   .subst e;exact he
   .exact hd i hi (by omega)
  .obtain⟨e,hee⟩:∃e,e=(By l l[k].id).2:=⟨_,rfl⟩
   rw[←hee] at he ⊢
   refine zx ?_
   refine zk ?_;clear hK K
   refine Ae he ?_;intro K hK
   refine zk ?_;clear hK K
   refine zt ?_
   refine zs ?_
   refine zr ?_
   intro hM
   have:=hM.2.2.1 l[k] (by rw[←hl];exact List.getElem_mem hlt)
   rw[←hl,←hee] at this
   exact he this
 .refine W.exit ?_
  have hk' :k=l.length:=by omega
  subst hk'
  have hall:∀o∈Ar s,(By (Ar s) o.id).2=0:=fun o ho=>by
   rw[←hl] at ho ⊢
   obtain⟨i,hi,rfl⟩:=List.mem_iff_getElem.1 ho
   exact hd i hi hi
  refine z0 ?_;intro K hK
  refine Ab.eq (HU s.sess 156 [.rptr (Ay false s)] (fun x=> !decide (AA s (Ar s) x)) (by have:=hs.2.1;omega) (fun x hxs=>Sd hR s x hs (hx x hxs) hm) (by simp) (by simp)) (by simp) (by simp) ?_
  refine zx ?_
  refine zk ?_;clear hK K
  refine zr ?_
  have hM:Gd s↔∀x∈s.sess,AA s (Ar s) x:=⟨fun h=>h.2.2.2,fun h=>⟨hw,h3,hall,h⟩⟩
  rw[Bool.eq_iff_iff]
  simp[hM]
theorem BW (hR:Bh) (s:AP) (hs:AZ s) (hx:CO s):Aa pg 72 [.agg (Ay false s)] [] (fun r _=>r= .bool (decide (Bm s))):=by
 refine Aa.start (fn:=Tryz.f72) [.tmp 2] tk rfl rfl rfl (by kernel_rfl) (Nat.le_of_ble_eq_true rfl) rfl (by kernel_rfl) ?_
 rw[At]
 refine z1 ?_;intro K hK;refine zk ?_;clear hK K
 by_cases h:Gd s
 .refine B8 ?_;intro K hK
  refine Ah.eq (O0 hR s hs hx) (by simp) (by simp) ?_
  rw[decide_eq_true h]
  refine zx ?_
  refine Ah.eq (ME s hs) (by simp) (by simp) ?_
  obtain⟨l,hl⟩:∃l,l=AE s:=⟨_,rfl⟩
  rw[←hl]
  refine zx ?_
  refine Ah.eq (U9 l s.blocks (by rw[hl];simp[AE];exact hs.1)) (by simp) (by simp) ?_
  refine zx ?_
  refine zk ?_;clear hK K
  refine zr ?_
  simp[Bm,h,hl]
 .refine B8 ?_;intro K hK
  refine Ah.eq (O0 hR s hs hx) (by simp) (by simp) ?_
  rw[decide_eq_false h]
  refine zx ?_
  refine zk ?_;clear hK K
  refine zr ?_
  simp[Bm,h]
end Go.Abs
set_option maxRecDepth 100000
namespace Go.Abs
open Go.Proofs
theorem Jr (v:Int):∀(l:List (Int×Int)) (i:Nat) (f:Bool) (e:Int) (h:i<l.length),CW v (l.take (i+1)) f e=CW v (l.take i) f e++Ba (if i=0 then(if f=true then D3 (l[i].1-v)+1 else l[i].1-e) else l[i].1-(l[i-1].1+l[i-1].2)).toNat++Ba (l[i].2-3+1).toNat
 | [],i,f,e,h=>by simp at h
 | (a,n)::t,0,f,e,h=>by simp[CW]
 | (a,n)::t,i+1,f,e,h=>by
   have ih:=Jr v t i false (a+n) (by simpa using h)
   simp only[List.take_succ_cons,CW,List.getElem_cons_succ,Nat.add_sub_cancel] at ih ⊢
   rw[ih]
   simp only[List.append_assoc]
   congr 4
   cases i with
   |zero=>simp
   |succ i=>simp
theorem Nr:∀(l:List (Int×Int)) (f:Bool) (e:Int),GM l f e→∀(i:Nat) (h:i<l.length),3≤l[i].2∧(0<i→l[i-1].1+l[i-1].2<l[i].1)
 | [],_,_,_,i,h=>by simp at h
 | (a,n)::t,f,e,hp,0,h=>⟨hp.2.1,fun h=>by omega⟩
 | (a,n)::t,f,e,hp,i+1,h=>by
   have hi:i<t.length:=by simpa using h
   have ih:=Nr t false (a+n) hp.2.2 i hi
   refine⟨by simpa using ih.1,fun _=>?_⟩
   cases i with
   |zero=>
    cases t with
    |nil=>simp at hi
    |cons q t=>
     obtain⟨b,m⟩:=q
     have:=hp.2.2.1
     simpa using this
   |succ i=>simpa using ih.2 (by omega)
theorem LK:∀(n:Nat) (l:List Int),l.length≤n→∀q∈(As l).1,q.1∈l∧q.2≤l.length
 |_,[],_,q,hq=>by simp[As] at hq
 |0,x::l,h,_,_=>by simp at h
 |n+1,x::l,h,q,hq=>by
  have h1:=FM x l
  have h2:=Gu (x::l)
  have h3:((x::l).drop (A7 (x::l))).length=(x::l).length-A7 (x::l):=by simp
  have ih:=LK n ((x::l).drop (A7 (x::l))) (by omega)
  rw[As] at hq
  split at hq
  .simp only[List.mem_cons] at hq
   rcases hq with rfl|hq
   .exact⟨by simp,by simp only;omega⟩
   .exact⟨List.mem_of_mem_drop (ih q hq).1,by have:=(ih q hq).2;omega⟩
  .exact⟨List.mem_of_mem_drop (ih q hq).1,by have:=(ih q hq).2;omega⟩
theorem Uf (xs:List Bool) (u:Nat) (v:Int) (l:List Int) (hx:xs.length<1000000) (hv:0≤v∧v≤16) (hl:AI l):Aa pg 167 [.tok 0 u 1 0 xs.length,.int .i64 v,.ro l.length (Ad l)] [.live u (AK xs)] (fun r M=>r= .own 1 (xs++BL v l).length (AK (xs++BL v l))∧M=[.dead]):=by
 have hll:=BQ hl
 have spS:=RZ l (by omega) (fun x hx=>by have:=hl.1 x hx;omega)
 obtain⟨p1,p2,p3,p4⟩:=GD l.length l true 0 (Nat.le_refl _) hl.2 (.inl rfl)
 have pin:=LK l.length l (Nat.le_refl _)
 have hbits:BL v l=Ba ((As l).1.length+1)++CW v (As l).1 true 0++DS v (As l).2:=rfl
 rw[hbits]
 clear hbits
 obtain⟨rs,hrs⟩:∃rs,rs=(As l).1:=⟨_,rfl⟩
 obtain⟨rest,hrest⟩:∃rest,rest=(As l).2:=⟨_,rfl⟩
 simp only[Mt] at spS
 rw[←hrs,←hrest] at spS ⊢
 rw[←hrs] at p1 p2 pin
 rw[←hrest] at p3 p4
 have hpos:=Nr rs true 0 p1
 have hrm:AI rest:=⟨fun x hx=>hl.1 x (p4 x hx),p3⟩
 have hrl:=BQ hrm
 have hbnd:∀(i:Nat) (h:i<rs.length),0≤rs[i].1∧rs[i].1<16∧rs[i].2≤16:=fun i h=>by
  have:=pin _ (List.getElem_mem h)
  have h2:=hl.1 _ this.1
  omega
 refine Aa.start (fn:=Tryz.f167) [.tmp 6] tk rfl rfl rfl (by kernel_rfl) (Nat.le_of_ble_eq_true rfl) rfl (by kernel_rfl) ?_
 rw[Bq]
 refine zs ?_
 refine z0 ?_;intro K hK
 refine Ab.eq spS (by simp) (by simp) ?_
 refine zx ?_
 refine zk ?_;clear hK K
 have hg0:=FU (rs.length+1) (by omega)
 refine z0 ?_;intro K hK
 refine Ab.pass [0] (ER xs u (rs.length+1) (by omega) (by omega) (by omega)) (by simp) (by simp) (by simp) (by simp) ?_
 rintro r M ⟨rfl,rfl⟩ _
 refine zx ?_
 refine zk ?_;clear hK K
 refine zs ?_
 (repeat refine W.seq ?_);refine W.block (W.loopS (fun z:Nat×List Bool=> [(0,.tok 3 0 1 0 z.2.length),(1,.int .i64 v),(7,.tok 1 0 2 0 rs.length),(8,.tok 2 0 1 0 rest.length),(9,.int .i64 (z.1:Nat))]) (fun z=> [.dead,.live 0 (Af Al rs),.live 0 (Ad rest),.live 0 (AK z.2)]) (fun z=>rs.length-z.1) (fun z=>z.1≤rs.length∧z.2=xs++(Ba (rs.length+1)++CW v (rs.take z.1) true 0)∧z.2.length≤xs.length+162*(z.1+1)) (0,xs++Ba (rs.length+1)) (Wk.fr (by simp[Ac])) ⟨by simp,by simp[CW],by simp;omega⟩ ?_)
 rintro⟨i,B⟩ ⟨hi,hB,hBl⟩
 simp only at hi hB hBl
 refine zs ?_
 refine zc ?_ ?_<;>intro h
 .refine W.skip ?_
  have hlt:i<rs.length:=by omega
  have hto:=Jr v rs i true 0 hlt
  have hb:=hbnd i hlt
  have hp:=hpos i hlt
  have ca:(Af Al rs)[i*2]?=some (.int .i64 rs[i].1):=Bg (f:=Al) (s:=2) (fun _=>rfl) hlt (i:=0) (by omega)
  have cl:(Af Al rs)[i*2+1]?=some (.int .i64 rs[i].2):=Bg (f:=Al) (s:=2) (fun _=>rfl) hlt (i:=1) (by omega)
  obtain⟨d,hd⟩:=Int.eq_ofNat_of_zero_le (show 0≤rs[i].2-3+1 by omega)
  have hdl:=FU d (by omega)
  refine zb ?_
  by_cases h0:i=0
  .subst h0
   have hz:=FN (rs[0].1-v)
   have hz2:D3 (rs[0].1-v)≤100:=by unfold D3;split<;>omega
   obtain⟨c,hc⟩:=Int.eq_ofNat_of_zero_le (show 0≤D3 (rs[0].1-v)+1 by omega)
   have hcl:=FU c (by omega)
   have ca0:(Af Al rs)[0]?=some (.int .i64 rs[0].1):=by simpa using ca
   have cl0:(Af Al rs)[1]?=some (.int .i64 rs[0].2):=by simpa using cl
   refine z0 ?_;intro K hK
   refine zk ?_;clear hK K
   refine zt ?_
   refine Ae (an hlt ca0) ?_;intro K hK
   refine Ab.eq (RT (rs[0].1-v) (by omega)) (by simp) (by simp) ?_
   refine AM hc ?_
   refine Ab.pass [3] (ER B 0 c (by omega) (by omega) (by omega)) (by simp) (by simp) (by simp) (by simp) ?_
   rintro r M ⟨rfl,rfl⟩ _
   refine zx ?_
   refine zk ?_;clear hK K
   refine Ae (an hlt (an cl0 hd)) ?_;intro K hK
   refine Ab.pass [4] (ER (B++Ba c) 0 d (by simp;omega) (by omega) (by omega)) (by simp) (by simp) (by simp) (by simp) ?_
   rintro r M ⟨rfl,rfl⟩ _
   refine zx ?_
   refine zk ?_;clear hK K
   refine zs ?_
   refine⟨(0+1,B++(Ba c++Ba d)),by simp only;omega,⟨by simp only;omega,?_,by simp;omega⟩,?_⟩
   .simp only[hto,if_true,hc,hd,Int.toNat_natCast]
    rw[hB];simp
   .simp only[List.length_append]
    exact Wk.sink (k:=3) (j:=5) (by rfl) (by simp;try omega) (by omega) (by simp) (by simp[Ac]) (by simp) (by simp) (by simp)
  .have hp2:=hp.2 (by omega)
   have hb2:=hbnd (i-1) (by omega)
   have hp3:=hpos (i-1) (by omega)
   have ca1:(Af Al rs)[(i-1)*2]?=some (.int .i64 rs[i-1].1):=Bg (f:=Al) (s:=2) (fun _=>rfl) (show i-1<rs.length by omega) (i:=0) (by omega)
   have cl1:(Af Al rs)[(i-1)*2+1]?=some (.int .i64 rs[i-1].2):=Bg (f:=Al) (s:=2) (fun _=>rfl) (show i-1<rs.length by omega) (i:=1) (by omega)
   obtain⟨c,hc'⟩:=Int.eq_ofNat_of_zero_le (show 0≤rs[i].1-rs[i-1].1-rs[i-1].2 by omega)
   have hc:rs[i].1-(rs[i-1].1+rs[i-1].2)=c:=by omega
   have hcl:=FU c (by omega)
   refine Ae h0 ?_;intro K hK
   refine zk ?_;clear hK K
   refine zn ?_
   (repeat refine W.seq ?_);refine W.regdS 0 20 rfl true Cq (by kernel_rfl) fun K hK=>?_;simp -implicitDefEqProofs (maxSteps:=999999) (disch:=omega) [hlt,ca,ca1,cl1,hc']
   refine⟨by omega,?_⟩
   refine Ab.pass [3] (ER B 0 c (by omega) (by omega) (by omega)) (by simp) (by simp) (by simp) (by simp) ?_
   rintro r M ⟨rfl,rfl⟩ _
   refine zx ?_
   refine zk ?_;clear hK K
   refine Ae (an hlt (an cl hd)) ?_;intro K hK
   refine Ab.pass [4] (ER (B++Ba c) 0 d (by simp;omega) (by omega) (by omega)) (by simp) (by simp) (by simp) (by simp) ?_
   rintro r M ⟨rfl,rfl⟩ _
   refine zx ?_
   refine zk ?_;clear hK K
   refine zs ?_
   refine⟨(i+1,B++(Ba c++Ba d)),by simp only;omega,⟨by simp only;omega,?_,by simp;omega⟩,?_⟩
   .simp only[hto,if_neg h0,hc,hd,Int.toNat_natCast]
    rw[hB];simp
   .simp only[List.length_append]
    exact Wk.sink (k:=3) (j:=5) (by rfl) (by simp;try omega) (by omega) (by simp) (by simp[Ac]) (by simp) (by simp) (by simp)
 .refine W.exit ?_
  have hi' :i=rs.length:=by omega
  subst hi'
  rw[List.take_length] at hB
  refine z0 ?_;intro K hK
  refine Ab.pass [3] (Ud B 0 v rest (by omega) hv hrm) (by simp) (by simp) (by simp) (by simp) ?_
  rintro r M ⟨rfl,rfl⟩ _
  refine zx ?_
  refine zk ?_;clear hK K
  refine zr ?_
  rw[List.take_of_length_le (by simp),hB]
  simp
  omega
end Go.Abs
set_option maxRecDepth 100000
namespace Go.Abs
open Go.Proofs
theorem NW (bs:List Bool) (p:Nat) (v:Int) (hb:bs.length<1000000000) (hp:p≤bs.length) (hv:0≤v∧v<100000):Aa pg 183 [.ro bs.length (AK bs),.int .i64 p,.int .i64 v] [] (fun r _=>r=CS (DF bs p v)):=by
 refine Aa.start (fn:=Tryz.f183) [.tmp 6,.tmp 7,.tmp 8] tk rfl rfl rfl (by kernel_rfl) (Nat.le_of_ble_eq_true rfl) rfl (by kernel_rfl) ?_
 rw[Bq]
 refine zs ?_
 refine z0 ?_;intro K hK
 have sp:=En bs p hb hp
 cases hg:AH bs p with
 |none=>
  simp only[hg,ES] at sp
  refine Ab.eq sp (by simp) (by simp) ?_
  refine zx ?_
  refine zk ?_;clear hK K
  refine zs ?_
  refine zt ?_
  refine zs ?_
  refine zr ?_
  simp[DF,hg,CS]
 |some x=>
  simp only[hg,ES] at sp
  obtain⟨hx1,hx2,hx3,hx4,_⟩:=AJ hg
  refine Ab.eq sp (by simp) (by simp) ?_
  refine zx ?_
  refine zk ?_;clear hK K
  by_cases hle:x.1≤17
  rotate_left
  .have h1:¬(x.1:Int)<1:=by omega
   have h2:(16:Int)<(x.1:Int)-1:=by omega
   refine Ae (an h1 h2) ?_;intro K hK
   refine zk ?_;clear hK K
   refine zt ?_
   refine zs ?_
   refine zr ?_
   simp only[DF,hg];rw[if_neg hle];simp[CS]
  have h1:¬(x.1:Int)<1:=by omega
  have h2:¬(16:Int)<(x.1:Int)-1:=by omega
  refine Ae (an h1 h2) ?_;intro K hK
  refine zk ?_;clear hK K
  refine zn ?_
  refine W.skip ?_
  refine zs ?_
  refine zs ?_
  refine zs ?_
  (repeat refine W.seq ?_);refine W.block (W.loopS (fun s:Nat×List Int×Nat×Int=> [(0,.ro bs.length (AK bs)),(1,.int .i64 s.2.2.1),(2,.int .i64 v),(9,.int .i64 x.1),(10,.tok 0 s.1 1 0 s.1),(11,.int .i64 s.2.2.2),(12,.int .i64 s.1)]) (fun s=> [.live s.1 (Ad s.2.1)]) (fun s=>x.1-1-s.1)
    (fun s=>s.1≤x.1-1∧s.2.1.length=s.1∧s.2.2.1≤bs.length∧(-(4294967296*((s.1:Int)+1))≤s.2.2.2∧s.2.2.2≤4294967296*((s.1:Int)+1))∧CP bs (x.1-1) true x.2 v=(CP bs (x.1-1-s.1) (decide (s.1=0)) s.2.2.1 (if s.1=0 then v else s.2.2.2)).map fun r=>(s.2.1++r.1,r.2)) (0,[],x.2,0) ((Wk.nil (t:=10) (s:=1) (by simp)).trans (Wk.fr (by simp[Ac]))) ⟨by omega,rfl,hx4,by simp only;omega,by simp⟩ ?_)
  rintro⟨k,acc,q,last⟩ ⟨hk,hacc,hq,hlast,hinv⟩
  simp only at hk hacc hq hlast hinv
  refine zs ?_
  refine zc ?_ ?_<;>intro h
  .refine W.skip ?_
   obtain⟨m,hm⟩:∃m,x.1-1-k=m+1:=⟨x.1-1-k-1,by omega⟩
   have hm' :x.1-1-(k+1)=m:=by omega
   rw[hm] at hinv
   refine zb ?_
   have sp2:=En bs q hb hq
   refine z0 ?_;intro K hK
   cases hg2:AH bs q with
   |none=>
    simp only[hg2,ES] at sp2
    refine Ab.eq sp2 (by simp) (by simp) ?_
    refine zx ?_
    refine zk ?_;clear hK K
    refine zs ?_
    refine zt ?_
    refine zs ?_
    refine zr ?_
    simp only[CP,hg2] at hinv
    simp[DF,hg,hinv,CS]
   |some y=>
    simp only[hg2,ES] at sp2
    obtain⟨hy1,hy2,hy3,hy4,_⟩:=AJ hg2
    refine Ab.eq sp2 (by simp) (by simp) ?_
    have h3:¬(y.1:Int)<1:=by omega
    refine zx ?_
    refine zk ?_;clear hK K
    refine Ae h3 ?_;intro K hK
    refine zk ?_;clear hK K
    refine zn ?_
    refine W.skip ?_
    refine zs ?_
    simp only[CP,hg2] at hinv
    by_cases h0:k=0
    .subst h0
     have ha:acc=[]:=by simpa using hacc
     subst ha
     have hz:-1073741825≤Cc ((y.1:Int)-1)∧Cc ((y.1:Int)-1)≤1073741825:=by unfold Cc;split<;>omega
     simp only[if_true,decide_true] at hinv
     refine zs ?_
     refine zt ?_
     refine z0 ?_;intro K hK
     refine Ab.eq (RS ((y.1:Int)-1) (by omega) (by omega)) (by simp) (by simp) ?_
     generalize Cc ((y.1:Int)-1)=z at*
     refine zx ?_
     refine zk ?_;clear hK K
     refine z1 ?_;intro K hK
     refine zk ?_;clear hK K
     refine zs ?_
     refine⟨(1,[v+z],y.2,v+z),by simp only;omega,⟨by simp only;omega,by simp,by simp only;omega,by simp only;omega,?_⟩,Wk.cutM (k:=1) (by simp[Ac]) ?_ (by simp) (by simp) (by simp) (by simp)⟩
     .rw[hinv,hm']
      simp
      cases CP bs m false y.2 (v+z)<;>simp
     .simp[Ad]
    .refine Ae h0 ?_;intro K hK
     refine zk ?_;clear hK K
     refine zn ?_
     simp only[h0,if_false,decide_false,Bool.false_eq_true] at hinv
     refine zs ?_
     refine z1 ?_;intro K hK
     refine⟨by omega,by omega,?_⟩
     refine zk ?_;clear hK K
     refine zs ?_
     refine⟨(k+1,acc++[last+y.1],y.2,last+y.1),by simp only;omega,⟨by simp only;omega,by simp[hacc],by simp only;omega,by simp only;omega,?_⟩,Wk.cutM (k:=1) (by simp[Ac]) ?_ (by simp) (by simp) (by simp) (by simp)⟩
     .rw[hinv,hm']
      simp
      cases CP bs m false y.2 (last+y.1)<;>simp
     .simp[Ad]
  .refine W.exit ?_
   have hk' :x.1-1-k=0:=by omega
   rw[hk'] at hinv
   simp only[CP,Option.map_some,List.append_nil] at hinv
   have hlen:acc.length<1000:=by omega
   subst hacc
   refine z0 ?_;intro K hK
   refine Ab.eq (FC acc (by omega)) (by simp) (by simp) ?_
   by_cases hm:AI acc
   .rw[decide_eq_true hm]
    refine zx ?_
    refine zk ?_;clear hK K
    refine zn ?_
    refine W.skip ?_
    refine zs ?_
    refine zr ?_
    simp only[DF,hg]
    rw[if_pos hle,hinv]
    simp[hm,CS]
   .rw[decide_eq_false hm]
    refine zx ?_
    refine zk ?_;clear hK K
    refine zt ?_
    refine zs ?_
    refine zr ?_
    simp only[DF,hg]
    rw[if_pos hle,hinv]
    simp[hm,CS]
end Go.Abs
set_option maxRecDepth 100000
namespace Go.Abs
open Go.Proofs
theorem Se (bs ys:List Bool) (p:Nat) (hb:bs.length<1000000000) (hy:ys.length<1000000000) (hp:p<2000000000):Aa pg 185 [.ro bs.length (AK bs),.int .i64 p,.ro ys.length (AK ys)] [] (fun r _=>r= .bool (decide ((bs.drop p).take ys.length=ys))):=by
 have hb8:∀a b:Bool,((if a=true then(1:Int) else 0)=if b=true then 1 else 0)↔a=b:=by intro a b;cases a<;>cases b<;>simp
 refine Aa.start (fn:=Tryz.f185) [.tmp 6] tk rfl rfl rfl (by kernel_rfl) (Nat.le_of_ble_eq_true rfl) rfl (by kernel_rfl) ?_
 rw[Bq]
 refine zs ?_
 refine zs ?_
 (repeat refine W.seq ?_);refine W.block (W.loopS (fun k:Nat=> [(0,.ro bs.length (AK bs)),(1,.int .i64 p),(2,.ro ys.length (AK ys)),(7,.int .i64 k)]) (fun _=> []) (fun k=>ys.length-k) (fun k=>k≤ys.length∧(bs.drop p).take k=ys.take k) 0 (Wk.fr (by simp[Ac])) (by simp) ?_)
 rintro k ⟨hk,ht⟩
 refine zs ?_
 refine zc ?_ ?_<;>intro h
 .refine W.skip ?_
  have hlt:k<ys.length:=by omega
  have hys:ys.take (k+1)=ys.take k++[ys[k]]:=by rw[List.take_add_one];simp[hlt]
  refine zb ?_
  by_cases c1:p+k<bs.length
  .have c1' :¬(bs.length:Int)≤(p:Int)+k:=by omega
   have hbs:(bs.drop p).take (k+1)=(bs.drop p).take k++[bs[p+k]]:=by rw[List.take_add_one];simp[c1]
   have ci:((p:Int)+k).toNat=p+k:=by omega
   by_cases c2:bs[p+k]=ys[k]
   . (repeat refine W.seq ?_);refine W.regd 0 rfl true Cq (by kernel_rfl) fun K hK=>?_;simp -implicitDefEqProofs (maxSteps:=999999) (disch:=omega) [c1',hlt,c1,ci,b8,c2]
     refine⟨by omega,?_⟩
     refine zk ?_;clear hK K
     refine zn ?_
     refine W.skip ?_
     refine zs ?_
     exact⟨k+1,by omega,⟨by omega,by rw[hbs,hys,ht,c2]⟩,Wk.fr (by simp[Ac])⟩
   . (repeat refine W.seq ?_);refine W.regd 0 rfl true Cq (by kernel_rfl) fun K hK=>?_;simp -implicitDefEqProofs (maxSteps:=999999) (disch:=omega) [c1',hlt,c1,ci,b8,hb8,c2]
     refine⟨by omega,?_⟩
     refine zk ?_;clear hK K
     refine zt ?_
     refine zs ?_
     refine zr ?_
     intro h
     have h2:=congrArg (List.take (k+1)) h
     rw[List.take_take,Nat.min_eq_left (by omega),hbs,hys,ht] at h2
     have:=List.append_cancel_left h2
     simp at this
     exact c2 this
  .have c1' :(bs.length:Int)≤(p:Int)+k:=by omega
   refine A5 c1' ?_;intro K hK
   refine zk ?_;clear hK K
   refine zt ?_
   refine zs ?_
   refine zr ?_
   intro h
   have:=congrArg List.length h
   simp at this;omega
 .refine W.exit ?_
  have hk' :k=ys.length:=by omega
  subst hk'
  rw[List.take_length] at ht
  refine zs ?_
  refine zr ?_
  exact ht
end Go.Abs
