/- References: copies of graphs, sessions, states. -/
import Derived.Test.YtgdmnlibcdajjaaGreatP5
open Bool renaming false_eq_true -> vt, or_eq_true -> wT, eq_iff_iff -> wX
open Classical renaming byContradiction -> vv, not_not -> wG
open Int renaming eq_ofNat_of_zero_le -> uS, toNat_natCast -> vE, le_refl -> wM
open List renaming take_of_length_le -> uM, getElem?_set_self -> uO, replicate -> uP, getElem_mem -> uQ, getElem?_eq_getElem -> uT, take_add_one -> uV, take_length -> uW, append_assoc -> uZ, length_append -> u0, mem_append -> vd, getD_eq_getElem?_getD -> vf, getElem?_append_right -> vj, mem_of_getElem? -> vo, mem_iff_getElem -> vq, set_append_right -> vz, length_cons -> vA, pairwise_iff_getElem -> vB, mem_filter -> vC, mem_map -> vH, take_append_drop -> vJ, range -> vK, mem_cons -> vL, append_nil -> vM, pairwise_cons -> vP, set_cons_zero -> vQ, length_filter_le -> vY, pairwise_append -> wg, mem_of_mem_take -> wh, map_cons -> wj, set_cons_succ -> wu, mem_singleton -> wA, getElem_map -> wE, mem_of_mem_drop -> wH, length_singleton -> wR, filter_append -> wV, getElem_range -> wW, take_succ_cons -> wY, pairwise_map -> wZ, drop_zero -> xc, getElem_cons_succ -> xe, mem_range -> xj, nodup_append -> xE, contains_eq_mem -> xG
open Nat renaming le_refl -> vg, zero_le -> vn, log2 -> vR, pow_succ -> w8, add_sub_cancel -> xa, add_sub_cancel_left -> xk, pow_pos -> xq
open Option renaming map_some -> vI
set_option linter.unusedVariables false
set_option linter.unusedSimpArgs false
set_option maxRecDepth 100000
namespace Go.Abs
open Go.Proofs
theorem Ty (xs:List (List Int)) (hx:xs.length<1000000000) (hr:∀r∈xs,r.length<1000000000):Ac pg 140 [.ro xs.length (Ak false xs)] [] (λr _=>r= .own 1 xs.length (Ak true xs)):=by
 refine zE (fn:=Tryz.f140) [.tmp 2] ?_;rw[AC];refine xZ ?_;refine sV (λk:Nat=> [(0,.ro xs.length (Ak false xs)),(3,.tok 0 k 1 0 k),(4,iN k)]) (λk=> [.live k (Ak true (xs.take k))]) (λk=>xs.length-k) (λk=>k<=xs.length) 0 ((Wk.nil (t:=3) (s:=1) ?_).trans (Wk.fr ?_)) zS ?_
 .simp
 .simp[AA]
 .intro k hk;refine zs ?_;refine zc ?_ ?_<;>intro h
  .refine W.skip ?_;have hlt:k<xs.length:=zO;have sp:=Ee xs[k] (by have:=hr _ (uQ hlt);omega);refine x9 ?_;intro K hK;simp -implicitDefEqProofs (disch:=omega) [hlt];refine sW sp (by simp) (by simp) ?_;refine AO hlt ?_;refine⟨zO,zO,?_⟩;refine xM ?_;have hto:xs.take (k+1)=xs.take k++[xs[k]]:=by rw[uV];simp[hlt]
   have hll:(Ak true (xs.take k)).length=k:=Ao;refine⟨k+1,zO,zO,(sY (B:=0) (v:=k+1) (j:=k) (T:=2) (u:=0) (s:=1) (off:=0) (n:=xs[k].length) (cs:=Ak true (xs.take k)++[AV.tok 2 0 1 0 xs[k].length]) (xs:=Ab xs[k]) zS ?_ zS zS zS zS).trans (sU (k:=1) zK ?_ zS zS zS zS)⟩
   .rw[vj zO,hll];simp
   .rw[hto,Wy];simp only[vQ,wY,List.take_zero,List.cons.injEq,Ag.live.injEq,true_and,and_true];rw[vz _ _ zO,hll];simp[Ak]
  .refine s7 ?_;have hk' :k=xs.length:=zO;subst hk';exact DM
theorem YE {P L:List AV} {n i:Nat} {x:AV} (h:P.length=n):(P++L).set (n+i) x=P++L.set i x:=by
 rw[vz _ _ zO,h,xk]
theorem YF {P L:List AV} {n i:Nat} (h:P.length=n):(P++L)[n+i]?=L[i]?:=by
 rw[vj zO,h,xk]
theorem GS (g:Gr) (hg:G5 g):Ac pg 104 [.agg (A1 false g)] [] (λr _=>r= .agg (A1 true g)):=by
 refine zE (fn:=Tryz.f104) [.cell 2 34] ?_;rw[AC];refine Cx ?_;refine AX ?_;refine AL (Ty g.out hg.1 hg.2) ?_;exact DM
theorem Q5 (s:B3) (hs:FT s):Ac pg 103 [.agg (Af false s)] [] (λr _=>r= .agg (Af true s)):=by
 refine zE (fn:=Tryz.f103) [.cell 2 40] ?_;rw[AC];refine Cx ?_;refine AX ?_;refine AL (GS s.sT hs.1) ?_;refine AL (Gs s.job hs.2) ?_;exact DM
theorem PK (xs:List B3) (hx:xs.length<1000000000) (hr:∀r∈xs,FT r):Ac pg 67 [.ro xs.length (Aa (Af false) xs)] [] (λr _=>r= .own 12 xs.length (Aa (Af true) xs)):=by
 refine zE (fn:=Tryz.f67) [.tmp 2] ?_;rw[AC];refine xZ ?_;refine sV (λk:Nat=> [(0,.ro xs.length (Aa (Af false) xs)),(3,.tok 0 k 12 0 k),(4,iN k)]) (λk=> [.live k (Aa (Af true) (xs.take k))]) (λk=>xs.length-k) (λk=>k<=xs.length) 0 ((Wk.nil (t:=3) (s:=12) ?_).trans (Wk.fr ?_)) zS ?_
 .simp
 .simp[AA]
 .intro k hk;refine zs ?_;refine zc ?_ ?_<;>intro h
  .refine W.skip ?_;have hlt:k<xs.length:=zO;have sp:=Q5 xs[k] (hr _ (uQ hlt));refine x9 ?_;intro K hK;simp -implicitDefEqProofs (disch:=omega) [hlt];refine sW sp (by simp) (by simp) ?_;refine AO hlt ?_;refine⟨zO,zO,?_⟩;refine xM ?_;have hto:xs.take (k+1)=xs.take k++[xs[k]]:=by rw[uV];simp[hlt]
   have hll:(Aa (Af true) (xs.take k)).length=k*12:=Ao;refine⟨k+1,zO,zO,?_⟩;have hpn:(Aa (Af true) (xs.take k)).all (Iz 1)=true:=by rw[<-IS];simp
   rw[hto,BI];generalize Aa (Af true) (xs.take k)=P at*;generalize xs[k]=x at*;refine Wk.trans (sY (B:=0) (v:=k+1) (j:=k*12+5) (T:=2) (u:=0) (s:=1) (off:=0) (n:=x.sT.out.length) (cs:=P++[AV.bool x.opn,AV.int .i64 x.pin,AV.bool x.on,AV.int .i64 x.frm,AV.int .i64 x.sT.n,AV.tok 2 0 1 0 x.sT.out.length,AV.int .i64 x.job.kind,AV.int .i64 x.job.a,AV.int .i64 x.job.at_,AV.bool x.job.move,AV.tok 3 0 1 0 x.job.list.length,AV.tok 4 0 1 0 x.job.out.length]) (xs:=Ak true x.sT.out) (by simp[Ah]) (by rw[YF hll];rfl) (by simp[Ah]) zD zS zS) ?_;rw[YE hll];simp only[vQ,wu,xc,Nat.mul_one,KW,L0,uW];refine Wk.trans (sY (B:=0) (v:=k+1) (j:=k*12+10) (T:=3) (u:=0) (s:=1) (off:=0) (n:=x.job.list.length) (cs:=P++[AV.bool x.opn,AV.int .i64 x.pin,AV.bool x.on,AV.int .i64 x.frm,AV.int .i64 x.sT.n,AV.own 1 x.sT.out.length (Ak true x.sT.out),AV.int .i64 x.job.kind,AV.int .i64 x.job.a,AV.int .i64 x.job.at_,AV.bool x.job.move,AV.tok 3 0 1 0 x.job.list.length,AV.tok 4 0 1 0 x.job.out.length]) (xs:=Ab x.job.list) (by simp[Ah]) (by rw[YF hll];rfl) (by simp[Ah]) zD zS zS) ?_;rw[YE hll];simp only[vQ,wu,xc,Nat.mul_one,KW,L0,uW];refine Wk.trans (sY (B:=0) (v:=k+1) (j:=k*12+11) (T:=4) (u:=0) (s:=1) (off:=0) (n:=x.job.out.length) (cs:=P++[AV.bool x.opn,AV.int .i64 x.pin,AV.bool x.on,AV.int .i64 x.frm,AV.int .i64 x.sT.n,AV.own 1 x.sT.out.length (Ak true x.sT.out),AV.int .i64 x.job.kind,AV.int .i64 x.job.a,AV.int .i64 x.job.at_,AV.bool x.job.move,AV.own 1 x.job.list.length (Ab x.job.list),AV.tok 4 0 1 0 x.job.out.length]) (xs:=Ab x.job.out) (by simp[Ah]) (by rw[YF hll];rfl) (by simp[Ah]) zD zS zS) ?_;rw[YE hll];simp only[vQ,wu,xc,Nat.mul_one,KW,L0,uW];refine sU (k:=1) zK ?_ zS zS ?_ zS
   .simp[AG]
   .simp only[List.all_cons,List.all_nil,Bool.and_true,KT,List.all_append,hpn,IS];simp[AG]
  .refine s7 ?_;have hk' :k=xs.length:=zO;subst hk';exact DM
theorem Ga (s:An) (hs:A0 s) (hr:∀r∈s.sR,FT r):Ac pg 30 [.agg (Aj false s)] [] (λr _=>r= .agg (Aj true s)):=by
 refine zE (fn:=Tryz.f30) [.cell 2 25] ?_;rw[AC];refine Cx ?_;refine AX ?_;refine AL (Kt s.sQ hs.1) ?_;refine AL (PK s.sR hs.2.1 hr) ?_;exact DM
theorem WP (b:DX) (i:Nat) (hn:b.data.size<1000000000000) (hi:i/8<b.data.size):Ac pg 114 [.agg (Dd b),iN i] [] (λr _=>r=iN (if FN b.data i=true then 1 else 0)):=by
 refine zE (fn:=Tryz.f114) [.tmp 4] ?_;rw[Aq];refine yg ?_;intro K hK;refine⟨zO,?_⟩;have hB:=JI b.data (i/8);have h3:=RZ b.data (i/8) (7-(i:Int)%8).toNat;have e1:((i:Int)/8).toNat=i/8:=zO;rw[e1,wrap_i64 zO zO,K0 _ h3.1 zO,Uf];simp;refine zk ?_;exact zR
theorem bE (b:DX) (h3:b.data.size<1000000000):Ac pg 82 [.agg (Dd b)] [] (λr _=>r= .bool (decide (DI b))):=by
 refine zE (fn:=Tryz.f82) [.tmp 2] ?_;rw[AC];refine yg ?_;intro K hK;refine sW (FS b.n 6000) (by simp) (by simp) ?_;by_cases h0:0<=b.n/\b.n<=6000;rotate_left
 .rw[zV h0];refine xX ?_;intro h;exact h0 ⟨h.1,h.2.1⟩
 .rw[zT h0];obtain⟨n,hn⟩:=uS h0.1;refine Am ?_;refine zc ?_ ?_<;>intro h
  .refine Bd ?_;intro g;have:=g.2.2.1;omega
  .refine W.skip ?_;refine zg hn ?_;refine zb ?_;refine sV (λi:Nat=> [(1,pt 0),(3,iN i)]) (λ_=> [lv [.str b.data,iN n]]) (λi=>8*b.data.size-i) (λi=>n<=i/\(i<=8*b.data.size\/i=n)/\∀j,n<=j->j<i->FN b.data j=false) n (Wk.fr zK) ⟨zO,zO,λj h1 h2=>zO⟩ ?_;rintro i ⟨hi,hi2,ht⟩;refine zs ?_;refine zc ?_ ?_<;>intro h
   .refine W.skip ?_;have hlt:i<8*b.data.size:=zO;have sp:=WP b i zO zO;refine zb ?_;refine z0 ?_;intro K hK;rw[<-hn];cases hb:FN b.data i
    .simp only[hb,vt,if_false] at sp;refine yd sp ?_;refine⟨i+1,zO,⟨zO,zO,λj h1 h2=>?_⟩,?_⟩
     .by_cases e:j=i
      .subst e;exact hb
      .exact ht j h1 zO
     .rw[hn];exact Wk.fr zK
    .simp only[hb,if_true] at sp;refine xN sp ?_;refine AJ ?_;intro g;have:=g.2.2.2 i hlt zO;rw[hb] at this;cases this
   .refine AJ ?_;refine⟨h0.1,h0.2,zO,λj h1 h2=>ht j zO zO⟩
def b8 (b:Bool):AV:= .int .u8 (if b=true then 1 else 0)
def Bm (xs:List Bool):List AV:=xs.map b8
section
variable (xs ys:List Bool) (M:List Ag) (k:Nat)
@[simp] theorem ku (i:Nat):(Bm xs)[i]?=(xs[i]?).map b8:=by simp[Bm]
@[simp] theorem kv:(Bm xs).length=xs.length:=by simp[Bm]
@[simp] theorem kw:Bm []=[]:=rfl
theorem Sw:Bm (xs++ys)=Bm xs++Bm ys:=by simp[Bm]
@[simp] theorem jl:(Bm xs).take k=Bm (xs.take k):=by simp[Bm,List.map_take]
@[simp] theorem jm:(Bm xs).drop k=Bm (xs.drop k):=by simp[Bm,List.map_drop]
@[simp] theorem mM:E0 (Bm xs)=true:=by simp[Bm,E0,-LZ,b8]
@[simp] theorem mN:D5 k (Bm xs)=true:=by induction xs<;>simp_all[Bm,b8]
@[simp] theorem kx:C6 (Bm xs)=true:=by induction xs<;>simp_all[Bm,b8]
@[simp] theorem ky:(Bm xs).map (CV M k)=Bm xs:=by cases k<;>simp[Bm,b8]
end
theorem eI (b:DX) (h0:0<=b.n) (h1:b.n<=8*b.data.size) (h3:b.data.size<1000000000):Ac pg 85 [.agg (Dd b)] [] (λr _=>r= .own 1 (AH b).length (Bm (AH b))):=by
 have hl:=Db b;obtain⟨n,hn⟩:=uS h0;have hln:(AH b).length=n:=zO;refine zE (fn:=Tryz.f85) [.tmp 2] ?_;rw[AC];refine AX ?_;refine xV ?_;refine sV (λk:Nat=> [(1,pt 0),(3,.tok 1 k 1 0 k),(4,iN k)]) (λk=> [lv (Dd b),.live k (Bm ((AH b).take k))]) (λk=>n-k) (λk=>k<=n) 0 ((Wk.nil (t:=3) (s:=1) ?_).trans (Wk.fr ?_)) (vn _) ?_
 .simp
 .simp[AA]
 .intro k hk;refine zs ?_;refine zc ?_ ?_<;>intro h
  .refine W.skip ?_;have hlt:k<n:=zO;have sp:=WP b k zO zO;have hbk:(AH b)[k]'zO=FN b.data k:=by simp[AH]
   have hto:(AH b).take (k+1)=(AH b).take k++[FN b.data k]:=by rw[uV,uT zO,hbk];rfl
   refine zb ?_;refine z1 ?_;intro K hK;refine zj sp ?_;have e8:AV.int .u8 (IntKind.u8.wrap (if FN b.data k=true then 1 else 0))=b8 (FN b.data k):=by
    cases FN b.data k<;>rfl
   rw[e8];refine⟨zO,zO,?_⟩;refine xM ?_;refine⟨k+1,zO,zO,sU (k:=2) zK ?_ zS zS zS zS⟩;rw[hto,Sw];rfl
  .refine s7 ?_;have hk' :k=n:=zO;subst hk';have e:(AH b).take k=AH b:=uM zO;rw[e];refine Bd ?_;rw[e];exact⟨hln.symm,rfl⟩
theorem bF (l:List Bool) (p:Nat) (hl:l.length<1000000000000) (hp:p<=l.length):Ac pg 153 [.ro l.length (Bm l),iN p] [] (λr _=>r=iN (nb (ahead l p))):=by
 refine zE (fn:=Tryz.f153) [.tmp 4] ?_;rw[Aq];refine xV ?_;refine sV (λq:Nat=> [(0,.ro l.length (Bm l)),(1,iN p),(5,iN q)]) (λ_=> []) (λq=>l.length-q) (λq=>p<=q/\q<=l.length/\(l.drop p).take (q-p)=uP (q-p) false) p (Wk.fr zK) ⟨zO,zO,zS⟩ ?_;rintro q ⟨hpq,hq,ht⟩;refine zs ?_;refine zc ?_ ?_<;>intro h
 .refine W.skip ?_;have hlt:q<l.length:=zO;have hst:(l[q]=true->ahead l p=some (q-p))/\(l[q]=false->(l.drop p).take (q+1-p)=uP (q+1-p) false):=by
   obtain⟨k,rfl⟩:∃k,q=p+k:=⟨q-p,zO⟩;have:=OD hlt (by simpa using ht);rw[show p+k+1-p=k+1 by omega,show p+k-p=k by omega];exact this
  refine zb ?_;cases hb:l[q]
  .refine Dx ?_;intro K hK;simp -implicitDefEqProofs (disch:=omega) [hlt,hb,b8];refine zk ?_;refine y3 ?_;refine⟨q+1,zO,⟨zO,zO,hst.2 hb⟩,Wk.fr zK⟩
  .refine Dx ?_;intro K hK;simp -implicitDefEqProofs (disch:=omega) [hlt,hb,b8];refine yi ?_;rw[hst.1 hb];simp[nb];omega
 .refine s7 ?_;have hq' :q=l.length:=zO;refine Bd ?_;rw[Qe (k:=q-p) zO ht];rfl
theorem gH (l:List Bool) (p w:Nat) (hl:l.length<1000000000000) (hw:w<=60) (hp:p+w<=l.length):Ac pg 154 [.ro l.length (Bm l),iN p,iN w] [] (λr _=>r=iN (Cg ((l.drop p).take w))):=by
 refine zE (fn:=Tryz.f154) [.tmp 6] ?_;rw[A6];refine xZ ?_;refine sV (λq:Nat=> [(0,.ro l.length (Bm l)),(1,iN p),(2,iN w),(7,iN (Cg ((l.drop p).take (q-p)))),(8,iN q)]) (λ_=> []) (λq=>p+w-q) (λq=>p<=q/\q<=p+w) p (Wk.fr zK) ⟨zO,zO⟩ ?_;rintro q ⟨hpq,hq⟩;refine zs ?_;refine zc ?_ ?_<;>intro h
 .refine W.skip ?_;have hlt:q<l.length:=zO;have hst:Cg ((l.drop p).take (q+1-p))=2*Cg ((l.drop p).take (q-p))+(l[q]).toNat:=by
   obtain⟨k,rfl⟩:∃k,q=p+k:=⟨q-p,zO⟩;rw[show p+k+1-p=k+1 by omega,show p+k-p=k by omega];exact Qg (w:=w) hlt
  have hnl:Cg ((l.drop p).take (q-p))<2^60:=Nat.lt_of_lt_of_le (HH _) (Nat.pow_le_pow_right zO Ao);refine zb ?_;generalize Cg ((l.drop p).take (q-p))=v at*;cases hb:l[q]
  .rw[hb] at hst;refine Dx ?_;intro K hK;simp -implicitDefEqProofs (disch:=omega) [hlt,hb,b8];refine xM ?_;refine⟨q+1,zO,⟨zO,zO⟩,Wk.fr (by rw[hst];simp[AA])⟩
  .rw[hb] at hst;refine Dx ?_;intro K hK;simp -implicitDefEqProofs (disch:=omega) [hlt,hb,b8];refine xM ?_;refine⟨q+1,zO,⟨zO,zO⟩,Wk.fr (by rw[hst];simp[AA])⟩
 .refine s7 ?_;have hq' :q=p+w:=zO;subst hq';exact DM
theorem ZS (n:Int) (h0:0<=n) (h1:n<=4611686018427387904):Ac pg 157 [iN n] [] (λr _=>r=iN (Dr n)):=by
 refine zE (fn:=Tryz.f157) [.tmp 2] ?_;rw[AC];refine y2 ?_;refine zc ?_ ?_<;>intro h
 .refine Bd ?_;rw[Dr,zM zO]
 .refine W.skip ?_;have e:(-(n+1)).tdiv 2=-((n+1)/2):=by rw[Int.neg_tdiv,Int.tdiv_eq_ediv_of_nonneg zO]
  refine xQ e ?_;rw[Dr,zP zO]
theorem Sy (n:Int):Ac pg 100 [iN n] [] (λr _=>r= .bool (decide (0<=n/\n<=15))):=by
 refine zE (fn:=Tryz.f100) [.tmp 2] ?_;rw[AC];refine zs ?_;refine AL (FS n 15) ?_;exact zR
theorem N2 (k:Int):Ac pg 54 [iN k] [] (λr _=>r= .bool (named k)):=by
 refine zE (fn:=Tryz.f54) [.tmp 2] ?_;rw[AC];refine zs ?_;by_cases h1:k=1
 .refine xQ h1 ?_;simp[named,h1]
 .by_cases h2:k=2
  .refine xQ (an h1 h2) ?_;simp[named,h2]
  .refine xQ (an h1 h2) ?_;simp[named,h1,h2]
theorem HL (s:An) (hs:A0 s):Ac pg 26 [.agg (Aj false s)] [] (λr _=>r=iN (At s.sQ)):=by
 have h1:=hs.1;refine zE (fn:=Tryz.f26) [.tmp 2] ?_;rw[AC];refine x6 ?_;refine zc ?_ ?_<;>intro h
 .refine Bd ?_;simp[At,h]
 .refine W.skip ?_;have hp:0<s.sQ.length:=List.length_pos_iff.2 h;have hlt:s.sQ.length-1<s.sQ.length:=zO;refine Dx ?_;intro K hK;simp -implicitDefEqProofs (disch:=omega) [hlt];refine⟨zO,?_⟩;refine zk ?_;refine zr ?_;rw[At,List.getLast?_eq_getElem?,uT hlt]
theorem Uq (b:DX) (hb:b.data.size<1000000000):Ac pg 83 [.agg (Dd b)] [] (λr _=>r=iN (C7 b)):=by
 refine zE (fn:=Tryz.f83) [.tmp 2] ?_;rw[AC];refine AX ?_;refine Bd ?_;unfold C7;congr 1;omega
theorem Ku (g:Gr) (j:B7) (hl:j.list.length<1000000000000):Ac pg 91 [.agg (A1 false g),.agg (BY false j)] [] (λr _=>r= .bool (BX g j)):=by
 refine zE (fn:=Tryz.f91) [.tmp 4] ?_;rw[Aq];refine Cx ?_;refine y3 ?_;refine zc ?_ ?_<;>intro h
 .refine Bd ?_;simp[BX,h]
 .have h1:=h;clear h;refine zs ?_;refine zc ?_ ?_<;>intro h
  .refine Bd ?_;simp[BX,h]
  .refine AJ ?_;simp[BX, *]
theorem N3 (s:An) (id:Int) (hs:A0 s):Ac pg 20 [.agg (Aj false s),iN id] [] (λr _=>r=iN (AN (λv=>decide (v.id=id)) s.sQ)):=by
 have h1:=hs.1;refine zE (fn:=Tryz.f20) [.tmp 4] ?_;rw[Aq];refine AX ?_;refine xR ?_;refine sV (λk:Nat=> [(1,iN id),(2,pt 0),(5,iN k)]) (λ_=> [lv (Aj false s)]) (λk=>s.sQ.length-k) (λk=>k<=s.sQ.length/\∀i (h:i<s.sQ.length),i<k->s.sQ[i].id≠id) 0 (Wk.fr zK) zS ?_;rintro k ⟨hk,ht⟩;refine zs ?_;refine zc ?_ ?_<;>intro h
 .refine W.skip ?_;have hlt:k<s.sQ.length:=zO;refine zb ?_;refine Dx ?_;intro K hK;simp -implicitDefEqProofs (disch:=omega) [hlt];refine zk ?_;refine zc ?_ ?_<;>intro h
  .refine Bd ?_;exact(DY hlt (by simp[h]) λi hi hik=>by simpa using ht i hi hik).symm
  .refine y2 ?_;refine⟨k+1,zO,⟨zO,?_⟩,Wk.fr zK⟩;intro i hi hik;by_cases e:i=k
   .subst e;exact λe=>h e
   .exact ht i hi zO
 .refine AJ ?_;exact(Fa λi hi=>by simpa using ht i hi zO).symm
theorem Ik (l:List Int) (hl:l.length<1000000000000):Ac pg 63 [.ro l.length (Ab l)] [] (λr _=>r= .bool (decide (AU l))):=by
 refine zE (fn:=Tryz.f63) [.tmp 2] ?_;rw[AC];refine xV ?_;refine sV (λk:Nat=> [(0,.ro l.length (Ab l)),(3,iN k)]) (λ_=> []) (λk=>l.length-k) (λk=>k<=l.length/\AU (l.take k)) 0 (Wk.fr zK) (by simp[AU]) ?_;rintro k ⟨hk,hm⟩;have hk16:k<=16:=by have:=Bw hm;simp at this;omega
 by_cases hlt:k<l.length
 .have hs:=Se hlt hm;have bad:¬AU (l.take (k+1))->¬AU l:=λg w=>g (Sd (k+1) w);refine th (an hlt hk16) ?_;have sp:=Sy l[k];refine zb ?_;by_cases c1:0<=l[k]/\l[k]<=15;rotate_left
  .rw[zV c1] at sp;refine E1 ?_;intro K hK;simp -implicitDefEqProofs (disch:=omega) [hlt];refine s6 sp (by simp) (by simp) ?_;refine x7 hlt ?_;exact bad λg=>c1 (by have:=(hs.1 g).1;omega)
  .rw[zT c1] at sp;by_cases c2:0<k
   .by_cases c3:l[k]<=l[k-1]
    .refine E1 ?_;intro K hK;simp -implicitDefEqProofs (disch:=omega) [hlt];refine s6 sp (by simp) (by simp) ?_;refine AO (an hlt (an c2 c3)) ?_;refine⟨zO,?_⟩;refine yi ?_;exact bad λg=>by have:=(hs.1 g).2 c2;omega
    .refine E1 ?_;intro K hK;simp -implicitDefEqProofs (disch:=omega) [hlt];refine s6 sp (by simp) (by simp) ?_;refine AO (an hlt (an c2 c3)) ?_;refine⟨zO,?_⟩;refine zk ?_;refine y3 ?_;exact⟨k+1,zO,⟨zO,hs.2 ⟨zO,λ_=>zO⟩⟩,Wk.fr zK⟩
   .refine E1 ?_;intro K hK;simp -implicitDefEqProofs (disch:=omega) [hlt];refine s6 sp (by simp) (by simp) ?_;refine xK (an hlt c2) ?_;refine y3 ?_;exact⟨k+1,zO,⟨zO,hs.2 ⟨zO,λh=>absurd h c2⟩⟩,Wk.fr zK⟩
 .have hk' :k=l.length:=zO;subst hk';rw[uW] at hm;refine Ue ?_;have:=Bw hm;simp[hm]
  try omega
theorem ZT (n:Int) (h:-1000000<=n/\n<=1000000):Ac pg 198 [iN n] [] (λr _=>r=iN (CR n)):=by
 refine zE (fn:=Tryz.f198) [.tmp 2] ?_;rw[AC];refine y2 ?_;refine zc ?_ ?_<;>intro h
 .refine Bd ?_;simp[CR];omega
 .refine AJ ?_;simp[CR];omega
theorem YG (a b:Nat):(a:Int).fdiv (b:Int)=((a/b:Nat):Int):=by rw[Int.fdiv_eq_ediv_of_nonneg _ zO];rfl
theorem gI (n:Nat) (h:1<=n) (h2:n<1099511627776):Ac pg 155 [iN n] [] (λr _=>r=iN (vR n)):=by
 have hlg:=(Nat.log2_lt (n:=n) (k:=40) zO).2 zO;refine zE (fn:=Tryz.f155) [.tmp 2] ?_;rw[AC];refine xV ?_;refine sV (λz:Nat×Nat=> [(0,iN (z.1:Nat)),(3,iN (z.2:Nat))]) (λ_=> []) (λz=>z.1) (λz=>z.1=n/2^z.2/\1<=z.1/\z.2<=vR n) (n,0) (Wk.fr zK) ⟨zS,h,zS⟩ ?_;rintro⟨q,k⟩ ⟨hq,hq1,hk⟩;simp only at hq hq1 hk;have hp:0<2^k:=xq zO;have hdm:=Nat.div_add_mod n (2^k);have hml:=Nat.mod_lt n hp;rw[<-hq] at hdm;refine zs ?_;refine zc ?_ ?_<;>intro h
 .refine W.skip ?_;have hf:(q:Int).fdiv 2=((q/2:Nat):Int):=YG q 2;have hk1:k+1<=vR n:=by
   refine(Nat.le_log2 zO).2 ?_;rw[w8];have:2^k*2<=2^k*q:=Nat.mul_le_mul_left _ zO;omega
  refine zb ?_;refine zg hf ?_;refine zs ?_;exact⟨(q/2,k+1),by simp only;omega,⟨by simp only;rw[hq,Nat.div_div_eq_div_mul,w8],by simp only;omega,hk1⟩,Wk.fr zK⟩
 .refine s7 ?_;have:q=1:=zO;subst this;refine Bd ?_;rw[Mf (q:=k) zO (by rw[w8];omega)]
theorem ZU (xs:List Bool) (u v w:Nat) (hx:xs.length<1000000000) (hw:w<=60) (hv:v<1099511627776):Ac pg 241 [.tok 0 u 1 0 xs.length,iN v,iN w] [.live u (Bm xs)] (λr M=>r= .own 1 (xs.length+w) (Bm (xs++Bq v w))/\M=[.dead]):=by
 refine zE (fn:=Tryz.f241) [.tmp 6] ?_;rw[A6];refine y2 ?_;rw[show Bm xs=Bm (xs++(Bq v w).take 0) by simp];refine zb ?_;refine sV (λk:Nat=> [(0,.tok 0 (u+k) 1 0 (xs.length+k)),(1,iN v),(7,iN ((w:Int)-1-k))]) (λk=> [.live (u+k) (Bm (xs++(Bq v w).take k))]) (λk=>w-k) (λk=>k<=w) 0 (Wk.fr zK) zS ?_;intro k hk;by_cases hlt:k<w
 .obtain⟨i,hi⟩:∃i:Nat,(w:Int)-1-k=i:=⟨w-1-k,zO⟩;have hmin:min i 64=i:=zO;rw[hi];refine y4 ?_;obtain⟨Q,hQd⟩:∃Q,Q=v/2^i:=zX;have hQ:(v:Int)/2^i=(Q:Int):=by rw[hQd,Int.natCast_ediv,Int.natCast_pow];rfl
  have hQv:Q<=v:=by rw[hQd];exact Nat.div_le_self _ _
  have hand:=K0 (Q:Int) zO zO;have hw8:IntKind.u8.wrap ((Q:Int)%2)=(if Q%2=1 then 1 else 0):=by
   by_cases h:Q%2=1
   .have:(Q:Int)%2=1:=zO;rw[this,zP h];rfl
   .have:(Q:Int)%2=0:=zO;rw[this,zM h];rfl
  have hto:(Bq v w).take (k+1)=(Bq v w).take k++[decide (Q%2=1)]:=by
   rw[uV,uT (by simpa using hlt)];have:(Bq v w)[k]'(by simpa using hlt)=decide (Q%2=1):=by
    simp only[Bq,wE,wW];rw[hQd,show w-1-k=i by omega]
   rw[this];rfl
  refine GQ (an hmin (an hQ (an hand hw8))) ?_;intro K hK;refine⟨zO,zO,?_⟩;refine xM ?_;refine⟨k+1,zO,zO,sU (k:=1) ?_ ?_ zS zS zS zS⟩
  .simp[AA];omega
  .rw[hto,<-uZ,Sw];simp[Bm,b8];omega
 .have hk' :k=w:=zO;subst hk';have e:((k:Int)-1-k)=-1:=zO;rw[e];refine Ue ?_;rw[uM zS,uM zS]
theorem E2 (xs:List Bool) (u n:Nat) (hx:xs.length<100000000) (h1:1<=n) (h2:n<1099511627776):Ac pg 197 [.tok 0 u 1 0 xs.length,iN 2,iN n] [.live u (Bm xs)] (λr M=>r= .own 1 (xs.length+(AM n).length) (Bm (xs++AM n))/\M=[.dead]):=by
 have hlg:=(Nat.log2_lt (n:=n) (k:=40) zO).2 zO;have hgl:=E9 n;obtain⟨q,hq⟩:∃q,q=vR n:=zX;have spl:=gI n h1 h2;rw[<-hq] at spl hlg hgl;refine zE (fn:=Tryz.f197) [.tmp 6] ?_;rw[A6];refine y7 ?_;refine z0 ?_;intro K hK;refine zj spl ?_;refine sZ [0] (ZU xs u 0 q zO zO zO) zS zS zS zS ?_;rintro r M ⟨rfl,rfl⟩ _;refine zx ?_;refine zj spl ?_;have sp2:=ZU (xs++Bq 0 q) 0 n (q+1) Ao zO zO;refine sZ [1] sp2 zS zS zS zS ?_;rintro r M ⟨rfl,rfl⟩ _;refine xU ?_;have hgb:AM n=Bq 0 q++Bq n (q+1):=by rw[AM,hq]
 exact⟨zO,by rw[uM Ao,hgb]⟩
theorem Sz (n:Nat) (h1:1<=n) (h2:n<1099511627776):Ac pg 197 [.own 1 0 [],iN 2,iN n] [] (λr _=>r= .own 1 (AM n).length (Bm (AM n))):=by
 have h:=Ac.nil (by simpa using E2 [] 0 n zS h1 h2);simpa using h
theorem eJ (n:Int):Ac pg 156 [iN 2,iN n] [] (λr _=>r= .bool (decide (1<=n/\n<=1073741824))):=by
 refine zE (fn:=Tryz.f156) [.tmp 4] ?_;rw[Aq];refine y4 ?_;refine z0 ?_;intro K hK;refine sW (Dn 2 2 5) (by simp) (by simp) ?_;rw[zT zO];refine zx ?_;refine xN (Dn n 1 1073741824) ?_;exact zR
def Hb (o:Option (Nat×Nat)):AV:=match o with|some x=> .tup [.int .i64 x.1,.int .i64 x.2] |none=> .tup [.int .i64 (-1),.int .i64 0]
theorem GG (l:List Bool) (p:Nat) (hl:l.length<1000000000) (hp:p<=l.length):Ac pg 115 [.ro l.length (Bm l),iN p,iN 2] [] (λr _=>r=Hb (Bi l p)):=by
 have spz:=bF l p zO hp;refine zE (fn:=Tryz.f115) [.tmp 6,.tmp 7] ?_;rw[A6];refine x8 ?_;intro K hK;refine sW spz (by simp) (by simp) ?_;cases ha:ahead l p with
 |none=>
  have hg:Bi l p=none:=by unfold Bi;rw[ha]
  simp only[Et];simp -implicitDefEqProofs (disch:=omega) [nb];refine zk ?_;refine Ck ?_;rw[hg];rfl
 |some q=>
  have hql:p+q<l.length:=by
   have:=List.findIdx?_eq_some_iff_findIdx_eq.1 ha;simp at this;omega
  simp only[Et];simp -implicitDefEqProofs (disch:=omega) [nb];refine zk ?_;refine eA ?_;by_cases c:q<=30/\p+2*q+1<=l.length;rotate_left
  .have hg:Bi l p=none:=by unfold Bi;rw[ha];simp only;rw[zM c]
   by_cases c1:q<=30
   .have c2:¬p+2*q+1<=l.length:=λh=>c ⟨c1,h⟩;have c3:(l.length:Int)<(p:Int)+2*q+1:=zO;have c4:¬(30:Int)<(q:Int):=zO;refine xS (an c3 c4) ?_;rw[hg];rfl
   .have c4:(30:Int)<(q:Int):=zO;refine xS c4 ?_;rw[hg];rfl
  have c4:¬(30:Int)<(q:Int):=zO;have c3:¬(l.length:Int)<(p:Int)+2*q+1:=zO;refine th (an c3 c4) ?_;have spg:=gH l (p+q) (q+1) zO zO zO;have hgr:Bi l p=if Cg ((l.drop (p+q)).take (q+1))<=1073741824 then some (Cg ((l.drop (p+q)).take (q+1)),p+2*q+1) else none:=by
   unfold Bi;rw[ha];simp only;rw[zP c]
  have hpos:1<=Cg ((l.drop (p+q)).take (q+1)):=by
   obtain⟨r,hr⟩:=JH ha;have e1:(l.drop (p+q)).take (q+1)=true::r.take q:=by
    rw[<-List.drop_drop,hr,List.drop_append];simp
   rw[e1,Gp];have:0<2^(r.take q).length:=xq zO;simp only[Bool.toNat_true,Nat.one_mul];omega
  generalize Cg ((l.drop (p+q)).take (q+1))=v at*;refine AL spg ?_;refine z0 ?_;intro K hK;refine sW (eJ v) (by simp) (by simp) ?_;by_cases cv:v<=1073741824
  .rw[zT zO];refine Am ?_;refine Ck ?_;rw[hgr,zP cv];simp[Hb]
  .rw[zV zO];refine xX ?_;rw[hgr,zM cv];rfl
theorem Qv {bs:List Bool}:∀(k:Nat) (f:Bool) (p:Nat) (last:Int) (r:List Int×Nat),Ej bs k f p last=some r->r.1.Pairwise (·<·)/\(f=false->∀x∈r.1,last<x)
 |0,f,p,last,r,h=>by simp[Ej] at h;subst h;simp
 |k+1,f,p,last,r,h=>by
  simp only[Ej] at h;split at h
  .simp at h
  .rename_i x hx;obtain⟨h1,h2,h3,h4,_⟩:=Bl hx;split at h
   .rename_i q hq;simp at h;subst h;obtain⟨g1,g2⟩:=Qv k false x.2 _ q hq;refine⟨?_,?_⟩
    .simp only[vP];exact⟨λz hz=>g2 rfl z hz,g1⟩
    .intro hf z hz;subst hf;have g3:=g2 rfl;simp only[vt,if_false] at g3 hz;simp only[vL] at hz;rcases hz with rfl|hz
     .omega
     .have:=g3 z hz;omega
   .simp at h
theorem ND {bs:List Bool}:∀(k:Nat) (f:Bool) (p:Nat) (last:Int),CY bs k f p last=match Ej bs k f p last with|some r=>if∀x∈r.1,0<=x/\x<16 then some r else none|none=>none
 |0,f,p,last=>by simp[CY,Ej]
 |k+1,f,p,last=>by
  simp only[CY,Ej];cases hx:Bi bs p with
  |none=>rfl
  |some x=>
   simp only;generalize (last+(if f=true then Dr ((x.1:Int)-1) else(x.1:Int)))=y;rw[ND k false x.2 y];cases Ej bs k false x.2 y with
   |none=>simp
   |some r=>
    simp only[vL,forall_eq_or_imp];by_cases h1:0<=y/\y<16
    .by_cases h2:∀x∈r.1,0<=x/\x<16
     .rw[zP h1,zP h2,zP ⟨h1,h2⟩]
     .rw[zP h1,zM h2,zM (λg=>h2 g.2)]
    .rw[zM h1,zM (λg=>h1 g.1)]
theorem GT (bs:List Bool) (p:Nat) (v:Int):Fj bs p v=EE bs p v:=by
 unfold Fj EE;cases hx:Bi bs p with
 |none=>rfl
 |some x=>
  simp only;split
  .rw[ND];cases hq:Ej bs (x.1-1) true x.2 v with
   |none=>rfl
   |some r=>
    simp only;have:=(Qv _ _ _ _ _ hq).1;by_cases h2:∀x∈r.1,0<=x/\x<16
    .rw[zP h2,zP ⟨h2,this⟩]
    .rw[zM h2,zM (λg=>h2 g.1)]
  .rfl
theorem Ur (l:List Bool) (p:Nat):IB l p p=[]:=by simp[IB]
theorem SA {f:Bool} {last v:Int} {n:Nat} (h:1<=n) (hv:f=true->last=v):(if f=true then CR (last+(if f=true then Dr ((n:Int)-1) else(n:Int))-v)+1 else last+(if f=true then Dr ((n:Int)-1) else(n:Int))-last).toNat=n:=by
 cases f
 .simp;omega
 .have:=hv rfl;subst this;simp only[if_true];have:last+Dr ((n:Int)-1)-last=Dr ((n:Int)-1):=zO;rw[this,bg _ zO];omega
theorem OS {bs:List Bool} (v:Int):∀(k:Nat) (f:Bool) (p:Nat) (last:Int) (r:List Int×Nat),(f=true->last=v)->p<=bs.length->CY bs k f p last=some r->p<=r.2/\r.2<=bs.length/\IB bs p r.2=Dg v r.1 f last
 |0,f,p,last,r,hv,hp,h=>by simp[CY] at h;subst h;simp[Dg,Ur,hp]
 |k+1,f,p,last,r,hv,hp,h=>by
  simp only[CY] at h;split at h
  .simp at h
  .rename_i x hx;obtain⟨h1,h2,h3,h4,h5⟩:=Bl hx;have hc:=SA h1 hv;generalize (last+(if f=true then Dr ((x.1:Int)-1) else(x.1:Int)))=y at h hc;split at h
   .split at h
    .rename_i q hq;simp at h;subst h;obtain⟨g1,g2,g3⟩:=OS v k false x.2 _ q zS h4 hq;refine⟨by simp only;omega,g2,?_⟩;simp only[Dg];rw[hc,<-h5,<-g3,IT zO g1]
    .simp at h
   .simp at h
theorem Us (v:Int) (l:List Int) (e e' :Int):Dg v l true e=Dg v l true e' :=by cases l<;>simp[Dg]
theorem Ut (v:Int) (l:List (Int×Int)) (e e' :Int):C2 v l true e=C2 v l true e' :=by cases l<;>simp[C2]
theorem WQ {bs:List Bool} {p:Nat} {v:Int} {r:List Int×Nat} (h:EE bs p v=some r):p<=r.2/\r.2<=bs.length/\IB bs p r.2=Dz v r.1:=by
 unfold EE at h;split at h
 .simp at h
 .rename_i x hx;obtain⟨h1,h2,h3,h4,h5⟩:=Bl hx;split at h
  .obtain⟨g1,g2,g3⟩:=OS v _ _ _ _ _ zL h4 h;have h6:=(JJ _ _ _ _ _ h4 h).1;refine⟨zO,g2,?_⟩;rw[Dz,h6,show x.1-1+1=x.1 by omega,<-h5,Us v r.1 0 v,<-g3,IT zO g1]
  .simp at h
theorem OT {bs:List Bool} (v:Int):∀(k:Nat) (f:Bool) (p:Nat) (e:Int) (r:List (Int×Int)×Nat),(f=true->e=v)->p<=bs.length->Dl bs k f p e=some r->r.1.length=k/\p<=r.2/\r.2<=bs.length/\IB bs p r.2=C2 v r.1 f e
 |0,f,p,e,r,hv,hp,h=>by simp[Dl] at h;subst h;simp[C2,Ur,hp]
 |k+1,f,p,e,r,hv,hp,h=>by
  simp only[Dl] at h;split at h
  .simp at h
  .rename_i x hx;obtain⟨h1,h2,h3,h4,h5⟩:=Bl hx;have hc:=SA h1 hv;generalize (e+(if f=true then Dr ((x.1:Int)-1) else(x.1:Int)))=a at h hc;split at h
   .simp at h
   .rename_i y hy;obtain⟨i1,i2,i3,i4,i5⟩:=Bl hy;split at h
    .rename_i q hq;simp at h;subst h;obtain⟨g0,g1,g2,g3⟩:=OT v k false y.2 _ q zS i4 hq;refine⟨by simp[g0],by simp only;omega,g2,?_⟩;simp only[C2];rw[hc,show((y.1:Int)-1+3-3+1).toNat=y.1 by omega,<-h5,<-i5,<-g3,IT zO zO,IT zO g1]
    .simp at h
def PL:List Int->Bool->Int->Prop
 | [],_,_=>True
 |x::l,f,e=>(f=true\/e<x)/\PL l false x
def Iw:List (Int×Int)->Bool->Int->Prop
 | [],_,_=>True
 | (a,n)::l,f,e=>(f=true\/e<a)/\3<=n/\Iw l false (a+n)
theorem SB {f:Bool} {v e a b:Int} {s t:List Bool} (ha:f=true\/e<a) (hb:f=true\/e<b) (h:AM (if f=true then CR (a-v)+1 else a-e).toNat++s=AM (if f=true then CR (b-v)+1 else b-e).toNat++t):a=b/\s=t:=by
 cases f
 .simp only[vt,if_false,false_or] at*;obtain⟨h1,h2⟩:=Ih zO zO h;exact⟨zO,h2⟩
 .simp only[if_true] at*;have z1:=Eg (a-v);have z2:=Eg (b-v);obtain⟨h1,h2⟩:=Ih zO zO h;have:=bh (a:=a-v) (b:=b-v) zO;exact⟨zO,h2⟩
theorem Qw (v:Int):∀(l m:List Int) (f:Bool) (e:Int) (s t:List Bool),l.length=m.length->PL l f e->PL m f e->Dg v l f e++s=Dg v m f e++t->l=m/\s=t
 | [],[],f,e,s,t,_,_,_,h=>by simpa[Dg] using h
 | [],_::_,f,e,s,t,hl,_,_,h=>by simp at hl
 |_::_,[],f,e,s,t,hl,_,_,h=>by simp at hl
 |x::l,y::m,f,e,s,t,hl,h1,h2,h=>by
  simp only[Dg,uZ,PL] at*;obtain⟨rfl,h3⟩:=SB h1.1 h2.1 h;obtain⟨rfl,h4⟩:=Qw v l m false x s t (by simpa using hl) h1.2 h2.2 h3;exact⟨rfl,h4⟩
theorem Qx (v:Int):∀(l m:List (Int×Int)) (f:Bool) (e:Int) (s t:List Bool),l.length=m.length->Iw l f e->Iw m f e->C2 v l f e++s=C2 v m f e++t->l=m/\s=t
 | [],[],f,e,s,t,_,_,_,h=>by simpa[C2] using h
 | [],_::_,f,e,s,t,hl,_,_,h=>by simp at hl
 |_::_,[],f,e,s,t,hl,_,_,h=>by simp at hl
 | (x,n)::l,(y,k)::m,f,e,s,t,hl,h1,h2,h=>by
   simp only[C2,uZ,Iw] at*;obtain⟨rfl,h3⟩:=SB h1.1 h2.1 h;obtain⟨h5,h3⟩:=Ih zO zO h3;have:n=k:=zO;subst this;obtain⟨rfl,h4⟩:=Qx v l m false (x+n) s t (by simpa using hl) h1.2.2 h2.2.2 h3;exact⟨rfl,h4⟩
theorem M7:∀(l:List Int) (f:Bool) (e:Int),l.Pairwise (·<·)->(f=true\/∀x∈l,e<x)->PL l f e
 | [],_,_,_,_=>trivial
 |x::l,f,e,h,he=>by
  rw[vP] at h;exact⟨he.imp id λg=>g x zS,M7 l false x h.2 (.inr h.1)⟩
theorem H0:∀(l:List Int) (x:Int),(x::l).Pairwise (·<·)->∀y∈(x::l).drop (Bc (x::l)),x+(Bc (x::l):Nat)<y
 | [],x,_,y,hy=>by simp[Bc] at hy
 |z::t,x,h,y,hy=>by
  rw[vP] at h;have hz:=h.1 z zS;simp only[Bc] at hy |-;split at hy
  .rename_i e;subst e;simp only[List.drop_succ_cons] at hy;have:=H0 t (x+1) h.2 y hy;simp only[if_true];omega
  .rename_i e;rw[zM e];simp only[List.drop_succ_cons,xc] at hy;have h2:=h.2;rw[vP] at h2;simp only[vL] at hy;rcases hy with rfl|hy
   .omega
   .have:=h2.1 y hy;omega
theorem FD:∀(n:Nat) (l:List Int) (f:Bool) (e:Int),l.length<=n->l.Pairwise (·<·)->(f=true\/∀x∈l,e<x)->Iw (Ay l).1 f e/\3*(Ay l).1.length<=l.length/\(Ay l).2.Pairwise (·<·)/\∀x∈(Ay l).2,x∈l
 |_,[],_,_,_,_,_=>by simp[Ay,Iw]
 |0,x::l,_,_,h,_,_=>by simp at h
 |n+1,x::l,f,e,h,hp,he=>by
  have h1:=FO x l;have h2:=Gl (x::l);have h3:((x::l).drop (Bc (x::l))).length=(x::l).length-Bc (x::l):=zS;have hd:=hp.sublist (List.drop_sublist (Bc (x::l)) (x::l));have hn:=H0 l x hp;have hm:∀y∈(x::l).drop (Bc (x::l)),y∈x::l:=λy hy=>wH hy;rw[Ay];split
  .rename_i hk;obtain⟨a1,a2,a3,a4⟩:=FD n ((x::l).drop (Bc (x::l))) false (x+(Bc (x::l):Nat)) zO hd (.inr hn);refine⟨⟨he.imp id λg=>g x zS,zO,a1⟩,?_,a3,λy hy=>hm y (a4 y hy)⟩;simp only[vA] at*;omega
  .obtain⟨a1,a2,a3,a4⟩:=FD n ((x::l).drop (Bc (x::l))) f e zO hd (he.imp id λg y hy=>g y (hm y hy));refine⟨a1,by show 3*(Ay ((x::l).drop (Bc (x::l)))).1.length<=_;omega,?_,λy hy=>?_⟩
   .rw[wg];refine⟨hp.sublist (List.take_sublist _ _),a3,λy hy z hz=>?_⟩;have hp' :((x::l).take (Bc (x::l))++(x::l).drop (Bc (x::l))).Pairwise (·<·):=by rw[vJ];exact hp
    rw[wg] at hp';exact hp'.2.2 y hy z (a4 z hz)
   .simp only[vd] at hy;rcases hy with hy|hy
    .exact wh hy
    .exact hm y (a4 y hy)
theorem Kv:∀(l m:List Int),l.Pairwise (·<·)->m.Pairwise (·<·)->(∀x,x∈l↔x∈m)->l=m
 | [],[],_,_,_=>rfl
 | [],y::m,_,_,h=>by have:=(h y).2 zS;simp at this
 |x::l,[],_,_,h=>by have:=(h x).1 zS;simp at this
 |x::l,y::m,h1,h2,h=>by
  rw[vP] at h1 h2;have e:x=y:=by
   have a:=(h x).1 zS;have b:=(h y).2 zS;simp only[vL] at a b;rcases a with a|a
   .exact a
   .rcases b with b|b
    .exact b.symm
    .have:=h2.1 x a;have:=h1.1 y b;omega
  subst e;congr 1;refine Kv l m h1.2 h2.2 λz=>⟨λhz=>?_,λhz=>?_⟩
  .have a:=(h z).1 (by simp[hz]);simp only[vL] at a;rcases a with rfl|a
   .have:=h1.1 z hz;omega
   .exact a
  .have a:=(h z).2 (by simp[hz]);simp only[vL] at a;rcases a with rfl|a
   .have:=h2.1 z hz;omega
   .exact a
theorem JO (p:Int->Bool) (x:Int):x∈JE p↔(0<=x/\x<16)/\p x=true:=by
 simp only[JE,vC,vH,xj];constructor
 .rintro⟨⟨i,hi,rfl⟩,h⟩;exact⟨zO,h⟩
 .rintro⟨h,hp⟩;exact⟨⟨x.toNat,zO,zO⟩,hp⟩
theorem Lc (p:Int->Bool):(JE p).Pairwise (·<·):=by
 unfold JE;refine List.Pairwise.filter _ (wZ.2 ?_);exact(List.pairwise_lt_range).imp λh=>zO
theorem Qy (p:Int->Bool):AU (JE p):=⟨λx hx=>((JO p x).1 hx).1,Lc p⟩
theorem OU (l:List Int):(CO l).Perm l:=List.mergeSort_perm _ _
theorem Hc (l:List Int) (x:Int):x∈CO l↔x∈l:=(OU l).mem_iff
theorem YH (l:List Int):(CO l).Pairwise (·<=·):=by
 have:=List.pairwise_mergeSort (le:=λx y:Int=>decide (x<=y)) (λa b c h1 h2=>by simp at*;omega) (λa b=>Ao) l;exact this.imp λh=>by simpa using h
theorem SC (l:List Int):(CO l).Pairwise (·<·)↔l.Nodup:=by
 rw[<-(OU l).nodup_iff];constructor
 .intro h;exact h.imp λh=>zO
 .intro h;exact(YH l).imp₂ (λa b h1 h2=>by have:a≠b:=h2;omega) h
theorem Jf (l:List Int):AU (CO l)↔(∀x∈l,0<=x/\x<16)/\l.Nodup:=by
 unfold AU;rw[SC];simp only[Hc]
theorem Gt {l:List Int} (h:l.Pairwise (·<·)):l.Nodup:=h.imp λh=>zO
theorem NE:∀(r:List (Int×Int)) (e:Int) (W:List Int),Ep r e=some W->Ez r e
 | [],_,_,_=>trivial
 | (a,n)::rs,e,W,h=>by
   simp only[Ep] at h;split at h
   .simp at h
   .split at h
    .rename_i l hl;exact⟨zO,zO,zO,zO,zO,NE rs (a+n) l hl⟩
    .simp at h
theorem H4:∀(r:List (Int×Int)) (e:Int),Ez r e->∃W,Ep r e=some W/\W.Pairwise (·<·)/\(∀x∈W,e<x)/\(∀x,x∈W↔BZ r x=true)/\∀x∈W,0<=x/\x<16
 | [],e,_=>⟨[],rfl,zS,zS,by simp[BZ],zS⟩
 | (a,n)::rs,e,h=>by
   obtain⟨h1,h2,h3,h4,h5,h6⟩:=h;obtain⟨W,a1,a2,a3,a4,a5⟩:=H4 rs (a+n) h6;have hmem:∀x:Int,x∈(vK n.toNat).map (λi=>a+(i:Nat))↔a<=x/\x<a+n:=by
    intro x;simp only[vH,xj];constructor
    .rintro⟨i,hi,rfl⟩;omega
    .intro hx;exact⟨(x-a).toNat,zO,zO⟩
   refine⟨_,by simp only[Ep];rw[zM zO,a1],?_,?_,?_,?_⟩
   .rw[wg];refine⟨wZ.2 (List.pairwise_lt_range.imp λh=>zO),a2,λx hx y hy=>?_⟩;have:=(hmem x).1 hx;have:=a3 y hy;omega
   .intro x hx;rcases vd.1 hx with hx|hx
    .have:=(hmem x).1 hx;omega
    .have:=a3 x hx;omega
   .intro x;rw[vd,hmem,a4];simp[BZ]
   .intro x hx;rcases vd.1 hx with hx|hx
    .have:=(hmem x).1 hx;omega
    .exact a5 x hx
theorem Ld (r:List (Int×Int)) (g:List Int) (hg:AU g) (l:List Int):FZ r g=some l↔EF r g=some l:=by
 unfold FZ EF;constructor
 .intro h;split at h
  .simp at h
  .rename_i W hW;have hr:=NE _ _ _ hW;obtain⟨W',b1,b2,b3,b4,b5⟩:=H4 r (-1) hr;rw[hW] at b1;simp at b1;subst b1;split at h
   .rename_i hm;simp at h;subst h;have hd:=(Jf _).1 hm.2;rw[xE] at hd;rw[zP]
    .congr 1;refine Kv _ _ (Lc _) hm.2.2 λx=>?_;rw[JO,Hc,vd,b4];simp only[wT,xG,decide_eq_true_eq];constructor
     .rintro⟨_,h|h⟩
      .exact .inr h
      .exact .inl h
     .intro h;refine⟨hd.1 x (by rw[vd,b4];exact h),h.symm⟩
    .refine⟨hm.1,hr,λx hx=>?_⟩;cases hi:BZ r x with
     |false=>rfl
     |true=>exact absurd rfl (hd.2.2.2 x hx x ((b4 x).2 hi))
   .simp at h
 .intro h;split at h
  .rename_i hc;simp at h;subst h;obtain⟨W,b1,b2,b3,b4,b5⟩:=H4 r (-1) hc.2.1;rw[b1];simp only;have hm:AU (CO (g++W)):=by
    rw[Jf];refine⟨λx hx=>?_,?_⟩
    .rcases vd.1 hx with hx|hx
     .exact hg.1 x hx
     .exact b5 x hx
    .rw[xE];refine⟨Gt hg.2,Gt b2,λx hx y hy e=>?_⟩;subst e;have:=hc.2.2 x hx;rw[(b4 x).1 hy] at this;simp at this
   rw[zP ⟨hg,hm⟩];congr 1;refine Kv _ _ hm.2 (Lc _) λx=>?_;rw[JO,Hc,vd,b4];simp only[wT,xG,decide_eq_true_eq];constructor
   .intro h;refine⟨(Jf _).1 hm|>.1 x (by rw[vd,b4];exact h),h.symm⟩
   .rintro⟨_,h|h⟩
    .exact .inr h
    .exact .inl h
  .simp at h
theorem H5 {bs:List Bool}:∀(k:Nat) (f:Bool) (p:Nat) (e:Int) (r:List (Int×Int)×Nat),CZ bs k f p e=some r↔Dl bs k f p e=some r/\∀q∈r.1,q.2<=18
 |0,f,p,e,r=>by
  simp only[CZ,Dl,Option.some.injEq];constructor
  .rintro rfl;simp
  .exact λh=>h.1
 |k+1,f,p,e,r=>by
  simp only[CZ,Dl];cases hx:Bi bs p with
  |none=>simp
  |some x=>
   simp only;cases hy:Bi bs x.2 with
   |none=>simp
   |some y=>
    simp only;generalize (e+(if f=true then Dr ((x.1:Int)-1) else(x.1:Int)))=a;have ih:=H5 (bs:=bs) k false y.2 (a+((y.1:Int)-1+3));constructor
    .intro h;split at h
     .split at h
      .rename_i q hq;simp at h;subst h;rw[((ih q).1 hq).1];refine⟨rfl,λw hw=>?_⟩;simp only[vL] at hw;rcases hw with rfl|hw
       .simp only;omega
       .exact((ih q).1 hq).2 w hw
      .simp at h
     .simp at h
    .rintro⟨h,hb⟩;split at h
     .rename_i q hq;simp at h;subst h;have:=hb _ (List.mem_cons_self ..);simp only at this;rw[zP zO,(ih q).2 ⟨hq,λw hw=>hb w (List.mem_cons_of_mem _ hw)⟩]
     .simp at h
theorem OV:∀(r:List (Int×Int)) (e:Int),Ez r e->∀q∈r,q.2<=16
 | [],_,_,q,hq=>by simp at hq
 | (a,n)::rs,e,h,q,hq=>by
   obtain⟨h1,h2,h3,h4,h5,h6⟩:=h;simp only[vL] at hq;rcases hq with rfl|hq
   .simp only;omega
   .exact OV rs _ h6 q hq
theorem OW:∀(r:List (Int×Int)) (f:Bool) (e:Int),Ez r e->Iw r f e
 | [],_,_,_=>trivial
 | (a,n)::rs,f,e,h=>by
   obtain⟨h1,h2,h3,h4,h5,h6⟩:=h;exact⟨.inr h5,h3,OW rs false _ h6⟩
theorem eK {r:List (Int×Int)} {e e' :Int} (h:Iw r true e):Iw r true e' :=by
 cases r with
 |nil=>trivial
 |cons q r=>exact⟨.inl rfl,h.2⟩
theorem H6 (bs:List Bool) (p:Nat) (v:Int):Cw bs p v=Ea bs p v:=by
 unfold Cw Ea;cases hx:Bi bs p with
 |none=>rfl
 |some x=>
  simp only;obtain⟨h1,h2,h3,h4,h5⟩:=Bl hx;cases hr:Dl bs (x.1-1) true x.2 v with
  |none=>
   have:CZ bs (x.1-1) true x.2 v=none:=by
    cases h:CZ bs (x.1-1) true x.2 v with
    |none=>rfl
    |some r=>have:=((H5 _ _ _ _ _).1 h).1;rw[hr] at this;simp at this
   rw[this];simp
  |some r=>
   obtain⟨r1,r2,r3,r4⟩:=OT v _ _ _ _ _ zL h4 hr;simp only;have href:CZ bs (x.1-1) true x.2 v=if∀q∈r.1,q.2<=18 then some r else none:=by
    split
    .rename_i hb;exact(H5 _ _ _ _ _).2 ⟨hr,hb⟩
    .rename_i hb;cases h:CZ bs (x.1-1) true x.2 v with
     |none=>rfl
     |some r' =>
      have:=(H5 _ _ _ _ _).1 h;rw[hr] at this;have e:=this.1;simp at e;subst e;exact absurd this.2 hb
   rw[href];cases hg:EE bs r.2 v with
   |none=>simp only[GT];split<;>split<;>first|rfl|simp_all
   |some g=>
    obtain⟨g1,g2,g3⟩:=WQ hg;have gm:=(K4 hg).2.1;have hj:EF r.1 g.1=FZ r.1 g.1:=Option.ext λl=>(Ld r.1 g.1 gm l).symm;have hseg:IB bs p g.2=AM (r.1.length+1)++(C2 v r.1 true 0++Dz v g.1):=by
     rw[r1,show x.1-1+1=x.1 by omega,<-h5,Ut v r.1 0 v,<-r4,<-g3,IT r2 g1,IT zO zO]
    have hlen:=bf (l:=bs) (p:=p) (x:=g.2) g2;cases hw:FZ r.1 g.1 with
    |none=>split<;>(try split)<;>simp_all[GT]
    |some l=>
     have hrun:Ez r.1 (-1):=by
      have h:=(Ld _ _ gm l).1 hw;unfold EF at h;split at h
      .rename_i hc;exact hc.2.1
      .simp at h
     have hm:AU l:=by
      have h:=(Ld _ _ gm l).1 hw;unfold EF at h;split at h
      .simp at h;subst h;exact Qy _
      .simp at h
     have hall:∀q∈r.1,q.2<=18:=λq hq=>by have:=OV _ _ hrun q hq;omega
     rw[zP hall];have key:(x.1<=16/\Ay l=(r.1,g.1))↔(x.1<=17/\(A9 v l).length=g.2-p/\(bs.drop p).take (A9 v l).length=A9 v l):=by
      constructor
      .rintro⟨k1,k2⟩;have hb:A9 v l=IB bs p g.2:=by rw[A9,k2,hseg,uZ]
       refine⟨zO,by rw[hb,hlen],?_⟩;rw[hb,hlen];rfl
      .rintro⟨k1,k2,k3⟩;rw[k2] at k3;have hb:A9 v l=IB bs p g.2:=k3.symm;rw[hseg,A9,uZ] at hb;obtain⟨c1,c2⟩:=Ih zO zO hb;obtain⟨p1,p2,p3,p4⟩:=FD l.length l true 0 (vg _) hm.2 (.inl rfl);obtain⟨d1,d2⟩:=Qx v _ _ true 0 _ _ zO p1 (eK (OW r.1 true (-1) hrun)) c2;simp only[Dz] at d2;obtain⟨c3,c4⟩:=Ih zO zO d2;have d3:=(Qw v (Ay l).2 g.1 true 0 [] [] zO (M7 _ _ _ p3 (.inl rfl)) (M7 _ _ _ gm.2 (.inl rfl)) (by simpa using c4)).1;have hl:=Bw hm;refine⟨by rw[d1] at p2;omega,Prod.ext d1 d3⟩
     simp only[GT,hg,hj,hw];by_cases hk:x.1<=16/\Ay l=(r.1,g.1)
     .have hk' :=key.1 hk;rw[zP hk'.1,zP hk.1,zP hk.2,zP hk'.2]
     .have hk' :=λg=>hk (key.2 g);by_cases a1:x.1<=16
      .rw[zP a1,zP zO,zM (λh=>hk ⟨a1,h⟩),zM (λh=>hk' ⟨zO,h⟩)]
      .rw[zM a1];by_cases a2:x.1<=17
       .rw[zP a2,zM (λh=>hk' ⟨a2,h⟩)]
       .rw[zM a2]
theorem Le:∀(bl left:List Int) (i:Bool) (W:List Int),BC bl left i=some W->W.Sublist left/\∀n∈bl,0<=n/\n<=left.length
 | [],left,i,W,h=>by
   simp only[BC,Option.some.injEq] at h;subst h;refine⟨?_,zS⟩;split
   .exact List.Sublist.refl _
   .exact List.nil_sublist _
 |n::bs,left,i,W,h=>by
  simp only[BC] at h;split at h
  .simp at h
  .split at h
   .rename_i l hl;simp at h;subst h;obtain⟨a1,a2⟩:=Le bs _ _ l hl;refine⟨?_,λm hm=>?_⟩
    .have e:left=left.take n.toNat++left.drop n.toNat:=(vJ _ _).symm
     conv=>rhs;rw[e]
     refine List.Sublist.append ?_ a1;split
     .exact List.Sublist.refl _
     .exact List.nil_sublist _
    .simp only[vL] at hm;rcases hm with rfl|hm
     .omega
     .have:=a2 m hm;simp at this;omega
   .simp at h
theorem Qz (ref bl rest:List Int) (hr:AU ref) (hs:AU rest) (hb:bl.length<=16):FP ref bl rest=Dm ref bl rest:=by
 unfold FP Dm;rw[zM (λh=>h ⟨hr,hs,hb⟩)];cases hc:BC bl ref true with
 |none=>rfl
 |some W=>
  simp only;obtain⟨a1,a2⟩:=Le _ _ _ _ hc;have hW:∀x∈W,0<=x/\x<16:=λx hx=>hr.1 x (a1.subset hx);have hall:∀x∈rest++W,0<=x/\x<16:=λx hx=>by
   rcases vd.1 hx with h|h
   .exact hs.1 x h
   .exact hW x h
  have eqm:AU (CO (rest++W))->(JE λi=>W.contains i||rest.contains i)=CO (rest++W):=by
   intro hm;refine Kv _ _ (Lc _) hm.2 λx=>?_;rw[JO,Hc,vd];simp only[wT,xG,decide_eq_true_eq];constructor
   .rintro⟨_,h|h⟩
    .exact .inr h
    .exact .inl h
   .intro h;exact⟨hall x (vd.2 h),h.symm⟩
  by_cases hm:AU (CO (rest++W))
  .rw[eqm hm];by_cases h2:sS ref (CO (rest++W))=bl/\Bz ref (CO (rest++W))=rest
   .rw[zP h2,zP ⟨hm,h2⟩]
   .rw[zM h2,zM (λh=>h2 h.2)]
  .conv=>rhs;rw[zM (λh=>hm h.1)]
   rw[zM];rintro⟨_,h2⟩;apply hm;rw[Jf];refine⟨hall,?_⟩;rw[xE];refine⟨Gt hs.2,(Gt hr.2).sublist a1,λx hx y hy e=>?_⟩;subst e;rw[<-h2] at hx;simp only[Bz,vC] at hx;have h3:=a1.subset hy;have h4:=hx.2;simp[h3] at h4
theorem SD {bs:List Bool}:∀(k:Nat) (f:Bool) (p:Nat) (r:List Int×Nat),p<=bs.length->Dh bs k f p=some r->r.1.length=k/\p<=r.2/\r.2<=bs.length
 |0,f,p,r,hp,h=>by simp[Dh] at h;subst h;simp;exact hp
 |k+1,f,p,r,hp,h=>by
  simp only[Dh] at h;split at h
  .simp at h
  .rename_i x hx;obtain⟨h1,h2,h3,h4,_⟩:=Bl hx;split at h
   .rename_i q hq;simp at h;subst h;have:=SD k false x.2 q h4 hq;exact⟨by simp[this.1],by simp only;omega,this.2.2⟩
   .simp at h
theorem Kb {bs:List Bool}:∀(k:Nat) (f:Bool) (p:Nat) (r:List Int×Nat),(∀n∈r.1,n<=16)->(Co bs k f p=some r↔Dh bs k f p=some r)
 |0,f,p,r,_=>by simp[Co,Dh]
 |k+1,f,p,r,hr=>by
  simp only[Co,Dh];cases hx:Bi bs p with
  |none=>simp
  |some x=>
   simp only;constructor
   .intro h;split at h
    .split at h
     .rename_i q hq;simp at h;subst h;rw[(Kb k false x.2 q (λn hn=>hr n (by simp[hn]))).1 hq]
     .simp at h
    .simp at h
   .intro h;split at h
    .rename_i q hq;simp at h;subst h;have h1:=hr _ (List.mem_cons_self ..);rw[zP (by split at h1<;>omega),(Kb k false x.2 q (λn hn=>hr n (by simp[hn]))).2 hq]
    .simp at h
theorem Kc {bs:List Bool}:∀(k:Nat) (f:Bool) (p:Nat) (r:List Int×Nat),Co bs k f p=some r->Dh bs k f p=some r
 |0,f,p,r,h=>by simpa[Co,Dh] using h
 |k+1,f,p,r,h=>by
  simp only[Co] at h;simp only[Dh];split at h
  .simp at h
  .rename_i x hx;split at h
   .split at h
    .rename_i q hq;rw[Kc k false x.2 q hq];exact h
    .simp at h
   .simp at h
theorem QA {bs:List Bool} {p:Nat} {v:Int} {r:List Int×Nat} (h:Ea bs p v=some r):AU r.1:=by
 unfold Ea at h;(repeat' split at h)<;>first| (simp at h;done) |skip
 rename_i x hx _ q hq _ g hg _ l hl hp;simp at h;subst h;unfold FZ at hl;(repeat' split at hl)<;>first| (simp at hl;done) |skip
 rename_i hm;simp at hl;subst hl;exact hm.2
theorem QB (bs:List Bool) (p:Nat) (v:Int) (ref:List Int) (hr:AU ref):Fx bs p v ref=DF bs p v ref:=by
 have hl:=Bw hr;unfold Fx DF;cases hx:Bi bs p with
 |none=>rfl
 |some x=>
  simp only;obtain⟨h1,h2,h3,h4,_⟩:=Bl hx;by_cases hk:x.1<=17;rotate_left
  .rw[zM hk,zM hk]
  rw[zP hk,zP hk];cases hn:Dh bs (x.1-1) true x.2 with
  |none=>
   have:Co bs (x.1-1) true x.2=none:=by
    cases h:Co bs (x.1-1) true x.2 with
    |none=>rfl
    |some r=>have:=Kc _ _ _ _ h;rw[hn] at this;simp at this
   rw[this]
  |some q=>
   have hq:=SD _ _ _ _ h4 hn;simp only;by_cases hb:∀n∈q.1,n<=16
   .rw[(Kb _ _ _ q hb).2 hn];simp only[H6];cases hs:Ea bs q.2 v with
    |none=>rfl
    |some r=>
     simp only;rw[Qz ref q.1 r.1 hr (QA hs) zO]
   .have hcw:∀r:List Int,Dm ref q.1 r=none:=by
     intro r;unfold Dm;split
     .rfl
     .rename_i W hW;exact absurd (λn hn=>by have:=(Le _ _ _ _ hW).2 n hn;omega) hb
    have:Co bs (x.1-1) true x.2=none\/Co bs (x.1-1) true x.2=some q:=by
     cases h:Co bs (x.1-1) true x.2 with
     |none=>exact .inl rfl
     |some r=>have:=Kc _ _ _ _ h;rw[hn] at this;simp at this;subst this;exact .inr rfl
    have hjc:∀r:List Int,AU r->FP ref q.1 r=none:=λr hm=>by rw[Qz ref q.1 r hr hm zO,hcw]
    rcases this with h|h
    .rw[h];simp only[hcw];split<;>rfl
    .rw[h];simp only[H6,hcw];split
     .rfl
     .rename_i r hs;rw[hjc _ (QA hs)]
theorem JP {g:Gr} (h:AP g) (v:Int):AU (AF g v):=by
 unfold AF;rw[vf];cases hx:g.out[v.toNat]? with
 |none=>simp[AU]
 |some l=>exact(h.2.2.2.1 l (vo hx)).1
theorem SE (bs:List Bool):Gm bs=Cs bs:=by
 unfold Gm Cs;have:Cw bs=Ea bs:=funext λp=>funext λv=>H6 bs p v;rw[this]
theorem SF (a:Gr) (bs:List Bool) (h:AP a):JF a bs=CF a bs:=by
 unfold JF CF;congr 1;exact funext λp=>funext λv=>QB bs p v _ (JP h v)
theorem Lf (v:Int):∀(l:List Int) (i:Nat) (f:Bool) (e:Int) (h:i<l.length),Dg v (l.take (i+1)) f e=Dg v (l.take i) f e++AM (if i=0 then(if f=true then CR (l[i]-v)+1 else l[i]-e) else l[i]-l[i-1]).toNat
 | [],i,f,e,h=>by simp at h
 |x::t,0,f,e,h=>by simp[Dg]
 |x::t,i+1,f,e,h=>by
  have ih:=Lf v t i false x (by simpa using h);simp only[wY,Dg,xe,xa] at ih |-;rw[ih,uZ];congr 3;cases i with
  |zero=>simp
  |succ i=>simp
theorem Ec (n:Nat) (h:n<1099511627776):(AM n).length<=81:=by
 have:=E9 n;by_cases h0:n=0
 .subst h0;simp[AM,Bq]
 .have:=(Nat.log2_lt (n:=n) (k:=40) h0).2 zO;omega
theorem eN (xs:List Bool) (u:Nat) (v:Int) (l:List Int) (hx:xs.length<10000000) (hv:0<=v/\v<=16) (hl:AU l):Ac pg 199 [.tok 0 u 1 0 xs.length,iN v,.ro l.length (Ab l)] [.live u (Bm xs)] (λr M=>r= .own 1 (xs++Dz v l).length (Bm (xs++Dz v l))/\M=[.dead]):=by
 have hll:=Bw hl;refine zE (fn:=Tryz.f199) [.tmp 6] ?_;rw[A6];refine zs ?_;have hg0:=Ec (l.length+1) zO;refine z0 ?_;intro K hK;refine sZ [0] (E2 xs u (l.length+1) zO zO zO) zS zS zS zS ?_;rintro r M ⟨rfl,rfl⟩ _;refine yw ?_;refine sV (λz:Nat×List Bool=> [(0,.tok 1 0 1 0 z.2.length),(1,iN v),(2,.ro l.length (Ab l)),(7,iN (z.1:Nat))]) (λz=> [.dead,lv (Bm z.2)]) (λz=>l.length-z.1) (λz=>z.1<=l.length/\z.2=xs++(AM (l.length+1)++Dg v (l.take z.1) true 0)/\z.2.length<=xs.length+81*(z.1+1)) (0,xs++AM (l.length+1)) (Wk.fr zK) ⟨zS,by simp[Dg],Ao⟩ ?_;rintro⟨i,B⟩ ⟨hi,hB,hBl⟩;simp only at hi hB hBl;refine zs ?_;refine zc ?_ ?_<;>intro h
 .refine W.skip ?_;have hlt:i<l.length:=zO;have hto:=Lf v l i true 0 hlt;have hbd:=hl.1 _ (uQ hlt);refine zb ?_;by_cases h0:i=0
  .subst h0;have hz:=Eg (l[0]-v);have hz2:CR (l[0]-v)<=100:=by unfold CR;split<;>omega
   obtain⟨c,hc⟩:=uS (show 0<=CR (l[0]-v)+1 by omega);have hcl:=Ec c zO;refine y2 ?_;refine Dx ?_;intro K hK;simp -implicitDefEqProofs (disch:=omega) [hlt];refine sW (ZT (l[0]-v) (by omega)) (by simp) (by simp) ?_;refine AO hc ?_;refine sZ [1] (E2 B 0 c zO zO zO) zS zS zS zS ?_;rintro r M ⟨rfl,rfl⟩ _;refine ye ?_;refine⟨(1,B++AM c),by simp only;omega,⟨by simp only;omega,?_,Ao⟩,?_⟩
   .simp only[hto,if_true,hc,vE];rw[hB];simp[Dg]
   .simp only[u0];exact tw (k:=1) (j:=2) zF zS zO zS zK zS zS zS
  .have hup:=vB.1 hl.2 (i-1) i zO hlt zO;have hbd2:=hl.1 _ (uQ (show i-1<l.length by omega));obtain⟨c,hc⟩:=uS (show 0<=l[i]-l[i-1] by omega);have hcl:=Ec c zO;refine xO h0 ?_;(repeat refine ta ?_);refine tO 0 11 rfl true Df AK λK hK=>?_;simp -implicitDefEqProofs (disch:=omega) [hlt,hc];refine⟨zO,?_⟩;refine sZ [1] (E2 B 0 c zO zO zO) zS zS zS zS ?_;rintro r M ⟨rfl,rfl⟩ _;refine ye ?_;refine⟨(i+1,B++AM c),by simp only;omega,⟨by simp only;omega,?_,Ao⟩,?_⟩
   .simp only[hto,zM h0,hc,vE];rw[hB];simp
   .simp only[u0];exact tw (k:=1) (j:=2) zF zS zO zS zK zS zS zS
 .refine s7 ?_;have hi' :i=l.length:=zO;subst hi';rw[uW] at hB;have hB' :B=xs++Dz v l:=hB;subst hB';refine Bd ?_;rw[uM zS]
theorem bG (l:List Int) (hl:l.length<1000000000) (hb:∀x∈l,-1000000000000<x/\x<1000000000000):Ac pg 196 [.ro l.length (Ab l)] [] (λr _=>r=Qj (Ay l)):=by
 have hb' :∀i (h:i<l.length),-1000000000000<l[i]/\l[i]<1000000000000:=λi h=>hb _ (uQ h);refine zE (fn:=Tryz.f196) [.tmp 2,.tmp 3] ?_;rw[AC];refine y4 ?_;refine zb ?_;refine sV (λs:Nat×List (Int×Int)×List Int×Nat=> [(0,.ro l.length (Ab l)),(4,.tok 0 s.2.1.length 2 0 s.2.1.length),(5,.tok 1 s.2.2.2 1 0 s.2.2.1.length),(6,iN s.1)]) (λs=> [.live s.2.1.length (Aa Al s.2.1),.live s.2.2.2 (Ab s.2.2.1)]) (λs=>l.length-s.1)
  (λs=>s.1<=l.length/\s.2.1.length<=s.1/\s.2.2.1.length<=s.1/\Ay l=(s.2.1++(Ay (l.drop s.1)).1,s.2.2.1++(Ay (l.drop s.1)).2)) (0,[],[],0) ((Wk.nil (t:=4) (s:=2) zS).trans ((Wk.nil (t:=5) (s:=1) zS).trans (Wk.fr zK))) zS ?_
 rintro⟨i,ra,sa,c⟩ ⟨hi,hra,hsa,hinv⟩;simp only at hi hra hsa hinv;refine zs ?_;refine zc ?_ ?_<;>intro h
 .refine xZ ?_;refine sV (λk:Nat=> [(0,.ro l.length (Ab l)),(4,.tok 0 ra.length 2 0 ra.length),(5,.tok 1 c 1 0 sa.length),(6,iN i),(7,iN k)]) (λ_=> [.live ra.length (Aa Al ra),.live c (Ab sa)]) (λk=>l.length-k)
   (λk=>i<k/\k<=l.length/\∀j (h:j<l.length),i<j->j<k->l[j]=l[j-1]+1) (i+1) (Wk.fr zK) ⟨zO,zO,λj h h1 h2=>zO⟩ ?_
  rintro k ⟨hik,hk,hrun⟩;refine zw ?_;refine s5 (λb:Bool=> [(0,.ro l.length (Ab l)),(4,.tok 0 ra.length 2 0 ra.length),(5,.tok 1 c 1 0 sa.length),(6,iN i),(7,iN k),(30,.bool b)]) (λ_=> [.live ra.length (Aa Al ra),.live c (Ab sa)]) (λb=>b=true↔∃h:k<l.length,l[k]=l[k-1]+1) ?_ ?_
  .by_cases h2:k<l.length
   .have h3:=hb' k h2;have h4:=hb' (k-1) zO;refine CN ?_;intro K hK;refine zk ?_;exact⟨decide (l[k]=l[k-1]+1),by simp[h2],Wk.fr zK⟩
   .refine CN ?_;intro K hK;refine zk ?_;exact⟨false,by simp[h2],Wk.fr zK⟩
  .intro b hbb;refine zc ?_ ?_<;>intro h
   .refine W.skip ?_;obtain⟨h2,h3⟩:=hbb.1 (by assumption);refine y2 ?_;refine⟨k+1,zO,⟨zO,zO,λj hj h4 h5=>?_⟩,Wk.fr zK⟩;by_cases e:j=k
    .subst e;exact h3
    .exact hrun j hj h4 zO
   .refine s7 ?_;have hend:∀h:k<l.length,l[k]≠l[k-1]+1:=λh2 h3=>by simp_all
    have hrl:=Qi hik hk hrun hend;have hpa:=Sg zO hrl hik hk;refine zs ?_;refine zc ?_ ?_<;>intro h
    .rw[zP zO] at hpa;refine x6 ?_;refine⟨(k,ra++[(l[i],((k-i:Nat):Int))],sa,c),Ao,⟨hk,Ao,Ao,?_⟩,sU (k:=2) zK ?_ zS zS zS zS⟩
     .rw[hinv,hpa];simp
     .simp[BI,AG,Al];omega
    .rw[zM (by omega)] at hpa;refine y2 ?_;refine⟨(k,ra,sa++(l.drop i).take (k-i),c+1),by simp;omega,⟨hk,by simp;omega,by simp;omega,?_⟩,sU (k:=2) (by simp[AA];omega) ?_ (by simp) (by simp) (by simp) (by simp)⟩
     .rw[hinv,hpa];simp
     .simp[B5]
 .refine AJ ?_;rw[hinv];simp[Qj,List.drop_of_length_le h,Ay]
@[simp] theorem YI {n:Int} (h0:0<=n) (h1:n<=18446744073709551615):IntKind.u64.wrap n=n:=by
  simp[IntKind.wrap,IntKind.bits,IntKind.signed];omega
theorem Mn (x:Nat) (hx:x<4294967296):Dq .and (.int .u64 x) (.int .u64 4294967295)=some (.int .u64 x):=by
 rw[PD];have e (n:Nat) (h:n<18446744073709551616):(BitVec.ofInt IntKind.u64.bits (n:Int)).toNat=n:=by
  rw[BitVec.toNat_ofInt];simp[IntKind.bits] at*;omega
 have e1:(BitVec.ofInt IntKind.u64.bits (x:Int)&&&BitVec.ofInt IntKind.u64.bits ((4294967295:Nat):Int)).toNat=x&&&4294967295:=by
  rw[BitVec.toNat_and,e x zO,e 4294967295 zO]
 have e2:x&&&4294967295=x:=by
  rw[show 4294967295=2^32-1 by rfl,Nat.and_two_pow_sub_one_eq_mod];omega
 have e3:((4294967295:Int))=((4294967295:Nat):Int):=rfl;rw[e3,e1,e2,YI zO zO]
theorem bH (n:Nat) (hn:n<1000):Ac pg 303 [.int .u64 1,.int .u64 n] [] (λr _=>r= .tup [.int .u64 0,.int .u64 n]):=by
 refine zE (fn:=Tryz.f303) [.tmp 4,.tmp 5] ?_;rw[Aq];have a1:Dq .and (.int .u64 1) (.int .u64 4294967295)=some (.int .u64 1):=Mn 1 zO;have a0:Dq .and (.int .u64 0) (.int .u64 4294967295)=some (.int .u64 0):=Mn 0 zO;have an:=Mn n zO;have dn:(n:Int)/4294967296=0:=zO;refine zs ?_;refine zg a1 ?_;refine zs ?_;refine yf an dn ?_;refine zs ?_;refine yf dn a0 ?_;exact RX
theorem uE {P:Program} {T:Nat->Option TI} {p:Nat} {F:Fr} {M:List Ag} {Q:Cj} {x y:Code} (h:W P T p y F M Q):W P T p (.cond (.const (.bool false)) x y) F M Q:=λtk C hC hp hb=>by
 simp only[CL,Bool.and_eq_true] at hb;exact ub false (λt e=>by cases e) rfl (λh=>by cases h) (λ_=>h tk C hC hp hb.2)
theorem gJ (n:Nat) (hn:n<1000):Ac pg 292 [.int .u64 1,.int .u64 n] [] (λr _=>r= .tup [.int .u64 0,.int .u64 n]):=by
 refine zE (fn:=Tryz.f292) [.tmp 4,.tmp 5] ?_;rw[Aq];refine zs ?_;(repeat refine ta ?_);refine uE (W.skip ?_);refine AL (bH n hn) ?_;exact DM
def BK:Prop:=∀n:Nat,1<=n->n<1000->Ac pg 266 [.ro 1 [iN (-1)],iN n] [] (λr _=>r= .own 1 n (Ab (uP n (-1))))
theorem SG (k:Nat):Mc (k+1)=Mc k++[(k:Int)]:=by simp[Mc,List.range_succ]
@[simp] theorem mO (k:Nat):(Mc k).length=k:=by simp[Mc]
theorem bI (hR:BK) (g:Gr) (k a:Int) (hm:AP g) (hk:DO g k a=0):Ac pg 228 [.agg (A1 false g),iN k,iN a] [] (λr _=>r= .agg (BY true (B9 g k a))):=by
 obtain⟨n,hn⟩:=uS hm.1;have hn16:n<=16:=by have:=hm.2.1;omega
 have hk16:1<=k/\k<=6:=by
  unfold DO at hk;split at hk
  .simp at hk
  .omega
 have hka:named k=true->0<=a/\a<g.n:=by
  intro hnm;unfold DO at hk;split at hk
  .simp at hk
  .split at hk
   .simp at hk
   .rename_i h;exact vv λg=>h ⟨hnm,g⟩
 refine zE (fn:=Tryz.f228) [.cell 6 38] ?_;rw[A6];refine Cx ?_;refine yg ?_;intro K hK;refine sW (Uo k) (by simp) (by simp) ?_;cases hnm:named k
 .refine x4 ?_;have h4:¬k=4:=λe=>by simp[named,e] at hnm
  refine y2 ?_;refine xO h4 ?_;by_cases h5:k=5
  .refine xP h5 ?_;refine W.weak (sX 2 4) ?_;refine W.weak (sX 2 5) ?_;refine zg hn ?_;refine zb ?_;refine sV (λi:Nat=> [(6,pt 1),(7,pt 2),(33,iN n),(34,iN i)]) (λi=> [lv [iN n,DH false g.out],lv [iN 0,iN 0,iN 0,.bool false,.own 1 0 [],.own 1 0 []],lv [iN 5,iN 0,iN 0,.bool false,.tok 3 0 1 0 0,.tok 4 i 1 0 i],lv [],.live i (Ab (Mc i))]) (λi=>n-i) (λi=>i<=n) 0 (Wk.fr ?_) (vn _) ?_
   .simp[AA]
   intro i hi;refine zs ?_;refine zc ?_ ?_<;>intro h
   .refine y3 ?_;refine z1 ?_;intro K hK;refine⟨zO,zO,?_⟩;refine xM ?_;refine⟨i+1,zO,zO,sU (k:=5) zK ?_ zS zS zS zS⟩;rw[SG];simp[B5,Ab]
   .refine s7 ?_;have:i=n:=zO;subst this;refine Bd ?_;simp[B9,hnm,h4,h5,hn];exact⟨by simp[named],by rw[uM zS]⟩
  .refine th h5 ?_;refine W.weak (sX 2 4) ?_;refine W.weak (sX 2 5) ?_;refine Bd ?_;simp[B9,hnm,h4,h5]
 .have ha:=hka hnm;obtain⟨b,rfl⟩:=uS ha.1;have hbn:b<n:=zO;refine Am ?_;refine y4 ?_;by_cases h4:k=4
  .refine xP h4 ?_;refine z2 ?_;intro K hK;refine sW (hR n zO zO) (by simp[hn]) zS ?_;refine Am ?_;refine BS hbn ?_;intro K hK;refine⟨zO,?_⟩;have es:(Ab (uP n (-1))).set b (iN 0)=Ab ((uP n (-1)).set b 0):=by simp[Ab]
   rw[es];refine zk ?_;refine Bd ?_;simp[B9,hnm,h4,hn,si,Ab];exact⟨by simp[named],uM zS⟩
  .have h5:¬k=5:=λe=>by simp[named,e] at hnm
   refine xO h4 ?_;refine th h5 ?_;refine W.weak (sX 2 4) ?_;refine W.weak (sX 2 5) ?_;refine Bd ?_;simp[B9,hnm,h4,h5]
theorem PM (hR:BK) (g:Gr) (k a:Int) (hg:G5 g) (hm:AP g):Ac pg 186 [.agg (A1 false g),iN k,iN a] [] (λr _=>r= .tup [.agg (BY true (if DO g k a=0 then B9 g k a else A3)),iN (DO g k a)]):=by
 refine zE (fn:=Tryz.f186) [.cell 6 38,.tmp 7] ?_;rw[A6];refine Cx ?_;refine AL (bC g k a hg hm) ?_;by_cases h:DO g k a=0
 .refine th h ?_;refine yj (bI hR g k a hm h) ?_;simp[h]
 .refine th h ?_;refine W.weak (sX 1 4) ?_;refine W.weak (sX 1 5) ?_;refine zr ?_;simp[h,A3]
def Jg (l:List Int):Nat:=l.countP λx=>decide (x<0)
structure Gu (g:Gr) (j:B7):Prop where
 k1:1<=j.kind
 k2:j.kind<=6
 na:named j.kind=true->0<=j.a/\j.a<g.n
 a0:0<=j.at_
 an:j.at_<=g.n
 ls:j.kind≠4->j.list=[]
 c1:j.kind=1->j.at_<=1/\j.out.length<=16
 c2:j.kind=2->(j.out.length:Int)<=j.at_
 c3:j.kind=3->j.out.length<=17/\∀x∈j.out,0<=x/\x<=j.at_
 c4:j.kind=4->(j.out.length:Int)=g.n/\Jg j.out+j.list.length=j.out.length/\j.at_<=j.list.length/\(∀x∈j.list,0<=x/\x<g.n/\0<=gi j.out x)/\∀x∈j.out,x<j.list.length
 c5:j.kind=5->(j.out.length:Int)=g.n/\∀x∈j.out,0<=x/\x<g.n
 c6:j.kind=6->(j.out.length:Int)<=32*j.at_
theorem SH {l:List Int} {i:Int} (h0:0<=i) (h:i<l.length):gi l i∈l:=by
 have e:gi l i=l[i.toNat]'zO:=by simp[gi,vf,uT (show i.toNat<l.length by omega)]
 rw[e];exact uQ _
theorem EC {l:List Int} {i:Nat} (h:i<l.length):gi l (i:Int)=l[i]:=by
 simp[gi,vf,uT h]
theorem Mo (l:List Int) (i x:Int):(si l i x).length=l.length:=by simp[si]
theorem Mp {l:List Int} {i x y:Int} (h:y∈si l i x):y∈l\/y=x:=List.mem_or_eq_of_mem_set h
theorem N4:∀(l:List Int) (i:Nat) (x:Int) (h:i<l.length),Gn (l.set i x)+(l[i]).toNat=Gn l+x.toNat
 | [],i,x,h=>by simp at h
 |y::l,0,x,h=>by simp[Gn];omega
 |y::l,i+1,x,h=>by
  have:=N4 l i x (by simpa using h);simp[Gn] at*;omega
theorem N5:∀(l:List Int) (i:Nat) (x:Int) (h:i<l.length),l[i]<0->0<=x->Jg (l.set i x)+1=Jg l
 | [],i,x,h,_,_=>by simp at h
 |y::l,0,x,h,h1,h2=>by
  simp at h1;simp[Jg,List.countP_cons,h1];omega
 |y::l,i+1,x,h,h1,h2=>by
  have:=N5 l i x (by simpa using h) (by simpa using h1) h2;simp[Jg,List.countP_cons] at*;omega
theorem Hd {g:Gr} (hg:AP g) {v x:Int} (h:x∈AF g v):0<=x/\x<g.n:=by
 unfold AF at h;rw[vf] at h;cases hx:g.out[v.toNat]? with
 |none=>rw[hx] at h;simp at h
 |some l=>
  rw[hx] at h;have:=hg.2.2.2.1 l (vo hx);exact⟨(this.1.1 x h).1,this.2 x h⟩
theorem Dc {g:Gr} (hg:AP g) (v:Int):(AF g v).length<=16:=Bw (JP hg v)
theorem YJ {v w x:Int} {s:List Int×List Int} (hx0:0<=x) (hw0:0<=w) (h0:0<=gi s.1 v) (hx:0<=gi s.1 x):0<=gi (BE v s w).1 x:=by
 unfold BE;split
 .rename_i hn;have hne:w≠x:=λe=>by subst e;omega
  simp only[gi,si,vf];rw[List.getElem?_set_ne zO];rw[gi,vf] at hx;exact hx
 .exact hx
theorem YK {n v w:Int} {s:List Int×List Int} (hv:0<=v/\v<n) (hw:0<=w/\w<n) (h0:0<=gi s.1 v) (h1:(s.1.length:Int)=n) (h2:Jg s.1+s.2.length=s.1.length) (h3:∀x∈s.2,0<=x/\x<n/\0<=gi s.1 x) (h4:∀x∈s.1,x<s.2.length):
 0<=gi (BE v s w).1 v/\((BE v s w).1.length:Int)=n/\Jg (BE v s w).1+(BE v s w).2.length=(BE v s w).1.length/\(∀x∈(BE v s w).2,0<=x/\x<n/\0<=gi (BE v s w).1 x)/\(∀x∈(BE v s w).1,x<(BE v s w).2.length)/\s.2.length<=(BE v s w).2.length:=by
 have keep:=λx hx0=>YJ (v:=v) (w:=w) (x:=x) (s:=s) hx0 hw.1 h0;have k0:=keep v hv.1 h0;have k3:∀x∈s.2,0<=x/\x<n/\0<=gi (BE v s w).1 x:=λx hx=>⟨(h3 x hx).1,(h3 x hx).2.1,keep x (h3 x hx).1 (h3 x hx).2.2⟩;refine⟨k0,?_⟩;clear k0;unfold BE at*;split
 .rename_i hn;rw[zP hn] at k3;have hwl:w.toNat<s.1.length:=zO;have e:gi s.1 w=s.1[w.toNat]:=by simp[gi,vf,uT hwl]
  have hx:=N5 s.1 w.toNat (gi s.1 v+1) hwl (by rw[<-e];exact hn) zO;have hvm:=h4 _ (SH (l:=s.1) hv.1 zO);refine⟨by simp only[Mo];exact h1,?_,?_,?_,zS⟩
  .simp only[u0,wR,si,List.length_set];omega
  .intro x hx;simp only[vd,wA] at hx;rcases hx with hx|rfl
   .exact k3 x hx
   .refine⟨hw.1,hw.2,?_⟩;simp only[gi,si,vf];rw[uO hwl];simp only[Option.getD_some];rw[gi,vf] at h0;omega
  .intro x hx;simp only[u0,wR];rcases Mp hx with hx|rfl
   .have:=h4 x hx;omega
   .omega
 .exact⟨h1,h2,h3,h4,vg _⟩
theorem Lg {n v:Int} (hv:0<=v/\v<n):∀(ws:List Int) (s:List Int×List Int),(∀w∈ws,0<=w/\w<n)->0<=gi s.1 v->(s.1.length:Int)=n->Jg s.1+s.2.length=s.1.length->(∀x∈s.2,0<=x/\x<n/\0<=gi s.1 x)->(∀x∈s.1,x<s.2.length)->
 0<=gi (ws.foldl (BE v) s).1 v/\((ws.foldl (BE v) s).1.length:Int)=n/\Jg (ws.foldl (BE v) s).1+(ws.foldl (BE v) s).2.length=(ws.foldl (BE v) s).1.length/\(∀x∈(ws.foldl (BE v) s).2,0<=x/\x<n/\0<=gi (ws.foldl (BE v) s).1 x)/\(∀x∈(ws.foldl (BE v) s).1,x<(ws.foldl (BE v) s).2.length)/\s.2.length<=(ws.foldl (BE v) s).2.length
 | [],s,_,h0,h1,h2,h3,h4=>⟨h0,h1,h2,h3,h4,vg _⟩
 |w::ws,s,hw,h0,h1,h2,h3,h4=>by
  obtain⟨a0,a1,a2,a3,a4,a5⟩:=YK hv (hw w zS) h0 h1 h2 h3 h4;obtain⟨b0,b1,b2,b3,b4,b5⟩:=Lg hv ws (BE v s w) (λx hx=>hw x (by simp[hx])) a0 a1 a2 a3 a4;exact⟨b0,b1,b2,b3,b4,by simp only[List.foldl_cons];omega⟩
theorem WR {n v w:Int} {s:List Int×Bool} (hv:0<=v/\v<n) (hw:0<=w/\w<n) (h1:(s.1.length:Int)=n) (h2:∀x∈s.1,0<=x/\x<n):
 ((B1 v s w).1.length:Int)=n/\(∀x∈(B1 v s w).1,0<=x/\x<n)/\(((B1 v s w).2=s.2/\Gn (B1 v s w).1=Gn s.1)\/Gn (B1 v s w).1<Gn s.1):=by
 have hvl:v.toNat<s.1.length:=zO;have hwl:w.toNat<s.1.length:=zO;have ev:gi s.1 v=s.1[v.toNat]:=by simp[gi,vf,uT hvl]
 have ew:gi s.1 w=s.1[w.toNat]:=by simp[gi,vf,uT hwl]
 have bv:=h2 _ (uQ hvl);have bw:=h2 _ (uQ hwl);rw[<-ev] at bv;rw[<-ew] at bw;have g1:=N4 s.1 v.toNat (min (gi s.1 v) (gi s.1 w)) hvl;have g2:=N4 (s.1.set v.toNat (min (gi s.1 v) (gi s.1 w))) w.toNat (min (gi s.1 v) (gi s.1 w)) (by simpa using hwl);rw[List.getElem_set] at g2;refine⟨by simp only[B1,Mo];exact h1,?_,?_⟩
 .intro x hx;simp only[B1] at hx;rcases Mp hx with hx|rfl
  .rcases Mp hx with hx|rfl
   .exact h2 x hx
   .omega
  .omega
 .simp only[B1,si];by_cases e:gi s.1 v=gi s.1 w
  .left;refine⟨by simp[e],?_⟩;rw[<-ev] at g1;split at g2
   .omega
   .rw[<-ew] at g2;omega
  .right;rw[<-ev] at g1;split at g2
   .rename_i h;exfalso;apply e;simp only[gi];rw[h]
   .rw[<-ew] at g2;omega
theorem JQ {n v:Int} (hv:0<=v/\v<n):∀(ws:List Int) (s:List Int×Bool),(∀w∈ws,0<=w/\w<n)->(s.1.length:Int)=n->(∀x∈s.1,0<=x/\x<n)->
 ((ws.foldl (B1 v) s).1.length:Int)=n/\(∀x∈(ws.foldl (B1 v) s).1,0<=x/\x<n)/\(((ws.foldl (B1 v) s).2=s.2/\Gn (ws.foldl (B1 v) s).1=Gn s.1)\/Gn (ws.foldl (B1 v) s).1<Gn s.1)
 | [],s,_,h1,h2=>⟨h1,h2,.inl ⟨rfl,rfl⟩⟩
 |w::ws,s,hw,h1,h2=>by
  obtain⟨a1,a2,a3⟩:=WR hv (hw w zS) h1 h2;obtain⟨b1,b2,b3⟩:=JQ hv ws (B1 v s w) (λx hx=>hw x (by simp[hx])) a1 a2;refine⟨b1,b2,?_⟩;simp only[List.foldl_cons];rcases a3 with⟨a3,a4⟩ |a3
  .rcases b3 with⟨b3,b4⟩ |b3
   .exact .inl ⟨by rw[b3,a3],by rw[b4,a4]⟩
   .exact .inr zO
  .rcases b3 with⟨b3,b4⟩ |b3
   .exact .inr zO
   .exact .inr zO
theorem SI (l:List Int) (n:Nat):(Ek l n).length=max l.length (n+1):=by simp[Ek];omega
theorem N6 {l:List Int} {n:Nat} {x:Int} (h:x∈Ek l n):x∈l\/x=0:=by
 simp only[Ek,vd,List.mem_replicate] at h;rcases h with h|h
 .exact .inl h
 .exact .inr h.2
theorem HM {g:Gr} {j:B7} (hg:AP g) (h:Gu g j) (ho:BX g j=false):Gu g (A8 g j)/\GO g (A8 g j)<GO g j:=by
 have hn:=hg.2.1;have hN:j.kind≠4->j.at_<g.n:=by
  intro h4;unfold BX at ho;split at ho
  .rename_i e;have:=h.na (by rw[e];rfl);simp at ho;omega
  .simp at ho;simpa[h4] using ho
 by_cases e1:j.kind=1
 .have hv:A8 g j={j with at_:=j.at_+1,out:=AF g j.a}:=by simp[A8,e1]
  simp[BX,e1] at ho;have:=h.na (by rw[e1];rfl);have h0:=h.a0;rw[hv];refine⟨⟨h.k1,h.k2,h.na,by show 0<=j.at_+1;omega,by show j.at_+1<=g.n;omega,h.ls,λ_=>⟨by show j.at_+1<=1;omega,Dc hg _⟩,λe=>?_,λe=>?_,λe=>?_,λe=>?_,λe=>?_⟩,?_⟩
  rotate_right
  .simp[GO,e1];omega
  all_goals exact absurd (e1.symm.trans e) zD
 by_cases e2:j.kind=2
 .have hv:A8 g j={j with at_:=j.at_+1,out:=j.out++if (AF g j.at_).contains j.a=true then [j.at_] else []}:=by simp[A8,e2]
  have h0:=h.a0;have h1:=hN zO;rw[hv];refine⟨⟨h.k1,h.k2,h.na,by show 0<=j.at_+1;omega,by show j.at_+1<=g.n;omega,h.ls,λe=>?_,λ_=>?_,λe=>?_,λe=>?_,λe=>?_,λe=>?_⟩,?_⟩
  rotate_right
  .simp[GO,e2];omega
  .exact absurd (e2.symm.trans e) zD
  .have:=h.c2 e2;simp only[u0];split<;>simp<;>omega
  all_goals exact absurd (e2.symm.trans e) zD
 by_cases e3:j.kind=3
 .have hv:A8 g j={j with at_:=j.at_+1,out:=si (Ek j.out (AF g j.at_).length) (AF g j.at_).length (gi (Ek j.out (AF g j.at_).length) (AF g j.at_).length+1)}:=by simp[A8,e3]
  have h0:=h.a0;have h1:=hN zO;obtain⟨c1,c2⟩:=h.c3 e3;have hb:=Dc hg j.at_;rw[hv];refine⟨⟨h.k1,h.k2,h.na,by show 0<=j.at_+1;omega,by show j.at_+1<=g.n;omega,h.ls,λe=>?_,λe=>?_,λ_=>⟨?_,λx hx=>?_⟩,λe=>?_,λe=>?_,λe=>?_⟩,?_⟩
  rotate_right
  .simp[GO,e3];omega
  .exact absurd (e3.symm.trans e) zD
  .exact absurd (e3.symm.trans e) zD
  .simp only[Mo,SI];omega
  .have hm:=SH (l:=Ek j.out (AF g j.at_).length) (i:=((AF g j.at_).length:Int)) zO (by rw[SI];omega);have hu:∀y∈Ek j.out (AF g j.at_).length,0<=y/\y<=j.at_:=λy hy=>by
    rcases N6 hy with hy|rfl
    .exact c2 y hy
    .omega
   show 0<=x/\x<=j.at_+1;rcases Mp hx with hx|rfl
   .have:=hu x hx;omega
   .have:=hu _ hm;omega
  all_goals exact absurd (e3.symm.trans e) zD
 by_cases e4:j.kind=4
 .have hv:A8 g j={j with at_:=j.at_+1,out:=((AF g (gi j.list j.at_)).foldl (BE (gi j.list j.at_)) (j.out,j.list)).1,list:=((AF g (gi j.list j.at_)).foldl (BE (gi j.list j.at_)) (j.out,j.list)).2}:=by simp[A8,e4]
  have h0:=h.a0;obtain⟨c1,c2,c3,c4,c5⟩:=h.c4 e4;simp[BX,e4] at ho;have hm:=c4 _ (SH (l:=j.list) h0 ho);obtain⟨f1,f2,f3,f4,f5,f6⟩:=Lg (n:=g.n) (v:=gi j.list j.at_) ⟨hm.1,hm.2.1⟩ (AF g (gi j.list j.at_)) (j.out,j.list) (λw hw=>Hd hg hw) hm.2.2 c1 c2 c4 c5;generalize (AF g (gi j.list j.at_)).foldl (BE (gi j.list j.at_)) (j.out,j.list)=q at*;rw[hv];refine⟨⟨h.k1,h.k2,h.na,by show 0<=j.at_+1;omega,by show j.at_+1<=g.n;simp only at f6;omega,λe=>absurd e4 e,λe=>?_,λe=>?_,λe=>?_,λ_=>⟨f2,f3,by show j.at_+1<=q.2.length;simp only at f6;omega,f4,f5⟩,λe=>?_,λe=>?_⟩,?_⟩
  rotate_right
  .simp[GO,e4];omega
  all_goals exact absurd (e4.symm.trans e) zD
 by_cases e5:j.kind=5
 .have h0:=h.a0;have h1:=hN zO;obtain⟨c1,c2⟩:=h.c5 e5;obtain⟨f1,f2,f3⟩:=JQ (n:=g.n) (v:=j.at_) ⟨h0,h1⟩ (AF g j.at_) (j.out,j.move) (λw hw=>Hd hg hw) c1 c2;have hv:A8 g j=if j.at_+1=g.n/\((AF g j.at_).foldl (B1 j.at_) (j.out,j.move)).2=true then{j with at_:=0,move:=false,out:=((AF g j.at_).foldl (B1 j.at_) (j.out,j.move)).1} else{j with at_:=j.at_+1,move:=((AF g j.at_).foldl (B1 j.at_) (j.out,j.move)).2,out:=((AF g j.at_).foldl (B1 j.at_) (j.out,j.move)).1}:=by simp[A8,e5]
  generalize (AF g j.at_).foldl (B1 j.at_) (j.out,j.move)=q at*;simp only at f3;have hmul:Gn q.1<Gn j.out->Gn q.1*(2*g.n.toNat+2)+(2*g.n.toNat+2)<=Gn j.out*(2*g.n.toNat+2):=λh=>by
   have:=Nat.mul_le_mul_right (2*g.n.toNat+2) (Nat.succ_le_of_lt h);rw[Nat.succ_mul] at this;exact this
  rw[hv];split
  .rename_i hc;refine⟨⟨h.k1,h.k2,h.na,by show(0:Int)<=0;omega,by show 0<=g.n;omega,h.ls,λe=>?_,λe=>?_,λe=>?_,λe=>?_,λ_=>⟨f1,f2⟩,λe=>?_⟩,?_⟩
   rotate_right
   .simp only[GO,e5];simp only[show¬((5:Int)=1) by decide,if_false,if_true,vt];rcases f3 with⟨f3,f4⟩ |f3
    .rw[f4,<-f3,hc.2];simp only[if_true];omega
    .have:=hmul f3;split<;>omega
   all_goals exact absurd (e5.symm.trans e) zD
  .rename_i hc;refine⟨⟨h.k1,h.k2,h.na,by show 0<=j.at_+1;omega,by show j.at_+1<=g.n;omega,h.ls,λe=>?_,λe=>?_,λe=>?_,λe=>?_,λ_=>⟨f1,f2⟩,λe=>?_⟩,?_⟩
   rotate_right
   .simp only[GO,e5];simp only[show¬((5:Int)=1) by decide,if_false,if_true];rcases f3 with⟨f3,f4⟩ |f3
    .rw[f4,f3];split<;>omega
    .have:=hmul f3;split<;>split<;>omega
   all_goals exact absurd (e5.symm.trans e) zD
 have e6:j.kind=6:=by have:=h.k1;have:=h.k2;omega
 have hv:A8 g j={j with at_:=j.at_+1,out:=j.out++((AF g j.at_).map λw=> [j.at_,w]).flatten}:=by simp[A8,e6]
 have h0:=h.a0;have h1:=hN zO;rw[hv];refine⟨⟨h.k1,h.k2,h.na,by show 0<=j.at_+1;omega,by show j.at_+1<=g.n;omega,h.ls,λe=>?_,λe=>?_,λe=>?_,λe=>?_,λe=>?_,λ_=>?_⟩,?_⟩
 rotate_right
 .simp[GO,e6];omega
 rotate_right
 .have:=h.c6 e6;have hb:=Dc hg j.at_;have hl:∀ws:List Int,(ws.map λw=> [j.at_,w]).flatten.length=2*ws.length:=by
   intro ws;induction ws with
   |nil=>rfl
   |cons w ws ih=>simp only[wj,List.flatten_cons,u0,ih,vA,List.length_nil];omega
  simp only[u0,hl];show((j.out.length+2*(AF g j.at_).length:Nat):Int)<=32*(j.at_+1);omega
 all_goals exact absurd (e6.symm.trans e) zD
theorem Lh {g:Gr} {k a:Int} (hg:AP g) (h:DO g k a=0):Gu g (B9 g k a):=by
 have hn:=hg.2.1;have hn0:=hg.1;unfold DO at h;split at h
 .simp at h
 .rename_i hk;split at h
  .simp at h
  .rename_i ha;have hk' :1<=k/\k<=6:=zO;have ha' :named k=true->0<=a/\a<g.n:=λe=>by
    by_cases c:0<=a/\a<g.n
    .exact c
    .exact absurd ⟨e,c⟩ ha
   refine⟨hk'.1,hk'.2,λe=>?_,wM _,hn0,λe=>?_,λe=>?_,λe=>?_,λe=>?_,λe=>?_,λe=>?_,λe=>?_⟩
   .have e' :named k=true:=e;simp only[B9,e',if_true];exact ha' e'
   .have e' :k≠4:=e;simp[B9,e']
   all_goals (have e' :k=_:=e)
   .subst e';simp[B9]
   .subst e';simp[B9]
   .subst e';simp[B9]
   .subst e';have ha2:=ha' rfl;have hlen:(uP g.n.toNat (-1:Int)).length=g.n.toNat:=zS;have hl:a.toNat<(uP g.n.toNat (-1:Int)).length:=zO;simp only[B9,if_true];have ngl:∀n:Nat,Jg (uP n (-1:Int))=n:=λn=>by simp[Jg,List.countP_replicate]
    have hneg:=N5 (uP g.n.toNat (-1:Int)) a.toNat 0 hl zS zO;rw[ngl] at hneg;refine⟨by rw[Mo,hlen];omega,by rw[Mo,hlen];simp only[si,wR];omega,zS,λx hx=>?_,λx hx=>?_⟩
    .simp only[wA] at hx;subst hx;refine⟨ha2.1,ha2.2,?_⟩;simp only[gi,si,vf];rw[uO hl];simp
    .rcases Mp hx with hx|rfl
     .have:=(List.mem_replicate.1 hx).2;subst this;simp
     .simp
   .subst e';simp only[B9,if_true,show¬((5:Int)=4) by decide,if_false];refine⟨by simp[Mc];omega,λx hx=>?_⟩;simp only[Mc,vH,xj] at hx;obtain⟨i,hi,rfl⟩:=hx;omega
   .subst e';simp[B9]
def FU (g:Gr) (j x:B7):Bool:=HW g j (GO g x+1) x
theorem Li {g:Gr} {j:B7} (hg:AP g):∀(k:Nat) (x:B7),Gu g x->GO g x<k->HW g j k x=FU g j x
 |0,x,_,h=>zO
 |k+1,x,hx,h=>by
  unfold FU;simp only[HW];by_cases e:x=j
  .rw[zP e,zP e]
  .rw[zM e,zM e];cases ho:BX g x with
   |true=>rfl
   |false=>
    simp only[vt,if_false];obtain⟨h1,h2⟩:=HM hg hx ho;rw[Li hg k _ h1 zO,Li hg (GO g x) _ h1 h2]
theorem IV {g:Gr} {j x:B7} (h:x=j):FU g j x=true:=by unfold FU;simp only[HW];rw[zP h]
theorem Mq {g:Gr} {j x:B7} (h:x≠j) (ho:BX g x=true):FU g j x=false:=by unfold FU;simp only[HW];rw[zM h,zP ho]
theorem Kw {g:Gr} {j x:B7} (hg:AP g) (hx:Gu g x) (h:x≠j) (ho:BX g x=false):FU g j x=FU g j (A8 g x):=by
 conv=>lhs;unfold FU;simp only[HW]
 rw[zM h,ho];simp only[vt,if_false];obtain⟨h1,h2⟩:=HM hg hx ho;exact Li hg _ _ h1 h2
theorem HN (g:Gr) (j:B7):Ct g j=(decide (DO g j.kind j.a=0)&&FU g j (B9 g j.kind j.a)):=rfl
theorem Gu.small {g:Gr} {j:B7} (hg:AP g) (h:Gu g j):j.list.length<=16/\j.out.length<=512:=by
 have hn:=hg.2.1;have:=h.an;by_cases e4:j.kind=4
 .have c:=h.c4 e4;omega
 .refine⟨by rw[h.ls e4];simp,?_⟩;have k1:=h.k1;have k2:=h.k2;have:j.kind=1\/j.kind=2\/j.kind=3\/j.kind=5\/j.kind=6:=zO;rcases this with e|e|e|e|e
  .have:=h.c1 e;omega
  .have:=h.c2 e;omega
  .have:=(h.c3 e).1;omega
  .have:=(h.c5 e).1;omega
  .have:=h.c6 e;omega
theorem Eu (xs:List Int) (i:Nat) (x:Int):(Ab xs).set i (iN x)=Ab (xs.set i x):=by simp[Ab]
theorem IM {α β:Type} (f:β->α->β) (s:β) (ws:List α) (k:Nat) (h:k<ws.length):(ws.take (k+1)).foldl f s=f ((ws.take k).foldl f s) ws[k]:=by
 rw[uV,uT h,List.foldl_append];rfl
theorem eO (g:Gr) (j:B7) (hgi:G5 g) (hg:AP g) (h:Gu g j) (h5:j.kind=5) (ho:BX g j=false):Ac pg 254 [.agg (A1 false g),pt 0] [lv (BY true j)] (λr M=>r= .tup []/\M=[lv (BY true (A8 g j))]):=by
 obtain⟨c1,c2⟩:=h.c5 h5;obtain⟨n,hn⟩:=uS hg.1;obtain⟨v,hv⟩:=uS h.a0;have hn16:n<=16:=by have:=hg.2.1;omega
 have hvn:v<n:=by
  simp[BX,h5] at ho;omega
 have hlo:j.out.length=n:=zO;have hout:g.out.length=n:=by have:=hg.2.2.1;omega
 have hvl:v<g.out.length:=zO;have hb:AF g j.at_=g.out[v]:=by rw[hv];simp[AF,vf,uT hvl]
 have hws:∀w∈g.out[v],0<=w/\w<g.n:=λw hw=>Hd hg (v:=j.at_) (by rw[hb];exact hw);have hwl:g.out[v].length<=16:=by rw[<-hb];exact Dc hg _
 have hf:=λk=>JQ (n:=g.n) (v:=(v:Int)) ⟨zO,zO⟩ (g.out[v].take k) (j.out,j.move) (λw hw=>hws w (wh hw)) c1 c2;refine zE (fn:=Tryz.f254) [] ?_;rw[Aq];refine W.weak (sX 0 5) ?_;refine x6 ?_;refine zg (an hv hvl) ?_;refine zb ?_;refine sV (λk:Nat=> [(1,pt 0),(2,pt 2),(4,iN v),(16,.ro g.out[v].length (Ab g.out[v])),(17,iN g.out[v].length),(18,iN k)]) (λk=> [lv [iN j.kind,iN j.a,iN v,.bool ((g.out[v].take k).foldl (B1 v) (j.out,j.move)).2,.own 1 j.list.length (Ab j.list),.tok 1 0 1 0 n],lv (Ab ((g.out[v].take k).foldl (B1 v) (j.out,j.move)).1),lv (A1 false g)]) (λk=>g.out[v].length-k) (λk=>k<=g.out[v].length) 0 ?_ zS ?_
 .rw[hlo];exact Wk.fr zK
 .intro k hk;refine zs ?_;refine zc ?_ ?_<;>intro h
  .refine W.skip ?_;have hlt:k<g.out[v].length:=zO;have hst:=IM (B1 (v:Int)) (j.out,j.move) g.out[v] k hlt;obtain⟨f1,f2,_⟩:=hf k;have hw:=hws _ (uQ hlt);generalize (g.out[v].take k).foldl (B1 v) (j.out,j.move)=s at*;obtain⟨w,hwe⟩:=uS hw.1;rw[hwe] at hst hw;have hl1:v<s.1.length:=zO;have hl2:w<s.1.length:=zO;have hmin:min s.1[v] s.1[w]=if s.1[w]<s.1[v] then s.1[w] else s.1[v]:=by split<;>omega
   have hps:B1 (v:Int) s w=((s.1.set v (if s.1[w]<s.1[v] then s.1[w] else s.1[v])).set w (if s.1[w]<s.1[v] then s.1[w] else s.1[v]),s.2||!decide (s.1[v]=s.1[w])):=by
    simp only[B1,EC hl1,EC hl2,si,hmin];rfl
   rw[hps] at hst;refine zb ?_;refine zg (an hlt hwe) ?_;refine zh (an hl1 hl2) ?_;cases hm:s.2
   .refine zh (an hl1 (an hl2 hm)) ?_;rw[hm] at hst;refine zh (an hl1 hl2) ?_;rw[Eu,Eu];refine zs ?_;refine⟨k+1,zO,zO,?_⟩;rw[hst];exact Wk.fr zK
   .refine zh (an hl1 (an hl2 hm)) ?_;rw[hm] at hst;refine zh (an hl1 hl2) ?_;rw[Eu,Eu];refine zs ?_;refine⟨k+1,zO,zO,?_⟩;rw[hst];exact Wk.fr zK
  .refine s7 ?_;have hk' :k=g.out[v].length:=zO;subst hk';rw[uW];have hvis:A8 g j=(if (v:Int)+1=n/\(g.out[v].foldl (B1 v) (j.out,j.move)).2=true then{j with at_:=0,move:=false,out:=(g.out[v].foldl (B1 v) (j.out,j.move)).1} else{j with at_:=(v:Int)+1,move:=(g.out[v].foldl (B1 v) (j.out,j.move)).2,out:=(g.out[v].foldl (B1 v) (j.out,j.move)).1}):=by
    rw[hv] at hb;simp[A8,h5,hb,hv,hn]
   have hfin:=(hf g.out[v].length).1;rw[uW] at hfin;rw[hvis];generalize g.out[v].foldl (B1 v) (j.out,j.move)=s at*;have hsl:s.1.length=n:=zO;refine zs ?_;refine W.weak (sY (B:=0) (v:=0) (j:=5) (T:=1) (u:=0) (s:=1) (off:=0) (n:=n) (xs:=Ab s.1) zF zF zF zS Ao zS) ?_;by_cases hvn1:(v:Int)+1=n
   .cases hm:s.2
    .refine yp (an hvn1 (an hn hm)) ?_;(try simp only[BN,Cn,CB,CC,if_true]);refine Fw (d:=0) ?_;simp -implicitDefEqProofs (disch:=omega);exact⟨hvn1.symm,hsl.symm,by rw[uM zO]⟩
    .refine yp (an hvn1 (an hn hm)) ?_;(try simp only[BN,Cn,CB,CC,if_true]);refine Fw (d:=0) ?_;simp -implicitDefEqProofs (disch:=omega);simp[hvn1,hsl];rw[uM zO]
   .refine yp (an hvn1 hn) ?_;(try simp only[BN,Cn,CB,CC,if_true]);refine Fw (d:=0) ?_;simp -implicitDefEqProofs (disch:=omega);simp[hvn1,hsl];rw[uM zO]
theorem Ce {g:Gr} {v:Nat} (h:v<g.out.length):AF g (v:Int)=g.out[v]:=by simp[AF,vf,uT h]
def GM (v:Int) (ws:List Int):List Int:=(ws.map λw=> [v,w]).flatten
theorem SJ (v:Int) (ws:List Int) (w:Int):GM v (ws++[w])=GM v ws++[v,w]:=by simp[GM]
theorem M8 (v:Int) (ws:List Int):(GM v ws).length=2*ws.length:=by
 unfold GM
 induction ws with
 |nil=>rfl
 |cons w ws ih=>simp only[wj,List.flatten_cons,u0,ih,vA,List.length_nil];omega
theorem Uu (g:Gr) (j:B7) (hgi:G5 g) (hg:AP g) (h:Gu g j) (ho:BX g j=false):Ac pg 217 [.agg (A1 false g),pt 0] [lv (BY true j)] (λr M=>r= .tup []/\M=[lv (BY true (A8 g j))]):=by
 obtain⟨n,hn⟩:=uS hg.1;obtain⟨v,hv⟩:=uS h.a0;have hn16:n<=16:=by have:=hg.2.1;omega
 have hvn:v<=n:=by have:=h.an;omega
 have hout:g.out.length=n:=by have:=hg.2.2.1;omega
 have hk1:=h.k1;have hk2:=h.k2;have hsm:=h.small hg;have hwl:∀i (hi:i<g.out.length),g.out[i].length<=16:=λi hi=>by rw[<-Ce hi];exact Dc hg _
 by_cases h5:j.kind=5
 .refine zE (fn:=Tryz.f217) [] ?_;rw[Aq];refine AX ?_;refine yl h5 ?_;intro K hK;refine sZ [0] (eO g j hgi hg h h5 ho) zS (by simp[h5]) zS zS ?_;rintro r M ⟨rfl,rfl⟩ _;refine Am ?_;exact zR
 by_cases h1:j.kind=1
 .have ha:=h.na (by rw[h1];rfl);obtain⟨a,hae⟩:=uS ha.1;have hal:a<g.out.length:=zO;have hvis:A8 g j={j with at_:=(v:Int)+1,out:=g.out[a]}:=by
   simp[A8,h1,hv,hae,Ce hal]
  rw[hvis];refine zE (fn:=Tryz.f217) [] ?_;rw[Aq];refine AX ?_;refine xL h1 ?_;refine yf hv h1 ?_;refine zw ?_;refine W.block (tN ?_);refine xP h1 ?_;refine OC (an hae hal) (IU g.out[a] (by have:=hwl a hal;omega)) ?_;refine⟨_,_,Wk.inn 0 5,?_⟩;(try simp only[BN,Cn,CB,CC,if_true]);refine Fw (d:=0) ?_;simp -implicitDefEqProofs (maxSteps:=999999) (disch:=omega);exact⟨h1.symm,hae.symm⟩
 have hvn2:j.kind≠4->v<n:=by
  intro h4;unfold BX at ho;simp[h1,h4] at ho;omega
 by_cases h2:j.kind=2
 .have hvl:v<g.out.length:=by have:=hvn2 zO;omega
  have hc2:=h.c2 h2;have hvis:A8 g j={j with at_:=(v:Int)+1,out:=j.out++if g.out[v].contains j.a=true then [(v:Int)] else []}:=by
   simp[A8,h2,hv,Ce hvl]
  rw[hvis];refine zE (fn:=Tryz.f217) [] ?_;rw[Aq];refine AX ?_;refine xL h2 ?_;refine yf hv h2 ?_;refine zw ?_;refine W.block (tN ?_);refine xO h2 ?_;refine xP h2 ?_;refine E1 ?_;intro K hK;simp -implicitDefEqProofs (maxSteps:=999999) (disch:=omega) [hvl];refine s6 (FQ g.out[v] j.a (by have:=hwl v hvl;omega)) (by simp) (by simp) ?_;cases hc:g.out[v].contains j.a
  .refine x5 hc ?_;refine⟨_,_,Wk.refl,?_⟩;(try simp only[BN,Cn,CB,CC,if_true]);refine Fw (d:=0) ?_;simp -implicitDefEqProofs (maxSteps:=999999) (disch:=omega);have hc' :¬j.a∈g.out[v]:=by simpa using hc
   simp[h2,hc']
  .refine xK hc ?_;refine zt ?_;refine W.weak (sX 0 5) ?_;refine z1 ?_;intro K hK;refine⟨zO,zO,?_⟩;refine zk ?_;have e:Ab j.out++[AV.int .i64 v]=Ab (j.out++[(v:Int)]):=by simp[Ab]
   rw[e];refine⟨_,_,sY (B:=0) (v:=0) (j:=5) (T:=2) (u:=1) (s:=1) (off:=0) (n:=(j.out.length+1)) (xs:=Ab (j.out++[(v:Int)])) zF zF zF zS zS zS,?_⟩;(try simp only[BN,Cn,CB,CC,if_true]);refine Fw (d:=0) ?_;simp -implicitDefEqProofs (maxSteps:=999999) (disch:=omega);have hc' :j.a∈g.out[v]:=by simpa using hc
   simp[h2,hc'];rw[uM zS]
 by_cases h3:j.kind=3
 .have hvl:v<g.out.length:=by have:=hvn2 zO;omega
  obtain⟨hc3,hc3b⟩:=h.c3 h3;obtain⟨m,hm⟩:∃m,m=g.out[v].length:=zX;have hm16:m<=16:=by have:=hwl v hvl;omega
  have hvis:A8 g j={j with at_:=(v:Int)+1,out:=si (Ek j.out m) m (gi (Ek j.out m) m+1)}:=by
   simp[A8,h3,hv,Ce hvl,hm]
  rw[hvis];refine zE (fn:=Tryz.f217) [] ?_;rw[Aq];refine AX ?_;refine xL h3 ?_;refine yf hv h3 ?_;refine zw ?_;refine W.block (tN ?_);refine yn h3 h3 ?_;refine xP h3 ?_;refine W.weak (sX 0 5) ?_;rw[show Ab j.out=Ab (j.out++uP 0 0) by simp];refine zb ?_;refine sV (λk:Nat=> [(1,pt 0),(2,pt 1),(4,iN v)]) (λk=> [lv [iN 3,iN j.a,iN ((v:Int)+1),.bool j.move,.own 1 j.list.length (Ab j.list),.tok 2 k 1 0 (j.out.length+k)],lv (A1 false g),.live k (Ab (j.out++uP k 0))]) (λk=>m+1-(j.out.length+k)) (λk=>k=0\/j.out.length+k<=m+1) 0 (Wk.fr zK) (.inl rfl) ?_;intro k hk;by_cases hle:j.out.length+k<=g.out[v].length
  .refine zh (an hvl hle) ?_;refine y3 ?_;refine z1 ?_;intro K hK;refine⟨zO,zO,?_⟩;refine zk ?_;have e:Ab (j.out++uP k 0)++[AV.int .i64 0]=Ab (j.out++uP (k+1) 0):=by rw[List.replicate_succ'];simp[Ab]
   refine⟨k+1,zO,.inr zO,sU (k:=3) zK ?_ zS zS zS zS⟩;rw[<-e];rfl
  .refine yp (an hvl hle) ?_;have hU:j.out++uP k 0=Ek j.out m:=by rw[Ek,show m+1-j.out.length=k by omega]
   have hUl:(Ek j.out m).length=j.out.length+k:=by rw[<-hU];simp
   have hml:m<(Ek j.out m).length:=zO;have hUb:∀y∈Ek j.out m,0<=y/\y<=j.at_:=λy hy=>by
    rcases N6 hy with hy|rfl
    .exact hc3b y hy
    .exact⟨wM _,h.a0⟩
   have hb:=hUb _ (uQ hml);rw[hU,EC hml,si];simp only[vE];generalize Ek j.out m=U at*;subst hm;refine zh (an hvl hml) ?_;rw[Eu];refine⟨_,_,sY (B:=0) (v:=0) (j:=5) (T:=2) (u:=k) (s:=1) (off:=0) (n:=(j.out.length+k)) (xs:=Ab (U.set g.out[v].length (U[g.out[v].length]+1))) (by rfl) (by rfl) (by simp[Ah]) (by simp) (by simp;try omega) (by simp),?_⟩;(try simp only[BN,Cn,CB,CC,if_true]);refine Fw (d:=0) ?_;simp -implicitDefEqProofs (maxSteps:=999999) (disch:=omega);simp[h3,hUl];rw[uM Ao]
 by_cases h6:j.kind=6
 .have hvl:v<g.out.length:=by have:=hvn2 zO;omega
  have hc6:=h.c6 h6;have hvis:A8 g j={j with at_:=(v:Int)+1,out:=j.out++GM v g.out[v]}:=by
   simp[A8,h6,hv,Ce hvl,GM]
  rw[hvis];refine zE (fn:=Tryz.f217) [] ?_;rw[Aq];refine AX ?_;refine xL h6 ?_;refine yf hv h6 ?_;refine zw ?_;refine W.block (tN ?_);refine yn h6 h6 ?_;refine yn h6 h6 ?_;refine xP h6 ?_;refine W.weak (sX 0 5) ?_;refine Dx ?_;intro K hK;simp -implicitDefEqProofs (maxSteps:=999999) (disch:=omega) [hvl];refine zk ?_;rw[show Ab j.out=Ab (j.out++GM v (g.out[v].take 0)) by simp[GM]];have hvv:=hwl v hvl;refine zb ?_;refine sV (λk:Nat=> [(1,pt 0),(2,pt 1),(4,iN v),(163,.ro g.out[v].length (Ab g.out[v])),(164,iN g.out[v].length),(165,iN k)]) (λk=> [lv [iN 6,iN j.a,iN ((v:Int)+1),.bool j.move,.own 1 j.list.length (Ab j.list),.tok 2 k 1 0 (j.out.length+2*k)],lv (A1 false g),.live k (Ab (j.out++GM v (g.out[v].take k)))]) (λk=>g.out[v].length-k) (λk=>k<=g.out[v].length) 0 (Wk.fr zK) zS ?_;intro k hk;refine zs ?_;refine zc ?_ ?_<;>intro h
  .refine W.skip ?_;have hlt:k<g.out[v].length:=zO;have hto:g.out[v].take (k+1)=g.out[v].take k++[g.out[v][k]]:=by rw[uV];simp[hlt]
   refine zb ?_;have hr2:Bv 2 [AV.int .i64 0]=[AV.int .i64 0,AV.int .i64 0]:=rfl;have hpk:(GM v (g.out[v].take k)).length=2*k:=by rw[M8];simp;omega
   refine Dx ?_;intro K hK;simp -implicitDefEqProofs (maxSteps:=999999) (disch:=omega) [hlt];refine zk ?_;refine GQ (an hr2 hpk) ?_;intro K hK;refine⟨zO,zO,?_⟩;refine xM ?_;have e:Ab (j.out++GM v (g.out[v].take k))++[AV.int .i64 v,AV.int .i64 g.out[v][k]]=Ab (j.out++GM v (g.out[v].take (k+1))):=by rw[hto,SJ];simp[Ab]
   refine⟨k+1,zO,zO,sU (k:=3) zK ?_ zS zS zS zS⟩;rw[<-e];rfl
  .refine s7 ?_;have hk' :k=g.out[v].length:=zO;subst hk';rw[uW];have hfl:=M8 (v:Int) g.out[v];refine⟨_,_,sY (B:=0) (v:=0) (j:=5) (T:=2) (u:=g.out[v].length) (s:=1) (off:=0) (n:=(j.out.length+2*g.out[v].length)) (xs:=Ab (j.out++GM v g.out[v])) zF zF (by simp[Ah]) zS (by simp only[Yr,u0,hfl];omega) zS,?_⟩;(try simp only[BN,Cn,CB,CC,if_true]);refine Fw (d:=0) ?_;simp -implicitDefEqProofs (maxSteps:=999999) (disch:=omega);refine⟨h6.symm,?_,?_⟩
   .rw[hfl]
   .rw[uM (by rw[u0,hfl];exact vg _)]
 have h4:j.kind=4:=zO;obtain⟨c1,c2,c3,c4,c5⟩:=h.c4 h4;have hvl:v<j.list.length:=by simp[BX,h4] at ho;omega
 have hm:=c4 _ (uQ hvl);obtain⟨u,hu⟩:=uS hm.1;rw[hu] at hm;have hul:u<g.out.length:=zO;have hul2:=hwl u hul;have hws:∀w∈g.out[u],0<=w/\w<g.n:=λw hw=>Hd hg (v:=(u:Int)) (by rw[Ce hul];exact hw);have hf:=λk=>Lg (n:=g.n) (v:=(u:Int)) ⟨hm.1,hm.2.1⟩ (g.out[u].take k) (j.out,j.list) (λw hw=>hws w (wh hw)) hm.2.2 c1 c2 c4 c5;have hvis:A8 g j={j with at_:=(v:Int)+1,out:=(g.out[u].foldl (BE u) (j.out,j.list)).1,list:=(g.out[u].foldl (BE u) (j.out,j.list)).2}:=by
  have e:gi j.list (v:Int)=(u:Int):=by rw[EC hvl,hu]
  simp[A8,h4,hv,e,Ce hul]
 rw[hvis];refine zE (fn:=Tryz.f217) [] ?_;rw[Aq];refine AX ?_;refine xL h4 ?_;refine yf hv h4 ?_;refine zw ?_;refine W.block (tN ?_);refine yn h4 h4 ?_;refine xO h4 ?_;refine xP h4 ?_;refine W.weak (sX 0 4) ?_;refine W.weak (sX 0 5) ?_;refine zg (an hvl hu) ?_;refine Dx ?_;intro K hK;simp -implicitDefEqProofs (maxSteps:=999999) (disch:=omega) [hul];refine zk ?_;rw[show j.out.length=n by omega];refine zb ?_;refine sV (λk:Nat=> [(1,pt 0),(2,pt 1),(4,iN u),(118,.ro g.out[u].length (Ab g.out[u])),(119,iN g.out[u].length),(120,iN k)]) (λk=> [lv [iN 4,iN j.a,iN ((v:Int)+1),.bool j.move,.tok 2 (((g.out[u].take k).foldl (BE u) (j.out,j.list)).2.length-j.list.length) 1 0 ((g.out[u].take k).foldl (BE u) (j.out,j.list)).2.length,.tok 3 0 1 0 n],lv (A1 false g),.live (((g.out[u].take k).foldl (BE u) (j.out,j.list)).2.length-j.list.length) (Ab ((g.out[u].take k).foldl (BE u) (j.out,j.list)).2),lv (Ab ((g.out[u].take k).foldl (BE u) (j.out,j.list)).1)]) (λk=>g.out[u].length-k) (λk=>k<=g.out[u].length) 0 ?_ zS ?_
 .have e:((g.out[u].take 0).foldl (BE u) (j.out,j.list))=(j.out,j.list):=rfl;rw[e];simp only[Nat.sub_self];exact Wk.fr zK
 intro k hk;refine zs ?_;refine zc ?_ ?_<;>intro h
 .refine W.skip ?_;have hlt:k<g.out[u].length:=zO;have hst:=IM (BE (u:Int)) (j.out,j.list) g.out[u] k hlt;obtain⟨f0,f1,f2,f3,f4,f5⟩:=hf k;have hw:=hws _ (uQ hlt);generalize (g.out[u].take k).foldl (BE u) (j.out,j.list)=s at*;simp only at f5;obtain⟨w,hwe⟩:=uS hw.1;rw[hwe] at hw hst;have hl1:u<s.1.length:=zO;have hl2:w<s.1.length:=zO;rw[EC hl1] at f0;have hub:=f4 _ (uQ hl1);have hs2:s.2.length<=16:=zO;refine zb ?_;refine zg (an hlt hwe) ?_;by_cases hneg:s.1[w]<0
  .have hps:BE (u:Int) s w=(s.1.set w (s.1[u]+1),s.2++[(w:Int)]):=by
    simp only[BE,EC hl1,EC hl2,si];rw[zP hneg];rfl
   rw[hps] at hst;refine xP (an hl2 hneg) ?_;(repeat refine ta ?_);refine tj 1 [(132,149),(132,151),(133,149),(133,151),(134,149),(134,151),(138,149),(138,151),(139,149),(139,151),(140,149),(140,151),(141,149),(141,151),(142,149),(142,151),(143,149),(143,151)] rfl true Df AK λK hK=>?_;simp -implicitDefEqProofs (maxSteps:=999999) (disch:=omega) [hl1,hl2];(repeat refine⟨by first|assumption|omega,?_⟩);refine hK _ _ (by simp(disch:=omega)) ?_;clear hK K;rw[Eu];refine zs ?_;refine⟨k+1,zO,zO,?_⟩;rw[hst];have hver:(s.2++[(w:Int)]).length-j.list.length=s.2.length-j.list.length+1:=Ao;have e:Ab s.2++[AV.int .i64 w]=Ab (s.2++[(w:Int)]):=by simp[Ab]
   simp only[hver];refine sU (k:=4) zK ?_ zS zS zS zS;rw[e];simp
  .have hps:BE (u:Int) s w=s:=by
    simp only[BE,EC hl2];rw[zM hneg]
   rw[hps] at hst;refine xL (an hl2 hneg) ?_;refine⟨k+1,zO,zO,?_⟩;rw[hst];exact Wk.fr zK
 .refine s7 ?_;have hk' :k=g.out[u].length:=zO;subst hk';rw[uW];obtain⟨f0,f1,f2,f3,f4,f5⟩:=hf g.out[u].length;rw[uW] at f1;generalize g.out[u].foldl (BE u) (j.out,j.list)=s at*;refine⟨_,_,(sY (B:=0) (v:=0) (j:=4) (T:=2) (u:=s.2.length-j.list.length) (s:=1) (off:=0) (n:=s.2.length) (xs:=Ab s.2) zF zF (by simp[Ah]) zS zS zS).trans (sY (B:=0) (v:=0) (j:=5) (T:=3) (u:=0) (s:=1) (off:=0) (n:=n) (xs:=Ab s.1) zF zF zF zS Ao zS),?_⟩;(try simp only[BN,Cn,CB,CC,if_true]);refine Fw (d:=0) ?_;simp -implicitDefEqProofs (maxSteps:=999999) (disch:=omega);exact⟨h4.symm,zO,by rw[uM zO]⟩
def nD (j:B7):Prop:=j.list.length<1000000000/\j.out.length<1000000000
theorem WS (hR:BK) (g:Gr) (j:B7) (hgi:G5 g) (hg:AP g) (hj:j.list.length<1000000000/\j.out.length<1000000000):Ac pg 176 [.agg (A1 false g),.agg (BY false j)] [] (λr _=>r= .bool (Ct g j)):=by
 refine zE (fn:=Tryz.f176) [.tmp 4] ?_;rw[Aq];refine Cx ?_;refine uy (λ_ _ _ h=>h) ?_;by_cases hk:DO g j.kind j.a=0;rotate_left
 .have sp:=PM hR g j.kind j.a hgi hg;rw[zM hk] at sp;refine EU sp ?_;refine xS hk ?_;simp[Ct,hk]
 have sp:=PM hR g j.kind j.a hgi hg;rw[zP hk] at sp;have hb:=Lh hg hk;have hx0:Ct g j=FU g j (B9 g j.kind j.a):=by rw[HN,zT hk,Bool.true_and]
 refine z1 ?_;intro K hK;refine sW sp (by simp) (by simp) ?_;generalize B9 g j.kind j.a=x0 at*;refine Am ?_;have hsm:=hb.small hg;refine W.weak (Wk.inn 2 4) ?_;refine W.weak (Wk.inn 2 5) ?_;refine th hk ?_;refine ta ?_;refine ut ?_;refine zb ?_;refine sV (λx:B7=> [(2,pt 0),(3,pt 1),(5,pt 2)]) (λx=> [lv (A1 false g),lv (BY false j),lv (BY true x)]) (λx=>GO g x) (λx=>Gu g x/\FU g j x=FU g j x0) x0 (sU (k:=3) zK zS zS zS zS zS) ⟨hb,rfl⟩ ?_;rintro x ⟨hx,hxj⟩;refine y2 ?_;refine W.weak (sX 2 4) ?_;refine W.weak (sX 2 5) ?_;have hsx:=hx.small hg;by_cases e:x=j
 .refine z0 ?_;intro K hK;refine sW (WK x j (by omega)) (by simp) (by simp) ?_;refine x7 e ?_;rw[hx0,<-hxj,IV e]
 .refine z0 ?_;intro K hK;refine sW (WK x j (by omega)) (by simp) (by simp) ?_;refine xK e ?_;refine zn ?_;refine z0 ?_;intro K hK;refine sW (Ks g x (by omega)) (by simp) (by simp) ?_;cases ho:BX g x
  .refine x4 ?_;refine W.weak (Wk.inn 2 4) ?_;refine W.weak (Wk.inn 2 5) ?_;refine z0 ?_;intro K hK;refine sZ [2] (Uu g x hgi hg hx ho) zS zS zS zS ?_;rintro r M ⟨rfl,rfl⟩ _;refine Am ?_;obtain⟨h1,h2⟩:=HM hg hx ho;refine⟨A8 g x,h2,⟨h1,by rw[<-Kw hg hx e ho];exact hxj⟩,sU (k:=3) zK zS zS zS zS zS⟩
  .refine Am ?_;refine Ck ?_;rw[hx0,<-hxj,Mq e ho]
theorem YL:∀{ws:List Obj} {g:Gr},DN Cs CF ws=some g->AP g
 | [],g,h=>by simp[DN] at h;subst h;exact JK
 |o::w,g,h=>by
  simp only[DN] at h;split at h
  .exact IL h
  .split at h
   .simp at h
   .exact IL h
theorem Da (l:List Obj) (id:Int):AP (AT l id).1:=by
 unfold AT;split
 .exact JK
 .split
  .rename_i g hg;exact YL hg
  .exact JK
theorem AP.inn {g:Gr} (h:AP g):G5 g:=⟨by have:=h.2.1;have:=h.2.2.1;omega,λl hl=>by have:=Bw (h.2.2.2.1 l hl).1;omega⟩
theorem WT (hR:BK) (s:An) (x:B3) (hs:A0 s) (hx:FT x) (hm:BJ (Ae s)) (ho:x.opn=false):Ac pg 126 [.agg (Aj false s),.agg (Af false x)] [] (λr _=>r= .bool (decide (AQ s (Ae s) x))):=by
 have e0:(x=BU)↔x.opn=false/\x.pin=0/\x.on=false/\x.frm=0/\x.sT=Az/\x.job=A3:=B3.ext_iff;refine zE (fn:=Tryz.f126) [.tmp 4] ?_;rw[Aq];refine Cx ?_;refine zb ?_;refine xP ho ?_;by_cases hp:x.pin=0
 .cases hon:x.on
  .by_cases hf:x.frm=0
   .refine BS (an hp (an hon hf)) ?_;intro K hK;refine sW (Sp x.sT) (by simp) (by simp) ?_;by_cases hst:x.sT=Az
    .rw[zT hst];refine zx ?_;refine xN (Mj x.job (by have:=hx.2.1;have:=hx.2.2;omega)) ?_;refine zr ?_;simp[AQ,e0,ho,hp,hon,hf,hst]
    .rw[zV hst];refine xU ?_;simp[AQ,e0,ho,hp,hon,hf,hst]
   .refine xQ (an hp (an hon hf)) ?_;simp[AQ,e0,ho,hp,hon,hf]
  .refine xQ (an hp hon) ?_;simp[AQ,e0,ho,hp,hon]
 .refine xQ hp ?_;simp[AQ,e0,ho,hp]
theorem WU (hR:BK) (s:An) (x:B3) (hs:A0 s) (hx:FT x) (hm:BJ (Ae s)) (ho:x.opn=true) (hp:x.pin=0):Ac pg 126 [.agg (Aj false s),.agg (Af false x)] [] (λr _=>r= .bool (decide (AQ s (Ae s) x))):=by
 refine zE (fn:=Tryz.f126) [.tmp 4] ?_;rw[Aq];refine Cx ?_;refine zb ?_;refine yn ho hp ?_;cases hon:x.on
 .refine zh hon ?_;refine zn ?_;by_cases hf:x.frm=0
  .refine BS (an hon hf) ?_;intro K hK;refine sW (Sp x.sT) (by simp) (by simp) ?_;by_cases hst:x.sT=Az
   .rw[zT hst];refine Am ?_;refine zn ?_;refine z0 ?_;intro K hK;refine sW (Mj x.job (by have:=hx.2.1;have:=hx.2.2;omega)) (by simp) (by simp) ?_;by_cases hj:x.job=A3
    .rw[zT hj];refine xX ?_;simp[AQ,ho,hp,hon,hf,hst,hj]
    .rw[zV hj];refine Am ?_;refine zn ?_;refine xS hp ?_;simp[AQ,ho,hp,hon,hf,hst,hj]
   .rw[zV hst];refine xX ?_;simp[AQ,ho,hp,hon,hf,hst]
  .refine xS (an hon hf) ?_;simp[AQ,ho,hp,hon,hf]
 .by_cases hf:x.frm<0
  .refine zh (an hon hf) ?_;refine AJ ?_;simp[AQ,ho,hp,hon]
   try omega
  .by_cases hl:At s.sQ<x.frm
   .refine Dy (an hon hf) ?_;intro K hK;refine s6 (EV s hs) (by simp) (by simp) ?_;refine x7 hl ?_;simp[AQ,ho,hp,hon]
    try omega
   .refine Dy (an hon hf) ?_;intro K hK;refine s6 (EV s hs) (by simp) (by simp) ?_;refine AO hl ?_;refine s6 (Jc x.sT hx.1) (by simp) (by simp) ?_;by_cases hst:AP x.sT
    .rw[zT hst];refine Am ?_;refine zn ?_;refine xO hon ?_;have hf' :0<=x.frm:=zO;have hl' :x.frm<=At s.sQ:=zO;refine z0 ?_;intro K hK;refine sW (Mj x.job (by have:=hx.2.1;have:=hx.2.2;omega)) (by simp) (by simp) ?_;by_cases hj:x.job=A3
     .rw[zT hj];refine xX ?_;simp[AQ,ho,hp,hon,hf',hl',hst,hj]
     .rw[zV hj];refine Am ?_;refine zn ?_;refine xS hp ?_;simp[AQ,ho,hp,hon,hf',hl',hst,hj]
    .rw[zV hst];refine xX ?_;simp[AQ,ho,hp,hon,hst]
theorem WV (hR:BK) (s:An) (x:B3) (hs:A0 s) (hx:FT x) (hm:BJ (Ae s)) (ho:x.opn=true) (hp:¬x.pin=0) (hin:∃v∈s.sQ,v.id=x.pin):Ac pg 126 [.agg (Aj false s),.agg (Af false x)] [] (λr _=>r= .bool (decide (AQ s (Ae s) x))):=by
 refine zE (fn:=Tryz.f126) [.tmp 4] ?_;rw[Aq];refine Cx ?_;refine zb ?_;refine xO ho ?_;refine BS hp ?_;intro K hK;refine sW (HJ s x.pin hs) (by simp) (by simp) ?_;have hix:¬AN (λv:Bn=>decide (v.id=x.pin)) s.sQ<0:=by
  have:=(C9 (f:=λv:Bn=>decide (v.id=x.pin)) (l:=s.sQ)).2 (by simpa using hin);omega
 have hin' :(∃v∈s.sQ,v.id=x.pin)=True:=eq_true hin;refine xK hix ?_;refine zn ?_;cases hon:x.on
 .refine zh hon ?_;refine zn ?_;by_cases hf:x.frm=0
  .refine BS (an hon hf) ?_;intro K hK;refine sW (Sp x.sT) (by simp) (by simp) ?_;by_cases hst:x.sT=Az
   .rw[zT hst];refine Am ?_;refine zn ?_;refine z0 ?_;intro K hK;refine sW (Mj x.job (by have:=hx.2.1;have:=hx.2.2;omega)) (by simp) (by simp) ?_;by_cases hj:x.job=A3
    .rw[zT hj];refine xX ?_;simp[AQ,ho,hp,hin',hon,hf,hst,hj]
    .rw[zV hj];refine Am ?_;refine zn ?_;refine th hp ?_;have hgm:=Da (Ae s) x.pin;have hgi:=hgm.inn;have hre:AQ s (Ae s) x↔(Ct (AT (Ae s) x.pin).1 x.job=true/\BX (AT (Ae s) x.pin).1 x.job=false):=by simp[AQ,ho,hp,hin',hon,hf,hst,hj]
     have spO:=Ss s x.pin hs hm hp;obtain⟨g,hg⟩:∃g,g=(AT (Ae s) x.pin).1:=zX;rw[<-hg] at hgm hgi hre spO;have hde:decide (AQ s (Ae s) x)=(Ct g x.job&&!BX g x.job):=by rw[wX];simp[hre]
     rw[hde];refine EU spO ?_;refine z0 ?_;intro K hK;refine sW (WS hR g x.job hgi hgm hx.2) (by simp) (by simp) ?_;cases hjo:Ct g x.job
     .refine xU ?_;simp[hjo]
     .refine zx ?_;refine xN (Ks g x.job (by have:=hx.2.1;omega)) ?_;refine zr ?_;simp[hjo]
   .rw[zV hst];refine xX ?_;simp[AQ,ho,hp,hin',hon,hf,hst]
  .refine xS (an hon hf) ?_;simp[AQ,ho,hp,hin',hon,hf]
 .by_cases hf:x.frm<0
  .refine zh (an hon hf) ?_;refine AJ ?_;simp[AQ,ho,hp,hin',hon]
   try omega
  .by_cases hl:At s.sQ<x.frm
   .refine Dy (an hon hf) ?_;intro K hK;refine s6 (EV s hs) (by simp) (by simp) ?_;refine x7 hl ?_;simp[AQ,ho,hp,hin',hon]
    try omega
   .refine Dy (an hon hf) ?_;intro K hK;refine s6 (EV s hs) (by simp) (by simp) ?_;refine AO hl ?_;refine s6 (Jc x.sT hx.1) (by simp) (by simp) ?_;by_cases hst:AP x.sT
    .rw[zT hst];refine Am ?_;refine zn ?_;refine xO hon ?_;have hf' :0<=x.frm:=zO;have hl' :x.frm<=At s.sQ:=zO;refine z0 ?_;intro K hK;refine sW (Mj x.job (by have:=hx.2.1;have:=hx.2.2;omega)) (by simp) (by simp) ?_;by_cases hj:x.job=A3
     .rw[zT hj];refine xX ?_;simp[AQ,ho,hp,hin',hon,hf',hl',hst,hj]
     .rw[zV hj];refine Am ?_;refine zn ?_;refine th hp ?_;have hgm:=Da (Ae s) x.pin;have hgi:=hgm.inn;have hre:AQ s (Ae s) x↔(Ct (AT (Ae s) x.pin).1 x.job=true/\BX (AT (Ae s) x.pin).1 x.job=false):=by simp[AQ,ho,hp,hin',hon,hf',hl',hst,hj]
      have spO:=Ss s x.pin hs hm hp;obtain⟨g,hg⟩:∃g,g=(AT (Ae s) x.pin).1:=zX;rw[<-hg] at hgm hgi hre spO;have hde:decide (AQ s (Ae s) x)=(Ct g x.job&&!BX g x.job):=by rw[wX];simp[hre]
      rw[hde];refine EU spO ?_;refine z0 ?_;intro K hK;refine sW (WS hR g x.job hgi hgm hx.2) (by simp) (by simp) ?_;cases hjo:Ct g x.job
      .refine xU ?_;simp[hjo]
      .refine zx ?_;refine xN (Ks g x.job (by have:=hx.2.1;omega)) ?_;refine zr ?_;simp[hjo]
    .rw[zV hst];refine xX ?_;simp[AQ,ho,hp,hin',hon,hst]
theorem WW (hR:BK) (s:An) (x:B3) (hs:A0 s) (hx:FT x) (hm:BJ (Ae s)):Ac pg 126 [.agg (Aj false s),.agg (Af false x)] [] (λr _=>r= .bool (decide (AQ s (Ae s) x))):=by
 cases ho:x.opn
 .exact WT hR s x hs hx hm ho
 by_cases hp:x.pin=0
 .exact WU hR s x hs hx hm ho hp
 by_cases hin:∃v∈s.sQ,v.id=x.pin
 .exact WV hR s x hs hx hm ho hp hin
 refine zE (fn:=Tryz.f126) [.tmp 4] ?_;rw[Aq];refine Cx ?_;refine zb ?_;refine xO ho ?_;refine BS hp ?_;intro K hK;refine sW (HJ s x.pin hs) (by simp) (by simp) ?_;have hix:AN (λv:Bn=>decide (v.id=x.pin)) s.sQ<0:=by
  have:=mt (C9 (f:=λv:Bn=>decide (v.id=x.pin)) (l:=s.sQ)).1 (by simpa using hin);omega
 have hin' :(∃v∈s.sQ,v.id=x.pin)=False:=eq_false hin;refine x7 hix ?_;simp only[AQ,ho,hin',hp];simp
theorem Au {α:Type} {f:α->List AV} {s:Nat} (h:∀x,(f x).length=s) {k i:Nat} {xs:List α} (hk:k<xs.length) (hi:i<s):(Aa f xs)[k*s+i]?=(f xs[k])[i]?:=by
 rw[<-List.getElem?_drop,Ie f h hk,List.getElem?_append_left (by rw[h];exact hi)]
def BO (s:An):Prop:=∀x∈s.sR,FT x
theorem bJ (hR:BK) (s:An) (x:B3) (hs:A0 s) (hx:FT x) (hm:BJ (Ae s)):Ac pg 125 ([.agg (Af false x)]++[.rptr (Aj false s)]) [] (λr _=>r= .bool (!decide (AQ s (Ae s) x))):=by
 refine zE (fn:=Tryz.f125) [.tmp 3] ?_;simp only[List.cons_append,List.nil_append];rw[Aq];refine AX ?_;refine AL (WW hR s x hs hx hm) ?_;exact zR
theorem SK (hR:BK) (s:An) (hs:A0 s) (hx:BO s):Ac pg 92 [.agg (Aj false s)] [] (λr _=>r= .bool (decide (EA s))):=by
 refine zE (fn:=Tryz.f92) [.tmp 2] ?_;rw[AC];refine AX ?_;by_cases hw:HG s;rotate_left
 .refine z0 ?_;intro K hK;refine sW (PJ s hs) (by simp) (by simp) ?_;rw[zV hw];refine xX ?_;exact λh=>hw h.1
 have hm:=hw.2.2.2.2.2.2;by_cases h3:s.sR.length=3;rotate_left
 .refine z0 ?_;intro K hK;refine sW (PJ s hs) (by simp) (by simp) ?_;rw[zT hw];refine x7 h3 ?_;exact λh=>h3 h.2.1
 refine z0 ?_;intro K hK;refine sW (PJ s hs) (by simp) (by simp) ?_;rw[zT hw];have h3' :((s.sR.length:Int)=3)=True:=eq_true zO;refine xK h3' ?_;refine xY ?_;intro K hK;refine sW (Mk s hs) (by simp) (by simp) ?_;obtain⟨l,hl⟩:∃l,l=Ae s:=zX;rw[<-hl];refine yw ?_;refine sV (λk:Nat=> [(1,pt 0),(3,.tok 1 0 4 0 l.length),(19,.tok 1 0 4 0 l.length),(20,iN l.length),(21,iN k)]) (λ_=> [lv (Aj false s),lv (Aa Ar l)]) (λk=>l.length-k) (λk=>k<=l.length/\∀i (h:i<l.length),i<k->(AT l l[i].id).2=0) 0 (Wk.fr ?_) ⟨zO,zS⟩ ?_
 .simp[AA]
 rintro k ⟨hk,hd⟩;refine zs ?_;refine zc ?_ ?_<;>intro h
 .refine W.skip ?_;have hlt:k<l.length:=zO;refine zb ?_;have hml:BJ l:=by rw[hl];exact hm
  have hil:DZ l:=by rw[hl];exact hs.objs
  have spO:=So l l[k].id hil hml;have hil1:=hil.1;obtain⟨g,hg⟩:∃g,g=(AT l l[k].id).1:=zX;rw[<-hg] at spO;have c0:(Aa Ar l)[k*4]?=some (iN l[k].id):=Au (f:=Ar) (s:=4) zL hlt (i:=0) zO;have c1:(Aa Ar l)[k*4+1]?=some (iN l[k].base):=Au (f:=Ar) (s:=4) zL hlt (i:=1) zO;have c2:(Aa Ar l)[k*4+1+1]?=some (.str l[k].data.data):=Au (f:=Ar) (s:=4) zL hlt (i:=2) zO;have c3:(Aa Ar l)[k*4+1+1+1]?=some (iN l[k].data.n):=Au (f:=Ar) (s:=4) zL hlt (i:=3) zO;refine GQ (an hlt (an c0 (an c1 (an c2 c3)))) ?_;intro K hK;refine zk ?_;refine z1 ?_;intro K hK;refine sW spO (by simp) (by simp) ?_;by_cases he:(AT l l[k].id).2=0
  .rw[he];refine Am ?_;refine y4 ?_;refine⟨k+1,zO,⟨zO,?_⟩,sU (k:=2) zK zS zS zS zS zS⟩;intro i hi hik;by_cases e:i=k
   .subst e;exact he
   .exact hd i hi zO
  .obtain⟨e,hee⟩:∃e,e=(AT l l[k].id).2:=zX;rw[<-hee] at he |-;refine Am ?_;refine xS he ?_;intro hM;have:=hM.2.2.1 l[k] (by rw[<-hl];exact uQ hlt);rw[<-hl,<-hee] at this;exact he this
 .refine s7 ?_;have hk' :k=l.length:=zO;subst hk';have hall:∀o∈Ae s,(AT (Ae s) o.id).2=0:=λo ho=>by
   rw[<-hl] at ho |-;obtain⟨i,hi,rfl⟩:=vq.1 ho;exact hd i hi hi
  refine z0 ?_;intro K hK;refine sW (LD s.sR 125 [.rptr (Aj false s)] (λx=> !decide (AQ s (Ae s) x)) (by have:=hs.2.1;omega) (λx hxs=>bJ hR s x hs (hx x hxs) hm) zS zS) zS zS ?_;refine xU ?_;have hM:EA s↔∀x∈s.sR,AQ s (Ae s) x:=⟨λh=>h.2.2.2,λh=>⟨hw,h3,hall,h⟩⟩;rw[wX];simp[hM]
theorem YM (hR:BK) (s:An) (hs:A0 s) (hx:BO s):Ac pg 49 [.agg (Aj false s)] [] (λr _=>r= .bool (decide (A2 s))):=by
 refine zE (fn:=Tryz.f49) [.tmp 2] ?_;rw[AC];refine AX ?_;by_cases h:EA s
 .refine CN ?_;intro K hK;refine s6 (SK hR s hs hx) (by simp) (by simp) ?_;rw[zT h];refine zx ?_;refine s6 (Su s hs) (by simp) (by simp) ?_;obtain⟨l,hl⟩:∃l,l=AD s:=zX;rw[<-hl];refine zx ?_;refine xW (eH l s.sS (by rw[hl];simp[AD];exact hs.1)) ?_;refine zr ?_;simp[A2,h,hl]
 .refine CN ?_;intro K hK;refine s6 (SK hR s hs hx) (by simp) (by simp) ?_;rw[zV h];refine xU ?_;simp[A2,h]
theorem Lj (v:Int):∀(l:List (Int×Int)) (i:Nat) (f:Bool) (e:Int) (h:i<l.length),C2 v (l.take (i+1)) f e=C2 v (l.take i) f e++AM (if i=0 then(if f=true then CR (l[i].1-v)+1 else l[i].1-e) else l[i].1-(l[i-1].1+l[i-1].2)).toNat++AM (l[i].2-3+1).toNat
 | [],i,f,e,h=>by simp at h
 | (a,n)::t,0,f,e,h=>by simp[C2]
 | (a,n)::t,i+1,f,e,h=>by
   have ih:=Lj v t i false (a+n) (by simpa using h);simp only[wY,C2,xe,xa] at ih |-;rw[ih];simp only[uZ];congr 4;cases i with
   |zero=>simp
   |succ i=>simp
theorem M9:∀(l:List (Int×Int)) (f:Bool) (e:Int),Iw l f e->∀(i:Nat) (h:i<l.length),3<=l[i].2/\(0<i->l[i-1].1+l[i-1].2<l[i].1)
 | [],_,_,_,i,h=>by simp at h
 | (a,n)::t,f,e,hp,0,h=>⟨hp.2.1,λh=>zO⟩
 | (a,n)::t,f,e,hp,i+1,h=>by
   have hi:i<t.length:=by simpa using h
   have ih:=M9 t false (a+n) hp.2.2 i hi;refine⟨by simpa using ih.1,λ_=>?_⟩;cases i with
   |zero=>
    cases t with
    |nil=>simp at hi
    |cons q t=>
     obtain⟨b,m⟩:=q;have:=hp.2.2.1;simpa using this
   |succ i=>simpa using ih.2 zO
theorem Jh:∀(n:Nat) (l:List Int),l.length<=n->∀q∈(Ay l).1,q.1∈l/\q.2<=l.length
 |_,[],_,q,hq=>by simp[Ay] at hq
 |0,x::l,h,_,_=>by simp at h
 |n+1,x::l,h,q,hq=>by
  have h1:=FO x l;have h2:=Gl (x::l);have h3:((x::l).drop (Bc (x::l))).length=(x::l).length-Bc (x::l):=zS;have ih:=Jh n ((x::l).drop (Bc (x::l))) zO;rw[Ay] at hq;split at hq
  .simp only[vL] at hq;rcases hq with rfl|hq
   .exact⟨zS,by simp only;omega⟩
   .exact⟨wH (ih q hq).1,by have:=(ih q hq).2;omega⟩
  .exact⟨wH (ih q hq).1,by have:=(ih q hq).2;omega⟩
theorem SL (xs:List Bool) (u:Nat) (v:Int) (l:List Int) (hx:xs.length<1000000) (hv:0<=v/\v<=16) (hl:AU l):Ac pg 160 [.tok 0 u 1 0 xs.length,iN v,.ro l.length (Ab l)] [.live u (Bm xs)] (λr M=>r= .own 1 (xs++A9 v l).length (Bm (xs++A9 v l))/\M=[.dead]):=by
 have hll:=Bw hl;have spS:=bG l zO (λx hx=>by have:=hl.1 x hx;omega);obtain⟨p1,p2,p3,p4⟩:=FD l.length l true 0 (vg _) hl.2 (.inl rfl);have pin:=Jh l.length l (vg _);have hbits:A9 v l=AM ((Ay l).1.length+1)++C2 v (Ay l).1 true 0++Dz v (Ay l).2:=rfl;rw[hbits];clear hbits;obtain⟨rs,hrs⟩:∃rs,rs=(Ay l).1:=zX;obtain⟨rest,hrest⟩:∃rest,rest=(Ay l).2:=zX;simp only[Qj] at spS;rw[<-hrs,<-hrest] at spS |-;rw[<-hrs] at p1 p2 pin;rw[<-hrest] at p3 p4;have hpos:=M9 rs true 0 p1;have hrm:AU rest:=⟨λx hx=>hl.1 x (p4 x hx),p3⟩;have hrl:=Bw hrm;have hbnd:∀(i:Nat) (h:i<rs.length),0<=rs[i].1/\rs[i].1<16/\rs[i].2<=16:=λi h=>by
  have:=pin _ (uQ h);have h2:=hl.1 _ this.1;omega
 refine zE (fn:=Tryz.f160) [.tmp 6] ?_;rw[A6];refine zs ?_;refine AL spS ?_;have hg0:=Ec (rs.length+1) zO;refine z0 ?_;intro K hK;refine sZ [0] (E2 xs u (rs.length+1) zO zO zO) zS zS zS zS ?_;rintro r M ⟨rfl,rfl⟩ _;refine yw ?_;refine sV (λz:Nat×List Bool=> [(0,.tok 3 0 1 0 z.2.length),(1,iN v),(7,.tok 1 0 2 0 rs.length),(8,.tok 2 0 1 0 rest.length),(9,iN (z.1:Nat))]) (λz=> [.dead,lv (Aa Al rs),lv (Ab rest),lv (Bm z.2)]) (λz=>rs.length-z.1) (λz=>z.1<=rs.length/\z.2=xs++(AM (rs.length+1)++C2 v (rs.take z.1) true 0)/\z.2.length<=xs.length+162*(z.1+1)) (0,xs++AM (rs.length+1)) (Wk.fr zK) ⟨zS,by simp[C2],Ao⟩ ?_;rintro⟨i,B⟩ ⟨hi,hB,hBl⟩;simp only at hi hB hBl;refine zs ?_;refine zc ?_ ?_<;>intro h
 .refine W.skip ?_;have hlt:i<rs.length:=zO;have hto:=Lj v rs i true 0 hlt;have hb:=hbnd i hlt;have hp:=hpos i hlt;have ca:(Aa Al rs)[i*2]?=some (iN rs[i].1):=Au (f:=Al) (s:=2) zL hlt (i:=0) zO;have cl:(Aa Al rs)[i*2+1]?=some (iN rs[i].2):=Au (f:=Al) (s:=2) zL hlt (i:=1) zO;obtain⟨d,hd⟩:=uS (show 0<=rs[i].2-3+1 by omega);have hdl:=Ec d zO;refine zb ?_;by_cases h0:i=0
  .subst h0;have hz:=Eg (rs[0].1-v);have hz2:CR (rs[0].1-v)<=100:=by unfold CR;split<;>omega
   obtain⟨c,hc⟩:=uS (show 0<=CR (rs[0].1-v)+1 by omega);have hcl:=Ec c zO;have ca0:(Aa Al rs)[0]?=some (iN rs[0].1):=by simpa using ca
   have cl0:(Aa Al rs)[1]?=some (iN rs[0].2):=by simpa using cl
   refine y2 ?_;refine BS (an hlt ca0) ?_;intro K hK;refine sW (ZT (rs[0].1-v) (by omega)) (by simp) (by simp) ?_;refine AO hc ?_;refine sZ [3] (E2 B 0 c zO zO zO) zS zS zS zS ?_;rintro r M ⟨rfl,rfl⟩ _;refine Am ?_;refine BS (an hlt (an cl0 hd)) ?_;intro K hK;refine sZ [4] (E2 (B++AM c) 0 d Ao zO zO) zS zS zS zS ?_;rintro r M ⟨rfl,rfl⟩ _;refine ye ?_;refine⟨(0+1,B++(AM c++AM d)),by simp only;omega,⟨by simp only;omega,?_,Ao⟩,?_⟩
   .simp only[hto,if_true,hc,hd,vE];rw[hB];simp
   .simp only[u0];exact tw (k:=3) (j:=5) (by rfl) (by simp;try omega) (by omega) (by simp) (by simp[AA]) (by simp) (by simp) (by simp)
  .have hp2:=hp.2 zO;have hb2:=hbnd (i-1) zO;have hp3:=hpos (i-1) zO;have ca1:(Aa Al rs)[(i-1)*2]?=some (iN rs[i-1].1):=Au (f:=Al) (s:=2) zL (show i-1<rs.length by omega) (i:=0) zO;have cl1:(Aa Al rs)[(i-1)*2+1]?=some (iN rs[i-1].2):=Au (f:=Al) (s:=2) zL (show i-1<rs.length by omega) (i:=1) zO;obtain⟨c,hc'⟩:=uS (show 0<=rs[i].1-rs[i-1].1-rs[i-1].2 by omega);have hc:rs[i].1-(rs[i-1].1+rs[i-1].2)=c:=zO;have hcl:=Ec c zO;refine xO h0 ?_;(repeat refine ta ?_);refine tO 0 20 rfl true Df AK λK hK=>?_;simp -implicitDefEqProofs (disch:=omega) [hlt,ca,ca1,cl1,hc'];refine⟨zO,?_⟩;refine sZ [3] (E2 B 0 c zO zO zO) zS zS zS zS ?_;rintro r M ⟨rfl,rfl⟩ _;refine Am ?_;refine BS (an hlt (an cl hd)) ?_;intro K hK;refine sZ [4] (E2 (B++AM c) 0 d Ao zO zO) zS zS zS zS ?_;rintro r M ⟨rfl,rfl⟩ _;refine ye ?_;refine⟨(i+1,B++(AM c++AM d)),by simp only;omega,⟨by simp only;omega,?_,Ao⟩,?_⟩
   .simp only[hto,zM h0,hc,hd,vE];rw[hB];simp
   .simp only[u0];exact tw (k:=3) (j:=5) (by rfl) (by simp;try omega) (by omega) (by simp) (by simp[AA]) (by simp) (by simp) (by simp)
 .refine s7 ?_;have hi' :i=rs.length:=zO;subst hi';rw[uW] at hB;refine z0 ?_;intro K hK;refine sZ [3] (eN B 0 v rest zO hv hrm) zS zS zS zS ?_;rintro r M ⟨rfl,rfl⟩ _;refine xU ?_;rw[uM zS,hB];simp;omega
theorem Vx (bs:List Bool) (p:Nat) (v:Int) (hb:bs.length<1000000000) (hp:p<=bs.length) (hv:0<=v/\v<100000):Ac pg 158 [.ro bs.length (Bm bs),iN p,iN v] [] (λr _=>r=El (Fj bs p v)):=by
 refine zE (fn:=Tryz.f158) [.tmp 6,.tmp 7,.tmp 8] ?_;rw[A6];refine x8 ?_;intro K hK;have sp:=GG bs p hb hp;cases hg:Bi bs p with
 |none=>
  simp only[hg,Hb] at sp;refine yc sp ?_;simp[Fj,hg,El]
 |some x=>
  simp only[hg,Hb] at sp;obtain⟨hx1,hx2,hx3,hx4,_⟩:=Bl hg;refine xN sp ?_;by_cases hle:x.1<=17;rotate_left
  .have h1:¬(x.1:Int)<1:=zO;have h2:(16:Int)<(x.1:Int)-1:=zO;refine xS (an h1 h2) ?_;simp only[Fj,hg];rw[zM hle];simp[El]
  have h1:¬(x.1:Int)<1:=zO;have h2:¬(16:Int)<(x.1:Int)-1:=zO;refine zg (an h1 h2) ?_;refine y5 ?_;refine zb ?_;refine sV (λs:Nat×List Int×Nat×Int=> [(0,.ro bs.length (Bm bs)),(1,iN s.2.2.1),(2,iN v),(9,iN x.1),(10,.tok 0 s.1 1 0 s.1),(11,iN s.2.2.2),(12,iN s.1)]) (λs=> [.live s.1 (Ab s.2.1)]) (λs=>x.1-1-s.1)
   (λs=>s.1<=x.1-1/\s.2.1.length=s.1/\s.2.2.1<=bs.length/\(-(4294967296*((s.1:Int)+1))<=s.2.2.2/\s.2.2.2<=4294967296*((s.1:Int)+1))/\Ej bs (x.1-1) true x.2 v=(Ej bs (x.1-1-s.1) (decide (s.1=0)) s.2.2.1 (if s.1=0 then v else s.2.2.2)).map λr=>(s.2.1++r.1,r.2)) (0,[],x.2,0) ((Wk.nil (t:=10) (s:=1) zS).trans (Wk.fr zK)) ⟨zO,rfl,hx4,by simp only;omega,zS⟩ ?_
  rintro⟨k,acc,q,last⟩ ⟨hk,hacc,hq,hlast,hinv⟩;simp only at hk hacc hq hlast hinv;refine zs ?_;refine zc ?_ ?_<;>intro h
  .refine W.skip ?_;obtain⟨m,hm⟩:∃m,x.1-1-k=m+1:=⟨x.1-1-k-1,zO⟩;have hm' :x.1-1-(k+1)=m:=zO;rw[hm] at hinv;refine zb ?_;have sp2:=GG bs q hb hq;refine z0 ?_;intro K hK;cases hg2:Bi bs q with
   |none=>
    simp only[hg2,Hb] at sp2;refine yc sp2 ?_;simp only[Ej,hg2] at hinv;simp[Fj,hg,hinv,El]
   |some y=>
    simp only[hg2,Hb] at sp2;obtain⟨hy1,hy2,hy3,hy4,_⟩:=Bl hg2;refine sW sp2 (by simp) (by simp) ?_;have h3:¬(y.1:Int)<1:=zO;refine Am ?_;refine xL h3 ?_;simp only[Ej,hg2] at hinv;by_cases h0:k=0
    .subst h0;have ha:acc=[]:=by simpa using hacc
     subst ha;have hz:-1073741825<=Dr ((y.1:Int)-1)/\Dr ((y.1:Int)-1)<=1073741825:=by unfold Dr;split<;>omega
     simp only[if_true,decide_true] at hinv;refine xY ?_;intro K hK;refine sW (ZS ((y.1:Int)-1) (by omega) (by omega)) (by simp) (by simp) ?_;generalize Dr ((y.1:Int)-1)=z at*;refine Am ?_;refine x6 ?_;refine⟨(1,[v+z],y.2,v+z),by simp only;omega,⟨by simp only;omega,zS,by simp only;omega,by simp only;omega,?_⟩,sU (k:=1) zK ?_ zS zS zS zS⟩
     .rw[hinv,hm'];simp;cases Ej bs m false y.2 (v+z)<;>simp
     .simp[Ab]
    .refine xO h0 ?_;simp only[h0,if_false,decide_false,vt] at hinv;refine zs ?_;refine z1 ?_;intro K hK;refine⟨zO,zO,?_⟩;refine xM ?_;refine⟨(k+1,acc++[last+y.1],y.2,last+y.1),by simp only;omega,⟨by simp only;omega,by simp[hacc],by simp only;omega,by simp only;omega,?_⟩,sU (k:=1) zK ?_ zS zS zS zS⟩
     .rw[hinv,hm'];simp;cases Ej bs m false y.2 (last+y.1)<;>simp
     .simp[Ab]
  .refine s7 ?_;have hk' :x.1-1-k=0:=zO;rw[hk'] at hinv;simp only[Ej,vI,vM] at hinv;have hlen:acc.length<1000:=zO;subst hacc;refine z0 ?_;intro K hK;refine sW (Ik acc (by omega)) (by simp) (by simp) ?_;by_cases hm:AU acc
   .rw[zT hm];refine Am ?_;refine Ck ?_;simp only[Fj,hg];rw[zP hle,hinv];simp[hm,El]
   .rw[zV hm];refine xX ?_;simp only[Fj,hg];rw[zP hle,hinv];simp[hm,El]
theorem bK (bs ys:List Bool) (p:Nat) (hb:bs.length<1000000000) (hy:ys.length<1000000000) (hp:p<2000000000):Ac pg 161 [.ro bs.length (Bm bs),iN p,.ro ys.length (Bm ys)] [] (λr _=>r= .bool (decide ((bs.drop p).take ys.length=ys))):=by
 have hb8:∀a b:Bool,((if a=true then(1:Int) else 0)=if b=true then 1 else 0)↔a=b:=by intro a b;cases a<;>cases b<;>simp
 refine zE (fn:=Tryz.f161) [.tmp 6] ?_;rw[A6];refine xV ?_;refine sV (λk:Nat=> [(0,.ro bs.length (Bm bs)),(1,iN p),(2,.ro ys.length (Bm ys)),(7,iN k)]) (λ_=> []) (λk=>ys.length-k) (λk=>k<=ys.length/\(bs.drop p).take k=ys.take k) 0 (Wk.fr zK) zS ?_;rintro k ⟨hk,ht⟩;refine zs ?_;refine zc ?_ ?_<;>intro h
 .refine W.skip ?_;have hlt:k<ys.length:=zO;have hys:ys.take (k+1)=ys.take k++[ys[k]]:=by rw[uV];simp[hlt]
  refine zb ?_;by_cases c1:p+k<bs.length
  .have c1' :¬(bs.length:Int)<=(p:Int)+k:=zO;have hbs:(bs.drop p).take (k+1)=(bs.drop p).take k++[bs[p+k]]:=by rw[uV];simp[c1]
   have ci:((p:Int)+k).toNat=p+k:=zO;by_cases c2:bs[p+k]=ys[k]
   .refine E1 ?_;intro K hK;simp -implicitDefEqProofs (disch:=omega) [c1',hlt,c1,ci,b8,c2];refine⟨zO,?_⟩;refine zk ?_;refine y3 ?_;exact⟨k+1,zO,⟨zO,by rw[hbs,hys,ht,c2]⟩,Wk.fr zK⟩
   .refine E1 ?_;intro K hK;simp -implicitDefEqProofs (disch:=omega) [c1',hlt,c1,ci,b8,hb8,c2];refine⟨zO,?_⟩;refine yi ?_;intro h;have h2:=congrArg (List.take (k+1)) h;rw[List.take_take,Nat.min_eq_left zO,hbs,hys,ht] at h2;have:=List.append_cancel_left h2;simp at this;exact c2 this
  .have c1' :(bs.length:Int)<=(p:Int)+k:=zO;refine zh c1' ?_;refine AJ ?_;intro h;have:=congrArg List.length h;simp at this;omega
 .refine s7 ?_;have hk' :k=ys.length:=zO;subst hk';rw[uW] at ht;refine Bd ?_;exact ht
def Bg (p:Int->Bool):List Bool:=(vK 16).map λ(i:Nat)=>p (i:Int)
@[simp] theorem WY (p:Int->Bool):(Bg p).length=16:=by simp[Bg]
theorem Ms (p:Int->Bool) (i:Nat) (h:i<16):(Bg p)[i]?=some (p i):=by simp[Bg,h]
theorem Vy (p:Int->Bool) (i:Nat) (h:i<16):(Bg p).set i true=Bg λj=>p j||decide (j=(i:Int)):=by
 refine List.ext_getElem zS λj h1 h2=>?_;simp only[WY] at h2;rw[List.getElem_set];by_cases e:i=j
 .subst e;simp[Bg]
 .rw[zM e];simp only[Bg,wE,wW];have:¬(j:Int)=(i:Int):=zO;simp[this]
def Mt (p:Int->Bool) (a:Int) (k:Nat):Int->Bool:=λj=>p j||decide (a<=j/\j<a+(k:Int))
def Ev (p:Int->Bool) (l:List Int):Int->Bool:=λj=>p j||l.contains j
def CS (p:Int->Bool) (i:Nat):List Int:=((vK i).map λi=>((i:Nat):Int)).filter p
theorem Mu (p:Int->Bool) (i:Nat):CS p (i+1)=CS p i++if p i=true then [(i:Int)] else []:=by
 unfold CS;rw[List.range_succ,List.map_append,wV];congr 1;simp only[wj,List.map_nil,List.filter_cons,List.filter_nil]
theorem NF (p:Int->Bool) (i:Nat):(CS p i).length<=i:=by
 unfold CS;exact Nat.le_trans (vY _ _) zS
def Gv (p:Int->Bool) (i:Int):Int->Bool:=λj=>p j||decide (j=i)
theorem EJ {p q:Int->Bool} (h:∀i,0<=i->i<16->p i=q i):Bg p=Bg q:=by
 unfold Bg;refine List.map_congr_left λi hi=>h _ zO (by simp at hi;omega)
theorem Il (p:Int->Bool) (i:Nat) (h:i<16):(Bg p).set i true=Bg (Gv p i):=Vy p i h
def Lk (r:List (Int×Int)) (i:Nat) (h:i<r.length):Prop:=0<=r[i].1/\r[i].1<16/\3<=r[i].2/\r[i].2<=16-r[i].1/\(0<i->r[i-1].1+r[i-1].2<r[i].1)
theorem OX:∀(r:List (Int×Int)) (e:Int),Ez r e↔((∀h:0<r.length,e<r[0].1)/\∀i (h:i<r.length),Lk r i h)
 | [],e=>by simp[Ez]
 | (a,n)::t,e=>by
   simp only[Ez,OX t (a+n)];constructor
   .rintro⟨h1,h2,h3,h4,h5,h6,h7⟩;refine⟨λ_=>h5,λi h=>?_⟩;cases i with
    |zero=>exact⟨h1,h2,h3,h4,λh=>zO⟩
    |succ i=>
     have hi:i<t.length:=by simpa using h
     obtain⟨k1,k2,k3,k4,k5⟩:=h7 i hi;refine⟨by simpa using k1,by simpa using k2,by simpa using k3,by simpa using k4,λ_=>?_⟩;cases i with
     |zero=>simpa using h6 hi
     |succ i=>simpa using k5 zO
   .rintro⟨h0,h⟩;obtain⟨h1,h2,h3,h4,_⟩:=h 0 zS;refine⟨by simpa using h1,by simpa using h2,by simpa using h3,by simpa using h4,h0 zS,λhp=>?_,λi hi=>?_⟩
    .have:=(h 1 (by simpa using hp)).2.2.2.2 zO;simpa using this
    .obtain⟨k1,k2,k3,k4,k5⟩:=h (i+1) (by simpa using hi);refine⟨by simpa using k1,by simpa using k2,by simpa using k3,by simpa using k4,λhpos=>?_⟩;have:=k5 zO;cases i with
     |zero=>omega
     |succ i=>simpa using this
theorem OY (r:List (Int×Int)):Ez r (-1)↔∀i (h:i<r.length),Lk r i h:=by
 rw[OX];exact⟨λh=>h.2,λh=>⟨λhp=>by have:=(h 0 hp).1;omega,h⟩⟩
def eP (o:Option (List Int)):AV:=match o with|some l=> .tup [.own 1 l.length (Ab l),.bool true] |none=> .tup [.own 1 0 [],.bool false]
theorem eQ (r:List (Int×Int)) (rest:List Int) (hr:r.length<1000000) (hb:∀q∈r,-1000000000000<=q.1/\q.1<=1000000000000/\-1000000000000<=q.2/\q.2<=1000000000000) (hrl:rest.length<1000000):Ac pg 159 [.ro r.length (Aa Al r),.ro rest.length (Ab rest)] [] (λx _=>x=eP (EF r rest)):=by
 refine zE (fn:=Tryz.f159) [.tmp 4,.tmp 5] ?_;rw[Aq];refine zs ?_;by_cases hm:AU rest;rotate_left
 .refine z0 ?_;intro K hK;refine sW (Ik rest (by omega)) (by simp) (by simp) ?_;rw[zV hm];refine xX ?_;rw[EF,zM (λh=>hm h.1)];rfl
 have hml:=Bw hm;refine z0 ?_;intro K hK;refine sW (Ik rest (by omega)) (by simp) (by simp) ?_;rw[zT hm];refine zx ?_;refine zk ?_;refine zn ?_;refine W.skip ?_;refine z1 ?_;intro K hK;have e0:[AV.bool false,AV.bool false,AV.bool false,AV.bool false,AV.bool false,AV.bool false,AV.bool false,AV.bool false,AV.bool false,AV.bool false,AV.bool false,AV.bool false,AV.bool false,AV.bool false,AV.bool false,AV.bool false]=Ba (Bg (BZ (r.take 0))):=rfl;rw[e0];refine xM ?_;refine zb ?_;refine sV (λk:Nat=> [(0,.ro r.length (Aa Al r)),(1,.ro rest.length (Ab rest)),(6,pt 0),(7,iN k)]) (λk=> [lv (Ba (Bg (BZ (r.take k))))]) (λk=>r.length-k) (λk=>k<=r.length/\∀i (h:i<r.length),i<k->Lk r i h) 0 (Wk.fr zK) ⟨zO,λi h h2=>zO⟩ ?_
 .rintro i ⟨hi,hok⟩;refine zs ?_;refine zc ?_ ?_<;>intro h
  .refine W.skip ?_;have hlt:i<r.length:=zO;have hbi:=hb _ (uQ hlt);have bad:¬Lk r i hlt->¬Ez r (-1):=λg w=>g ((OY r).1 w i hlt);have hto:r.take (i+1)=r.take i++[r[i]]:=by rw[uV];simp[hlt]
   refine x9 ?_;intro K hK;simp -implicitDefEqProofs (disch:=omega) [hlt];refine zk ?_;have spO:=Sy r[i].1;by_cases c1:0<=r[i].1/\r[i].1<=15;rotate_left
   .have hbad:=bad (λg=>c1 (by have:=g.1;have:=g.2.1;omega));rw[zV c1] at spO;refine Ud spO ?_;refine AJ ?_;rw[EF,zM (λh=>hbad h.2.1)];rfl
   rw[zT c1] at spO;by_cases c2:r[i].2<3
   .have hbad:=bad (λg=>by have:=g.2.2.1;omega);refine CN ?_;intro K hK;refine s6 spO (by simp) (by simp) ?_;refine x7 c2 ?_;rw[EF,zM (λh=>hbad h.2.1)];rfl
   by_cases c3:16-r[i].1<r[i].2
   .have hbad:=bad (λg=>by have:=g.2.2.2.1;omega);refine CN ?_;intro K hK;refine s6 spO (by simp) (by simp) ?_;refine x7 (an c2 c3) ?_;rw[EF,zM (λh=>hbad h.2.1)];rfl
   have hbody:Lk r i hlt->True:=λ_=>trivial;refine zw ?_;refine s5 (λb:Bool=> [(0,.ro r.length (Aa Al r)),(1,.ro rest.length (Ab rest)),(6,pt 0),(7,iN i),(8,pt 1),(64,.bool b)]) (λ_=> [lv (Ba (Bg (BZ (r.take i)))),lv [iN r[i].1,iN r[i].2]]) (λb=>b=true↔¬Lk r i hlt) ?_ ?_
   .by_cases c4:0<i
    .have hbp:=hb _ (uQ (show i-1<r.length by omega));have hw:IntKind.i64.wrap (r[i-1].1+r[i-1].2)=r[i-1].1+r[i-1].2:=wrap_i64 zO zO;by_cases c5:r[i].1<=r[i-1].1+r[i-1].2
     .refine CN ?_;intro K hK;refine s6 spO (by simp) (by simp) ?_;refine AO (an c2 (an c3 (an c4 (an c5 (an hlt hw))))) ?_;refine⟨zO,?_⟩;refine zk ?_;exact⟨true,by simp only[true_iff];exact λg=>by have:=g.2.2.2.2 c4;omega,Wk.fr (by simp[AA];rw[hw];exact c5)⟩
     .refine CN ?_;intro K hK;refine s6 spO (by simp) (by simp) ?_;refine AO (an c2 (an c3 (an c4 (an c5 (an hlt hw))))) ?_;refine⟨zO,?_⟩;refine zk ?_;exact⟨false,by simp only[vt,false_iff,wG];exact⟨c1.1,by omega,by omega,by omega,λ_=>by omega⟩,Wk.fr (by simp[AA];rw[hw];omega)⟩
    .refine CN ?_;intro K hK;refine s6 spO (by simp) (by simp) ?_;refine xK (an c2 (an c3 c4)) ?_;exact⟨false,by simp only[vt,false_iff,wG];exact⟨c1.1,zO,zO,zO,λ_=>zO⟩,Wk.fr zK⟩
   .intro b hbb;cases b;rotate_left
    .have hbad:=bad (hbb.1 rfl);refine AJ ?_;rw[EF,zM (λh=>hbad h.2.1)];rfl
    .have hgood:Lk r i hlt:=vv λg=>by have:=hbb.2 g;simp at this
     refine y2 ?_;obtain⟨a,ha⟩:=uS hgood.1;obtain⟨n,hn⟩:=uS (show 0<=r[i].2 by have:=hgood.2.2.1;omega);have han:a+n<=16:=by have:=hgood.2.2.2.1;omega
     refine zs ?_;have e1:(Bg (BZ (r.take i)))=Bg (Mt (BZ (r.take i)) a 0):=EJ λj _ _=>by
      have:decide ((a:Int)<=j/\j<(a:Int)+((0:Nat):Int))=false:=zS;rw[Mt,this,Bool.or_false]
     rw[e1,ha,hn];refine zb ?_;refine sV (λk:Nat=> [(0,.ro r.length (Aa Al r)),(1,.ro rest.length (Ab rest)),(6,pt 0),(7,iN i),(8,pt 1),(9,iN k)]) (λk=> [lv (Ba (Bg (Mt (BZ (r.take i)) a k))),lv [iN a,iN n]]) (λk=>n-k) (λk=>k<=n) 0 (Wk.fr zK) (vn _) ?_;intro k hk;refine zs ?_;refine zc ?_ ?_<;>intro h
     .refine W.skip ?_;have hkn:k<n:=zO;have hak:a+k<16:=zO;have hti:((a:Int)+k).toNat=a+k:=zO;have hset:∀p:Int->Bool,(Ba (Bg p)).set (a+k) (.bool true)=Ba (Bg (Gv p ((a:Int)+(k:Int)))):=λp=>by rw[Gq,Il _ _ hak,Int.natCast_add]
      refine zb ?_;refine BS (an hti (an hset hak)) ?_;intro K hK;refine⟨zO,?_⟩;refine xM ?_;have e2:Bg (Gv (Mt (BZ (r.take i)) a k) ((a:Int)+(k:Int)))=Bg (Mt (BZ (r.take i)) a (k+1)):=EJ λj _ _=>by
       simp only[Gv,Mt];rw[Bool.or_assoc];congr 1;rw[<-Bool.decide_or,decide_eq_decide];omega
      rw[e2];exact⟨k+1,zO,zO,Wk.fr zK⟩
     .refine s7 ?_;have hk' :k=n:=zO;subst hk';have e3:(Bg (Mt (BZ (r.take i)) a k))=Bg (BZ (r.take (i+1))):=EJ λj _ _=>by
       rw[hto];simp only[Mt,BZ,List.any_append,List.any_cons,List.any_nil,Bool.or_false,ha,hn]
      rw[e3];refine zs ?_;exact⟨i+1,zO,⟨zO,λt ht h2=>by
       by_cases e:t=i
       .subst e;exact hgood
       .exact hok t ht zO⟩,sU (k:=1) zK zS zS zS zS zS⟩
  .refine s7 ?_;have hi' :i=r.length:=zO;subst hi';have hR:Ez r (-1):=(OY r).2 λt ht=>hok t ht ht;have e4:Bg (BZ (r.take r.length))=Bg (Ev (BZ r) (rest.take 0)):=EJ λj _ _=>by simp[Ev]
   rw[e4];refine xR ?_;refine sV (λk:Nat=> [(1,.ro rest.length (Ab rest)),(6,pt 0),(10,iN k)]) (λk=> [lv (Ba (Bg (Ev (BZ r) (rest.take k))))]) (λk=>rest.length-k) (λk=>k<=rest.length/\∀t (h:t<rest.length),t<k->BZ r rest[t]=false) 0 (Wk.fr zK) ⟨zO,λt h h2=>zO⟩ ?_
   .rintro k ⟨hk,hno⟩;refine zs ?_;refine zc ?_ ?_<;>intro h
    .refine W.skip ?_;have hkl:k<rest.length:=zO;have hw:=hm.1 _ (uQ hkl);obtain⟨w,hwe⟩:=uS hw.1;have hw16:w<16:=zO;have hnc:(rest.take k).contains (w:Int)=false:=by
      rw[Bool.eq_false_iff];intro hc;simp only[xG,decide_eq_true_eq] at hc;obtain⟨t,ht,hte⟩:=vq.1 hc;simp at ht hte;have:=vB.1 hm.2 t k zO hkl zO;omega
     have hto2:rest.take (k+1)=rest.take k++[(w:Int)]:=by rw[uV];simp[hkl,hwe]
     have hget:(Bg (Ev (BZ r) (rest.take k)))[w]?=some (BZ r (w:Int)):=by rw[Ms _ _ hw16];simp only[Ev,hnc,Bool.or_false]
     refine zb ?_;cases hin:BZ r (w:Int)
     .rw[hin] at hget;refine th (an hkl (an hwe hget)) ?_;have hset:∀p:Int->Bool,(Ba (Bg p)).set w (.bool true)=Ba (Bg (Gv p (w:Int))):=λp=>by rw[Gq,Il _ _ hw16]
      have e5:Bg (Gv (Ev (BZ r) (rest.take k)) (w:Int))=Bg (Ev (BZ r) (rest.take (k+1))):=EJ λj _ _=>by
       rw[hto2];simp only[Gv,Ev,Bool.or_assoc];congr 1;rw[wX];simp
      refine zg (an hkl (an hwe (an hset hw16))) ?_;refine zs ?_;rw[e5];refine⟨k+1,zO,⟨zO,λt ht h2=>?_⟩,Wk.fr zK⟩;by_cases e:t=k
      .subst e;rw[hwe];exact hin
      .exact hno t ht zO
     .rw[hin] at hget;refine xS (an hkl (an hwe hget)) ?_;rw[EF,zM]
      .rfl
      .intro h;have:=h.2.2 _ (uQ hkl);rw[hwe,hin] at this;simp at this
    .refine s7 ?_;have hk' :k=rest.length:=zO;subst hk';rw[uW];have hj:EF r rest=some (CS (Ev (BZ r) rest) 16):=by
      rw[EF,zP ⟨hm,hR,λx hx=>by
       obtain⟨t,ht,rfl⟩:=vq.1 hx;exact hno t ht ht⟩]
      rfl
     rw[hj];generalize Ev (BZ r) rest=q;refine xV ?_;refine sV (λk:Nat=> [(6,pt 0),(11,.tok 1 (CS q k).length 1 0 (CS q k).length),(12,iN k)]) (λk=> [lv (Ba (Bg q)),.live (CS q k).length (Ab (CS q k))]) (λk=>16-k) (λk=>k<=16) 0 ((Wk.nil (t:=11) (s:=1) zS).trans (Wk.fr (by simp[AA,CS]))) zS ?_;intro k hk;have htl:=NF q k;refine zs ?_;refine zc ?_ ?_<;>intro h
     .refine W.skip ?_;have hlt:k<16:=zO;have hget:(Bg q)[k]?=some (q (k:Int)):=Ms _ _ hlt;have hsu:=Mu q k;refine zb ?_;cases hq:q (k:Int)
      .rw[hq] at hget hsu;refine xL (an hget hlt) ?_;refine⟨k+1,zO,zO,?_⟩;rw[hsu];simp only[vt,if_false,vM];exact Wk.fr zK
      .rw[hq] at hget hsu;refine xP (an hget hlt) ?_;refine z1 ?_;intro K hK;refine⟨zO,zO,?_⟩;refine xM ?_;refine⟨k+1,zO,zO,?_⟩;rw[hsu];simp only[if_true,u0,wR];refine sU (k:=2) zK ?_ zS zS zS zS;simp[Ab]
     .refine s7 ?_;have hk' :k=16:=zO;subst hk';refine Bd ?_;rfl
theorem bL (v:Int) (l:List Int) (hv:0<=v/\v<=16) (hl:AU l):Ac pg 160 [.own 1 0 [],iN v,.ro l.length (Ab l)] [] (λr _=>r= .own 1 (A9 v l).length (Bm (A9 v l))):=by
 have h:=Ac.nil (by simpa using SL [] 0 v l zS hv hl);simpa using h
theorem WZ {r:List (Int×Int)} {g l:List Int} (h:EF r g=some l):AU l:=by
 unfold EF at h;split at h
 .simp at h;subst h;exact Qy _
 .simp at h
theorem OZ (bs:List Bool) (p:Nat) (v:Int) (hb:bs.length<1000000000) (hp:p<=bs.length) (hv:0<=v/\v<=16):Ac pg 116 [.ro bs.length (Bm bs),iN p,iN v] [] (λr _=>r=El (Cw bs p v)):=by
 refine zE (fn:=Tryz.f116) [.tmp 6,.tmp 7,.tmp 8] ?_;rw[A6];refine xY ?_;intro K hK;have sp:=GG bs p hb hp;cases hg:Bi bs p with
 |none=>
  simp only[hg,Hb] at sp;refine yc sp ?_;simp[Cw,hg,El]
 |some x=>
  simp only[hg,Hb] at sp;obtain⟨hx1,hx2,hx3,hx4,_⟩:=Bl hg;refine xN sp ?_;by_cases hle:x.1<=17;rotate_left
  .have h1:¬(x.1:Int)<1:=zO;have h2:(16:Int)<(x.1:Int)-1:=zO;refine xS (an h1 h2) ?_;simp only[Cw,hg];rw[zM hle];simp[El]
  have h1:¬(x.1:Int)<1:=zO;have h2:¬(16:Int)<(x.1:Int)-1:=zO;refine zg (an h1 h2) ?_;refine y5 ?_;refine zb ?_;refine sV (λs:Nat×List (Int×Int)×Nat×Int=> [(0,.ro bs.length (Bm bs)),(1,iN s.2.2.1),(2,iN v),(9,iN p),(10,iN x.1),(11,.tok 0 s.1 2 0 s.1),(12,iN s.2.2.2),(13,iN s.1)]) (λs=> [.live s.1 (Aa Al s.2.1)]) (λs=>x.1-1-s.1)
   (λs=>s.1<=x.1-1/\s.2.1.length=s.1/\(p<=s.2.2.1/\s.2.2.1<=bs.length)/\(-(4294967296*((s.1:Int)+1))<=s.2.2.2/\s.2.2.2<=4294967296*((s.1:Int)+1))/\(∀q∈s.2.1,-1000000000000<=q.1/\q.1<=1000000000000/\-1000000000000<=q.2/\q.2<=1000000000000)/\CZ bs (x.1-1) true x.2 v=(CZ bs (x.1-1-s.1) (decide (s.1=0)) s.2.2.1 (if s.1=0 then v else s.2.2.2)).map λr=>(s.2.1++r.1,r.2)) (0,[],x.2,0) ((Wk.nil (t:=11) (s:=2) zS).trans (Wk.fr zK)) ⟨zO,rfl,⟨by simp only;omega,hx4⟩,by simp only;omega,zS,zS⟩ ?_
  rintro⟨k,acc,q,last⟩ ⟨hk,hacc,⟨hpq,hq⟩,hlast,hbnd,hinv⟩;simp only at hk hacc hpq hq hlast hinv hbnd;refine zs ?_;refine zc ?_ ?_<;>intro h
  .refine W.skip ?_;obtain⟨m,hm⟩:∃m,x.1-1-k=m+1:=⟨x.1-1-k-1,zO⟩;have hm' :x.1-1-(k+1)=m:=zO;rw[hm] at hinv;refine zb ?_;have sp2:=GG bs q hb hq;refine z0 ?_;intro K hK;cases hg2:Bi bs q with
   |none=>
    simp only[hg2,Hb] at sp2;refine yc sp2 ?_;simp only[CZ,hg2] at hinv;simp[Cw,hg,hinv,El]
   |some y=>
    simp only[hg2,Hb] at sp2;obtain⟨hy1,hy2,hy3,hy4,_⟩:=Bl hg2;refine sW sp2 (by simp) (by simp) ?_;have h3:¬(y.1:Int)<1:=zO;refine Am ?_;refine th h3 ?_;have sp3:=GG bs y.2 hb hy4;refine z0 ?_;intro K hK;cases hg3:Bi bs y.2 with
    |none=>
     simp only[hg3,Hb] at sp3;refine yc sp3 ?_;simp only[CZ,hg2,hg3] at hinv;simp[Cw,hg,hinv,El]
    |some z=>
     simp only[hg3,Hb] at sp3;obtain⟨hz1,hz2,hz3,hz4,_⟩:=Bl hg3;refine sW sp3 (by simp) (by simp) ?_;have h4:¬(z.1:Int)<1:=zO;simp only[CZ,hg2,hg3] at hinv;refine Am ?_;by_cases hz16:z.1<=16;rotate_left
     .have h5:(16:Int)<z.1:=zO;refine xS (an h4 h5) ?_;rw[zM hz16] at hinv;simp[Cw,hg,hinv,El]
     have h5:¬(16:Int)<z.1:=zO;rw[zP hz16] at hinv;refine xL (an h4 h5) ?_;refine AX ?_;by_cases h0:k=0
     .subst h0;have ha:acc=[]:=by simpa using hacc
      subst ha;have hzg:-1073741825<=Dr ((y.1:Int)-1)/\Dr ((y.1:Int)-1)<=1073741825:=by unfold Dr;split<;>omega
      simp only[if_true,decide_true] at hinv;refine xY ?_;intro K hK;refine sW (ZS ((y.1:Int)-1) (by omega) (by omega)) (by simp) (by simp) ?_;generalize Dr ((y.1:Int)-1)=zz at*;refine Am ?_;refine AX ?_;refine y2 ?_;refine⟨(1,[(v+zz,(z.1:Int)-1+3)],z.2,v+zz+((z.1:Int)-1+3)),by simp only;omega,⟨by simp only;omega,zS,by simp only;omega,by simp only;omega,Ao,?_⟩,sU (k:=1) zK ?_ zS zS zS zS⟩
      .rw[hinv,hm'];simp;cases CZ bs m false z.2 (v+zz+((z.1:Int)-1+3))<;>simp
      .simp[AG,Al]
     .simp only[h0,if_false,decide_false,vt] at hinv;refine th h0 ?_;refine z1 ?_;intro K hK;refine⟨zO,zO,?_⟩;refine yh ?_;refine⟨(k+1,acc++[(last+y.1,(z.1:Int)-1+3)],z.2,last+y.1+((z.1:Int)-1+3)),by simp only;omega,⟨by simp only;omega,by simp[hacc],by simp only;omega,by simp only;omega,?_,?_⟩,sU (k:=1) zK ?_ zS zS zS zS⟩
      .intro w hw;simp only[vd,wA] at hw;rcases hw with hw|rfl
       .exact hbnd w hw
       .simp only;omega
      .rw[hinv,hm'];simp;cases CZ bs m false z.2 (last+y.1+((z.1:Int)-1+3))<;>simp
      .simp[BI,AG,Al]
  .refine s7 ?_;have hk' :x.1-1-k=0:=zO;rw[hk'] at hinv;simp only[CZ,vI,vM] at hinv;subst hacc;have hv' :0<=v/\v<100000:=zO;have spG:=Vx bs q v hb hq hv';rw[GT] at spG;have htr:Cw bs p v=match Fj bs q v with
    |none=>none
    |some g=>match EF acc g.1 with
     |none=>none
     |some l=>if (A9 v l).length=g.2-p/\(bs.drop p).take (A9 v l).length=A9 v l then some (l,g.2) else none:=by
    unfold Cw;rw[hg];simp only;rw[zP hle,hinv];rfl
   rw[htr,GT];clear htr;cases hgp:EE bs q v with
   |none=>
    rw[hgp] at spG;simp only[El] at spG;refine AL spG ?_;refine Ck ?_;rfl
   |some g=>
    rw[hgp] at spG;simp only[El] at spG;obtain⟨g1,g2,g3,g4⟩:=K4 hgp;refine yq spG ?_;have spJ:=eQ acc g.1 zO hbnd zO;simp only;cases hj:EF acc g.1 with
    |none=>
     rw[hj] at spJ;simp only[eP] at spJ;refine AL spJ ?_;refine Ck ?_;rfl
    |some l=>
     rw[hj] at spJ;simp only[eP] at spJ;have hml:=WZ hj;have hll:=Bw hml;simp only;obtain⟨ys,hys⟩:∃ys,ys=A9 v l:=zX;have spR:=bL v l hv hml;rw[<-hys] at spR |-;refine AL spJ ?_;have hl16:¬(16:Int)<(l.length:Int):=zO;refine th hl16 ?_;refine z0 ?_;intro K hK;refine tY spR (by simp[Qb]) zS ?_;refine Am ?_;by_cases c1:(ys.length:Int)=(g.2:Int)-p;rotate_left
     .refine xS c1 ?_;rw[zM (λh=>c1 zO)];rfl
     have c1t:((ys.length:Int)=(g.2:Int)-p)=True:=eq_true c1;have spM:=bK bs ys p hb zO zO;by_cases c2:(bs.drop p).take ys.length=ys
     .rw[zT c2] at spM;refine GL c1t spM ?_;refine Ck ?_;rw[zP ⟨zO,c2⟩];rfl
     .rw[zV c2] at spM;refine GL c1t spM ?_;refine AJ ?_;rw[zM (λh=>c2 h.2)];rfl
theorem Ll (xs:List Int) (x:Int):(0<=AN (λy=>decide (y=x)) xs)↔xs.contains x=true:=by
 rw[C9];simp
theorem W6 {l ref:List Int} {i:Nat} (h:i<ref.length) (b:Bool) (n:Nat):Bj l (ref.drop i) b n=if l.contains ref[i]=b then Bj l (ref.drop (i+1)) b (n+1) else n::Bj l (ref.drop (i+1)) (!b) 1:=by
 rw[List.drop_eq_getElem_cons h,Bj]
theorem Tz {ref l:List Int} {i:Nat} (h:i<l.length):Bz ref (l.take (i+1))=Bz ref (l.take i)++if ref.contains l[i]=true then [] else [l[i]]:=by
 have hto:l.take (i+1)=l.take i++[l[i]]:=by rw[uV];simp[h]
 rw[hto,Bz,wV];congr 1;cases hc:ref.contains l[i]<;>simp_all
theorem SM (ref l:List Int) (hr:ref.length<1000000) (hl:l.length<1000000):Ac pg 200 [.ro ref.length (Ab ref),.ro l.length (Ab l)] [] (λr _=>r= .tup [.own 1 (sS ref l).length (Ab (sS ref l)),.own 1 (Bz ref l).length (Ab (Bz ref l))]):=by
 refine zE (fn:=Tryz.f200) [.tmp 4,.tmp 5] ?_;rw[Aq];refine y4 ?_;refine zb ?_;refine sV (λs:Nat×List Nat×Bool×Nat=> [(0,.ro ref.length (Ab ref)),(1,.ro l.length (Ab l)),(6,.tok 0 s.2.1.length 1 0 s.2.1.length),(7,.own 1 0 []),(8,.bool s.2.2.1),(9,iN s.2.2.2),(10,iN s.1)]) (λs=> [.live s.2.1.length (Ab (s.2.1.map λn=>((n:Nat):Int)))]) (λs=>ref.length-s.1)
  (λs=>s.1<=ref.length/\s.2.1.length<=s.1/\s.2.2.2<=s.1/\Bj l ref true 0=s.2.1++Bj l (ref.drop s.1) s.2.2.1 s.2.2.2) (0,[],true,0) ((Wk.nil (t:=6) (s:=1) zS).trans (Wk.fr zK)) ⟨zS,zS,zS,zS⟩ ?_
 rintro⟨i,acc,b,n⟩ ⟨hi,hacc,hn,hinv⟩;simp only at hi hacc hn hinv;refine zs ?_;refine zc ?_ ?_<;>intro h
 .refine W.skip ?_;have hlt:i<ref.length:=zO;rw[W6 hlt] at hinv;have sp:=Lb l ref[i] zO;have hix:=Ll l ref[i];refine zb ?_;obtain⟨z,hz⟩:∃z,z=AN (λy=>decide (y=ref[i])) l:=zX;obtain⟨c,hcd⟩:∃c,c=l.contains ref[i]:=zX;rw[<-hz] at sp hix;rw[<-hcd] at hix hinv;have hdz:decide (0<=z)=c:=by rw[wX];simp[hix]
  refine Dx ?_;intro K hK;simp -implicitDefEqProofs (disch:=omega) [hlt];refine sW sp (by simp) (by simp) ?_;refine xK hdz ?_;by_cases hc:c=b
  .rw[zP hc] at hinv;refine yr hc ?_;exact⟨(i+1,acc,b,n+1),by simp only;omega,⟨by simp only;omega,by simp only;omega,by simp only;omega,hinv⟩,Wk.fr zK⟩
  .rw[zM hc] at hinv;have hcb:c= !b:=by cases c<;>cases b<;>simp_all
   have e:Ab (acc.map λn=>((n:Nat):Int))++[AV.int .i64 n]=Ab ((acc++[n]).map λn=>((n:Nat):Int)):=by simp[Ab]
   refine xP hc ?_;refine z1 ?_;intro K hK;refine⟨zO,zO,?_⟩;refine zk ?_;refine y3 ?_;refine⟨(i+1,acc++[n],!b,1),by simp only;omega,⟨by simp only;omega,Ao,by simp only;omega,by simp only;rw[hinv];simp⟩,sU (k:=1) (by simp[AA,hcb]) ?_ zS zS zS zS⟩;simp[Ab]
 .refine s7 ?_;have hi' :i=ref.length:=zO;subst hi';rw[List.drop_length,Bj,vM] at hinv;have hbl:sS ref l=acc.map λn=>((n:Nat):Int):=by rw[sS,hinv]
  have hal:acc.length=(sS ref l).length:=by rw[hbl];simp
  rw[<-hbl,hal];rw[hal] at hacc;generalize sS ref l=bl at*;refine zs ?_;have hoN:∀k,(Bz ref (l.take k)).length<=k:=λk=>Nat.le_trans (vY _ _) Ao;refine zb ?_;refine sV (λk:Nat=> [(0,.ro ref.length (Ab ref)),(1,.ro l.length (Ab l)),(6,.tok 0 bl.length 1 0 bl.length),(7,.tok 1 (Bz ref (l.take k)).length 1 0 (Bz ref (l.take k)).length),(12,iN k)]) (λk=> [.live bl.length (Ab bl),.live (Bz ref (l.take k)).length (Ab (Bz ref (l.take k)))]) (λk=>l.length-k) (λk=>k<=l.length) 0 ((Wk.nil (t:=7) (s:=1) zS).trans (Wk.fr (by simp[AA,Bz]))) zS ?_;intro k hk;refine zs ?_;refine zc ?_ ?_<;>intro h
  .refine W.skip ?_;have hlt:k<l.length:=zO;have hst:=Tz (ref:=ref) hlt;have hok:=hoN k;have sp:=Lb ref l[k] zO;have hix:=Ll ref l[k];refine zb ?_;obtain⟨z,hz⟩:∃z,z=AN (λy=>decide (y=l[k])) ref:=zX;rw[<-hz] at sp hix;by_cases hc:ref.contains l[k]=true
   .have hz0:¬z<0:=by have:=hix.2 hc;omega
    rw[zP hc,vM] at hst;refine Dx ?_;intro K hK;simp -implicitDefEqProofs (disch:=omega) [hlt];refine sW sp (by simp) (by simp) ?_;refine xK hz0 ?_;refine y3 ?_;refine⟨k+1,zO,zO,?_⟩;rw[hst];exact Wk.fr zK
   .have hz0:z<0:=by have:=mt hix.1 hc;omega
    rw[zM hc] at hst;refine Dx ?_;intro K hK;simp -implicitDefEqProofs (disch:=omega) [hlt];refine sW sp (by simp) (by simp) ?_;refine xK hz0 ?_;refine zt ?_;refine GK ?_;intro K hK;simp -implicitDefEqProofs (disch:=omega) [hlt];refine⟨zO,zO,?_⟩;refine xM ?_;refine⟨k+1,zO,zO,?_⟩;rw[hst];simp only[u0,wR];refine sU (k:=2) zK ?_ zS zS zS zS;simp[Ab]
  .refine s7 ?_;have hk' :k=l.length:=zO;subst hk';rw[uW];exact DM
end Go.Abs
