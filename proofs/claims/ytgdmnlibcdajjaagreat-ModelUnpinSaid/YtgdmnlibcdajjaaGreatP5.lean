/- Lists of whole numbers. -/
import Derived.Test.YtgdmnlibcdajjaaGreatP4
import Derived.Shelf.Small.Bits
import Derived.Shelf.Sort.Plain
import Derived.Test.YtgdmnlibcdajjaaGreatProg
open Array renaming getElem?_eq_some_iff -> vu, getD -> vD
open Bool renaming eq_iff_iff -> wX
open Classical renaming not_not -> wG
open Int renaming eq_ofNat_of_zero_le -> uS
open List renaming take_of_length_le -> uM, replicate -> uP, getElem_mem -> uQ, getElem?_eq_none -> uR, getElem?_eq_getElem -> uT, take_add_one -> uV, take_length -> uW, drop_eq_getElem_cons -> uX, mem_append -> vd, getD_eq_getElem?_getD -> vf, mem_iff_getElem -> vq, pairwise_iff_getElem -> vB, cons_append -> vF, range -> vK, mem_cons -> vL, findIdx?_eq_some_iff_getElem -> vN, replicate_succ -> vO, pairwise_cons -> vP, nil_append -> vU, getLast?_eq_getElem? -> vV, length_filter_le -> vY, pairwise_append -> wg, mem_of_mem_take -> wh, map_append -> wo, mem_singleton -> wA, length_map -> wB, find?_eq_none -> wN, filter_append -> wV, drop_of_length_le -> xd, map_congr_left -> xf, mem_take_iff_getElem -> xA
open Option renaming map_some -> vI, toList_some -> xH
set_option linter.unusedVariables false
set_option linter.unusedSimpArgs false
set_option maxRecDepth 100000
namespace Go.Abs
open Go.Proofs
theorem Sc (n:Int):Ac pg 253 [iN n] [] (λr _=>r= .bool (decide (0<=n/\n<16))):=by
 refine zE (fn:=Tryz.f253) [.tmp 2] ?_;rw[AC];refine x8 ?_;intro K hK;refine⟨λh=>?_,λh=>?_⟩
 .refine zk ?_;exact zR
 .refine zk ?_;exact zR
theorem Sd {l:List Int} (k:Nat) (h:AU l):AU (l.take k):=⟨λx hx=>h.1 x (wh hx),h.2.sublist (List.take_sublist _ _)⟩
theorem Se {l:List Int} {k:Nat} (hk:k<l.length) (h:AU (l.take k)):AU (l.take (k+1))↔(0<=l[k]/\l[k]<16)/\(0<k->l[k-1]<l[k]):=by
 rw[uV,uT hk];constructor
 .intro⟨h1,h2⟩;refine⟨h1 _ (List.mem_append_right _ zS),λh0=>?_⟩;rw[xH,wg] at h2;refine h2.2.2 _ ?_ _ zS;rw[xA];exact⟨k-1,zO,rfl⟩
 .intro⟨h1,h2⟩;refine⟨λx hx=>?_,?_⟩
  .rcases vd.1 hx with hx' |hx'
   .exact h.1 x hx'
   .simp at hx';subst hx';exact h1
  .rw[xH,wg];refine⟨h.2,zS,λx hx y hy=>?_⟩;simp at hy;subst hy;obtain⟨i,hi,rfl⟩:=xA.1 hx;have h3:=h2 zO;by_cases e:i=k-1
   .subst e;exact h3
   .have:=vB.1 h.2 i (k-1) Ao Ao zO;simp at this;omega
theorem Rc (l:List Int) (hl:l.length<1000000000000):Ac pg 213 [.ro l.length (Ab l)] [] (λr _=>r= .bool (decide (AU l))):=by
 refine zE (fn:=Tryz.f213) [.tmp 2] ?_;rw[AC];refine xV ?_;refine sV (λk:Nat=> [(0,.ro l.length (Ab l)),(5,.ro l.length (Ab l)),(6,iN l.length),(7,iN k)]) (λ_=> []) (λk=>l.length-k) (λk=>k<=l.length/\AU (l.take k)) 0 (Wk.fr ?_) (by simp[AU]) ?_
 .simp[AA]
 .rintro k ⟨hk,hm⟩;refine zs ?_;refine zc ?_ ?_<;>intro h
  .refine W.skip ?_;have hs:=Se h hm;refine yt ?_;refine s5 (λb:Bool=> [(0,.ro l.length (Ab l)),(5,.ro l.length (Ab l)),(6,iN l.length),(7,iN k),(27,.bool b)]) (λ_=> []) (λb=>b=false↔AU (l.take (k+1))) ?_ ?_
   .refine z0 ?_;intro K hK;refine zj (Sc l[k]) ?_;refine⟨λh1 h2=>⟨λh3=>?_,λh3=>?_⟩,λh1=>?_⟩
    .refine zk ?_;refine⟨decide (l[k]<=l[k-1]),?_,Wk.fr zK⟩;rw[hs];simp[h1,h2,h3]
    .refine zk ?_;refine⟨false,?_,Wk.fr zK⟩;rw[hs];exact⟨λ_=>⟨⟨h1,h2⟩,λh=>zO⟩,λ_=>rfl⟩
    .refine zk ?_;refine⟨true,?_,Wk.fr zK⟩;rw[hs];simp;omega
   .intro b hb;refine zc ?_ ?_<;>intro h
    .refine Bd ?_;intro h';have:=Sd (k+1) h';simp_all
    .refine y2 ?_;refine⟨k+1,zO,⟨zO,hb.1 h⟩,Wk.fr zK⟩
  .refine AJ ?_;have:k=l.length:=zO;subst this;simpa using hm
theorem Sf (n:Int) (h0:0<=n) (h1:n<=4611686018427387904):Ac pg 282 [iN n] [] (λr _=>r=iN (Dr n)):=by
 refine zE (fn:=Tryz.f282) [.tmp 2] ?_;rw[AC];refine y2 ?_;refine zc ?_ ?_<;>intro h
 .refine Bd ?_;simp[Dr,h]
 .refine AJ ?_;simp[Dr,h]
theorem Kq (xs ys:List Int) (hx:xs.length<4611686018427387904):Ac pg 250 [.ro xs.length (Ab xs),.ro ys.length (Ab ys)] [] (λr _=>r= .bool (decide (xs=ys))):=by
 refine zE (fn:=Tryz.f250) [.tmp 4] ?_;rw[Aq];refine y2 ?_;refine zc ?_ ?_<;>intro h
 .refine Bd ?_;intro e;exact h (by rw[e])
 .refine W.skip ?_;have hl:xs.length=ys.length:=zO;refine xR ?_;refine sV (λk:Nat=> [(0,.ro xs.length (Ab xs)),(1,.ro ys.length (Ab ys)),(12,iN xs.length),(13,iN k)]) (λ_=> []) (λk=>xs.length-k) (λk=>k<=xs.length/\xs.take k=ys.take k) 0 (Wk.fr ?_) zS ?_
  .simp[AA]
  .rintro k ⟨hk,ht⟩;refine zs ?_;refine zc ?_ ?_<;>intro h
   .refine W.skip ?_;have hlt:k<xs.length:=zO;have hlt' :k<ys.length:=zO;refine y2 ?_;refine CN ?_;intro K hK;refine zk ?_;refine zc ?_ ?_<;>intro h
    .refine Bd ?_;intro e;subst e;exact h rfl
    .refine y2 ?_;refine⟨k+1,zO,⟨zO,?_⟩,Wk.fr ?_⟩
     .rw[uV,uV,ht];simp[hlt,hlt',h]
     .simp[AA]
   .refine s7 ?_;have hk' :k=xs.length:=zO;subst hk';refine Bd ?_;rw[uW,hl,uW] at ht;simp[ht]
theorem DY {α:Type} {f:α->Bool} {l:List α} {k:Nat} (hk:k<l.length) (h:f l[k]=true) (hm:∀i (h:i<l.length),i<k->f l[i]=false):AN f l=k:=by
 unfold AN;rw[vN.2 ⟨hk,h,λj hj=>by rw[hm j zO hj];decide⟩]
theorem Fa {α:Type} {f:α->Bool} {l:List α} (hm:∀i (h:i<l.length),f l[i]=false):AN f l=-1:=by
 unfold AN;rw[List.findIdx?_eq_none_iff.2 λx hx=>by obtain⟨i,hi,rfl⟩:=vq.1 hx;exact hm i hi]
theorem C9 {α:Type} {f:α->Bool} {l:List α}:0<=AN f l↔∃x∈l,f x=true:=by
 unfold AN;cases h:l.findIdx? f with
 |none=>
  rw[List.findIdx?_eq_none_iff] at h;simp only[show¬(0:Int)<=-1 by omega,false_iff];rintro⟨x,hx,hf⟩;rw[h x hx] at hf;simp at hf
 |some i=>
  obtain⟨hi,hf,_⟩:=vN.1 h;simp only[Int.natCast_nonneg,true_iff];exact⟨l[i],uQ hi,hf⟩
theorem bq (xs:List Int) (x:Int) (hx:xs.length<4611686018427387904):Ac pg 255 [.ro xs.length (Ab xs),iN x] [] (λr _=>r=iN (AN (λy=>decide (y=x)) xs)):=by
 refine zE (fn:=Tryz.f255) [.tmp 4] ?_;rw[Aq];refine xV ?_;refine sV (λk:Nat=> [(0,.ro xs.length (Ab xs)),(1,iN x),(7,iN xs.length),(8,iN k)]) (λ_=> []) (λk=>xs.length-k) (λk=>k<=xs.length/\∀i (h:i<xs.length),i<k->xs[i]≠x) 0 (Wk.fr ?_) zS ?_
 .simp[AA]
 .rintro k ⟨hk,ht⟩;refine zs ?_;refine zc ?_ ?_<;>intro h
  .refine y4 ?_;refine zc ?_ ?_<;>intro h
   .refine Bd ?_;exact(DY zO (by simp[h]) λi hi hik=>by simpa using ht i hi hik).symm
   .refine y2 ?_;refine⟨k+1,zO,⟨zO,?_⟩,Wk.fr zK⟩;intro i hi hik;by_cases e:i=k
    .subst e;exact λe=>h e.symm
    .exact ht i hi zO
  .refine AJ ?_;exact(Fa λi hi=>by simpa using ht i hi zO).symm
theorem FQ (xs:List Int) (x:Int) (hx:xs.length<4611686018427387904):Ac pg 218 [.ro xs.length (Ab xs),iN x] [] (λr _=>r= .bool (xs.contains x)):=by
 refine zE (fn:=Tryz.f218) [.tmp 4] ?_;rw[Aq];refine zs ?_;refine yj (bq xs x hx) ?_;rw[C9];simp
theorem IU (xs:List Int) (hx:xs.length<1000000000000):Ac pg 152 [.ro xs.length (Ab xs)] [] (λr _=>r= .own 1 xs.length (Ab xs)):=by
 refine zE (fn:=Tryz.f152) [.tmp 2] ?_;rw[AC];refine x8 ?_;intro K hK;refine⟨λh=>?_,λh=>⟨?_,?_⟩⟩
 .refine yh ?_;refine AX ?_;exact zR
 .refine yh ?_;subst h;refine AX ?_;exact zR
 .refine yi ?_;simp[h]
def El (o:Option (List Int×Nat)):AV:=match o with|some r=> .tup [.own 1 r.1.length (Ab r.1),.int .i64 r.2,.bool true] |none=> .tup [.own 1 0 [],.int .i64 0,.bool false]
theorem Vs (b:DX) (p:Nat) (v:Int) (hb:EB b) (hp:p<50000000000) (hv:0<=v/\v<100000):Ac pg 246 [.agg (Dd b),iN p,iN v] [] (λr _=>r=El (EE (AH b) p v)):=by
 have hl:=Db b;have h2:=hb.2.1;have h3:=hb.2.2;have h0:=hb.1;refine zE (fn:=Tryz.f246) [.tmp 6,.tmp 7,.tmp 8] ?_;rw[A6];refine yg ?_;intro K hK;have sp:=Ii b p hb hp;cases hg:Bi (AH b) p with
 |none=>
  simp only[hg,Hx] at sp;refine yc sp ?_;simp[EE,hg,El]
 |some x=>
  simp only[hg,Hx] at sp;obtain⟨hx1,hx2,hx3,hx4,_⟩:=Bl hg;refine zj sp ?_;refine xM ?_;refine zc ?_ ?_<;>intro h
  .refine Bd ?_;simp only[EE,hg];rw[zM zO];simp[El]
  .refine xZ ?_;refine sV (λs:Nat×List Int×Nat×Int=> [(3,pt 0),(6,.tok 1 s.1 1 0 s.1),(7,iN s.2.2.1),(10,iN s.2.2.2),(28,iN ((x.1:Int)-1)),(29,iN s.1)]) (λs=> [lv (Dd b),.live s.1 (Ab s.2.1)]) (λs=>x.1-1-s.1)
    (λs=>s.1<=x.1-1/\s.2.1.length=s.1/\s.2.2.1<=(AH b).length/\(0<=s.2.2.2/\s.2.2.2<100000)/\CY (AH b) (x.1-1) true x.2 v=(CY (AH b) (x.1-1-s.1) (decide (s.1=0)) s.2.2.1 s.2.2.2).map λr=>(s.2.1++r.1,r.2)) (0,[],x.2,v) ((Wk.nil (t:=6) (s:=1) zS).trans (Wk.fr zK)) ⟨zO,rfl,hx4,hv,zS⟩ ?_
   rintro⟨k,acc,q,last⟩ ⟨hk,hacc,hq,hlast,hinv⟩;simp only at hk hacc hq hlast hinv;refine zs ?_;refine zc ?_ ?_<;>intro h
   .refine W.skip ?_;obtain⟨m,hm⟩:∃m,x.1-1-k=m+1:=⟨x.1-1-k-1,zO⟩;have hm' :x.1-1-(k+1)=m:=zO;rw[hm] at hinv;refine y3 ?_;refine z0 ?_;intro K hK;have sp:=Ii b q hb zO;cases hg2:Bi (AH b) q with
    |none=>
     simp only[hg2,Hx] at sp;refine yc sp ?_;simp only[CY,hg2] at hinv;simp[EE,hg,hinv,El]
    |some y=>
     simp only[hg2,Hx] at sp;obtain⟨hy1,hy2,hy3,hy4,_⟩:=Bl hg2;refine yd sp ?_;simp only[CY,hg2] at hinv;have hz:∃z:Int,z=(if k=0 then Dr ((y.1:Int)-1) else(y.1:Int))/\-1073741825<=z/\z<=1073741825:=⟨_,rfl,by unfold Dr;split<;>(try split)<;>omega,by unfold Dr;split<;>(try split)<;>omega⟩;obtain⟨z,hz,hz1,hz2⟩:=hz;refine yo ?_;refine s5 (λ_:Unit=> [(3,pt 0),(6,.tok 1 k 1 0 k),(7,iN y.2),(10,iN last),(12,iN z),(28,iN ((x.1:Int)-1)),(29,iN k)]) (λ_=> [lv (Dd b),.live k (Ab acc)]) (λ_=>True) ?_ ?_
     .refine zc ?_ ?_<;>intro h
      .refine AL (Sf ((y.1:Int)-1) (by omega) (by omega)) ?_;exact⟨(),trivial,Wk.fr (by simp[AA,hz,h])⟩
      .refine W.skip ?_;exact⟨(),trivial,Wk.fr (by simp[AA,hz,h])⟩
     .rintro _ _;have hzz:(if decide (k=0)=true then Dr ((y.1:Int)-1) else(y.1:Int))=z:=by rw[hz];simp
      rw[hzz,hm'.symm] at hinv;refine zs ?_;refine AL (Sc (last+z)) ?_;refine zc ?_ ?_<;>intro h
      .refine Bd ?_;rw[zM zO] at hinv;simp[EE,hg,hinv,El]
      .refine W.skip ?_;rw[zP zO] at hinv;refine x6 ?_;refine⟨(k+1,acc++[last+z],y.2,last+z),Ao,⟨Ao,Ao,hy4,by simp only;omega,?_⟩,sU (k:=2) zK (by simp[B5,Ab]) zS zS zS zS⟩;rw[hinv];simp only[show decide (k+1=0)=false from zS];cases CY (AH b) (x.1-1-(k+1)) false y.2 (last+z)<;>simp
   .refine AJ ?_;have:x.1-1-k=0:=zO;rw[this] at hinv;simp[EE,hg,El,hacc];rw[zP zO,hinv];simp[CY,<-hacc]
theorem Qh:∀(m:List Int) (n:Nat),1<=n->n<=m.length->(∀j,0<j->j<n->m.getD j 0=m.getD (j-1) 0+1)->(n<m.length->m.getD n 0≠m.getD (n-1) 0+1)->Bc m=n
 | [],n,h1,h2,_,_=>by simp at h2;omega
 | [x],n,h1,h2,_,_=>by simp at h2;simp[Bc];omega
 |x::y::t,n,h1,h2,hr,he=>by
  by_cases e:n=1
  .subst e;have:=he zS;simp at this;simp[Bc,this]
  .have h3:=hr 1 zO zO;simp at h3;have ih:=Qh (y::t) (n-1) zO (by simp at h2 |-;omega) (λj h4 h5=>by
    have:=hr (j+1) zO zO;obtain⟨i,rfl⟩:∃i,j=i+1:=⟨j-1,zO⟩;simpa using this) (λh4=>by
    have:=he (by simp at h4 |-;omega);obtain⟨i,rfl⟩:∃i,n=i+2:=⟨n-2,zO⟩;simpa using this)
   have h3' :y=x+1:=by simpa using h3
   simp only[Bc,h3',if_true];rw[h3'] at ih;omega
theorem Qi {l:List Int} {i k:Nat} (hik:i<k) (hk:k<=l.length) (hr:∀j (h:j<l.length),i<j->j<k->l[j]=l[j-1]+1) (he:∀h:k<l.length,l[k]≠l[k-1]+1):Bc (l.drop i)=k-i:=by
 refine Qh _ _ zO Ao (λj h1 h2=>?_) (λh1=>?_)
 .have:=hr (i+j) zO zO zO;have e:i+j-1=i+(j-1):=zO;simp only[e] at this;simp[List.getD,show i+j<l.length by omega,show i+(j-1)<l.length by omega,this]
 .have h1' :k<l.length:=by simp at h1;omega
  have:=he h1';have e1:i+(k-i)=k:=zO;have e2:i+(k-i-1)=k-1:=zO;simp[List.getD,e1,e2,h1',show k-1<l.length by omega,this]
theorem Sg {l:List Int} {i k:Nat} (hi:i<l.length) (h:Bc (l.drop i)=k-i) (hik:i<k) (hk:k<=l.length):Ay (l.drop i)=
 if 3<=k-i then((l[i],((k-i:Nat):Int))::(Ay (l.drop k)).1,(Ay (l.drop k)).2) else((Ay (l.drop k)).1,((l.drop i).take (k-i))++(Ay (l.drop k)).2):=by
 have e:=uX hi;rw[e] at h |-;rw[Ay,h,<-e,List.drop_drop,show i+(k-i)=k by omega]
def Qj (q:List (Int×Int)×List Int):AV:= .tup [.own 2 q.1.length (Aa Al q.1),.own 1 q.2.length (Ab q.2)]
theorem Ug (l:List Int) (hl:l.length<1000000000) (hb:∀x∈l,-1000000000000<x/\x<1000000000000):Ac pg 248 [.ro l.length (Ab l)] [] (λr _=>r=Qj (Ay l)):=by
 have hb' :∀i (h:i<l.length),-1000000000000<l[i]/\l[i]<1000000000000:=λi h=>hb _ (uQ h);refine zE (fn:=Tryz.f248) [.tmp 2,.tmp 3] ?_;rw[AC];refine xV ?_;refine sV (λs:Nat×List (Int×Int)×List Int×Nat=> [(0,.ro l.length (Ab l)),(2,.tok 0 s.2.1.length 2 0 s.2.1.length),(3,.tok 1 s.2.2.2 1 0 s.2.2.1.length),(4,iN s.1)]) (λs=> [.live s.2.1.length (Aa Al s.2.1),.live s.2.2.2 (Ab s.2.2.1)]) (λs=>l.length-s.1)
  (λs=>s.1<=l.length/\s.2.1.length<=s.1/\s.2.2.1.length<=s.1/\Ay l=(s.2.1++(Ay (l.drop s.1)).1,s.2.2.1++(Ay (l.drop s.1)).2)) (0,[],[],0) ((Wk.nil (t:=2) (s:=2) zS).trans ((Wk.nil (t:=3) (s:=1) zS).trans (Wk.fr zK))) zS ?_
 rintro⟨i,ra,sa,c⟩ ⟨hi,hra,hsa,hinv⟩;simp only at hi hra hsa hinv;refine zs ?_;refine zc ?_ ?_<;>intro h
 .refine xZ ?_;refine sV (λk:Nat=> [(0,.ro l.length (Ab l)),(2,.tok 0 ra.length 2 0 ra.length),(3,.tok 1 c 1 0 sa.length),(4,iN i),(5,iN k)]) (λ_=> [.live ra.length (Aa Al ra),.live c (Ab sa)]) (λk=>l.length-k)
   (λk=>i<k/\k<=l.length/\∀j (h:j<l.length),i<j->j<k->l[j]=l[j-1]+1) (i+1) (Wk.fr zK) ⟨zO,zO,λj h h1 h2=>zO⟩ ?_
  rintro k ⟨hik,hk,hrun⟩;refine zw ?_;refine s5 (λb:Bool=> [(0,.ro l.length (Ab l)),(2,.tok 0 ra.length 2 0 ra.length),(3,.tok 1 c 1 0 sa.length),(4,iN i),(5,iN k),(28,.bool b)]) (λ_=> [.live ra.length (Aa Al ra),.live c (Ab sa)]) (λb=>b=true↔∃h:k<l.length,l[k]=l[k-1]+1) ?_ ?_
  .by_cases h2:k<l.length
   .have h3:=hb' k h2;have h4:=hb' (k-1) zO;refine CN ?_;intro K hK;refine zk ?_;exact⟨decide (l[k]=l[k-1]+1),by simp[h2],Wk.fr zK⟩
   .refine CN ?_;intro K hK;refine zk ?_;exact⟨false,by simp[h2],Wk.fr zK⟩
  .intro b hbb;refine zc ?_ ?_<;>intro h
   .refine W.skip ?_;obtain⟨h2,h3⟩:=hbb.1 (by assumption);refine y2 ?_;refine⟨k+1,zO,⟨zO,zO,λj hj h4 h5=>?_⟩,Wk.fr zK⟩;by_cases e:j=k
    .subst e;exact h3
    .exact hrun j hj h4 zO
   .refine s7 ?_;have hend:∀h:k<l.length,l[k]≠l[k-1]+1:=λh2 h3=>by simp_all
    have hrl:=Qi hik hk hrun hend;have hpa:=Sg zO hrl hik hk;refine zs ?_;refine zc ?_ ?_<;>intro h
    .rw[zP zO] at hpa;refine x6 ?_;refine⟨(k,ra++[(l[i],((k-i:Nat):Int))],sa,c),Ao,⟨hk,Ao,Ao,?_⟩,sU (k:=2) zK ?_ zS zS zS zS⟩
     .rw[hinv,hpa];simp
     .simp[BI,AG,Al];omega
    .rw[zM (by omega)] at hpa;refine y2 ?_;refine⟨(k,ra,sa++(l.drop i).take (k-i),c+1),by simp;omega,⟨hk,by simp;omega,by simp;omega,?_⟩,sU (k:=2) (by simp[AA];omega) ?_ (by simp) (by simp) (by simp) (by simp)⟩
     .rw[hinv,hpa];simp
     .simp[B5]
 .refine AJ ?_;rw[hinv];simp[Qj,xd h,Ay]
theorem Yt (xs ys:List (Int×Int)) (hx:xs.length<4611686018427387904):Ac pg 249 [.ro xs.length (Aa Al xs),.ro ys.length (Aa Al ys)] [] (λr _=>r= .bool (decide (xs=ys))):=by
 refine zE (fn:=Tryz.f249) [.tmp 4] ?_;rw[Aq];refine y2 ?_;refine zc ?_ ?_<;>intro h
 .refine Bd ?_;intro e;exact h (by rw[e])
 .refine W.skip ?_;have hl:xs.length=ys.length:=zO;refine xR ?_;refine sV (λk:Nat=> [(0,.ro xs.length (Aa Al xs)),(1,.ro ys.length (Aa Al ys)),(12,iN xs.length),(13,iN k)]) (λ_=> []) (λk=>xs.length-k) (λk=>k<=xs.length/\xs.take k=ys.take k) 0 (Wk.fr ?_) zS ?_
  .simp[AA]
  .rintro k ⟨hk,ht⟩;refine zs ?_;refine zc ?_ ?_<;>intro h
   .refine W.skip ?_;have hlt:k<xs.length:=zO;have hlt' :k<ys.length:=zO;refine y2 ?_;refine E1 ?_;intro K hK;simp -implicitDefEqProofs (disch:=omega) [hlt,hlt',Al];refine zk ?_;refine zc ?_ ?_<;>intro h
    .refine Bd ?_;intro e;subst e;simp at h
    .refine W.skip ?_;have he:xs[k]=ys[k]:=Prod.ext h.1 h.2;refine zs ?_;refine⟨k+1,zO,⟨zO,?_⟩,Wk.fr ?_⟩
     .rw[uV,uV,ht];simp[hlt,hlt',he]
     .simp[AA]
   .refine s7 ?_;have hk' :k=xs.length:=zO;subst hk';refine Bd ?_;rw[uW,hl,uW] at ht;simp[ht]
def Qk (o:Option (List (Int×Int)×Nat)):AV:=match o with|some r=> .tup [.own 2 r.1.length (Aa Al r.1),.int .i64 r.2,.bool true] |none=> .tup [.own 2 0 [],.int .i64 0,.bool false]
def HX (bs:List Bool) (p:Nat) (v:Int):Option (List (Int×Int)×Nat):=match Bi bs p with
 |none=>none
 |some x=>if x.1<=16 then Dl bs (x.1-1) true x.2 v else none
theorem Vt (b:DX) (p:Nat) (v:Int) (hb:EB b) (hp:p<50000000000) (hv:0<=v/\v<100000):Ac pg 245 [.agg (Dd b),iN p,iN v] [] (λr _=>r=Qk (HX (AH b) p v)):=by
 have hl:=Db b;have h2:=hb.2.1;have h3:=hb.2.2;have h0:=hb.1;refine zE (fn:=Tryz.f245) [.tmp 6,.tmp 7,.tmp 8] ?_;rw[A6];refine yg ?_;intro K hK;have sp:=Ii b p hb hp;cases hg:Bi (AH b) p with
 |none=>
  simp only[hg,Hx] at sp;refine yc sp ?_;simp[HX,hg,Qk]
 |some x=>
  simp only[hg,Hx] at sp;obtain⟨hx1,hx2,hx3,hx4,_⟩:=Bl hg;refine zj sp ?_;refine xM ?_;refine zc ?_ ?_<;>intro h
  .refine Bd ?_;simp only[HX,hg];rw[zM zO];simp[Qk]
  .refine xZ ?_;refine sV (λs:Nat×List (Int×Int)×Nat×Int=> [(3,pt 0),(6,.tok 1 s.1 2 0 s.1),(7,iN s.2.2.1),(10,iN s.2.2.2),(32,iN ((x.1:Int)-1)),(33,iN s.1)]) (λs=> [lv (Dd b),.live s.1 (Aa Al s.2.1)]) (λs=>x.1-1-s.1)
    (λs=>s.1<=x.1-1/\s.2.1.length=s.1/\s.2.2.1<=(AH b).length/\(-4294967296*((s.1:Int)+1)<=s.2.2.2/\s.2.2.2<=4294967296*((s.1:Int)+1))/\Dl (AH b) (x.1-1) true x.2 v=(Dl (AH b) (x.1-1-s.1) (decide (s.1=0)) s.2.2.1 s.2.2.2).map λr=>(s.2.1++r.1,r.2)) (0,[],x.2,v) ((Wk.nil (t:=6) (s:=2) zS).trans (Wk.fr zK)) ⟨zO,rfl,hx4,by simp only;omega,zS⟩ ?_
   rintro⟨k,acc,q,last⟩ ⟨hk,hacc,hq,hlast,hinv⟩;simp only at hk hacc hq hlast hinv;refine zs ?_;refine zc ?_ ?_<;>intro h
   .refine W.skip ?_;obtain⟨m,hm⟩:∃m,x.1-1-k=m+1:=⟨x.1-1-k-1,zO⟩;have hm' :x.1-1-(k+1)=m:=zO;rw[hm] at hinv;refine xY ?_;intro K hK;have sp:=Ii b q hb zO;cases hg2:Bi (AH b) q with
    |none=>
     simp only[hg2,Hx] at sp;refine yc sp ?_;simp only[Dl,hg2] at hinv;simp only[HX,hg];rw[zP zO,hinv];simp[Qk]
    |some y=>
     simp only[hg2,Hx] at sp;obtain⟨hy1,hy2,hy3,hy4,_⟩:=Bl hg2;refine yd sp ?_;refine z0 ?_;intro K hK;have sp:=Ii b y.2 hb zO;cases hg3:Bi (AH b) y.2 with
     |none=>
      simp only[hg3,Hx] at sp;refine yc sp ?_;simp only[Dl,hg2,hg3] at hinv;simp only[HX,hg];rw[zP zO,hinv];simp[Qk]
     |some w=>
      simp only[hg3,Hx] at sp;obtain⟨hw1,hw2,hw3,hw4,_⟩:=Bl hg3;refine yd sp ?_;simp only[Dl,hg2,hg3] at hinv;have hz:∃z:Int,z=(if k=0 then Dr ((y.1:Int)-1) else(y.1:Int))/\-1073741825<=z/\z<=1073741825:=⟨_,rfl,by unfold Dr;split<;>(try split)<;>omega,by unfold Dr;split<;>(try split)<;>omega⟩;obtain⟨z,hz,hz1,hz2⟩:=hz;refine yo ?_;refine s5 (λ_:Unit=> [(3,pt 0),(6,.tok 1 k 2 0 k),(10,iN last),(12,iN z),(13,iN w.2),(15,iN w.1),(32,iN ((x.1:Int)-1)),(33,iN k)]) (λ_=> [lv (Dd b),.live k (Aa Al acc)]) (λ_=>True) ?_ ?_
      .refine zc ?_ ?_<;>intro h
       .refine AL (Sf ((y.1:Int)-1) (by omega) (by omega)) ?_;exact⟨(),trivial,Wk.fr (by simp[AA,hz,h])⟩
       .refine W.skip ?_;exact⟨(),trivial,Wk.fr (by simp[AA,hz,h])⟩
      .rintro _ _;have hzz:(if decide (k=0)=true then Dr ((y.1:Int)-1) else(y.1:Int))=z:=by rw[hz];simp
       rw[hzz,hm'.symm] at hinv;refine AX ?_;refine Hw ?_;intro K hK;simp -implicitDefEqProofs (disch:=omega);refine xM ?_;refine⟨(k+1,acc++[(last+z,(w.1:Int)-1+3)],w.2,last+z+((w.1:Int)-1+3)),Ao,⟨Ao,Ao,hw4,by simp only;omega,?_⟩,sU (k:=2) zK (by simp[BI,AG,Al]) zS zS zS zS⟩;rw[hinv];simp only[show decide (k+1=0)=false from zS];cases Dl (AH b) (x.1-1-(k+1)) false w.2 (last+z+((w.1:Int)-1+3))<;>simp
   .refine AJ ?_;have:x.1-1-k=0:=zO;rw[this] at hinv;simp[HX,hg,Qk,hacc];rw[zP zO,hinv];simp[Dl,<-hacc]
end Go.Abs
namespace Go.Proofs
open Go.Shelf
def Tryz.lays125_ren:Go.Shelf.Ren:=⟨λ|125=>298|128=>314|129=>315|n=>n,λ|46=>223|3=>3|51=>302|53=>305|4=>4|5=>5|9=>9|n=>n,λ|n=>n⟩
theorem t6:Go.Proofs.Lays.n125 Tryz.prog Tryz.lays125_ren:={
 mixed:=by kernel_rfl
 f125:=Tryz.func298.trans (congrArg some (by kernel_rfl))
 f128:=Tryz.func314.trans (congrArg some (by kernel_rfl))
 f129:=Tryz.func315.trans (congrArg some (by kernel_rfl))
 t3:=Tryz.underlying3
 a3:=Tryz.isAgg3
 z3:=Tryz.sizeOf3
 v3:=Tryz.zeroValue3
 t4:=Tryz.underlying4
 a4:=Tryz.isAgg4
 z4:=Tryz.sizeOf4
 v4:=Tryz.zeroValue4
 t5:=Tryz.underlying5
 a5:=Tryz.isAgg5
 z5:=Tryz.sizeOf5
 v5:=Tryz.zeroValue5
 t9:=Tryz.underlying9
 a9:=Tryz.isAgg9
 z9:=Tryz.sizeOf9
 v9:=Tryz.zeroValue9
 t46:=Tryz.underlying223
 a46:=Tryz.isAgg223
 z46:=Tryz.sizeOf223
 v46:=Tryz.zeroValue223
 t51:=Tryz.underlying302
 a51:=Tryz.isAgg302
 z51:=Tryz.sizeOf302
 v51:=Tryz.zeroValue302
 t53:=Tryz.underlying305
 a53:=Tryz.isAgg305
 z53:=Tryz.sizeOf305
 v53:=Tryz.zeroValue305}
theorem tW (x:Int) (w:World) (h0:0<=x) (h1:x<=18446744073709551615):
 Calls Tryz.prog 298 #[.int .u64 x] w λe w' =>e= .returned (.int .i64 (Lib.bitLen x.toNat))/\w' =w:=Any.bits_Len t6 x w h0 h1
def Tryz.lays189_ren:Go.Shelf.Ren:=⟨λ|189=>283|125=>298|257=>297|128=>314|129=>315|294=>306|295=>307|296=>308|297=>309|298=>310|299=>311|216=>261|300=>312|301=>313|328=>317|329=>318|330=>319|331=>320|332=>321|215=>290|343=>322|n=>n,λ|28=>36|3=>3|46=>223|0=>0|51=>302|53=>305|4=>4|183=>311|182=>310|131=>247|5=>5|9=>9|218=>318|222=>322|228=>324|229=>133|n=>n,λ|n=>n⟩
theorem t7:Go.Proofs.Lays.n189 Tryz.prog Tryz.lays189_ren:={
 mixed:=by kernel_rfl
 f125:=Tryz.func298.trans (congrArg some (by kernel_rfl))
 f128:=Tryz.func314.trans (congrArg some (by kernel_rfl))
 f129:=Tryz.func315.trans (congrArg some (by kernel_rfl))
 f189:=Tryz.func283.trans (congrArg some (by kernel_rfl))
 f215:=Tryz.func290.trans (congrArg some (by kernel_rfl))
 f216:=Tryz.func261.trans (congrArg some (by kernel_rfl))
 f257:=Tryz.func297.trans (congrArg some (by kernel_rfl))
 f294:=Tryz.func306.trans (congrArg some (by kernel_rfl))
 f295:=Tryz.func307.trans (congrArg some (by kernel_rfl))
 f296:=Tryz.func308.trans (congrArg some (by kernel_rfl))
 f297:=Tryz.func309.trans (congrArg some (by kernel_rfl))
 f298:=Tryz.func310.trans (congrArg some (by kernel_rfl))
 f299:=Tryz.func311.trans (congrArg some (by kernel_rfl))
 f300:=Tryz.func312.trans (congrArg some (by kernel_rfl))
 f301:=Tryz.func313.trans (congrArg some (by kernel_rfl))
 f328:=Tryz.func317.trans (congrArg some (by kernel_rfl))
 f329:=Tryz.func318.trans (congrArg some (by kernel_rfl))
 f330:=Tryz.func319.trans (congrArg some (by kernel_rfl))
 f331:=Tryz.func320.trans (congrArg some (by kernel_rfl))
 f332:=Tryz.func321.trans (congrArg some (by kernel_rfl))
 f343:=Tryz.func322.trans (congrArg some (by kernel_rfl))
 t0:=Tryz.underlying0
 a0:=Tryz.isAgg0
 z0:=Tryz.sizeOf0
 v0:=Tryz.zeroValue0
 t3:=Tryz.underlying3
 a3:=Tryz.isAgg3
 z3:=Tryz.sizeOf3
 v3:=Tryz.zeroValue3
 t4:=Tryz.underlying4
 a4:=Tryz.isAgg4
 z4:=Tryz.sizeOf4
 v4:=Tryz.zeroValue4
 t5:=Tryz.underlying5
 a5:=Tryz.isAgg5
 z5:=Tryz.sizeOf5
 v5:=Tryz.zeroValue5
 t9:=Tryz.underlying9
 a9:=Tryz.isAgg9
 z9:=Tryz.sizeOf9
 v9:=Tryz.zeroValue9
 t28:=Tryz.underlying36
 a28:=Tryz.isAgg36
 z28:=Tryz.sizeOf36
 v28:=Tryz.zeroValue36
 t46:=Tryz.underlying223
 a46:=Tryz.isAgg223
 z46:=Tryz.sizeOf223
 v46:=Tryz.zeroValue223
 t51:=Tryz.underlying302
 a51:=Tryz.isAgg302
 z51:=Tryz.sizeOf302
 v51:=Tryz.zeroValue302
 t53:=Tryz.underlying305
 a53:=Tryz.isAgg305
 z53:=Tryz.sizeOf305
 v53:=Tryz.zeroValue305
 t131:=Tryz.underlying247
 a131:=Tryz.isAgg247
 z131:=Tryz.sizeOf247
 v131:=Tryz.zeroValue247
 t182:=Tryz.underlying310
 a182:=Tryz.isAgg310
 z182:=Tryz.sizeOf310
 v182:=Tryz.zeroValue310
 t183:=Tryz.underlying311
 a183:=Tryz.isAgg311
 z183:=Tryz.sizeOf311
 v183:=Tryz.zeroValue311
 t218:=Tryz.underlying318
 a218:=Tryz.isAgg318
 z218:=Tryz.sizeOf318
 v218:=Tryz.zeroValue318
 t222:=Tryz.underlying322
 a222:=Tryz.isAgg322
 z222:=Tryz.sizeOf322
 v222:=Tryz.zeroValue322
 t228:=Tryz.underlying324
 a228:=Tryz.isAgg324
 z228:=Tryz.sizeOf324
 v228:=Tryz.zeroValue324
 t229:=Tryz.underlying133
 a229:=Tryz.isAgg133
 z229:=Tryz.sizeOf133
 v229:=Tryz.zeroValue133}
open Go.Sort Go.RowKit in
theorem tJ (blk off cap:Nat) (zs:List Int) (w:World) (hH:Holds (Value.int .i64) w blk off zs.toArray) (hblk:blk<w.heap.size) (hsz:zs.length<4611686018427387904):
 Calls Tryz.prog 283 #[.slice (some ⟨blk,off,none⟩) zs.length cap] w λe w' =>
  e= .returned (.tuple #[])/\∃n os,w' =grow (putRow (Value.int .i64) (Sort.ahead w n) blk off (zs.mergeSort λx y=>decide (x<=y)).toArray) os:=Any.slices_Sort_int t7 blk off cap zs w hH hblk hsz
end Go.Proofs
set_option maxRecDepth 100000
namespace Go.Abs
open Go.Proofs
theorem J8 {f:Nat} {fn:Func} (h:pg.funcs[f]?=some fn) (h1:(fn.name== "runtime.NumGoroutine")=false) (h2:fn.body.isNone=false):KP pg f:=⟨fn,h,h1,h2⟩
theorem Ql (n:Nat) (h:n<9223372036854775808):Ac pg 298 [.int .u64 n] [] (λr _=>r=iN (Lib.bitLen n)):=
 RL (J8 (fn:=Tryz.f298) rfl AK rfl) λw=>by
  have:=tW (n:Int) w zO zO;simpa using this
theorem eC (v:Nat):Ac pg 306 [.tok 0 v 1 0 0,iN 0,iN 0] [.live v []] (λr M=>r= .tup []/\M=[.live v []]):=by
 refine zE (fn:=Tryz.f306) [] ?_;rw[A6];refine y2 ?_;refine sV (λ_:Unit=> [(0,.tok 0 v 1 0 0),(1,iN 0),(2,iN 0),(6,iN 1)]) (λ_=> [.live v []]) (λ_=>0) (λ_=>True) () (Wk.fr zK) trivial ?_;rintro _ _;refine y3 ?_;(try simp only[BN,Cn,CB,CC,if_true]);refine Fw (d:=0) ?_;simp -implicitDefEqProofs (disch:=omega)
theorem eD (v:Nat):Ac pg 297 [.tok 0 v 1 0 0,iN 0,iN 0,iN 0] [.live v []] (λr M=>r= .tup []/\M=[.live v []]):=by
 refine zE (fn:=Tryz.f297) [] ?_;rw[I3];refine y3 ?_;refine sV (λ_:Unit=> [(0,.tok 0 v 1 0 0),(1,iN 0),(2,iN 0),(3,iN 0)]) (λ_=> [.live v []]) (λ_=>0) (λ_=>True) () (Wk.fr zK) trivial ?_;rintro _ _;refine y4 ?_;refine z0 ?_;intro K hK;refine sZ [0] (eC v) zS zS zS zS ?_;rintro _ M ⟨rfl,rfl⟩ _;refine Am ?_;exact zR
theorem br (v:Nat):Ac pg 283 [.tok 0 v 1 0 0] [.live v []] (λr M=>r= .tup []/\M=[.live v []]):=by
 refine zE (fn:=Tryz.f283) [] ?_;rw[AC];refine x8 ?_;intro K hK;refine sW (Ql 0 (by omega)) (by simp;rfl) (by simp) ?_;rw[show Lib.bitLen 0=0 from rfl];refine zx ?_;refine sZ [0] (eD v) zS zS zS zS ?_;rintro _ M ⟨rfl,rfl⟩ _;refine Am ?_;(try simp only[BN,Cn,CB,CC,if_true]);refine Fw (d:=0) ?_;simp -implicitDefEqProofs (disch:=omega)
theorem WA (xs:List Int) (v:Nat) (hx:xs.length<4611686018427387904):Ac pg 283 [.tok 0 v 1 0 xs.length] [.live v (Ab xs)] (λr M=>r= .tup []/\M=[.live v (Ab (CO xs))]):=by
 cases xs with
 |nil=>simpa[CO] using br v
 |cons x xs=>exact Tw (J8 (fn:=Tryz.f283) rfl AK rfl) (λblk off cap zs w h1 h2 h3=>tJ blk off cap zs w h1 h2 h3) (x::xs) v hx zS
theorem Ha (l:List Int):(CO l).length=l.length:=List.length_mergeSort _
def Uh (rest:List Int) (o:Option (List Int)):AV:=match o with
 |none=> .tup [.own 1 0 [],.bool false]
 |some l=> .tup [.own 1 (CO (rest++l)).length (Ab (CO (rest++l))),.bool (decide (AU rest/\AU (CO (rest++l))))]
theorem bt (r:List (Int×Int)) (rest:List Int) (hr:r.length<1000000) (hrest:rest.length<1000000) (hb:∀q∈r,(-1000000000000<q.1/\q.1<1000000000000)/\(-1000000000000<q.2/\q.2<1000000000000)):
 Ac pg 247 [.ro r.length (Aa Al r),.ro rest.length (Ab rest)] [] (λx _=>x=Uh rest (Ep r (-1))):=by
 refine zE (fn:=Tryz.f247) [.tmp 4,.tmp 5] ?_;rw[Aq];refine zs ?_;refine AL (IU rest (by omega)) ?_;refine xV ?_;refine sV (λs:Nat×List Int×Int×Nat=> [(1,.ro rest.length (Ab rest)),(6,.tok 0 s.2.2.2 1 0 s.2.1.length),(7,iN s.2.2.1),(13,.ro r.length (Aa Al r)),(14,iN r.length),(15,iN s.1)]) (λs=> [.live s.2.2.2 (Ab s.2.1)]) (λs=>r.length-s.1)
  (λs=>s.1<=r.length/\s.2.1.length<=rest.length+16*s.1/\(-1<=s.2.2.1/\s.2.2.1<=40)/\(Ep r (-1)).map (rest++·)=(Ep (r.drop s.1) s.2.2.1).map (s.2.1++·)) (0,rest,-1,0) (Wk.fr zK) zS ?_
 rintro⟨k,acc,e,c⟩ ⟨hk,hacc,he,hinv⟩;simp only at hk hacc he hinv;refine zs ?_;refine zc ?_ ?_<;>intro h
 .refine W.skip ?_;have hlt:k<r.length:=zO;have hbk:=hb _ (uQ hlt);have hd:=uX hlt;rw[hd] at hinv;generalize hq:r[k]=q at*;obtain⟨a,n⟩:=q;simp only at hbk;refine x9 ?_;intro K hK;simp -implicitDefEqProofs (disch:=omega) [hlt,hq,Al];refine zk ?_;refine zw ?_;refine s5 (λb:Bool=> [(1,.ro rest.length (Ab rest)),(6,.tok 0 c 1 0 acc.length),(7,iN e),(9,pt 1),(13,.ro r.length (Aa Al r)),(14,iN r.length),(15,iN k),(48,.bool b)]) (λ_=> [.live c (Ab acc),lv [iN a,iN n]]) (λb=>b=true↔n<3\/16<n\/a<=e\/¬(0<=a/\a<16)\/¬(0<=a+n-1/\a+n-1<16)) ?_ ?_
  .by_cases c1:n<3
   .refine zs ?_;exact⟨true,by simp[c1],Wk.fr zK⟩
   by_cases c2:16<n
   .refine zs ?_;exact⟨true,by simp[c2],Wk.fr zK⟩
   by_cases c3:a<=e
   .refine zs ?_;exact⟨true,by simp[c3],Wk.fr zK⟩
   by_cases c4:¬(0<=a/\a<16)
   .refine z0 ?_;intro K hK;refine sW (Sc a) (by simp) (by simp) ?_;rw[zV c4];refine Am ?_;exact⟨true,Ao,Wk.fr zK⟩
   .refine z0 ?_;intro K hK;refine sW (Sc a) (by simp) (by simp) ?_;rw[zT (wG.1 c4)];refine zx ?_;refine sW (Sc (a+n-1)) (by simp) (by simp) ?_;by_cases c5:0<=a+n-1/\a+n-1<16
    .rw[zT c5];refine Am ?_;exact⟨false,Ao,Wk.fr zK⟩
    .rw[zV c5];refine Am ?_;exact⟨true,Ao,Wk.fr zK⟩
  .intro b hbb;refine zc ?_ ?_<;>intro h
   .have hbad:=hbb.1 (by assumption);refine Bd ?_;simp only[Ep] at hinv;rw[zP hbad] at hinv;simp at hinv;simp[hinv,Uh]
   .have hgood:¬(n<3\/16<n\/a<=e\/¬(0<=a/\a<16)\/¬(0<=a+n-1/\a+n-1<16)):=λh=>by
     have h1:=hbb.2 h;have h2:b=false:=by assumption
     rw[h1] at h2;cases h2
    simp only[Ep] at hinv;rw[zM hgood] at hinv;refine xZ ?_;refine sV (λj:Nat=> [(1,.ro rest.length (Ab rest)),(6,.tok 0 (c+j) 1 0 (acc.length+j)),(7,iN (a+n)),(10,iN (a+j)),(13,.ro r.length (Aa Al r)),(14,iN r.length),(15,iN k)]) (λj=> [.live (c+j) (Ab (acc++(vK j).map λi=>a+(i:Nat)))]) (λj=>n.toNat-j) (λj=>(j:Int)<=n) 0 (sU (k:=1) zK zS zS zS zS zS) zO ?_;intro j hj;refine zs ?_;refine zc ?_ ?_<;>intro h
    .refine y2 ?_;refine x6 ?_;refine⟨j+1,by omega,by omega,sU (k:=1) (by simp[AA];omega) (by simp[B5,List.range_succ];simp[Ab];omega) (by simp) (by simp) (by simp) (by simp)⟩
    .refine s7 ?_;have hjn:j=n.toNat:=zO;subst hjn;refine zs ?_;refine⟨(k+1,acc++(vK n.toNat).map (λi=>a+(i:Nat)),a+n,c+n.toNat),zO,⟨zO,Ao,show-1<=a+n/\a+n<=40 by omega,?_⟩,Wk.fr zK⟩;rw[hinv];cases Ep (r.drop (k+1)) (a+n)<;>simp
 .refine s7 ?_;have hkk:k=r.length:=zO;subst hkk;simp[Ep] at hinv;obtain⟨l,hl,hacc2⟩:=hinv;subst hacc2;have hst:(CO (rest++l)).take (rest.length+l.length)=CO (rest++l):=by rw[uM];rw[Ha];simp
  refine z0 ?_;intro K hK;refine sZ [0] (WA (rest++l) c zO) zS zS zS zS ?_;rintro _ M ⟨rfl,rfl⟩ _;refine Am ?_;refine z0 ?_;intro K hK;refine sW (Rc rest (by omega)) (by simp) (by simp) ?_;by_cases hm:AU rest
  .rw[zT hm];refine zx ?_;refine sW (Rc (CO (rest++l)) (by rw[Ha];omega)) (by simp[Ha,hst]) zS ?_;refine xU ?_;simp[hl,Uh,hm,Ha,hst]
  .rw[zV hm];refine xU ?_;simp[hl,Uh,hm,Ha,hst]
theorem JJ {bs:List Bool}:∀(k:Nat) (f:Bool) (p:Nat) (last:Int) (r:List Int×Nat),p<=bs.length->CY bs k f p last=some r->r.1.length=k/\(∀x∈r.1,0<=x/\x<16)/\p<=r.2/\r.2<=bs.length
 |0,f,p,last,r,hp,h=>by simp[CY] at h;subst h;simp;exact hp
 |k+1,f,p,last,r,hp,h=>by
  simp only[CY] at h;split at h
  .simp at h
  .rename_i x hx;obtain⟨h1,h2,h3,h4,_⟩:=Bl hx;generalize (last+(if f=true then Dr ((x.1:Int)-1) else(x.1:Int)))=y at h;split at h
   .rename_i hy;split at h
    .rename_i q hq;simp at h;subst h;obtain⟨g1,g2,g3,g4⟩:=JJ k false x.2 _ q h4 hq;refine⟨by simp[g1],λz hz=>?_,by simp only;omega,g4⟩;simp at hz;rcases hz with rfl|hz
     .exact hy
     .exact g2 z hz
    .simp at h
   .simp at h
theorem Qm {bs:List Bool}:∀(k:Nat) (p:Nat) (last:Int) (r:List Int×Nat),CY bs k false p last=some r->r.1.Pairwise (·<·)/\∀x∈r.1,last<x
 |0,p,last,r,h=>by simp[CY] at h;subst h;simp
 |k+1,p,last,r,h=>by
  simp only[CY,Bool.false_eq_true,if_false] at h;split at h
  .simp at h
  .rename_i x hx;obtain⟨h1,h2,h3,h4,_⟩:=Bl hx;split at h
   .split at h
    .rename_i q hq;simp at h;subst h;obtain⟨g1,g2⟩:=Qm k x.2 _ q hq;refine⟨?_,λz hz=>?_⟩
     .simp only[vP];exact⟨λz hz=>by have:=g2 z hz;simpa using this,g1⟩
     .simp at hz;rcases hz with rfl|hz
      .omega
      .have:=g2 z hz;omega
    .simp at h
   .simp at h
theorem Vu {bs:List Bool} {k:Nat} {f:Bool} {p:Nat} {last:Int} {r:List Int×Nat} (hp:p<=bs.length) (h:CY bs k f p last=some r):AU r.1:=by
 refine⟨(JJ k f p last r hp h).2.1,?_⟩;cases k with
 |zero=>simp[CY] at h;subst h;simp
 |succ k=>
  simp only[CY] at h;split at h
  .simp at h
  .rename_i x hx;generalize (last+(if f=true then Dr ((x.1:Int)-1) else(x.1:Int)))=y at h;split at h
   .split at h
    .rename_i q hq;simp at h;subst h;obtain⟨g1,g2⟩:=Qm k _ _ q hq;simp only[vP];exact⟨λz hz=>by have:=g2 z hz;simpa using this,g1⟩
    .simp at h
   .simp at h
theorem K4 {bs:List Bool} {p:Nat} {v:Int} {r:List Int×Nat} (h:EE bs p v=some r):r.1.length<=16/\AU r.1/\p<r.2/\r.2<=bs.length:=by
 unfold EE at h;split at h
 .simp at h
 .rename_i x hx;obtain⟨h1,h2,h3,h4,_⟩:=Bl hx;split at h
  .have h5:=JJ _ _ _ _ _ h4 h;exact⟨zO,Vu h4 h,zO,h5.2.2.2⟩
  .simp at h
theorem Mg {bs:List Bool}:∀(k:Nat) (f:Bool) (p:Nat) (e:Int) (r:List (Int×Int)×Nat) (B:Int),p<=bs.length->-B<=e->e<=B->Dl bs k f p e=some r->r.1.length=k/\(∀q∈r.1,-(B+4294967296*(k:Int))<=q.1/\q.1<=B+4294967296*(k:Int)/\3<=q.2/\q.2<=2147483648)/\p<=r.2/\r.2<=bs.length
 |0,f,p,e,r,B,hp,_,_,h=>by simp[Dl] at h;subst h;simp;exact hp
 |k+1,f,p,e,r,B,hp,hB1,hB2,h=>by
  simp only[Dl] at h;split at h
  .simp at h
  .rename_i x hx;obtain⟨h1,h2,h3,h4,_⟩:=Bl hx;split at h
   .simp at h
   .rename_i y hy;obtain⟨i1,i2,i3,i4,_⟩:=Bl hy;split at h
    .rename_i q hq;simp at h;subst h;have hz:∃z:Int,z=(if f=true then Dr ((x.1:Int)-1) else(x.1:Int))/\-1073741825<=z/\z<=1073741825:=⟨_,rfl,by unfold Dr;split<;>(try split)<;>omega,by unfold Dr;split<;>(try split)<;>omega⟩;obtain⟨z,hz,hz1,hz2⟩:=hz;rw[<-hz] at hq |-;obtain⟨g1,g2,g3,g4⟩:=Mg k false y.2 _ q (B+4294967296) i4 zO zO hq;refine⟨by simp[g1],λw hw=>?_,by simp only;omega,g4⟩;simp only[vL] at hw;rcases hw with rfl|hw
     .simp only;omega
     .have:=g2 w hw;omega
    .simp at h
theorem Sh:∀(l:List Int) (b:Int),(∀x∈l,b<=x/\x<16)->l.Pairwise (·<·)->l.length<=(16-b).toNat
 | [],b,_,_=>zS
 |x::t,b,h,hp=>by
  rw[vP] at hp;have h1:=h x zS;have:=Sh t (x+1) (λy hy=>⟨by have:=hp.1 y hy;omega,(h y (by simp[hy])).2⟩) hp.2;simp;omega
theorem Bw {l:List Int} (h:AU l):l.length<=16:=Sh l 0 h.1 h.2
theorem Qn:∀(n:Nat) (l:List Int),l.length<=n->(Ay l).1.length<=l.length/\(Ay l).2.length<=l.length
 |_,[],_=>by simp[Ay]
 |0,x::l,h=>by simp at h
 |n+1,x::l,h=>by
  have h1:=FO x l;have h2:=Gl (x::l);have h3:((x::l).drop (Bc (x::l))).length=(x::l).length-Bc (x::l):=zS;have ih:=Qn n ((x::l).drop (Bc (x::l))) zO;rw[Ay];split
  .simp only[List.length_cons] at*;omega
  .simp only[List.length_append,List.length_take] at*;omega
theorem K5 {bs:List Bool} {p:Nat} {v:Int} {r:List Int×Nat} (hv:-100000<=v/\v<=100000) (h:Ea bs p v=some r):AU r.1/\r.1.length<=16/\p<r.2/\r.2<=bs.length:=by
 unfold Ea at h;split at h
 .simp at h
 .rename_i x hx;obtain⟨h1,h2,h3,h4,_⟩:=Bl hx;split at h
  .split at h
   .simp at h
   .rename_i r0 hr0;have g0:=Mg _ _ _ _ _ 100000 h4 hv.1 hv.2 hr0;split at h
    .simp at h
    .rename_i g hg;have g1:=K4 hg;split at h
     .simp at h
     .rename_i l hl;unfold FZ at hl;split at hl
      .simp at hl
      .split at hl
       .rename_i hm;simp at hl;split at h
        .simp at h;subst h;rw[hl] at hm;exact⟨hm.2,Bw hm.2,by simp only;omega,g1.2.2.2⟩
        .simp at h
       .simp at hl
  .simp at h
def Mh (o:Option (List Int×Nat)) (r:AV):Prop:=match o with
 |some q=>r= .tup [.own 1 q.1.length (Ab q.1),.int .i64 q.2,.bool true]
 |none=>∃(xs:List Int) (a:Int),r= .tup [.own 1 xs.length (Ab xs),.int .i64 a,.bool false]
theorem OF (b:DX) (p:Nat) (v:Int) (hb:EB b) (hp:p<50000000000) (hv:0<=v/\v<100000):Ac pg 207 [.agg (Dd b),iN p,iN v] [] (λr _=>Mh (Ea (AH b) p v) r):=by
 have hl:=Db b;have h2:=hb.2.1;have h3:=hb.2.2;have h0:=hb.1;have e0:Ea (AH b) p v=match HX (AH b) p v with
  |none=>none
  |some r=>match EE (AH b) r.2 v with
   |none=>none
   |some g=>match FZ r.1 g.1 with
    |none=>none
    |some l=>if Ay l=(r.1,g.1) then some (l,g.2) else none:=by
  unfold Ea HX;cases Bi (AH b) p with
  |none=>rfl
  |some x=>simp only;split<;>rfl
 refine zE (fn:=Tryz.f207) [.tmp 6,.tmp 7,.tmp 8] ?_;rw[A6];refine yg ?_;intro K hK;have sp:=Vt b p v hb hp hv;cases hr:HX (AH b) p v with
 |none=>
  simp only[hr,Qk] at sp e0;refine yc sp ?_;rw[e0];exact⟨[],0,rfl⟩
 |some r=>
  simp only[hr,Qk] at sp e0;obtain⟨i1,i2,i3,i4,i5⟩:r.1.length<=15/\(∀q∈r.1,(-1000000000000<q.1/\q.1<1000000000000)/\(-1000000000000<q.2/\q.2<1000000000000))/\r.2<=(AH b).length/\True/\True:=by
   unfold HX at hr;split at hr
   .simp at hr
   .rename_i x hx;obtain⟨j1,j2,j3,j4,_⟩:=Bl hx;split at hr
    .have:=Mg _ _ _ _ _ 100000 j4 zO zO hr;refine⟨zO,λq hq=>?_,this.2.2.2,trivial,trivial⟩;have:=this.2.1 q hq;omega
    .simp at hr
  refine yd sp ?_;refine z0 ?_;intro K hK;have sp:=Vs b r.2 v hb zO hv;cases hg:EE (AH b) r.2 v with
  |none=>
   simp only[hg,El] at sp e0;refine yc sp ?_;rw[e0];exact⟨[],0,rfl⟩
  |some g=>
   obtain⟨g1,g2,g3,g4⟩:=K4 hg;simp only[hg,El] at sp e0;refine yd sp ?_;refine z0 ?_;intro K hK;have sp:=bt r.1 g.1 zO zO i2;cases hw:Ep r.1 (-1) with
   |none=>
    simp only[hw,Uh,FZ] at sp e0;refine yc sp ?_;rw[e0];exact⟨[],0,rfl⟩
   |some l=>
    simp only[hw,Uh,FZ] at sp e0;generalize CO (g.1++l)=L at sp e0;by_cases hm:AU g.1/\AU L
    .rw[zP hm] at e0;rw[zT hm] at sp;have hll:=Bw hm.2;have hpl:=Qn _ L (Nat.le_refl _);simp only at e0;refine yd sp ?_;refine z0 ?_;intro K hK;have sp:=Ug L zO (λx hx=>by have:=hm.2.1 x hx;omega);refine sW sp zS (by simp[Qj]) ?_;simp only[Qj];refine Am ?_;refine z0 ?_;intro K hK;refine sW (Yt (Ay L).1 r.1 (by omega)) (by simp) (by simp) ?_;by_cases c1:(Ay L).1=r.1
     .rw[zT c1];refine zx ?_;refine sW (Kq (Ay L).2 g.1 (by omega)) (by simp) (by simp) ?_;by_cases c2:(Ay L).2=g.1
      .rw[zT c2];refine xU ?_;have c3:Ay L=(r.1,g.1):=Prod.ext c1 c2;rw[e0,zP c3];rfl
      .rw[zV c2];refine xU ?_;rw[e0,zM (λe=>c2 (by rw[e]))];exact⟨L,g.2,rfl⟩
     .rw[zV c1];refine xU ?_;rw[e0,zM (λe=>c1 (by rw[e]))];exact⟨L,g.2,rfl⟩
    .rw[zM hm] at e0;rw[zV hm] at sp;refine yc sp ?_;rw[e0];exact⟨[],0,rfl⟩
def HY (l:List Nat):List Int:=l.map λn=>((n:Nat):Int)
theorem WB (a b:List Nat):HY (a++b)=HY a++HY b:=by simp[HY]
@[simp] theorem jf (a:List Nat):(HY a).length=a.length:=by simp[HY]
def WC (q:List Int×List Int):AV:= .tup [.own 1 q.1.length (Ab q.1),.own 1 q.2.length (Ab q.2)]
theorem Si (ref l:List Int) (h1:ref.length<1000000000) (h2:l.length<1000000000):Ac pg 284 [.ro ref.length (Ab ref),.ro l.length (Ab l)] [] (λr _=>r=WC (sS ref l,Bz ref l)):=by
 refine zE (fn:=Tryz.f284) [.tmp 4,.tmp 5] ?_;rw[Aq];refine xZ ?_;refine sV (λs:Nat×List Nat×Bool×Nat=> [(0,.ro ref.length (Ab ref)),(1,.ro l.length (Ab l)),(4,.tok 0 s.2.1.length 1 0 s.2.1.length),(5,.tok 1 0 1 0 0),(6,.bool s.2.2.1),(7,iN s.2.2.2),(12,.ro ref.length (Ab ref)),(13,iN ref.length),(14,iN s.1)]) (λs=> [.live s.2.1.length (Ab (HY s.2.1)),lv []]) (λs=>ref.length-s.1)
  (λs=>s.1<=ref.length/\s.2.1.length<=s.1/\s.2.2.2<=s.1/\Bj l ref true 0=s.2.1++Bj l (ref.drop s.1) s.2.2.1 s.2.2.2) (0,[],true,0) ((Wk.nil (t:=4) (s:=1) zS).trans ((Wk.nil (t:=5) (s:=1) zS).trans (Wk.fr zK))) zS ?_
 rintro⟨k,acc,i,n⟩ ⟨hk,hacc,hn,hinv⟩;simp only at hk hacc hn hinv;refine zs ?_;refine zc ?_ ?_<;>intro h
 .refine W.skip ?_;have hlt:k<ref.length:=zO;rw[uX hlt] at hinv;simp only[Bj] at hinv;refine xY ?_;intro K hK;refine sW (FQ l ref[k] (by omega)) (by simp) (by simp) ?_;by_cases hc:l.contains ref[k]=i
  .rw[hc];refine Am ?_;refine y4 ?_;rw[zP hc] at hinv;refine⟨(k+1,acc,i,n+1),Ao,⟨Ao,Ao,Ao,hinv⟩,Wk.fr zK⟩
  .have hc' :l.contains ref[k]= !i:=by cases i<;>simp_all
   rw[hc'];refine Am ?_;refine zt ?_;refine AX ?_;refine y3 ?_;rw[zM hc] at hinv;refine⟨(k+1,acc++[n],!i,1),Ao,⟨Ao,Ao,zS,?_⟩,sU (k:=2) zK (by simp[WB,B5];simp[HY,Ab]) zS zS zS zS⟩;rw[hinv];simp
 .refine s7 ?_;have:ref.drop k=[]:=xd zO;rw[this] at hinv;simp[Bj] at hinv;subst hinv;refine xR ?_;refine sV (λs:Nat×List Int=> [(0,.ro ref.length (Ab ref)),(4,.tok 0 (Bj l ref true 0).length 1 0 (Bj l ref true 0).length),(5,.tok 1 s.2.length 1 0 s.2.length),(32,.ro l.length (Ab l)),(33,iN l.length),(34,iN s.1)]) (λs=> [.live (Bj l ref true 0).length (Ab (HY (Bj l ref true 0))),.live s.2.length (Ab s.2)]) (λs=>l.length-s.1)
   (λs=>s.1<=l.length/\s.2.length<=s.1/\Bz ref l=s.2++Bz ref (l.drop s.1)) (0,[]) (Wk.fr zK) zS ?_
  rintro⟨j,oc⟩ ⟨hj,hoc,hio⟩;simp only at hj hoc hio;refine zs ?_;refine zc ?_ ?_<;>intro h
  .refine W.skip ?_;have hlt:j<l.length:=zO;rw[uX hlt] at hio;refine xY ?_;intro K hK;refine sW (FQ ref l[j] (by omega)) (by simp) (by simp) ?_;by_cases hc:ref.contains l[j]=true
   .rw[hc];refine yu ?_;refine⟨(j+1,oc),Ao,⟨Ao,Ao,?_⟩,Wk.fr zK⟩;rw[hio,Bz,List.filter_cons_of_neg (by rw[hc];decide)];rfl
   .have hc:ref.contains l[j]=false:=by simpa using hc
    rw[hc];refine Am ?_;refine zt ?_;refine x6 ?_;refine⟨(j+1,oc++[l[j]]),Ao,⟨Ao,Ao,?_⟩,sU (k:=2) zK (by simp[B5];simp[Ab]) zS zS zS zS⟩;rw[hio,Bz,List.filter_cons_of_pos (by rw[hc];decide)];simp[Bz]
  .refine s7 ?_;have:l.drop j=[]:=xd zO;rw[this] at hio;simp[Bz] at hio;refine Bd ?_;simp[WC,sS,Bz,hio,HY];rw[uM zS]
def qf (ref bl rest:List Int):Option (List Int):=match BC bl ref true with
 |none=>none
 |some l=>if AU (CO (rest++l)) then some (CO (rest++l)) else none
theorem Jb (l:List Int):∀(ref:List Int) (i:Bool) (n:Nat),(Bj l ref i n).length<=ref.length
 | [],i,n=>by simp[Bj]
 |x::ref,i,n=>by
  simp only[Bj];split
  .have:=Jb l ref i (n+1);simp;omega
  .have:=Jb l ref (!i) 1;simp;omega
theorem Yu (ref bl rest:List Int) (h1:ref.length<1000000) (h2:bl.length<1000000) (h3:rest.length<1000000) (hb:∀x∈bl,-1000000000000<x/\x<1000000000000):
 Ac pg 251 [.ro ref.length (Ab ref),.ro bl.length (Ab bl),.ro rest.length (Ab rest)] [] (λr _=>match Dm ref bl rest with
  |some l=>r= .tup [.own 1 l.length (Ab l),.bool true]
  |none=>∃xs:List Int,r= .tup [.own 1 xs.length (Ab xs),.bool false]):=by
 refine zE (fn:=Tryz.f251) [.tmp 6,.tmp 7] ?_;rw[A6];refine zs ?_;refine AL (IU rest (by omega)) ?_;refine xZ ?_;refine sV (λs:Nat×List Int×List Int×Bool×Nat=> [(0,.ro ref.length (Ab ref)),(1,.ro bl.length (Ab bl)),(2,.ro rest.length (Ab rest)),(8,.tok 0 s.2.2.2.2 1 0 s.2.1.length),(9,.ro s.2.2.1.length (Ab s.2.2.1)),(10,.bool s.2.2.2.1),(18,.ro bl.length (Ab bl)),(19,iN bl.length),(20,iN s.1)]) (λs=> [.live s.2.2.2.2 (Ab s.2.1)]) (λs=>bl.length-s.1)
  (λs=>s.1<=bl.length/\s.2.1.length+s.2.2.1.length<=rest.length+ref.length/\(BC bl ref true).map (rest++·)=(BC (bl.drop s.1) s.2.2.1 s.2.2.2.1).map (s.2.1++·)) (0,rest,ref,true,0) (Wk.fr zK) zS ?_
 rintro⟨k,acc,left,i,c⟩ ⟨hk,hacc,hinv⟩;simp only at hk hacc hinv;refine zs ?_;refine zc ?_ ?_<;>intro h
 .refine W.skip ?_;have hlt:k<bl.length:=zO;have hbk:=hb _ (uQ hlt);rw[uX hlt] at hinv;simp only[BC] at hinv;generalize hn:bl[k]=n at hinv hbk;refine zb ?_;refine zg (an hlt hn) ?_;by_cases hbad:n<0\/(left.length:Int)<n
  .rw[zP hbad] at hinv;have hcg:BC bl ref true=none:=by simpa using hinv
   have hcw:Dm ref bl rest=none:=by simp[Dm,hcg]
   refine zw ?_;refine s5 (λ_:Unit=> [(31,.bool true)]) (λ_=> []) (λ_=>True) ?_ ?_
   .by_cases hz:n<0
    .refine zs ?_;exact⟨(),trivial,sU (k:=0) zK zS zS zS zS zS⟩
    .refine zs ?_;exact⟨(),trivial,sU (k:=0) zK zS zS zS zS zS⟩
   .rintro _ _;refine AJ ?_;rw[hcw];exact⟨[],rfl,rfl⟩
  .rw[zM hbad] at hinv;refine y4 ?_;have hle:n.toNat<=left.length:=zO;have htk:(left.drop n.toNat).take (left.length-n.toNat)=left.drop n.toNat:=uM zS;cases i with
   |true=>
    refine y4 ?_;refine⟨(k+1,acc++left.take n.toNat,left.drop n.toNat,false,c+1),Ao,⟨Ao,Ao,?_⟩,sU (k:=1) (by simp[AA,htk];try omega) (by simp[B5]) zS zS zS zS⟩;rw[hinv];simp only[Bool.not_true];cases BC (bl.drop (k+1)) (left.drop n.toNat) false<;>simp
   |false=>
    refine y4 ?_;refine⟨(k+1,acc,left.drop n.toNat,true,c),Ao,⟨Ao,Ao,?_⟩,Wk.fr (by simp[AA,htk];try omega)⟩;rw[hinv];simp only[Bool.not_false];cases BC (bl.drop (k+1)) (left.drop n.toNat) true<;>simp
 .refine s7 ?_;have hkk:bl.drop k=[]:=xd zO;rw[hkk] at hinv;simp only[BC,vI] at hinv;obtain⟨e,he,hee⟩:∃e,BC bl ref true=some e/\rest++e=acc++(if i=true then left else []):=by
   cases hc:BC bl ref true with
   |none=>rw[hc] at hinv;simp at hinv
   |some e=>rw[hc] at hinv;simp at hinv;exact⟨e,rfl,hinv⟩
  refine yo ?_;refine s5 (λc:Nat=> [(0,.ro ref.length (Ab ref)),(1,.ro bl.length (Ab bl)),(2,.ro rest.length (Ab rest)),(8,.tok 0 c 1 0 (rest++e).length)]) (λc=> [.live c (Ab (rest++e))]) (λ_=>True) ?_ ?_
  .cases i with
   |true=>
    refine y2 ?_;exact⟨c+1,trivial,sU (k:=1) (by simp[AA,hee]) (by simp[hee,B5]) zS zS zS zS⟩
   |false=>
    refine y2 ?_;exact⟨c,trivial,sU (k:=1) (by simp[AA,hee]) (by simp[hee]) zS zS zS zS⟩
  .rintro c _;have hel:(rest++e).length<=rest.length+ref.length:=by rw[hee];split<;>simp<;>omega
   generalize hX:rest++e=X at hel;have hln:=Ha X;generalize hL:CO X=L at hln;refine z0 ?_;intro K hK;refine sZ [0] (WA X c zO) zS zS zS zS ?_;rw[hL];rintro _ M ⟨rfl,rfl⟩ _;rw[<-hln];refine Am ?_;refine z0 ?_;intro K hK;refine sW (Rc L (by omega)) (by simp) (by simp) ?_;have hcw:Dm ref bl rest=if AU L/\sS ref L=bl/\Bz ref L=rest then some L else none:=by simp only[Dm,he,hX,hL]
   by_cases hm:AU L
   .rw[zT hm];refine x4 ?_;have hll:=Bw hm;refine z0 ?_;intro K hK;refine sW (Si ref L zO zO) zS (by simp[WC]) ?_;simp only[WC];refine Am ?_;refine z0 ?_;intro K hK;refine sW (Kq (sS ref L) bl (by have:=Jb L ref true 0;simp[sS];omega)) (by simp) (by simp) ?_;by_cases c1:sS ref L=bl
    .rw[zT c1];refine zx ?_;refine sW (Kq (Bz ref L) rest (by have:=vY (λx=> !ref.contains x) L;simp only[Bz];omega)) (by simp) (by simp) ?_;by_cases c2:Bz ref L=rest
     .rw[zT c2];refine xU ?_;rw[hcw,zP ⟨hm,c1,c2⟩];exact⟨rfl,rfl⟩
     .rw[zV c2];refine xU ?_;rw[hcw,zM (λh=>c2 h.2.2)];exact⟨L,rfl,rfl⟩
    .rw[zV c1];refine xU ?_;rw[hcw,zM (λh=>c1 h.2.1)];exact⟨L,rfl,rfl⟩
   .rw[zV hm];refine xX ?_;rw[hcw,zM (λh=>hm h.1)];exact⟨[],rfl,rfl⟩
theorem Qo {bs:List Bool}:∀(k:Nat) (f:Bool) (p:Nat) (r:List Int×Nat),p<=bs.length->Dh bs k f p=some r->r.1.length=k/\(∀x∈r.1,0<=x/\x<=1073741824)/\r.2<=bs.length
 |0,f,p,r,hp,h=>by simp[Dh] at h;subst h;simp;exact hp
 |k+1,f,p,r,hp,h=>by
  simp only[Dh] at h;split at h
  .simp at h
  .rename_i x hx;obtain⟨h1,h2,h3,h4,_⟩:=Bl hx;split at h
   .rename_i q hq;simp at h;subst h;obtain⟨g1,g2,g3⟩:=Qo k false x.2 q h4 hq;refine⟨by simp[g1],λz hz=>?_,g3⟩;simp only[vL] at hz;rcases hz with rfl|hz
    .split<;>omega
    .exact g2 z hz
   .simp at h
theorem Sj (b:DX) (p:Nat) (v:Int) (ref:List Int) (hb:EB b) (hp:p<50000000000) (hv:0<=v/\v<100000) (href:ref.length<1000000):Ac pg 209 [.agg (Dd b),iN p,iN v,.ro ref.length (Ab ref)] [] (λr _=>Mh (DF (AH b) p v ref) r):=by
 have hl:=Db b;have h2:=hb.2.1;have h3:=hb.2.2;have h0:=hb.1;refine zE (fn:=Tryz.f209) [.tmp 8,.tmp 9,.tmp 10] ?_;rw[I3];refine yg ?_;intro K hK;have sp:=Ii b p hb hp;cases hg:Bi (AH b) p with
 |none=>
  simp only[hg,Hx] at sp;refine yc sp ?_;simp only[DF,hg];exact⟨[],0,rfl⟩
 |some x=>
  simp only[hg,Hx] at sp;obtain⟨hx1,hx2,hx3,hx4,_⟩:=Bl hg;refine zj sp ?_;refine xM ?_;refine zc ?_ ?_<;>intro h
  .refine Bd ?_;simp only[DF,hg];rw[zM zO];exact⟨[],0,rfl⟩
  .refine xZ ?_;refine sV (λs:Nat×List Int×Nat=> [(2,iN v),(3,.ro ref.length (Ab ref)),(4,pt 0),(8,.own 1 0 []),(9,iN s.2.2),(12,.tok 1 s.1 1 0 s.1),(30,iN ((x.1:Int)-1)),(31,iN s.1)]) (λs=> [lv (Dd b),.live s.1 (Ab s.2.1)]) (λs=>x.1-1-s.1)
    (λs=>s.1<=x.1-1/\s.2.1.length=s.1/\s.2.2<=(AH b).length/\Dh (AH b) (x.1-1) true x.2=(Dh (AH b) (x.1-1-s.1) (decide (s.1=0)) s.2.2).map λr=>(s.2.1++r.1,r.2)) (0,[],x.2) ((Wk.nil (t:=12) (s:=1) zS).trans (Wk.fr zK)) ⟨zO,rfl,hx4,zS⟩ ?_
   rintro⟨k,acc,q⟩ ⟨hk,hacc,hq,hinv⟩;simp only at hk hacc hq hinv;refine zs ?_;refine zc ?_ ?_<;>intro h
   .refine W.skip ?_;obtain⟨m,hm⟩:∃m,x.1-1-k=m+1:=⟨x.1-1-k-1,zO⟩;have hm' :x.1-1-(k+1)=m:=zO;rw[hm] at hinv;refine y3 ?_;refine z0 ?_;intro K hK;have sp:=Ii b q hb zO;cases hg2:Bi (AH b) q with
    |none=>
     simp only[hg2,Hx] at sp;refine yc sp ?_;simp only[Dh,hg2] at hinv;simp only[DF,hg];rw[zP zO,hinv];exact⟨[],0,rfl⟩
    |some y=>
     simp only[hg2,Hx] at sp;obtain⟨hy1,hy2,hy3,hy4,_⟩:=Bl hg2;refine yd sp ?_;simp only[Dh,hg2] at hinv;have hz:∃z:Int,z=(if k=0 then(y.1:Int)-1 else(y.1:Int)):=zX;obtain⟨z,hz⟩:=hz;refine yo ?_;refine s5 (λ_:Unit=> [(2,iN v),(3,.ro ref.length (Ab ref)),(4,pt 0),(8,.own 1 0 []),(9,iN y.2),(12,.tok 1 k 1 0 k),(14,iN z),(30,iN ((x.1:Int)-1)),(31,iN k)]) (λ_=> [lv (Dd b),.live k (Ab acc)]) (λ_=>True) ?_ ?_
     .refine zc ?_ ?_<;>intro h
      .refine zs ?_;exact⟨(),trivial,Wk.fr (by simp[AA,hz,h])⟩
      .refine W.skip ?_;exact⟨(),trivial,Wk.fr (by simp[AA,hz,h])⟩
     .rintro _ _;have hzz:(if decide (k=0)=true then(y.1:Int)-1 else(y.1:Int))=z:=by rw[hz];simp
      rw[hzz,hm'.symm] at hinv;refine x6 ?_;refine⟨(k+1,acc++[z],y.2),Ao,⟨Ao,Ao,hy4,?_⟩,sU (k:=2) zK (by simp[B5,Ab]) zS zS zS zS⟩;rw[hinv];simp only[show decide (k+1=0)=false from zS];cases Dh (AH b) (x.1-1-(k+1)) false y.2<;>simp
   .refine s7 ?_;have hk0:x.1-1-k=0:=zO;rw[hk0] at hinv;simp only[Dh,vI,List.append_nil] at hinv;have hno:=Qo _ _ _ _ hx4 hinv;have hcr:DF (AH b) p v ref=match Ea (AH b) q v with
     |none=>none
     |some r=>match Dm ref acc r.1 with
      |some l=>some (l,r.2)
      |none=>none:=by
     simp only[DF,hg];rw[zP zO,hinv];rfl
    simp only at hno;subst hacc;refine z0 ?_;intro K hK;have sp:=OF b q v hb zO hv;cases hr:Ea (AH b) q v with
    |none=>
     simp only[hr,Mh] at sp hcr;refine tr sp zS ?_;rintro _ ⟨xs,a,rfl⟩;refine⟨zS,?_⟩;refine Am ?_;refine Ck ?_;rw[hcr];exact⟨[],0,rfl⟩
    |some r=>
     simp only[hr,Mh] at sp hcr;refine yd sp ?_;refine z0 ?_;intro K hK;have sp:=Yu ref acc r.1 href zO (by have:=K5 zO hr;omega) (λz hz=>by have:=hno.2.1 z hz;omega);cases hc:Dm ref acc r.1 with
     |none=>
      simp only[hc] at sp hcr;refine tr sp zS ?_;rintro _ ⟨xs,rfl⟩;refine⟨zS,?_⟩;refine Am ?_;refine Bd ?_;rw[hcr];exact⟨xs,r.2,rfl⟩
     |some l=>
      simp only[hc] at sp hcr;refine xN sp ?_;refine Bd ?_;rw[hcr];rfl
def G5 (g:Gr):Prop:=g.out.length<1000000000/\∀l∈g.out,l.length<1000000000
theorem IJ (out:List (List Int)) (k:Nat):Br (out.take k)<=Br out:=by
 have:Br out=Br (out.take k)+Br (out.drop k):=by rw[Br,Br,Br,<-List.sum_append,<-wo,List.take_append_drop]
 omega
theorem IK {out:List (List Int)} {k:Nat} (hk:k<out.length):Br (out.take (k+1))=Br (out.take k)+out[k].length:=by
 have e:out.take (k+1)=out.take k++[out[k]]:=by rw[uV,uT hk];rfl
 rw[e,Br,wo,List.sum_append];simp[Br]
theorem WD (g:Gr) (h1:g.out.length<1000000000) (h2:Br g.out<4611686018427387904):Ac pg 214 [.agg (A1 false g)] [] (λr _=>r=iN (Br g.out)):=by
 refine zE (fn:=Tryz.f214) [.tmp 2] ?_;rw[AC];refine AX ?_;refine xV ?_;refine sV (λk:Nat=> [(3,iN (Br (g.out.take k))),(7,DH false g.out),(8,iN g.out.length),(9,iN k)]) (λ_=> []) (λk=>g.out.length-k) (λk=>k<=g.out.length) 0 (sU (k:=0) (by simp[AA,Br]) zS zS zS zS zS) zS ?_;intro k hk;refine zs ?_;refine zc ?_ ?_<;>intro h
 .refine W.skip ?_;have hlt:k<g.out.length:=zO;have hs:=IK hlt;have ht:=IJ g.out (k+1);refine y4 ?_;refine⟨k+1,zO,zO,Wk.fr (by simp[AA,hs])⟩
 .refine s7 ?_;have:k=g.out.length:=zO;subst this;exact DM
theorem OG (g:Gr) (v:Int):Ac pg 252 [.agg (A1 false g),iN v] [] (λr _=>r= .bool (decide (0<=v/\v<g.n))):=by
 refine zE (fn:=Tryz.f252) [.tmp 4] ?_;rw[Aq];refine AX ?_;by_cases h:0<=v
 .exact DM
 .exact DM
theorem N0 (n:Nat):Bv n [AV.own 1 0 []]=Ak true (uP n []):=by
 induction n with
 |zero=>rfl
 |succ n ih=>rw[vO,FM,<-ih];rfl
theorem Ui (n:Nat) (hn:n<1000000):Ac pg 215 [iN n] [] (λr _=>r= .agg (A1 true ⟨n,uP n []⟩)):=by
 refine zE (fn:=Tryz.f215) [.cell 2 34] ?_;rw[AC];refine AX ?_;refine AX ?_;refine zr ?_;simp[N0]
def Ho (n:Int) (l:List Int):Prop:=AU l/\∀x∈l,x<n
instance (n:Int) (l:List Int):Decidable (Ho n l):=inferInstanceAs (Decidable (_/\_))
theorem Qp {n:Int} {l:List Int} (hm:AU l) (h:0<l.length):Ho n l↔l[l.length-1]<n:=by
 constructor
 .intro⟨_,h2⟩;exact h2 _ (uQ _)
 .intro h2;refine⟨hm,λx hx=>?_⟩;obtain⟨i,hi,rfl⟩:=vq.1 hx;by_cases e:i=l.length-1
  .subst e;exact h2
  .have:=vB.1 hm.2 i (l.length-1) hi zO zO;omega
theorem LC {α:Type} {l:List α} {k:Nat} (hk:k<l.length) (x:α):x∈l.take (k+1)↔x∈l.take k\/x=l[k]:=by
 have e:l.take (k+1)=l.take k++[l[k]]:=by rw[uV,uT hk];rfl
 rw[e,vd,wA]
theorem Mi {n:Int}:∀{out:List (List Int)},(∀l∈out,Ho n l)->Br out<=16*out.length
 | [],_=>by simp[Br]
 |l::out,h=>by
  have h1:=Bw (h l zS).1;have h2:=Mi (out:=out) λx hx=>h x (by simp[hx]);simp[Br] at*;omega
theorem Jc (g:Gr) (hg:G5 g):Ac pg 174 [.agg (A1 false g)] [] (λr _=>r= .bool (decide (AP g))):=by
 obtain⟨h1,h2⟩:=hg;refine zE (fn:=Tryz.f174) [.tmp 2] ?_;rw[AC];refine AX ?_;by_cases hbad:¬(0<=g.n/\g.n<=16/\(g.out.length:Int)=g.n)
 .have hm:¬AP g:=λh=>hbad ⟨h.1,h.2.1,h.2.2.1⟩;refine zw ?_;refine s5 (λ_:Unit=> [(20,.bool true)]) (λ_=> []) (λ_=>True) ?_ ?_
  .by_cases c1:g.n<0
   .refine zs ?_;exact⟨(),trivial,sU (k:=0) zK zS zS zS zS zS⟩
   by_cases c2:16<g.n
   .refine zs ?_;exact⟨(),trivial,sU (k:=0) zK zS zS zS zS zS⟩
   .have c3:¬(g.out.length:Int)=g.n:=λe=>hbad ⟨zO,zO,e⟩;refine zg c3 ?_;exact⟨(),trivial,sU (k:=0) zK zS zS zS zS zS⟩
  .rintro _ _;refine AJ ?_;exact hm
 .have hbad:=wG.1 hbad;refine xL hbad.2.2 ?_;refine zb ?_;refine sV (λk:Nat=> [(1,pt 0),(22,DH false g.out),(23,iN g.out.length),(24,iN k)]) (λ_=> [lv (A1 false g)]) (λk=>g.out.length-k) (λk=>k<=g.out.length/\∀l∈g.out.take k,Ho g.n l) 0 (Wk.fr zK) zS ?_;rintro k ⟨hk,hinv⟩;refine zs ?_;refine zc ?_ ?_<;>intro h
  .refine W.skip ?_;have hlt:k<g.out.length:=zO;have hl2:=h2 _ (uQ hlt);have hmem:=uQ hlt;refine y2 ?_;have hmi:=LC hlt;generalize g.out[k]=l at hl2 hmem hmi;refine zw ?_;refine s5 (λb:Bool=> [(1,pt 0),(22,DH false g.out),(23,iN g.out.length),(24,iN k),(46,.bool b)]) (λ_=> [lv (A1 false g)]) (λb=>b=false↔Ho g.n l) ?_ ?_
   .refine CN ?_;intro K hK;refine s6 (Rc l (by omega)) (by simp) (by simp) ?_;by_cases hm:AU l
    .rw[zT hm];by_cases h0:0<l.length
     .have hla:=Qp (n:=g.n) hm h0;refine Am ?_;exact⟨decide (g.n<=l[l.length-1]),by rw[hla];simp,Wk.fr zK⟩
     .have hl0:l=[]:=List.eq_nil_of_length_eq_zero zO;subst hl0;refine Am ?_;exact⟨false,by simp[Ho,AU],Wk.fr zK⟩
    .rw[zV hm];refine Am ?_;exact⟨true,by simp[Ho,hm],Wk.fr zK⟩
   .intro b hb;refine zc ?_ ?_<;>intro h
    .refine Bd ?_;intro h';have h3:=h'.2.2.2.1 l hmem;have h4:=hb.2 h3;have h5:b=true:=by assumption
     rw[h4] at h5;cases h5
    .refine y2 ?_;refine⟨k+1,zO,⟨zO,λx hx=>?_⟩,Wk.fr zK⟩;rcases(hmi x).1 hx with h6|h6
     .exact hinv x h6
     .rw[h6];exact hb.1 (by assumption)
  .refine s7 ?_;have:k=g.out.length:=zO;subst this;rw[uW] at hinv;refine yj (WD g h1 (by have:=Mi hinv;omega)) ?_;exact⟨λh=>⟨hbad.1,hbad.2.1,hbad.2.2,hinv,zO⟩,λh=>by have:=h.2.2.2.2;omega⟩
def Uj (o:Option (Nat×Nat)):AV:=match o with|some x=> .tup [.int .i64 ((x.1:Int)-1),.int .i64 x.2,.bool true] |none=> .tup [.int .i64 0,.int .i64 0,.bool false]
def HZ (bs:List Bool):Option (Nat×Nat):=match Bi bs 0 with|some x=>if x.1<=17 then some x else none|none=>none
theorem WE (b:DX) (hb:EB b):Ac pg 204 [.agg (Dd b)] [] (λr _=>r=Uj (HZ (AH b))):=by
 refine zE (fn:=Tryz.f204) [.tmp 2,.tmp 3,.tmp 4] ?_;rw[AC];refine yg ?_;intro K hK;have sp:=Ii b 0 hb zO;cases hg:Bi (AH b) 0 with
 |none=>
  simp only[hg,Hx] at sp;refine yc sp ?_;simp[HZ,hg,Uj]
 |some x=>
  simp only[hg,Hx] at sp;obtain⟨hx1,hx2,hx3,hx4,_⟩:=Bl hg;refine zj sp ?_;refine xM ?_;refine zc ?_ ?_<;>intro h
  .refine Bd ?_;simp only[HZ,hg];rw[zM zO];rfl
  .refine AJ ?_;simp only[HZ,hg];rw[zP zO];rfl
def Yv (f:Nat) (caps:List AV) (rd:Rd) (n:Nat):Prop:=∀(p:Nat) (v:Int),p<=n->0<=v/\v<1000->Ac pg f ([iN p,iN v]++caps) [] λr _=>Mh (rd p v) r
def Uk (n:Nat) (o:Option (List (List Int)×Nat)):AV:=match o with
 |some q=> .tup [.agg (A1 true ⟨n,q.1⟩),.int .i64 q.2,.bool (decide (AP ⟨n,q.1⟩))]
 |none=> .tup [.agg (A1 true Az),.int .i64 0,.bool false]
theorem Ul (f:Nat) (caps:List AV) (rd:Rd) (n p m:Nat) (hn:n<=16) (hp:p<=m) (hm:m<10000000000) (hf:Yv f caps rd m) (hrd:∀p v r,rd p v=some r->0<=v->v<1000->p<=m->r.1.length<=16/\r.2<=m) (hcv:∀M,caps.map (vw M)=caps) (hnm:∀k,D5 k caps=true):
 Ac pg 205 [iN n,iN n,iN p,.fn f caps] [] (λr _=>r=Uk n (BD rd n 0 p)):=by
 refine zE (fn:=Tryz.f205) [.cell 8 34,.tmp 9,.tmp 10] ?_;rw[I3];refine AX ?_;refine EU (Ui n (by omega)) ?_;refine xR ?_;refine sV (λs:Nat×List (List Int)×Nat=> [(2,iN s.2.2),(3,.fn f caps),(8,pt 0),(11,pt 1),(18,iN n),(19,iN s.1)]) (λs=> [lv [iN 0,.own 1 0 []],lv [iN n,.tok 2 0 1 0 n],lv (Ak true (s.2.1++uP (n-s.1) []))]) (λs=>n-s.1)
  (λs=>s.1<=n/\s.2.1.length=s.1/\s.2.2<=m/\(∀l∈s.2.1,l.length<=16)/\BD rd n 0 p=(BD rd (n-s.1) s.1 s.2.2).map λr=>(s.2.1++r.1,r.2)) (0,[],p) (Wk.fr zK) ⟨zO,rfl,hp,zS,zS⟩ ?_
 rintro⟨k,acc,q⟩ ⟨hk,hacc,hq,hl16,hinv⟩;simp only at hk hacc hq hl16 hinv;refine zs ?_;refine zc ?_ ?_<;>intro h
 .refine W.skip ?_;obtain⟨d,hd⟩:∃d,n-k=d+1:=⟨n-k-1,zO⟩;have hd' :n-(k+1)=d:=zO;rw[hd] at hinv;simp only[BD] at hinv;refine xY ?_;intro K hK;have sp:=hf q k hq zO;cases hr:rd q k with
  |none=>
   simp only[hr,Mh] at sp hinv;refine tr sp (by simp[hcv]) ?_;rintro _ ⟨xs,a,rfl⟩;refine⟨zS,?_⟩;refine yu ?_;refine W.weak (sX 0 1) ?_;refine zr ?_;rw[hinv];rfl
  |some r=>
   simp only[hr,Mh] at sp hinv;have hr2:=hrd _ _ _ hr zO zO hq;refine sW sp (by simp[hcv]) zS ?_;refine Am ?_;refine y5 ?_;have hln:(Ak true (acc++uP (n-k) [])).length=n:=Ao;refine⟨(k+1,acc++[r.1],r.2),Ao,⟨Ao,Ao,hr2.2,?_,?_⟩,(sY (B:=2) (v:=0) (j:=k) (T:=3) (u:=0) (s:=1) (off:=0) (n:=r.1.length) (cs:=(Ak true (acc++uP (n-k) [])).set k (AV.tok 3 0 1 0 r.1.length)) (xs:=Ab r.1) zS ?_ zS zS zS zS).trans (sU (k:=3) zK ?_ zS (by simp[hnm]) zS zS)⟩
   .intro l hl;simp at hl;rcases hl with hl|rfl
    .exact hl16 l hl
    .exact hr2.1
   .rw[hinv,hd'];simp only[Int.natCast_add,Int.cast_ofNat_Int];cases BD rd d ((k:Int)+1) r.2<;>simp
   .rw[List.getElem?_set_self zO]
   .have e:n-k=(n-(k+1))+1:=zO;rw[e,vO];simp[Ak,<-hacc,Ab];rw[uM zS]
 .refine s7 ?_;have hkn:k=n:=zO;subst hkn;simp[BD] at hinv;subst hacc;refine Ud (Jc ⟨acc.length,acc⟩ ⟨by simp;omega,λl hl=>by have:=hl16 l hl;omega⟩) ?_;refine zr ?_;rw[hinv];simp[Uk]
def Qq (o:Option Gr) (r:AV):Prop:=match o with
 |some g=>r= .tup [.agg (A1 true g),.bool true]
 |none=>∃g:Gr,r= .tup [.agg (A1 true g),.bool false]
theorem Qr (bs:List Bool) (rd:Rd):DJ bs rd=match HZ bs with
 |none=>none
 |some x=>match BD rd (x.1-1) 0 x.2 with
  |none=>none
  |some r=>if r.2=bs.length/\AP ⟨(x.1:Int)-1,r.1⟩ then some ⟨(x.1:Int)-1,r.1⟩ else none:=by
 unfold DJ HZ;cases Bi bs 0 with
 |none=>rfl
 |some x=>simp only;split<;>rfl
theorem Yw (b:DX) (hb:EB b):Yv 206 [.rptr (Dd b)] (Ea (AH b)) (AH b).length:=by
 intro p v hp hv;have hl:=Db b;have h2:=hb.2.1;have h3:=hb.2.2;have h0:=hb.1;refine zE (fn:=Tryz.f206) [.tmp 5,.tmp 6,.tmp 7] ?_;simp only[vF,vU];rw[A6];refine x8 ?_;intro K hK;have sp:=OF b p v hb zO zO;cases hr:Ea (AH b) p v with
 |none=>
  simp only[hr,Mh] at sp;refine tr sp zS ?_;rintro _ ⟨xs,a,rfl⟩;refine⟨zS,?_⟩;refine xU ?_;rw[hr];exact⟨xs,a,rfl⟩
 |some r=>
  simp only[hr,Mh] at sp;refine xN sp ?_;refine zr ?_;rw[hr];rfl
theorem bu (b:DX) (hb:EB b):Ac pg 167 [.agg (Dd b)] [] (λr _=>Qq (Cs (AH b)) r):=by
 have hl:=Db b;have h2:=hb.2.1;have h3:=hb.2.2;have h0:=hb.1;have e0:=Qr (AH b) (Ea (AH b));refine zE (fn:=Tryz.f167) [.cell 2 34,.tmp 3] ?_;rw[AC];refine Cx ?_;refine z0 ?_;intro K hK;have sp:=WE b hb;cases hh:HZ (AH b) with
 |none=>
  simp only[hh,Uj] at sp e0;refine yd sp ?_;refine W.weak (sX 1 1) ?_;refine zr ?_;rw[Cs,e0];exact⟨Az,rfl⟩
 |some x=>
  have hx:x.1<=17/\Bi (AH b) 0=some x:=by
   unfold HZ at hh;split at hh
   .rename_i y hy;split at hh
    .simp at hh;subst hh;exact⟨by assumption,hy⟩
    .simp at hh
   .simp at hh
  obtain⟨hx1,hx2,hx3,hx4,_⟩:=Bl hx.2;have ex:(x.1:Int)-1=((x.1-1:Nat):Int):=zO;simp only[hh,Uj] at sp e0;rw[ex] at sp e0;refine yd sp ?_;refine z1 ?_;intro K hK;have sp:=Ul 206 [.rptr (Dd b)] (Ea (AH b)) (x.1-1) x.2 (AH b).length zO zO zO (Yw b hb) (λp v r h h1 h2 h3=>by have:=K5 zO h;exact⟨this.2.1,this.2.2.2⟩) zS zS;cases hli:BD (Ea (AH b)) (x.1-1) 0 x.2 with
  |none=>
   simp only[hli,Uk] at sp e0;refine sW sp zS (by simp[Az]) ?_;refine Am ?_;(repeat refine ta ?_);refine tj 0 [(31,2),(31,27)] rfl true Df AK λK hK=>?_;simp -implicitDefEqProofs (disch:=omega);(repeat refine⟨by first|assumption|omega,?_⟩);refine hK _ _ (by simp(disch:=omega)) ?_;clear hK K;refine zr ?_;rw[Cs,e0];exact⟨Az,rfl⟩
  |some q=>
   simp only[hli,Uk] at sp e0;refine sW sp (by simp) (by simp) ?_;by_cases hm:AP ⟨((x.1-1:Nat):Int),q.1⟩
   .rw[zT hm];refine Am ?_;(repeat refine ta ?_);refine tj 0 [(31,2),(31,27)] rfl true Df AK λK hK=>?_;simp -implicitDefEqProofs (disch:=omega);(repeat refine⟨by first|assumption|omega,?_⟩);refine hK _ _ (by simp(disch:=omega)) ?_;clear hK K;refine zr ?_;rw[Cs,e0];by_cases hq:q.2=(AH b).length
    .rw[zP ⟨hq,hm⟩];simp[Qq];omega
    .rw[zM (λh=>hq h.1)];refine⟨⟨((x.1-1:Nat):Int),q.1⟩,?_⟩;simp;omega
   .rw[zV hm];refine Am ?_;(repeat refine ta ?_);refine tj 0 [(31,2),(31,27)] rfl true Df AK λK hK=>?_;simp -implicitDefEqProofs (disch:=omega);(repeat refine⟨by first|assumption|omega,?_⟩);refine hK _ _ (by simp(disch:=omega)) ?_;clear hK K;refine zr ?_;rw[Cs,e0,zM (λh=>hm h.2)];exact⟨⟨((x.1-1:Nat):Int),q.1⟩,zS⟩
theorem Um (g:Gr) (v:Int) (h0:0<=v) (hg:(g.out.length:Int)=g.n):Ac pg 210 [.agg (A1 false g),iN v] [] (λr _=>r= .ro (AF g v).length (Ab (AF g v))\/AF g v=[]/\r= .own 1 0 []):=by
 refine zE (fn:=Tryz.f210) [.tmp 4] ?_;rw[Aq];refine yg ?_;intro K hK;refine sW (OG g v) (by simp) (by simp) ?_;by_cases h:0<=v/\v<g.n
 .rw[zT h];refine x4 ?_;obtain⟨n,rfl⟩:=uS h.1;have hlt:n<g.out.length:=zO;refine Dx ?_;intro K hK;simp -implicitDefEqProofs (disch:=omega) [hlt];refine zk ?_;refine zr ?_;simp[AF,List.getD,hlt]
 .rw[zV h];refine xX ?_;show AF g v=[];unfold AF;rw[vf,uR zO];rfl
theorem OH {bs:List Bool} {p:Nat} {v:Int} {ref:List Int} {r:List Int×Nat} (hv:-100000<=v/\v<=100000) (h:DF bs p v ref=some r):AU r.1/\r.1.length<=16/\r.2<=bs.length:=by
 unfold DF at h;split at h
 .simp at h
 .split at h
  .split at h
   .simp at h
   .split at h
    .simp at h
    .rename_i r0 hr0;have g0:=K5 hv hr0;split at h
     .rename_i l hl;simp at h;subst h;unfold Dm at hl;split at hl
      .simp at hl
      .split at hl
       .rename_i hm;simp at hl;subst hl;exact⟨hm.1,Bw hm.1,g0.2.2.2⟩
       .simp at hl
     .simp at h
  .simp at h
theorem Yx (b:DX) (g:Gr) (hb:EB b) (hg:AP g):Yv 208 [.rptr (Dd b),.rptr (A1 false g)] (λp v=>DF (AH b) p v (AF g v)) (AH b).length:=by
 intro p v hp hv;have hl:=Db b;have h2:=hb.2.1;have h3:=hb.2.2;have h0:=hb.1;have hbl:(AF g v).length<=16:=by
  unfold AF;rw[vf];cases hq:g.out[v.toNat]? with
  |none=>simp
  |some l=>exact Bw (hg.2.2.2.1 l (List.mem_of_getElem? hq)).1
 refine zE (fn:=Tryz.f208) [.tmp 6,.tmp 7,.tmp 8] ?_;simp only[vF,vU];rw[I3];refine zs ?_;refine CN ?_;intro K hK;refine⟨_,_,Um g v hv.1 hg.2.2.1,(λh=>by cases h),.inr ⟨zS,?_⟩⟩;have sp:=Sj b p v (AF g v) hb zO zO zO;rintro r hr;cases hc:DF (AH b) p v (AF g v) with
 |none=>
  simp only[hc,Mh] at sp;rcases hr with rfl| ⟨h1,rfl⟩
  .refine zx ?_;refine⟨_,_,sp,(λh=>by cases h),.inr ⟨zS,?_⟩⟩;rintro _ ⟨xs,a,rfl⟩;refine xU ?_;rw[hc];exact⟨xs,a,rfl⟩
  .refine zx ?_;rw[h1] at sp;refine⟨_,_,sp,(λh=>by cases h),.inl ⟨rfl,⟨[],by simp[By]⟩,?_⟩⟩;rintro _ ⟨xs,a,rfl⟩;refine⟨zS,?_⟩;refine xU ?_;rw[hc];exact⟨xs,a,rfl⟩
 |some q=>
  simp only[hc,Mh] at sp;rcases hr with rfl| ⟨h1,rfl⟩
  .refine zx ?_;refine tu sp zS ?_;refine xU ?_;rw[hc];rfl
  .refine zx ?_;rw[h1] at sp;refine xW sp ?_;refine zr ?_;rw[hc];rfl
theorem bx (b:DX) (g:Gr) (hb:EB b) (hg:AP g):Ac pg 168 [.agg (A1 false g),.agg (Dd b)] [] (λr _=>Qq (CF g (AH b)) r):=by
 have hl:=Db b;have h2:=hb.2.1;have h3:=hb.2.2;have h0:=hb.1;have e0:=Qr (AH b) (λp v=>DF (AH b) p v (AF g v));refine zE (fn:=Tryz.f168) [.cell 4 34,.tmp 5] ?_;rw[Aq];refine Ig ?_;refine z0 ?_;intro K hK;have sp:=WE b hb;cases hh:HZ (AH b) with
 |none=>
  simp only[hh,Uj] at sp e0;refine yd sp ?_;refine W.weak (sX 2 1) ?_;refine zr ?_;rw[CF,e0];exact⟨Az,rfl⟩
 |some x=>
  have hx:x.1<=17/\Bi (AH b) 0=some x:=by
   unfold HZ at hh;split at hh
   .rename_i y hy;split at hh
    .simp at hh;subst hh;exact⟨by assumption,hy⟩
    .simp at hh
   .simp at hh
  obtain⟨hx1,hx2,hx3,hx4,_⟩:=Bl hx.2;have ex:(x.1:Int)-1=((x.1-1:Nat):Int):=zO;simp only[hh,Uj] at sp e0;rw[ex] at sp e0;refine yd sp ?_;refine z1 ?_;intro K hK;have sp:=Ul 208 [.rptr (Dd b),.rptr (A1 false g)] (λp v=>DF (AH b) p v (AF g v)) (x.1-1) x.2 (AH b).length zO zO zO (Yx b g hb hg) (λp v r h h1 h2 h3=>by have:=OH zO h;exact⟨this.2.1,this.2.2⟩) zS zS;cases hli:BD (λp v=>DF (AH b) p v (AF g v)) (x.1-1) 0 x.2 with
  |none=>
   simp only[hli,Uk] at sp e0;refine sW sp zS (by simp[Az]) ?_;refine Am ?_;(repeat refine ta ?_);refine tj 0 [(33,4),(33,29)] rfl true Df AK λK hK=>?_;simp -implicitDefEqProofs (disch:=omega);(repeat refine⟨by first|assumption|omega,?_⟩);refine hK _ _ (by simp(disch:=omega)) ?_;clear hK K;refine zr ?_;rw[CF,e0];exact⟨Az,rfl⟩
  |some q=>
   simp only[hli,Uk] at sp e0;refine sW sp (by simp) (by simp) ?_;by_cases hm:AP ⟨((x.1-1:Nat):Int),q.1⟩
   .rw[zT hm];refine Am ?_;(repeat refine ta ?_);refine tj 0 [(33,4),(33,29)] rfl true Df AK λK hK=>?_;simp -implicitDefEqProofs (disch:=omega);(repeat refine⟨by first|assumption|omega,?_⟩);refine hK _ _ (by simp(disch:=omega)) ?_;clear hK K;refine zr ?_;rw[CF,e0];by_cases hq:q.2=(AH b).length
    .rw[zP ⟨hq,hm⟩];simp[Qq];omega
    .rw[zM (λh=>hq h.1)];refine⟨⟨((x.1-1:Nat):Int),q.1⟩,?_⟩;simp;omega
   .rw[zV hm];refine Am ?_;(repeat refine ta ?_);refine tj 0 [(33,4),(33,29)] rfl true Df AK λK hK=>?_;simp -implicitDefEqProofs (disch:=omega);(repeat refine⟨by first|assumption|omega,?_⟩);refine hK _ _ (by simp(disch:=omega)) ?_;clear hK K;refine zr ?_;rw[CF,e0,zM (λh=>hm h.2)];exact⟨⟨((x.1-1:Nat):Int),q.1⟩,zS⟩
theorem OI (xs:List Obj) (f:Nat) (caps:List AV) (p:Obj->Bool) (hx:xs.length<1000000000000) (hf:∀x∈xs,Ac pg f ([.agg (Ar x)]++caps) [] λr _=>r= .bool (p x)) (hcv:∀M,caps.map (vw M)=caps):
 Ac pg 242 [.ro xs.length (Aa Ar xs),.fn f caps] [] (λr _=>r=iN (AN p xs)):=by
 refine zE (fn:=Tryz.f242) [.tmp 4] ?_;rw[Aq];refine xV ?_;refine sV (λk:Nat=> [(0,.ro xs.length (Aa Ar xs)),(1,.fn f caps),(7,iN xs.length),(8,iN k)]) (λ_=> []) (λk=>xs.length-k) (λk=>k<=xs.length/\∀i (h:i<xs.length),i<k->p xs[i]=false) 0 (Wk.fr ?_) zS ?_
 .simp[AA]
 .rintro k ⟨hk,ht⟩;refine zs ?_;refine zc ?_ ?_<;>intro h
  .refine W.skip ?_;have hlt:k<xs.length:=zO;refine y2 ?_;refine Dx ?_;intro K hK;simp -implicitDefEqProofs (disch:=omega) [hlt];have sp:=hf xs[k] (uQ hlt);refine sW sp (by simp[hcv]) zS ?_;refine Am ?_;cases hp:p xs[k]
   .refine y3 ?_;refine⟨k+1,zO,⟨zO,?_⟩,Wk.fr zK⟩;intro i hi hik;by_cases e:i=k
    .subst e;exact hp
    .exact ht i hi zO
   .refine AJ ?_;exact(DY hlt hp λi hi hik=>ht i hi hik).symm
  .refine AJ ?_;exact(Fa λi hi=>ht i hi zO).symm
theorem K6 (xs:List Bn) (f:Nat) (caps:List AV) (p:Bn->Bool) (hx:xs.length<1000000000000) (hf:∀x∈xs,Ac pg f ([.agg (As x)]++caps) [] λr _=>r= .bool (p x)) (hcv:∀M,caps.map (vw M)=caps):
 Ac pg 211 [.ro xs.length (Aa As xs),.fn f caps] [] (λr _=>r=iN (AN p xs)):=by
 refine zE (fn:=Tryz.f211) [.tmp 4] ?_;rw[Aq];refine xV ?_;refine sV (λk:Nat=> [(0,.ro xs.length (Aa As xs)),(1,.fn f caps),(7,iN xs.length),(8,iN k)]) (λ_=> []) (λk=>xs.length-k) (λk=>k<=xs.length/\∀i (h:i<xs.length),i<k->p xs[i]=false) 0 (Wk.fr ?_) zS ?_
 .simp[AA]
 .rintro k ⟨hk,ht⟩;refine zs ?_;refine zc ?_ ?_<;>intro h
  .refine W.skip ?_;have hlt:k<xs.length:=zO;refine y2 ?_;refine Dx ?_;intro K hK;simp -implicitDefEqProofs (disch:=omega) [hlt];have sp:=hf xs[k] (uQ hlt);refine sW sp (by simp[hcv]) zS ?_;refine Am ?_;cases hp:p xs[k]
   .refine y3 ?_;refine⟨k+1,zO,⟨zO,?_⟩,Wk.fr zK⟩;intro i hi hik;by_cases e:i=k
    .subst e;exact hp
    .exact ht i hi zO
   .refine AJ ?_;exact(DY hlt hp λi hi hik=>ht i hi hik).symm
  .refine AJ ?_;exact(Fa λi hi=>ht i hi zO).symm
theorem OJ (xs:List B3) (f:Nat) (caps:List AV) (p:B3->Bool) (hx:xs.length<1000000000000) (hf:∀x∈xs,Ac pg f ([.agg ((Af false) x)]++caps) [] λr _=>r= .bool (p x)) (hcv:∀M,caps.map (vw M)=caps):
 Ac pg 169 [.ro xs.length (Aa (Af false) xs),.fn f caps] [] (λr _=>r=iN (AN p xs)):=by
 refine zE (fn:=Tryz.f169) [.tmp 4] ?_;rw[Aq];refine xV ?_;refine sV (λk:Nat=> [(0,.ro xs.length (Aa (Af false) xs)),(1,.fn f caps),(7,iN xs.length),(8,iN k)]) (λ_=> []) (λk=>xs.length-k) (λk=>k<=xs.length/\∀i (h:i<xs.length),i<k->p xs[i]=false) 0 (Wk.fr ?_) zS ?_
 .simp[AA]
 .rintro k ⟨hk,ht⟩;refine zs ?_;refine zc ?_ ?_<;>intro h
  .refine W.skip ?_;have hlt:k<xs.length:=zO;refine y2 ?_;refine Dx ?_;intro K hK;simp -implicitDefEqProofs (disch:=omega) [hlt];have sp:=hf xs[k] (uQ hlt);refine sW sp (by simp[hcv]) zS ?_;refine Am ?_;cases hp:p xs[k]
   .refine y3 ?_;refine⟨k+1,zO,⟨zO,?_⟩,Wk.fr zK⟩;intro i hi hik;by_cases e:i=k
    .subst e;exact hp
    .exact ht i hi zO
   .refine AJ ?_;exact(DY hlt hp λi hi hik=>ht i hi hik).symm
  .refine AJ ?_;exact(Fa λi hi=>ht i hi zO).symm
theorem Q4 (xs:List Bn) (f:Nat) (caps:List AV) (p:Bn->Bool) (hx:xs.length<1000000000000) (hf:∀x∈xs,Ac pg f ([.agg (As x)]++caps) [] λr _=>r= .bool (p x)) (hcv:∀M,caps.map (vw M)=caps) (hcc:∀M k,caps.map (CV M k)=caps):
 Ac pg 271 [.ro xs.length (Aa As xs),.fn f caps] [] (λr _=>r= .bool (xs.any p)):=by
 refine zE (fn:=Tryz.f271) [.tmp 4] ?_;rw[Aq];refine x8 ?_;intro K hK;refine sW (K6 xs f caps p hx hf hcv) (by simp[hcc]) zS ?_;refine xU ?_;rw[wX];simp[C9]
theorem bz (o:Obj) (id:Int):Ac pg 243 ([.agg (Ar o)]++[.rptr [iN id]]) [] (λr _=>r= .bool (decide (o.id=id))):=by
 refine zE (fn:=Tryz.f243) [.tmp 3] ?_;simp only[vF,vU];rw[Aq];refine AX ?_;exact DM
theorem OK (xs:List Obj) (id:Int) (hx:xs.length<1000000000000):Ac pg 202 [.ro xs.length (Aa Ar xs),iN id] [] (λr _=>r=iN (AN (λo=>decide (o.id=id)) xs)):=by
 refine zE (fn:=Tryz.f202) [.tmp 4] ?_;rw[Aq];refine AX ?_;refine AL (OI xs 243 [.rptr [iN id]] (λo=>decide (o.id=id)) hx (λo _=>bz o id) (by simp)) ?_;exact zR
theorem Yy (x y:Nat) (hx:x<256) (hy:y<256):Dq .and (.int .u8 x) (.int .u8 y)=some (.int .u8 ((x&&&y:Nat):Int)):=by
 rw[PD];have e (n:Nat) (h:n<256):(BitVec.ofInt IntKind.u8.bits (n:Int)).toNat=n:=by
  rw[BitVec.toNat_ofInt];simp[IntKind.bits] at*;omega
 have e1:(BitVec.ofInt IntKind.u8.bits (x:Int)&&&BitVec.ofInt IntKind.u8.bits (y:Int)).toNat=x&&&y:=by
  rw[BitVec.toNat_and,e x hx,e y hy]
 have h4:x&&&y<256:=Nat.lt_of_le_of_lt Nat.and_le_left hx;rw[e1];simp[IntKind.wrap,IntKind.bits,IntKind.signed];omega
theorem WF:∀x:Fin 256,∀l:Fin 8,((x.val&&&(255/2^l.val))=0↔∀j:Fin 8,l<=j->x.val/2^(7-j.val)%2≠1):=by decide+kernel
theorem WG {b:DX} (h0:0<=b.n) (h1:b.n<=6000) (h:(b.data.size:Int)=(b.n+8-1)/8) (h2:¬b.n%8=0):DI b↔(DT b.data (b.data.size-1)&&&(255/2^(b.n%8).toNat))=0:=by
 have hl:=WF ⟨_,JI b.data (b.data.size-1)⟩ ⟨(b.n%8).toNat,zO⟩;simp only at hl;rw[hl];refine⟨λg j hj=>?_,λg=>⟨h0,h1,zO,λi hi hn=>?_⟩⟩
 .have hj2:=Fin.le_def.1 hj;simp only at hj2;have:=g.2.2.2 (8*(b.data.size-1)+j) zO zO;simp only[FN,decide_eq_false_iff_not] at this;rw[show(8*(b.data.size-1)+j.val)/8=b.data.size-1 by omega,show(8*(b.data.size-1)+j.val)%8=j.val by omega] at this;exact this
 .have:=g ⟨i%8,zO⟩ (Fin.le_def.2 (by simp only;omega));simp only[FN,decide_eq_false_iff_not];rw[show i/8=b.data.size-1 by omega];exact this
theorem WH (b:DX) (h3:b.data.size<1000000000):Ac pg 201 [.agg (Dd b)] [] (λr _=>r= .bool (decide (DI b))):=by
 refine zE (fn:=Tryz.f201) [.tmp 2] ?_;rw[AC];refine AX ?_;by_cases h0:b.n<0
 .refine xS h0 ?_;intro h;have:=h.1;omega
 .by_cases h1:b.n<=6000
  .refine zg (an h0 h1) ?_;refine zc ?_ ?_<;>intro h
   .refine Bd ?_;intro g;have:=g.2.2.1;omega
   .refine y2 ?_;by_cases h2:b.n%8=0
    .refine zh h2 ?_;refine zr ?_;refine⟨zO,h1,zO,λi hi hn=>zO⟩
    .have e:((255:Int)/2^(b.n%8).toNat)=((255/2^(b.n%8).toNat:Nat):Int):=zS;have h8:255/2^(b.n%8).toNat<256:=Nat.lt_of_le_of_lt (Nat.div_le_self _ _) zO;refine Dy h2 ?_;intro K hK;refine⟨zO,?_⟩;rw[e,Yy _ _ (JI _ _) h8];simp;refine zk ?_;refine zr ?_;rw[WG zO h1 h h2]
  .refine xS (an h0 h1) ?_;intro h;have:=h.2.1;omega
theorem eE {α:Type} (f:α->Int) (l:List α):l.Pairwise (λa b=>f a<f b)↔∀k (h:k<l.length),0<k->f (l[k-1]'zO)<f l[k]:=by
 constructor
 .intro h k hk h0;exact vB.1 h (k-1) k zO hk zO
 .intro h;rw[vB];intro i j hi hj hij
  induction j with
  |zero=>omega
  |succ j ih=>
   have h1:=h (j+1) hj zO;simp only[Nat.add_sub_cancel] at h1;by_cases e:i=j
   .subst e;exact h1
   .have:=ih zO zO;omega
def DZ (l:List Obj):Prop:=l.length<1000000000000/\∀o∈l,o.data.data.size<1000000000
def OL (l:List Obj) (o:Obj):Prop:=1<=o.id/\o.id<=1048576/\DI o.data/\o.base≠o.id/\(o.base=0\/∃q∈l,q.id=o.base)
theorem K7 (l:List Obj):BJ l↔l.length<=12/\∀k (h:k<l.length),OL l l[k]/\(0<k->l[k-1].id<l[k].id):=by
 unfold BJ;rw[eE (λo:Obj=>o.id)];constructor
 .rintro⟨h1,h2,h3⟩;exact⟨h1,λk h=>⟨h2 _ (uQ h),h3 k h⟩⟩
 .rintro⟨h1,h2⟩;refine⟨h1,λo ho=>?_,λk h=>(h2 k h).2⟩;obtain⟨k,hk,rfl⟩:=vq.1 ho;exact(h2 k hk).1
theorem Sk (xs:List Obj) (hx:DZ xs):Ac pg 163 [.ro xs.length (Aa Ar xs)] [] (λr _=>r= .bool (decide (BJ xs))):=by
 have hx1:=hx.1;refine zE (fn:=Tryz.f163) [.tmp 2] ?_;rw[AC];refine y2 ?_;refine zc ?_ ?_<;>intro h
 .refine Bd ?_;intro g;have:=g.1;omega
 .refine xV ?_;refine sV (λk:Nat=> [(0,.ro xs.length (Aa Ar xs)),(8,.ro xs.length (Aa Ar xs)),(9,iN xs.length),(10,iN k)]) (λ_=> []) (λk=>xs.length-k) (λk=>k<=xs.length/\∀i (h:i<xs.length),i<k->OL xs xs[i]/\(0<i->xs[i-1].id<xs[i].id)) 0 (Wk.fr ?_) zS ?_
  .simp[AA]
  .rintro k ⟨hk,ht⟩;refine zs ?_;refine zc ?_ ?_<;>intro h
   .refine W.skip ?_;have hlt:k<xs.length:=zO;have hB:=WH xs[k].data (hx.2 _ (uQ hlt));refine x9 ?_;intro K hK;simp -implicitDefEqProofs (disch:=omega) [hlt];refine zk ?_;have bad:¬(OL xs xs[k]/\(0<k->xs[k-1].id<xs[k].id))->¬BJ xs:=λg h=>g (((K7 xs).1 h).2 k hlt);by_cases c1:xs[k].id<1
    .refine zh c1 ?_;refine AJ ?_;exact bad λg=>by have:=g.1.1;omega
    .by_cases c2:xs[k].id<=1048576
     .by_cases c3:0<k/\xs[k].id<=xs[k-1].id
      .have c3a:=c3.1;have c3b:=c3.2;refine Dy (an c1 (an c2 (an c3a c3b))) ?_;intro K hK;refine⟨zO,?_⟩;refine yi ?_;exact bad λg=>by have:=g.2 c3a;omega
      .have key:(¬0<k/\True)\/(0<k/\¬xs[k].id<=xs[k-1].id):=by
        by_cases c4:0<k
        .exact .inr ⟨c4,λh=>c3 ⟨c4,h⟩⟩
        .exact .inl ⟨c4,trivial⟩
       rcases key with⟨c4,c5⟩ | ⟨c4,c5⟩
       all_goals
        refine Dy (an c1 (an c2 (an c4 c5))) ?_;intro K hK
        try refine⟨zO,?_⟩
        try simp -implicitDefEqProofs (maxSteps:=999999) (disch:=omega) [c1,c2,c4,c5]
        refine s6 hB (by simp) (by simp) ?_;by_cases hb:DI xs[k].data
        .rw[zT hb];refine x4 ?_;by_cases d1:xs[k].base=xs[k].id
         .refine xS d1 ?_;exact bad λg=>g.1.2.2.2.1 d1
         .by_cases d2:xs[k].base=0
          .refine xL (an d1 d2) ?_;refine⟨k+1,zO,⟨zO,λi hi hik=>?_⟩,sU (k:=0) zK zS zS zS zS zS⟩;by_cases e:i=k
           .subst e;exact⟨⟨zO,c2,hb,d1,.inl d2⟩,λ_=>zO⟩
           .exact ht i hi zO
          .refine BS (an d1 d2) ?_;intro K hK;refine sW (OK xs xs[k].base hx1) (by simp) (by simp) ?_;by_cases d3:∃q∈xs,q.id=xs[k].base
           .have d4:0<=AN (λo:Obj=>decide (o.id=xs[k].base)) xs:=C9.2 (by simpa using d3);refine xK d4 ?_;refine y3 ?_;refine⟨k+1,zO,⟨zO,λi hi hik=>?_⟩,sU (k:=0) zK zS zS zS zS zS⟩;by_cases e:i=k
            .subst e;exact⟨⟨zO,c2,hb,d1,.inr d3⟩,λ_=>zO⟩
            .exact ht i hi zO
           .have d4:AN (λo:Obj=>decide (o.id=xs[k].base)) xs<0:=by
             apply Classical.byContradiction;intro g;exact d3 (by simpa using C9.1 (by omega:0<=AN (λo:Obj=>decide (o.id=xs[k].base)) xs))
            refine x7 d4 ?_;exact bad λg=>by
             rcases g.1.2.2.2.2 with g|g
             .exact d2 g
             .exact d3 g
        .rw[zV hb];refine xX ?_;exact bad λg=>hb g.1.2.2.1
     .refine zh (an c1 c2) ?_;refine AJ ?_;exact bad λg=>by have:=g.1.2.1;omega
   .refine AJ ?_;rw[K7];exact⟨zO,λi hi=>ht i hi zO⟩
theorem EI {l:List Obj} {id:Int} {o:Obj} (h:A5 l id=some o):∃k,∃hk:k<l.length,AN (λo:Obj=>decide (o.id=id)) l=(k:Int)/\l[k]=o/\o.id=id:=by
 unfold A5 at h;obtain⟨h1,k,hk,h2,h3⟩:=List.find?_eq_some_iff_getElem.1 h;refine⟨k,hk,DY hk (by rw[h2];exact h1) (λi hi hik=>by simpa using h3 i hik),h2,by simpa using h1⟩
theorem OM {l:List Obj} {id:Int} (h:A5 l id=none):AN (λo:Obj=>decide (o.id=id)) l=-1:=
 Fa λi hi=>by
  have:=wN.1 h l[i] (uQ hi);simpa using this
theorem K8 {l:List Obj} {id:Int} (h:∃q∈l,q.id=id):∃o,A5 l id=some o:=by
 cases h' :A5 l id with
 |some o=>exact⟨o,rfl⟩
 |none=>
  obtain⟨q,hq,he⟩:=h;have:=wN.1 h' q hq;simp[he] at this
theorem Fb {l:List Obj} {id:Int} {o:Obj} (h:A5 l id=some o):o∈l:=List.mem_of_find?_eq_some h
theorem Kr (l:List Obj):∀(k:Nat) (id:Int),(A4 l k id).length<=k
 |0,id=>by simp[A4]
 |k+1,id=>by
  unfold A4;split
  .simp
  .split
   .simp;exact Kr l k _
   .simp
theorem Vv (xs:List Obj) (id:Int) (m:Nat) (hx:DZ xs) (hm:m<=1000) (hb:∀o∈xs,o.base=0\/∃q∈xs,q.id=o.base) (By:id=0\/∃q∈xs,q.id=id):Ac pg 166 [.ro xs.length (Aa Ar xs),iN id,iN m] [] (λr _=>r= .own 4 (A4 xs m id).length (Aa Ar (A4 xs m id))):=by
 have hx1:=hx.1;refine zE (fn:=Tryz.f166) [.tmp 6] ?_;rw[A6];refine xR ?_;refine sV (λs:List Obj×Int=> [(0,.ro xs.length (Aa Ar xs)),(1,iN s.2),(2,iN m),(6,.tok 0 s.1.length 4 0 s.1.length)]) (λs=> [.live s.1.length (Aa Ar s.1)]) (λs=>m-s.1.length) (λs=>s.1.length<=m/\(s.2=0\/∃q∈xs,q.id=s.2)/\A4 xs m id=s.1++A4 xs (m-s.1.length) s.2) ([],id) ((Wk.nil (t:=6) (s:=4) ?_).trans (Wk.fr ?_)) ⟨zS,By,zS⟩ ?_
 .simp
 .simp[AA]
 .rintro⟨acc,q⟩ ⟨hk,hq,hw⟩;simp only at hk hq hw;by_cases h0:q=0
  .refine x3 h0 ?_;have:A4 xs m id=acc:=by
    rw[hw,h0];cases m-acc.length<;>simp[A4]
   rw[this];simp
  .by_cases h1:acc.length<m
   .obtain⟨o,ho⟩:=K8 (by rcases hq with h|h;exact absurd h h0;exact h);obtain⟨k,hlt,hi,hko,hoi⟩:=EI ho;refine xL (an h0 h1) ?_;refine z1 ?_;intro K hK;refine sW (OK xs q hx1) (by simp) (by simp) ?_;rw[hi];refine xK (an hlt hko) ?_;refine Hw ?_;intro K hK;simp -implicitDefEqProofs (disch:=omega);refine⟨zO,zO,?_⟩;refine zk ?_;refine⟨(acc++[o],o.base),Ao,⟨Ao,hb o (Fb ho),?_⟩,sU (k:=1) zK (by simp[BI,AG]) zS zS zS zS⟩;rw[hw];obtain⟨d,hd⟩:∃d,m-acc.length=d+1:=⟨m-acc.length-1,zO⟩;rw[hd];simp only[A4,zM h0,ho];simp;congr 1;omega
   .refine x3 (an h0 h1) ?_;have:A4 xs m id=acc:=by
     rw[hw,show m-acc.length=0 by omega];simp[A4]
    rw[this];simp
theorem Sl (xs:List Obj) (id:Int) (hx:DZ xs) (hb:∀o∈xs,o.base=0\/∃q∈xs,q.id=o.base):Ac pg 164 [.ro xs.length (Aa Ar xs),iN id] [] (λr _=>r= .tup [iN (AY xs id).1,iN (AY xs id).2]):=by
 have hx1:=hx.1;refine zE (fn:=Tryz.f164) [.tmp 4,.tmp 5] ?_;rw[Aq];refine x8 ?_;intro K hK;refine sW (OK xs id hx1) (by simp) (by simp) ?_;cases ho:A5 xs id with
 |none=>
  rw[OM ho];refine xX ?_;simp[AY,ho]
 |some o=>
  obtain⟨k,hlt,hi,hko,hoi⟩:=EI ho;rw[hi];refine x4 ?_;have hw:=Kr xs 4 id;refine AL (Vv xs id 4 hx (by omega) hb (.inr ⟨o,Fb ho,hoi⟩)) ?_;by_cases h4:3<(A4 xs 4 id).length
  .refine xS h4 ?_;simp[AY,ho,h4]
  .refine x3 h4 ?_;simp[AY,ho,h4]
theorem Vw (w:World) (x:Value):Calls pg 165 #[x] w λe w' =>e= .returned (.func (.func 203) #[] #[.pointer (some ⟨w.heap.size,0,none⟩)])/\w' =w.alloc (.cells x.cells 86):=by
 refine(callsIn_wide (n:=0)).1 (callsIn_of_wp (n:=0) (fn:=Tryz.f165) rfl rfl trivial ?_);refine wpIn_seq (wpIn_region_lit ?_);simp[wpListIn,Region.wanted,Oper.wpIn,Oper.semAt,Fence.wide,execOp,Instr.box,newVar,newRow,Act.eval,Act.put,Oper.uponIn_value,Tryz.f165];show Code.wpIn _ _ _ _ _ _ _;refine wpIn_seq (wpIn_region_lit ?_);simp[wpListIn,Region.wanted,Oper.wpIn,Oper.semAt,execOp,Act.eval,Act.put,Oper.uponIn_value];show Code.wpIn _ _ _ _ _ _ _;refine wpIn_ret ?_;simp[bodyPost,results];exact⟨rfl,rfl⟩
def PI (o:Obj):Value:= .agg #[.int .i64 o.id,.int .i64 o.base,.string o.data.data,.int .i64 o.data.n]
theorem bA (w:World) (sh:Nat->Prop) (σ:Nat->Nat->Option St) (o:Obj):VR w sh σ (.agg (Ar o)) (PI o) (λ_=>0):=by
 simp only[VR,Ar,PI];exact⟨_,rfl,_,_,_,_,rfl,⟨rfl,λ_=>rfl⟩,⟨_,_,_,_,rfl,⟨rfl,λ_=>rfl⟩,⟨_,_,_,_,rfl,⟨rfl,λ_=>rfl⟩,⟨_,_,_,_,rfl,⟨rfl,λ_=>rfl⟩,⟨rfl,λ_=>rfl⟩,λ_=>rfl⟩,λ_=>rfl⟩,λ_=>rfl⟩,λ_=>rfl⟩
theorem bB {w:World} {sh:Nat->Prop} {σ:Nat->Nat->Option St} {o:Obj} {x:Value} {fp:Nat->Nat} (h:VR w sh σ (.agg (Ar o)) x fp):x=PI o:=by
 simp only[VR,Ar,AI] at h;obtain⟨cs,rfl,_,_,_,_,h0,⟨rfl,_⟩,⟨_,_,_,_,rfl,⟨rfl,_⟩,⟨_,_,_,_,rfl,⟨rfl,_⟩,⟨_,_,_,_,rfl,⟨rfl,_⟩,⟨rfl,_⟩,_⟩,_⟩,_⟩,_⟩:=h;unfold PI;congr 1;exact Array.ext' (by simpa using h0)
def ZR (h:Nat) (ws:List Obj) (W:World):Prop:=∃sh:Nat->Prop,(∀g,sh g->g<W.heap.size)/\VR W sh σ0 (.rptr [.ro ws.length (Aa Ar ws)]) (.pointer (some ⟨h,0,none⟩)) (λ_=>0)
def Sm (l h:Nat) (i:Int) (a:Act):Prop:=a.tmps.size=19/\a.defers=[]/\a.tmps.getD 0 undef= .func (.yield l) #[] #[]/\a.tmps.getD 1 undef= .pointer (some ⟨h,0,none⟩)/\a.tmps.getD 3 undef= .int .i64 i
theorem Cc {a:Act} {d t:Nat} {v:Value} (hd:t≠d):(a.put (some d) v).tmps.getD t undef=a.tmps.getD t undef:=by
 have:¬d=t:=λe=>hd e.symm;by_cases ht:t<a.tmps.size<;>simp[Act.put,vD,ht,Array.getElem_setIfInBounds,this]
theorem FR {a:Act} {d:Nat} {v:Value} (hd:d<a.tmps.size):(a.put (some d) v).tmps.getD d undef=v:=by
 simp[Act.put,vD,hd]
theorem Sm.put {l h:Nat} {i:Int} {a:Act} (s:Sm l h i a) {d:Nat} (h0:d≠0) (h1:d≠1) (h3:d≠3) (v:Value):Sm l h i (a.put (some d) v):=
 ⟨by simp[Act.put,s.1],s.2.1,by rw[Cc (Ne.symm h0)];exact s.2.2.1,by rw[Cc (Ne.symm h1)];exact s.2.2.2.1,by rw[Cc (Ne.symm h3)];exact s.2.2.2.2⟩
def Fi (ws:List Obj) (i:Int):Fr:=λt=>if t=1 then .rptr [.ro ws.length (Aa Ar ws)] else if t=3 then .int .i64 i else .any
theorem Sm.rel {l h:Nat} {i:Int} {a:Act} {ws:List Obj} {W:World} (s:Sm l h i a) (v:ZR h ws W):∃sh,AS ⟨pg,19,sh,W,λ_=>none,σ0,0,none,[]⟩ (Fi ws i) [] a W σ0 (λ_=>none):=by
 obtain⟨sh,h1,h2⟩:=v;refine⟨sh,s.1,s.2.1,λt ht=>?_,HC _ _,λg hg=>⟨rfl,h1 g hg⟩,GJ.refl _ _,λ_ _ _ h=>by simp at h⟩;simp only[Fi];by_cases e1:t=1
 .subst e1;rw[zP rfl,s.2.2.2.1];exact h2
 .rw[zM e1];by_cases e3:t=3
  .subst e3;rw[zP rfl,s.2.2.2.2];exact⟨rfl,λ_=>rfl⟩
  .rw[zM e3];intro g;rfl
theorem Yz {ops:Array Oper} {Q:Exit->Act->World->Prop} {a:Act} {W:World} {d t ty:Nat} {pos:String} {af:Array Edge} {rest:List Oper} {x:Value} (hx:a.tmps.getD t undef=x) (h:wpListIn Fence.wide 0 pg ops Q rest (a.put (some d) x) W):
 wpListIn Fence.wide 0 pg ops Q ({dst:=some d,op:= .move (.tmp t),type:=ty,pos:=pos,after:=af,guard:=none}::rest) a W:=by
 simp only[wpListIn];rw[zP (by simp[Region.wanted])];refine⟨λ_ _=>trivial,?_⟩;have e:Sem.run pg (execOp a.eval {dst:=some d,op:= .move (.tmp t),type:=ty,pos:=pos,after:=af,guard:=none}) W= .ok (.value x) W:=by
  have:a.eval (.tmp t)=x:=hx;simp[execOp,this]
 rw[Oper.semAt_eq _ _ _ (by intro c h;cases h),e];exact h
theorem WI {ops:Array Oper} {Q:Exit->Act->World->Prop} {a:Act} {W:World} {d t t1 t2 ty:Nat} {pos:String} {af:Array Edge} {ats:Array TypeId} {rest:List Oper} {l:Nat} {x y:Value} {f:FuncId} {tm:Array Value} {asg bd:Code} {RR:Ending->World->Prop} (h0:a.tmps.getD t undef= .func (.yield l) #[] #[]) (h1:a.tmps.getD t1 undef=x) (h2:a.tmps.getD t2 undef=y)
 (hy:(Instr.yield l #[x,y]).run pg W= .ok (.round l f tm asg bd) W) (hr:RoundIn Fence.wide 0 pg l f tm asg bd W RR) (h:∀e W',RR e W' ->∃v,e= .returned v/\wpListIn Fence.wide 0 pg ops Q rest (a.put (some d) v) W'):
 wpListIn Fence.wide 0 pg ops Q ({dst:=some d,op:= .call {callee:= .value (.tmp t),args:= #[.tmp t1,.tmp t2],argTypes:=ats},type:=ty,pos:=pos,after:=af,guard:=none}::rest) a W:=by
 simp only[wpListIn];rw[zP (by simp[Region.wanted])];refine⟨λ_ _=>trivial,?_⟩;have e0:a.eval (.tmp t)= .func (.yield l) #[] #[]:=h0;have e1:a.eval (.tmp t1)=x:=h1;have e2:a.eval (.tmp t2)=y:=h2;have e:Sem.run pg (execOp a.eval {dst:=some d,op:= .call {callee:= .value (.tmp t),args:= #[.tmp t1,.tmp t2],argTypes:=ats},type:=ty,pos:=pos,after:=af,guard:=none}) W= .ok (.round l f tm asg bd) W:=by
  simp[execOp,resolve,e0,e1,e2,Deferred.ofValue,invoke,hy]
 rw[Oper.semAt_eq _ _ _ (by intro c h;cases h),e];refine⟨λh=>absurd h (by simp[Fence.wide]),RoundIn.mono hr ?_⟩;intro e W' hR;obtain⟨v,rfl,hk⟩:=h e W' hR;exact hk
theorem eG {a:Act} {W:World} {F:Fr} (hs:a.tmps.size=19) (hd:a.defers=[]) (hF:∀t,VR W (λ_=>False) σ0 (F t) (a.tmps.getD t undef) (λ_=>0)):AS ⟨pg,19,λ_=>False,W,λ_=>none,σ0,0,none,[]⟩ F [] a W σ0 (λ_=>none):=
 ⟨hs,hd,λt _=>hF t,HC _ _,λg hg=>hg.elim,GJ.refl _ _,λ_ _ _ h=>by simp at h⟩
theorem Qs {P:Program} {c:Code} {Q:Exit->Act->World->Prop} (n:Nat) (I:Nat->Act->World->Prop) (step:∀k a W,k<=n->I k a W->c.wpIn Fence.wide 0 P (Exit.then (λa W=>k<n/\I (k+1) a W) Q) a W):
 ∀m k a W,k+m=n->I k a W->Code.roundsIn Fence.wide 0 P c Q (m+1) a W
 |0,k,a,W,hk,hI=>wpIn_mono (step k a W zO hI) λe a W h=>by
  cases e<;>first|exact h| (have:=h.1;omega)
 |m+1,k,a,W,hk,hI=>wpIn_mono (step k a W zO hI) λe a W h=>by
  cases e<;>first|exact h|exact Qs n I step m (k+1) a W zO h.2
noncomputable abbrev C5 (sh:Nat->Prop) (W:World):BF:=⟨pg,19,sh,W,λ_=>none,σ0,0,none,[]⟩
theorem YA (h:Nat) (ws:List Obj) (hn:ws.length<1000000000000):dY pg 203 #[.pointer (some ⟨h,0,none⟩)] ws.length (λk=> #[.int .i64 ((ws.length:Int)-1-k),PI (ws.getD (ws.length-1-k) ⟨0,0,⟨⟨#[]⟩,0⟩⟩)]) (ZR h ws):=by
 intro l J Jx w hV hR h0;have sz:ws.length<=9223372036854775807:=zO;generalize hRR:(λe W' =>(∃v,e=Ending.returned v)/\(J ws.length W' \/Jx W'))=RR;have key:∀c,Tryz.f203.body=some c->∀a0:Act,a0.tmps.size=19->a0.defers=[]->a0.tmps.getD 0 undef= .func (.yield l) #[] #[]->a0.tmps.getD 1 undef= .pointer (some ⟨h,0,none⟩)->c.wpIn Fence.wide 0 pg (bodyPost pg Tryz.f203 RR) a0 w:=by
  intro c hc a0 h19 hd0 hy0 hp0;have hc:=Option.some.inj hc;subst hc;refine wpIn_seq (wpIn_region_lit ?_);obtain⟨sh,hs1,hs2⟩:=hV 0 w h0;have R:AS (C5 sh w) (λt=>if t=1 then .rptr [.ro ws.length (Aa Ar ws)] else .any) [] a0 w σ0 (λ_=>none):=by
   refine⟨h19,hd0,λt ht=>?_,HC _ _,λg hg=>⟨rfl,hs1 g hg⟩,GJ.refl _ _,λ_ _ _ h=>by simp at h⟩;simp only;by_cases e1:t=1
   .subst e1;rw[zP rfl,hp0];exact hs2
   .rw[zM e1];intro g;rfl
  refine ET (C:=C5 sh _) tk R AK rfl (by intro c h;cases h) (r:= .ro ws.length (Aa Ar ws)) (by simp -implicitDefEqProofs (disch:=omega) [pv]) λu4 hu4 R4=>?_;refine ET (C:=C5 sh _) tk R4 AK rfl (by intro c h;cases h) (r:= .int .i64 ws.length) (by simp -implicitDefEqProofs (disch:=omega) [pv]) λu5 hu5 R5=>?_;refine ET (C:=C5 sh _) tk R5 AK rfl (by intro c h;cases h) (r:= .int .i64 ((ws.length:Int)-1)) (by simp -implicitDefEqProofs (disch:=omega) [pv]) λu6 hu6 R6=>?_;refine ET (C:=C5 sh _) tk R6 AK rfl (by intro c h;cases h) (r:= .int .i64 ((ws.length:Int)-1)) (by simp -implicitDefEqProofs (disch:=omega) [pv]) λu3 hu3 R3=>?_;refine wpListIn_nil ?_;have s0:Sm l h ((ws.length:Int)-1) ((((a0.put (some 4) u4).put (some 5) u5).put (some 6) u6).put (some 3) u3):=by
   refine⟨by simp[Act.put,h19],hd0,?_,?_,?_⟩
   .rw[Cc zD,Cc zD,Cc zD,Cc zD];exact hy0
   .rw[Cc zD,Cc zD,Cc zD,Cc zD];exact hp0
   .rw[FR (by simp[Act.put,h19])];exact hu3.1
  generalize ((((a0.put (some 4) u4).put (some 5) u5).put (some 6) u6).put (some 3) u3)=a1 at s0;clear R R4 R5 R6 R3 hu4 hu5 hu6 hu3 u4 u5 u6 u3 hs1 hs2 sh h19 hd0 hy0 hp0 a0;show Code.wpIn _ _ _ _ _ _ _;refine wpIn_block (wpIn_loop_rounds (ws.length+1) ?_);refine Qs ws.length (λk a W=>Sm l h ((ws.length:Int)-1-k) a/\J k W) (λk a W hk hI=>?_) ws.length 0 a1 w zO ⟨by simpa using s0,h0⟩;obtain⟨s,hJ⟩:=hI;obtain⟨sh,R⟩:=s.rel (hV k W hJ);refine wpIn_seq (wpIn_seq (wpIn_region_lit ?_));refine ET (C:=C5 sh _) tk R AK rfl (by intro c h;cases h) (r:= .int .i64 ((ws.length:Int)-1-k)) (by simp -implicitDefEqProofs (disch:=omega) [pv,Fi]) λu7 hu7 R7=>?_;refine ET (C:=C5 sh _) tk R7 AK rfl (by intro c h;cases h) (r:= .bool (decide ((0:Int)<=(ws.length:Int)-1-k))) (by simp -implicitDefEqProofs (disch:=omega) [pv,Fi]) λu8 hu8 R8=>?_;refine wpListIn_nil ?_;have s8:=(s.put (d:=7) zD zD zD u7).put (d:=8) zD zD zD u8;have hc8:((a.put (some 7) u7).put (some 8) u8).eval (.tmp 8)= .bool (decide ((0:Int)<=(ws.length:Int)-1-k)):=by
   show((a.put (some 7) u7).put (some 8) u8).tmps.getD 8 undef=_;rw[FR (by simp[Act.put,s.1])];exact hu8.1
  generalize ((a.put (some 7) u7).put (some 8) u8)=a2 at s8 hc8;clear R R7 R8 hu7 hu8 u7 u8 s;show Code.wpIn _ _ _ _ _ _ _;refine wpIn_cond_split hc8 (λhb=>wpIn_skip ?_) (λhb=>wpIn_exit ?_);rotate_left
  .have hb:¬(0:Int)<=(ws.length:Int)-1-k:=of_decide_eq_false hb;have:k=ws.length:=zO;subst this;show bodyPost pg _ RR .normal a2 W;refine⟨s8.2.1,.tuple #[],by simp[results,Tryz.f203],?_⟩;rw[<-hRR];exact⟨zX,.inl hJ⟩
  have hb:(0:Int)<=(ws.length:Int)-1-k:=of_decide_eq_true hb;show Code.wpIn _ _ _ _ _ _ _;refine wpIn_seq (wpIn_block (wpIn_seq (wpIn_region_lit ?_)));obtain⟨sh,R⟩:=s8.rel (hV k W hJ);obtain⟨i,hi⟩:∃i:Nat,(ws.length:Int)-1-k=(i:Int):=⟨ws.length-1-k,zO⟩;rw[hi] at s8 R;have hlt:i<ws.length:=zO;refine Yz s8.2.2.1 ?_;have R11:AS (C5 sh W) (AB (Fi ws i) (some 11) .any) [] (a2.put (some 11) (.func (.yield l) #[] #[])) W σ0 (λ_=>none):=R.put (some 11) zL;refine ET (C:=C5 sh _) tk R11 AK rfl (by intro c h;cases h) (r:= .int .i64 i) (by simp -implicitDefEqProofs (disch:=omega) [pv,Fi]) λu12 hu12 R12=>?_;refine ET (C:=C5 sh _) tk R12 AK rfl (by intro c h;cases h) (r:= .ro ws.length (Aa Ar ws)) (by simp -implicitDefEqProofs (disch:=omega) [pv,Fi]) λu13 hu13 R13=>?_;refine ET (C:=C5 sh _) tk R13 AK rfl (by intro c h;cases h) (r:= .int .i64 i) (by simp -implicitDefEqProofs (disch:=omega) [pv,Fi]) λu14 hu14 R14=>?_;refine ET (C:=C5 sh _) tk R14 AK rfl (by intro c h;cases h) (r:= .rptr (Ar ws[i]++Aa Ar (ws.drop (i+1)))) (by simp -implicitDefEqProofs (disch:=omega) [pv,Fi,hlt]) λu15 hu15 R15=>?_;refine ET (C:=C5 sh _) tk R15 AK rfl (by intro c h;cases h) (r:= .agg (Ar ws[i])) (by simp -implicitDefEqProofs (disch:=omega) [pv,Fi,hlt]) λu16 hu16 R16=>?_;have ek:ws.length-1-k=i:=zO;have eo:ws.getD (ws.length-1-k) ⟨0,0,⟨⟨#[]⟩,0⟩⟩=ws[i]:=by rw[ek];simp[List.getD,hlt]
  obtain⟨f,tm,asg,bd,hy,hr⟩:=hR k W zO hJ;simp only[hi,eo] at hy;have s9:=((((((s8.put (d:=11) zD zD zD (.func (.yield l) #[] #[])).put (d:=12) zD zD zD u12).put (d:=13) zD zD zD u13).put (d:=14) zD zD zD u14).put (d:=15) zD zD zD u15).put (d:=16) zD zD zD u16);refine WI (x:= .int .i64 i) (y:=PI ws[i]) ?_ ?_ ?_ hy hr ?_
  .rw[Cc zD,Cc zD,Cc zD,Cc zD,Cc zD,FR (by rw[s8.1];decide)]
  .rw[Cc zD,Cc zD,Cc zD,Cc zD,FR (by simp[Act.put,s8.1])];exact hu12.1
  .rw[FR (by simp[Act.put,s8.1])];exact bB hu16
  generalize ((((((a2.put (some 11) (Value.func (.yield l) #[] #[])).put (some 12) u12).put (some 13) u13).put (some 14) u14).put (some 15) u15).put (some 16) u16)=a3 at s9;clear R R11 R12 R13 R14 R15 R16 hu12 hu13 hu14 hu15 hu16 u12 u13 u14 u15 u16 hy hr s8 hc8;rintro e W' hq;obtain⟨b,rfl,hq⟩:∃b,e= .returned (.bool b)/\(if b=true then J (k+1) W' else Jx W'):=by
   rcases hq with⟨rfl,h⟩ | ⟨rfl,h⟩
   .exact⟨true,rfl,h⟩
   .exact⟨false,rfl,h⟩
  refine⟨_,rfl,?_⟩;have s10:=s9.put (d:=17) zD zD zD (.bool b);have R17:=eG (W:=W') (F:=λt=>if t=17 then .bool b else .any) s10.1 s10.2.1 (λt=>by
   by_cases e:t=17
   .subst e;simp only[if_true];rw[FR (by rw[s9.1];decide)];exact⟨rfl,λ_=>rfl⟩
   .rw[zM e];intro g;rfl)
  refine ET (C:=C5 (λ_=>False) _) tk R17 AK rfl (by intro c h;cases h) (r:= .bool (!b)) (by simp -implicitDefEqProofs (disch:=omega) [pv,Fi]) λu18 hu18 R18=>?_;refine wpListIn_nil ?_;have s11:=s10.put (d:=18) zD zD zD u18;have hc18:(((a3.put (some 17) (.bool b)).put (some 18) u18)).eval (.tmp 18)= .bool (!b):=by
   show((a3.put (some 17) (.bool b)).put (some 18) u18).tmps.getD 18 undef=_;rw[FR (by rw[s10.1];decide)];exact hu18.1
  generalize ((a3.put (some 17) (.bool b)).put (some 18) u18)=a4 at s11 hc18;clear R17 R18 hu18 u18 s9 s10;show Code.wpIn _ _ _ _ _ _ _;refine wpIn_cond_split hc18 (λhb=>wpIn_ret ?_) (λhb=>wpIn_skip ?_)
  .have hb:b=false:=by simpa using hb
   subst hb;show bodyPost pg _ RR .ret a4 W';refine⟨s11.2.1,.tuple #[],by simp[results,Tryz.f203],?_⟩;rw[<-hRR];exact⟨zX,.inr (by simpa using hq)⟩
  .have hb:b=true:=by simpa using hb
   subst hb;show Code.wpIn _ _ _ _ _ _ _;refine wpIn_region_lit ?_;have hq:J (k+1) W' :=by simpa using hq
   obtain⟨sh,R⟩:=s11.rel (hV (k+1) W' hq);refine ET (C:=C5 sh _) tk R AK rfl (by intro c h;cases h) (r:= .int .i64 i) (by simp -implicitDefEqProofs (disch:=omega) [pv,Fi]) λu9 hu9 R9=>?_;refine ET (C:=C5 sh _) tk R9 AK rfl (by intro c h;cases h) (r:= .int .i64 ((i:Int)-1)) (by simp -implicitDefEqProofs (disch:=omega) [pv,Fi]) λu10 hu10 R10=>?_;refine ET (C:=C5 sh _) tk R10 AK rfl (by intro c h;cases h) (r:= .int .i64 ((i:Int)-1)) (by simp -implicitDefEqProofs (disch:=omega) [pv,Fi]) λu3 hu3 R3=>?_;refine wpListIn_nil ?_;show k<ws.length/\_;refine⟨zO,?_,hq⟩;have s12:=(s11.put (d:=9) zD zD zD u9).put (d:=10) zD zD zD u10;refine⟨by simp[Act.put,s11.1],s11.2.1,?_,?_,?_⟩
   .rw[Cc zD];exact s12.2.2.1
   .rw[Cc zD];exact s12.2.2.2.1
   .rw[FR (by rw[s12.1];decide),hu3.1];congr 1;omega
 have hf:pg.funcs[(203:Nat)]?=some Tryz.f203:=rfl;have hn:Tryz.f203.ntmps=19:=rfl;obtain⟨c,hc⟩:∃c,Tryz.f203.body=some c:=zX;refine callsIn_of_wp (n:=0) hf hc trivial ?_ rfl;refine key c hc _ ?_ ?_ ?_ ?_
 .simp[hn]
 .simp only
 .simp
 .simp
theorem tn {C:BF} {P:Program} {T:Nat->Option TI} {p:Nat} {x y:Code} {F:Fr} {M:List Ag} {Q:Cj} (tk:BQ P T) (hC:C.P=P) (hp:C.p<=p) (hb:CL C.n x=true) (h:W P T p x F M (DR (λF M=>AW C y F M Q) Q)):AW C (.seq x y) F M Q:=
 tC (h tk C hC hp hb)
theorem JK:AP Az:=by
 simp[AP,Az,Br]
theorem Sn (l:List Obj):∀(k:Nat) (id:Int) (i:Nat) (h:i+1<(A4 l k id).length),((A4 l k id)[i]'zO).base≠0
 |0,id,i,h=>by simp[A4] at h
 |k+1,id,i,h=>by
  by_cases h0:id=0
  .simp[A4,h0] at h
  .cases hf:A5 l id with
   |none=>simp[A4,h0,hf] at h
   |some o=>
    simp only[A4,h0,hf,if_false] at h |-;cases i with
    |zero=>
     simp only[List.getElem_cons_zero];intro e;rw[e] at h;have:(A4 l k 0).length=0:=by cases k<;>simp[A4]
     simp[this] at h
    |succ i=>
     simp only[List.getElem_cons_succ];exact Sn l k o.base i (by simpa using h)
theorem Un (l:List Obj):∀(k:Nat) (id:Int),∀o∈A4 l k id,o∈l
 |0,id,o,h=>by simp[A4] at h
 |k+1,id,o,h=>by
  by_cases h0:id=0
  .simp[A4,h0] at h
  .cases hf:A5 l id with
   |none=>simp[A4,h0,hf] at h
   |some q=>
    simp only[A4,h0,hf,if_false] at h;rcases vL.1 h with rfl|h
    .exact Fb hf
    .exact Un l k q.base o h
theorem Qt {rf:List Bool->Option Gr} {rd:Gr->List Bool->Option Gr} {ws:List Obj} (hb:∀i (h:i+1<ws.length),(ws[i]'zO).base≠0):∀i,i<ws.length->DN rf rd (ws.drop i)=none->DN rf rd ws=none
 |0,_,h=>by simpa using h
 |i+1,hi,h=>by
  refine Qt hb i zO ?_;rw[uX (by omega:i<ws.length)];simp only[DN,hb i hi,if_false,h]
theorem IL {bs:List Bool} {rd:Rd} {g:Gr} (h:DJ bs rd=some g):AP g:=by
 unfold DJ at h;split at h
 .simp at h
 .split at h
  .split at h
   .simp at h
   .split at h
    .rename_i hm;simp at h;subst h;exact hm.2
    .simp at h
  .simp at h
theorem WJ {b:DX} (h:DI b) (hs:b.data.size<1000000000):EB b:=by
 have h1:=h.1;have h2:=h.2.1;have h3:=h.2.2.1;refine⟨h1,?_,hs⟩;omega
theorem YB {C:BF} (hC:C.P=pg) {ops:Array Oper} {Q:Exit->Act->World->Prop} {a:Act} {w:World} {d t ty:Nat} {pos:String} {af:Array Edge} {ats:Array TypeId} {rest:List Oper} {x:Value} (h0:a.tmps.getD t undef=x)
 (h:wpListIn (FX C) 0 C.P ops Q rest (a.put (some d) (.func (.func 203) #[] #[.pointer (some ⟨w.heap.size,0,none⟩)])) (w.alloc (.cells x.cells 86))):
 wpListIn (FX C) 0 C.P ops Q ({dst:=some d,op:= .call {callee:= .value (.func 165),args:= #[.tmp t],argTypes:=ats},type:=ty,pos:=pos,after:=af,guard:=none}::rest) a w:=by
 simp only[wpListIn];rw[zP (by simp[Region.wanted])];refine⟨λ_ _=>trivial,?_⟩;have e0:a.eval (.tmp t)=x:=h0;have ef:a.eval (.func 165)= .func (.func 165) #[] #[]:=rfl;have hfn:C.P.funcs[(165:Nat)]?=some Tryz.f165:=by rw[hC];rfl
 have hb:¬(Tryz.f165.body=none):=by intro e;cases e
 have hnm:¬(Tryz.f165.name= "runtime.NumGoroutine"):=by simp[Tryz.f165]
 have e:Sem.run C.P (execOp a.eval {dst:=some d,op:= .call {callee:= .value (.func 165),args:= #[.tmp t],argTypes:=ats},type:=ty,pos:=pos,after:=af,guard:=none}) w= .ok (.enter 165 #[x]) w:=by
  simp[execOp,resolve,ef,e0,Deferred.ofValue,invoke,callFunc,hfn,hb,hnm]
 rw[Oper.semAt_eq _ _ _ (by intro c h;cases h),e];refine⟨λh=>absurd h (by simp[FX,Fence.wide]),(callsIn_wide (n:=0-1)).2 ?_⟩;rw[hC];refine(Vw w x).mono ?_;rintro e w' ⟨rfl,rfl⟩;rw[hC] at h;exact h
theorem So (xs:List Obj) (id:Int) (hx:DZ xs) (hm:BJ xs):Ac pg 123 [.ro xs.length (Aa Ar xs),.int .i64 id] [] (λr _=>r= .tup [.agg (A1 true (AT xs id).1),.int .i64 (AT xs id).2]):=by
 have hx1:=hx.1;have hb:∀o∈xs,o.base=0\/∃q∈xs,q.id=o.base:=λo ho=>(hm.2.1 o ho).2.2.2.2;refine tA (fn:=Tryz.f123) tk rfl rfl rfl (Nat.le_of_ble_eq_true rfl) AK ?_;intro C hC hp hn hrd hdf;have hp0:C.p<=0:=Nat.le_of_eq hp;have hn48:C.n=48:=hn;show AW C _ _ _ (Fo tT [.cell 4 34,.cell 5 46] 0 _);rw[Aq];refine tn tk hC hp0 (by rw[hn48];kernel_rfl) ?_;refine Cx ?_;refine tn tk hC hp0 (by rw[hn48];kernel_rfl) ?_;refine AL (Sl xs id hx hb) ?_;by_cases hd:(AY xs id).2=0
 .refine th hd ?_;refine tn tk hC hp0 (by rw[hn48];kernel_rfl) ?_;refine AX ?_;have By:id=0\/∃q∈xs,q.id=id:=by
   right;cases hf:A5 xs id with
   |none=>simp[AY,hf] at hd
   |some o=>obtain⟨k,hlt,_,hko,hoi⟩:=EI hf;exact⟨o,Fb hf,hoi⟩
  obtain⟨ws,hWay,hbase,hmem,hwl,hofO⟩:∃ws:List Obj,(Ac pg 166 [.ro xs.length (Aa Ar xs),.int .i64 id,.int .i64 3] [] (λr _=>r= .own 4 ws.length (Aa Ar ws)))/\(∀i (h:i+1<ws.length),(ws[i]'zO).base≠0)/\(∀o∈ws,o∈xs)/\ws.length<=3/\
   AT xs id=(match DN Cs CF ws with|some g=>(g,0) |none=>(Az,9)):=by
   refine⟨A4 xs 3 id,Vv xs id 3 hx zO hb By,Sn xs 3 id,Un xs 3 id,Kr xs 3 id,?_⟩;unfold AT;rw[zM (by simpa using hd)];cases DN Cs CF (A4 xs 3 id)<;>rfl
  generalize hQ:(λ(r:AV) (x:List Ag)=>r=AV.tup [AV.agg (A1 true (AT xs id).1),AV.int .i64 (AT xs id).2])=Q;show AW C _ _ _ _;intro a w hr;refine wpIn_seq (wpIn_seq (wpIn_region_lit ?_));obtain⟨S,hS⟩:∃S:List (Nat×AV),S=[(4,.ptr 0 0 0),(5,.ptr 1 0 0),(8,.ptr 2 0 0),(24,.tok 3 0 4 0 ws.length)]:=zX;let MM:Gr->List Ag:=λg=> [.live 0 [.int .i64 0,.own 1 0 []],.live 0 [.int .i64 0],.live 0 [.int .i64 g.n,.tok 4 0 1 0 g.out.length],.live 0 (Aa Ar ws),.live 0 (Ak true g.out)];refine(ES (hC ▸ tk) (K:=λF' M' =>Wk 0 F' M' (fr S) (MM Az)) ?_ [_,_,_] 3 _ _ a w ?_ ?_ ?_ hr:wpListIn _ _ _ _ _ ([_,_,_]++[_]) a w);rotate_left
  .rw[hn48];kernel_rfl
  .rw[hn48];kernel_rfl
  .refine Dk (call:=Ad pg) (call' :=Cd C) (λf args M K K' hk hc=>(hc C hC).mono hk) (λ_ _ h=>h) _ _ _ _ ?_;simp -implicitDefEqProofs (maxSteps:=999999) (disch:=omega);refine zj hWay ?_;refine Wk.trans (Wk.fr (S:=S) (by rw[hS];simp[AA])) ?_;refine Wk.trans (sX 2 1) ?_;exact λC _=>Dj.refl _ _ _
  clear hr a w;intro F' M' a w hwk hr;obtain⟨σ,own,R⟩:=hwk C hp0 a w hr;clear hr hwk;have e24:a.eval (.tmp 24)=a.tmps.getD 24 undef:=rfl;generalize hx24:a.tmps.getD 24 undef=x at*;have hvx:VR w C.sh σ (.tok 3 0 4 0 ws.length) x (λ_=>0):=by
   have:=R.tmp 24 zO;rw[hx24,hS] at this;simpa using this
  have hxc:x.cells= #[x]:=by
   simp only[VR] at hvx;obtain⟨_,⟨a,c,rfl⟩,_⟩:=hvx;rfl
  refine YB hC hx24 (wpListIn_nil ?_);have R2:=(R.allocO (.cells x.cells 86)).put (some 25) (av:= .any) (v:= .func (.func 203) #[] #[.pointer (some ⟨w.heap.size,0,none⟩)]) zL;have e25:(a.put (some 25) (.func (.func 203) #[] #[.pointer (some ⟨w.heap.size,0,none⟩)])).eval (.tmp 25)= .func (.func 203) #[] #[.pointer (some ⟨w.heap.size,0,none⟩)]:=FR (by rw[R.size,hn48];decide);have e24:(a.put (some 25) (.func (.func 203) #[] #[.pointer (some ⟨w.heap.size,0,none⟩)])).tmps.getD 24 undef=x:=by rw[Cc zD];exact hx24
  have eF:AB (fr S) (some 25) .any=fr S:=by
   funext t;simp only[Yp];split
   .rename_i e;subst e;rw[hS];rfl
   .rfl
  rw[eF] at R2;obtain⟨hh,hhe⟩:∃hh,hh=w.heap.size:=zX;rw[<-hhe] at R2 e25 e24 |-;have hcell:(w.alloc (.cells x.cells 86)).heap[hh]?=some (.cells x.cells 86):=by rw[hhe];exact World.alloc_heap_new w _
  generalize hw2:w.alloc (.cells x.cells 86)=w2 at*;generalize ha2:a.put (some 25) (.func (.func 203) #[] #[.pointer (some ⟨hh,0,none⟩)])=a2 at*;have hcf:∀args w,(callFunc 203 args).run C.P w= .ok (.enter 203 args) w:=by
   intro args w;have hfn:C.P.funcs[(203:Nat)]?=some Tryz.f203:=by rw[hC];rfl
   have hb:¬(Tryz.f203.body=none):=by intro e;cases e
   have hnm:¬(Tryz.f203.name= "runtime.NumGoroutine"):=by simp[Tryz.f203]
   simp[callFunc,hfn,hb,hnm]
  have hsz2:hh<w2.heap.size:=(vu.1 hcell).1;have hseq:=YA hh ws zO;rw[<-hC] at hseq;show Code.wpIn _ _ _ _ _ _ _;refine Ys (T:=tT) (hC ▸ tk) hrd hdf R2 e25 hcf hseq (va:=λk=> .int .i64 ((ws.length:Int)-1-k)) (vb:=λk=> .agg (Ar (ws.getD (ws.length-1-k) ⟨0,0,⟨⟨#[]⟩,0⟩⟩))) (λk=>⟨_,_,rfl,λw σ=>⟨⟨rfl,λ_=>rfl⟩,bA w _ σ _⟩⟩) (h:=hh) ?_ hsz2 (by rw[hhe];exact R.ext.size)
   (λk M' =>∃g,DN Cs CF (ws.drop (ws.length-k))=some g/\AP g/\M' =MM g) ⟨Az,by simp[DN],JK,rfl⟩ ?_ ?_ ?_ ?_ ?_ ?_
  .rw[zM zO]
  .
   rintro k W M' σ' own' R' hW ⟨g,_,_,rfl⟩;rw[hcell,hxc] at hW;have hltW:hh<W.heap.size:=(vu.1 hW).1;have hv:=R'.tmp 24 zO;rw[e24,hS] at hv;have hv2:=UU (shB:=λg=>C.sh g\/(own' g≠none/\g<W.heap.size)\/(g=hh/\g<W.heap.size)) R'.mem (λg h=> .inl h) (λg h1 h2=> .inr (.inl ⟨h1,h2⟩)) hv;have ev:vw (MM g) ((fr [(4,AV.ptr 0 0 0),(5,AV.ptr 1 0 0),(8,AV.ptr 2 0 0),(24,AV.tok 3 0 4 0 ws.length)]) 24)= .ro ws.length (Aa Ar ws):=by simp[MM,vw]
   rw[ev] at hv2;refine⟨_,λg hg=>?_,λ_=>rfl,⟨hh,0,none⟩,[x],rfl,.inr ⟨.inr (.inr ⟨rfl,hltW⟩),?_,x,[],_,_,rfl,hv2,⟨rfl,λ_=>rfl⟩,λ_=>rfl⟩⟩
   .rcases hg with h|h|h
    .exact(R'.shr g h).2
    .exact h.2
    .exact h.2
   .intro i v hi;rw[BW,DW hW];cases i with
    |zero=>simpa using hi
    |succ i=>simp at hi
  .rw[hn48];kernel_rfl
  .rw[hn48];kernel_rfl
  .rw[hn48];kernel_rfl
  .
   rintro k M' hk ⟨g,hg,hmay,rfl⟩;rw[hC];obtain⟨i,hi⟩:∃i,i=ws.length-1-k:=zX;have hlt:i<ws.length:=zO;have eo:ws.getD (ws.length-1-k) ⟨0,0,⟨⟨#[]⟩,0⟩⟩=ws[i]:=by rw[<-hi];simp[List.getD,hlt]
   simp only[eo];have hdr:ws.drop (ws.length-(k+1))=ws[i]::ws.drop (ws.length-k):=by
    rw[show ws.length-(k+1)=i by omega,show ws.length-k=i+1 by omega];exact uX hlt
   have hbits:=WJ (hm.2.1 _ (hmem _ (uQ hlt))).2.2.1 (hx.2 _ (hmem _ (uQ hlt)));have hwn:DN Cs CF (ws.drop (ws.length-(k+1)))=none->DN Cs CF ws=none:=Qt hbase _ zO;rw[hdr] at hwn |-;generalize ws[i]=o at*;subst hS;show W pg tT 5 _ _ _ _;simp only[MM];refine AX ?_;refine⟨rfl,?_⟩;show W pg tT 6 _ _ _ _;refine y2 ?_;by_cases hb0:o.base=0
   .refine yl hb0 ?_;intro K hK;have sp:=bu o.data hbits;cases hf:Cs (AH o.data) with
    |none=>
     simp only[hf,Qq] at sp;refine tr sp zS ?_;rintro _ ⟨g0,rfl⟩;refine⟨zS,?_⟩;refine yu ?_;refine tq (.inr ⟨rfl,fr [(4,.ptr 0 0 0),(5,.ptr 1 0 0)],[.live 0 [.int .i64 0,.tok 2 0 1 0 0],.live 0 [.int .i64 9],.live 0 []],?_,?_⟩)
     .refine Wk.trans (sU (k:=2) (S:=[(4,.ptr 0 0 0),(5,.ptr 1 0 0)]) (M:=[.live 0 [.int .i64 0,.own 1 0 []],.live 0 [.int .i64 9]]) zK zS zS zS zS zO) ?_;refine Wk.trans (sX 0 1) ?_;exact λC _=>Dj.refl _ _ _
     .simp only[CM];refine CA (d:=0) ?_;rw[<-hQ,hofO,hwn (by simp[DN,hb0,hf])];simp -implicitDefEqProofs (maxSteps:=999999) (disch:=omega);exact⟨rfl,rfl,rfl⟩
    |some g' =>
     simp only[hf,Qq] at sp;refine yd sp ?_;refine .inl ⟨rfl,MM g',?_,g',by simp[DN,hb0,hf],IL hf,rfl⟩;refine Wk.trans (sY (B:=2) (v:=0) (j:=1) (T:=6) (u:=0) (s:=1) (off:=0) (n:=g'.out.length) (cs:=[.int .i64 g'.n,.tok 6 0 1 0 g'.out.length]) (xs:=Ak true g'.out) rfl rfl rfl zD zS zS) ?_;refine Wk.trans (sU (k:=4) (S:=[(4,.ptr 0 0 0),(5,.ptr 1 0 0),(8,.ptr 2 0 0),(24,.tok 3 0 4 0 ws.length)]) (M:=[.live 0 [.int .i64 0,.own 1 0 []],.live 0 [.int .i64 0],.live 0 [.int .i64 g'.n,.own 1 g'.out.length (Ak true g'.out)],.live 0 (Aa Ar ws)]) zK zS zS zS zS zO) ?_;refine Wk.trans (sX 2 1) ?_;exact λC _=>Dj.refl _ _ _
   .refine xO hb0 ?_;refine z0 ?_;intro K hK;have sp:=bx o.data g hbits hmay;cases hf:CF g (AH o.data) with
    |none=>
     simp only[hf,Qq] at sp;refine tr sp zS ?_;rintro _ ⟨g0,rfl⟩;refine⟨zS,?_⟩;refine yu ?_;refine tq (.inr ⟨rfl,fr [(4,.ptr 0 0 0),(5,.ptr 1 0 0)],[.live 0 [.int .i64 0,.tok 2 0 1 0 0],.live 0 [.int .i64 9],.live 0 []],?_,?_⟩)
     .refine Wk.trans (sU (k:=2) (S:=[(4,.ptr 0 0 0),(5,.ptr 1 0 0)]) (M:=[.live 0 [.int .i64 0,.own 1 0 []],.live 0 [.int .i64 9]]) zK zS zS zS zS zO) ?_;refine Wk.trans (sX 0 1) ?_;exact λC _=>Dj.refl _ _ _
     .simp only[CM];refine CA (d:=0) ?_;rw[<-hQ,hofO,hwn (by simp[DN,hb0,hg,hf])];simp -implicitDefEqProofs (maxSteps:=999999) (disch:=omega);exact⟨rfl,rfl,rfl⟩
    |some g' =>
     simp only[hf,Qq] at sp;refine yd sp ?_;refine .inl ⟨rfl,MM g',?_,g',by simp[DN,hb0,hg,hf],IL hf,rfl⟩;refine Wk.trans (sY (B:=2) (v:=0) (j:=1) (T:=6) (u:=0) (s:=1) (off:=0) (n:=g'.out.length) (cs:=[.int .i64 g'.n,.tok 6 0 1 0 g'.out.length]) (xs:=Ak true g'.out) rfl rfl rfl zD zS zS) ?_;refine Wk.trans (sU (k:=4) (S:=[(4,.ptr 0 0 0),(5,.ptr 1 0 0),(8,.ptr 2 0 0),(24,.tok 3 0 4 0 ws.length)]) (M:=[.live 0 [.int .i64 0,.own 1 0 []],.live 0 [.int .i64 0],.live 0 [.int .i64 g'.n,.own 1 g'.out.length (Ak true g'.out)],.live 0 (Aa Ar ws)]) zK zS zS zS zS zO) ?_;refine Wk.trans (sX 2 1) ?_;exact λC _=>Dj.refl _ _ _
  .
   rintro M' ⟨g,hg,hmay,rfl⟩;rw[hC];subst hS;show W pg tT 5 _ _ _ _;simp only[MM];refine zs ?_;refine tq ⟨rfl,?_⟩;simp only[CM];refine CA (d:=0) ?_;have hg' :DN Cs CF ws=some g:=by simpa using hg
   rw[<-hQ,hofO,hg'];simp -implicitDefEqProofs (maxSteps:=999999) (disch:=omega)
 .refine th hd ?_;refine W.weak (sX 0 1) ?_;refine zr ?_;simp[AT,hd,Az]
theorem Uo (k:Int):Ac pg 265 [iN k] [] (λr _=>r= .bool (named k)):=by
 refine zE (fn:=Tryz.f265) [.tmp 2] ?_;rw[AC];refine zs ?_;by_cases h1:k=1
 .refine xQ h1 ?_;simp[named,h1]
 .by_cases h2:k=2
  .refine xQ (an h1 h2) ?_;simp[named,h2]
  .refine xQ (an h1 h2) ?_;simp[named,h1,h2]
theorem bC (g:Gr) (k a:Int) (hg:G5 g) (hm:AP g):Ac pg 227 [.agg (A1 false g),iN k,iN a] [] (λr _=>r=iN (DO g k a)):=by
 refine zE (fn:=Tryz.f227) [.tmp 6] ?_;rw[A6];refine AX ?_;refine zb ?_;have hM:=Jc g hg;rw[zT hm] at hM;by_cases h1:k<1
 .refine BS h1 ?_;intro K hK;refine sW hM (by simp) (by simp) ?_;refine x7 h1 ?_;rw[DO,zP zO]
 .by_cases h2:k<=6
  .refine BS (an h1 h2) ?_;intro K hK;refine sW hM (by simp) (by simp) ?_;refine xK (an h1 h2) ?_;refine zn ?_;refine z0 ?_;intro K hK;refine sW (Uo k) (by simp) (by simp) ?_;cases hn:named k
   .refine Am ?_;refine Ck ?_;rw[DO,zM zO,zM (by simp[hn])]
   .refine zx ?_;refine sW (OG g a) (by simp) (by simp) ?_;by_cases h3:0<=a/\a<g.n
    .rw[zT h3];refine Am ?_;refine Ck ?_;rw[DO,zM zO,zM (by simp[h3])]
    .rw[zV h3];refine xX ?_;rw[DO,zM zO,zP ⟨hn,h3⟩]
  .refine BS (an h1 h2) ?_;intro K hK;refine sW hM (by simp) (by simp) ?_;refine x7 (an h1 h2) ?_;rw[DO,zP zO]
theorem Ks (g:Gr) (j:B7) (hl:j.list.length<1000000000000):Ac pg 177 [.agg (A1 false g),.agg (BY false j)] [] (λr _=>r= .bool (BX g j)):=by
 refine zE (fn:=Tryz.f177) [.tmp 4] ?_;rw[Aq];refine Cx ?_;refine y3 ?_;refine zc ?_ ?_<;>intro h
 .refine Bd ?_;simp[BX,h]
 .have h1:=h;clear h;refine zs ?_;refine zc ?_ ?_<;>intro h
  .refine Bd ?_;simp[BX,h]
  .refine AJ ?_;simp[BX, *]
theorem WK (a b:B7) (ha:a.list.length<1000000000000/\a.out.length<1000000000000):Ac pg 216 [.agg (BY false a),.agg (BY false b)] [] (λr _=>r= .bool (decide (a=b))):=by
 have e0:(a=b)↔a.kind=b.kind/\a.a=b.a/\a.at_=b.at_/\a.move=b.move/\a.list=b.list/\a.out=b.out:=B7.ext_iff;refine zE (fn:=Tryz.f216) [.tmp 4] ?_;rw[Aq];refine Cx ?_;by_cases h1:a.kind=b.kind
 .by_cases h2:a.a=b.a
  .by_cases h3:a.at_=b.at_
   .by_cases h4:a.move=b.move
    .refine BS (an h1 (an h2 (an h3 h4))) ?_;intro K hK;refine sW (Kq a.list b.list (by omega)) (by simp) (by simp) ?_;by_cases h5:a.list=b.list
     .rw[zT h5];refine zx ?_;refine xN (Kq a.out b.out (by omega)) ?_;refine zr ?_;simp[e0,h1,h2,h3,h4,h5]
     .rw[zV h5];refine xU ?_;simp[e0,h5]
    .refine xQ (an h1 (an h2 (an h3 h4))) ?_;simp[e0,h4]
   .refine xQ (an h1 (an h2 h3)) ?_;simp[e0,h3]
  .refine xQ (an h1 h2) ?_;simp[e0,h2]
 .refine xQ h1 ?_;simp[e0,h1]
theorem Sp (g:Gr):Ac pg 170 [.agg (A1 false g)] [] (λr _=>r= .bool (decide (g=Az))):=by
 have e0:(g=Az)↔g.n=0/\g.out=[]:=Gr.ext_iff;refine zE (fn:=Tryz.f170) [.tmp 2] ?_;rw[AC];refine AX ?_;by_cases h1:g.n=0
 .refine xQ h1 ?_;simp[e0,h1]
 .refine xQ h1 ?_;simp[e0,h1]
theorem Mj (j:B7) (hj:j.list.length<1000000000000/\j.out.length<1000000000000):Ac pg 171 [.agg (BY false j)] [] (λr _=>r= .bool (decide (j=A3))):=by
 have e0:(j=A3)↔j.kind=0/\j.a=0/\j.at_=0/\j.move=false/\j.list=[]/\j.out=[]:=B7.ext_iff;refine zE (fn:=Tryz.f171) [.tmp 2] ?_;rw[AC];refine AX ?_;by_cases h1:j.kind=0
 .by_cases h2:j.a=0
  .by_cases h3:j.at_=0
   .cases h4:j.move
    .refine xQ (an h1 (an h2 (an h3 h4))) ?_;simp[e0,h1,h2,h3,h4];rw[<-List.length_eq_zero_iff,<-List.length_eq_zero_iff];omega
    .refine xQ (an h1 (an h2 (an h3 h4))) ?_;simp[e0,h4]
   .refine xQ (an h1 (an h2 h3)) ?_;simp[e0,h3]
  .refine xQ (an h1 h2) ?_;simp[e0,h2]
 .refine xQ h1 ?_;simp[e0,h1]
def A0 (s:An):Prop:=s.sQ.length<1000000000/\s.sR.length<1000000000/\∀v∈s.sQ,v.data.data.size<1000000000
theorem A0.objs {s:An} (h:A0 s):DZ (Ae s):=by
 refine⟨by have:=h.1;simp[Ae];omega,λo ho=>?_⟩;simp only[Ae,List.mem_map] at ho;obtain⟨v,hv,rfl⟩:=ho;exact h.2.2 v hv
theorem Mk (s:An) (hs:A0 s):Ac pg 122 [.agg (Aj false s)] [] (λr _=>r= .own 4 (Ae s).length (Aa Ar (Ae s))):=by
 have h1:=hs.1;refine zE (fn:=Tryz.f122) [.tmp 2] ?_;rw[AC];refine AX ?_;refine xR ?_;refine sV (λk:Nat=> [(2,.tok 1 k 4 0 k),(6,GF false s.sQ),(7,iN s.sQ.length),(8,iN k)]) (λk=> [lv (Aj false s),.live k (Aa Ar ((Ae s).take k))]) (λk=>s.sQ.length-k) (λk=>k<=s.sQ.length) 0 ((Wk.nil (t:=2) (s:=4) ?_).trans (Wk.fr ?_)) zS ?_
 .simp
 .simp[AA]
 .intro k hk;refine zs ?_;refine zc ?_ ?_<;>intro h
  .refine W.skip ?_;have hlt:k<s.sQ.length:=zO;have hto:(Ae s).take (k+1)=(Ae s).take k++[B2 s.sQ[k]]:=by
    rw[uV];simp[Ae,hlt]
   have hlo:k<=(Ae s).length:=by simp[Ae];omega
   refine x9 ?_;intro K hK;simp -implicitDefEqProofs (disch:=omega) [hlt];refine zk ?_;refine GQ hlo ?_;intro K hK;refine⟨zO,zO,?_⟩;refine xM ?_;refine⟨k+1,zO,zO,sU (k:=2) zK ?_ zS zS zS zS⟩;rw[hto];simp[BI,AG,B2]
  .refine s7 ?_;have hk' :k=s.sQ.length:=zO;subst hk';have e:(Ae s).take s.sQ.length=Ae s:=uM (by simp[Ae]);rw[e];refine Bd ?_;rw[e];simp[Ae]
theorem EV (s:An) (hs:A0 s):Ac pg 173 [.agg (Aj false s)] [] (λr _=>r=iN (At s.sQ)):=by
 have h1:=hs.1;refine zE (fn:=Tryz.f173) [.tmp 2] ?_;rw[AC];refine x6 ?_;refine zc ?_ ?_<;>intro h
 .refine Bd ?_;simp[At,h]
 .refine W.skip ?_;have hp:0<s.sQ.length:=List.length_pos_iff.2 h;have hlt:s.sQ.length-1<s.sQ.length:=zO;refine Dx ?_;intro K hK;simp -implicitDefEqProofs (disch:=omega) [hlt];refine⟨zO,?_⟩;refine zk ?_;refine zr ?_;rw[At,vV,uT hlt]
theorem YC (v:Bn) (id:Int):Ac pg 212 ([.agg (As v)]++[.rptr [iN id]]) [] (λr _=>r= .bool (decide (v.id=id))):=by
 refine zE (fn:=Tryz.f212) [.tmp 3] ?_;simp only[vF,vU];rw[Aq];refine AX ?_;exact DM
theorem HJ (s:An) (id:Int) (hs:A0 s):Ac pg 172 [.agg (Aj false s),iN id] [] (λr _=>r=iN (AN (λv=>decide (v.id=id)) s.sQ)):=by
 have h1:=hs.1;refine zE (fn:=Tryz.f172) [.tmp 4] ?_;rw[Aq];refine Cx ?_;refine AL (K6 s.sQ 212 [.rptr [iN id]] (λv=>decide (v.id=id)) (by omega) (λv _=>YC v id) (by simp)) ?_;exact zR
theorem Sq (b:DX) (hb:b.data.size<1000000000):Ac pg 128 [.agg (Dd b)] [] (λr _=>r=iN (C7 b)):=by
 refine zE (fn:=Tryz.f128) [.tmp 2] ?_;rw[AC];refine AX ?_;refine Bd ?_;unfold C7;congr 1;omega
theorem Sr (n:Int):Ac pg 178 [iN n] [] (λr _=>r= .bool (decide (1<=n/\n<=100))):=by
 refine zE (fn:=Tryz.f178) [.tmp 2] ?_;rw[AC];refine zs ?_;by_cases h1:1<=n
 .refine zg h1 ?_;exact zR
 .refine zg h1 ?_;exact zR
theorem Ss (s:An) (id:Int) (hs:A0 s) (hm:BJ (Ae s)) (By:id≠0):Ac pg 175 [.agg (Aj false s),iN id] [] (λr _=>r= .agg (A1 true (AT (Ae s) id).1)):=by
 have h1:=hs.1;refine zE (fn:=Tryz.f175) [.cell 4 34] ?_;rw[Aq];refine Cx ?_;refine th By ?_;refine jc (Mk s hs) (So (Ae s) id hs.objs hm) ?_;exact DM
theorem bD (s:An):Ac pg 175 [.agg (Aj false s),iN 0] [] (λr _=>r= .agg (A1 true Az)):=by
 refine zE (fn:=Tryz.f175) [.cell 4 34] ?_;rw[Aq];refine Cx ?_;refine y2 ?_;refine yj (Ui 0 (by omega)) ?_;exact⟨rfl,rfl,rfl⟩
def sP (x:Int×Int):List AV:=Al x
theorem Su (s:An) (hs:A0 s):Ac pg 94 [.agg (Aj false s)] [] (λr _=>r= .own 2 (AD s).length (Aa Al (AD s))):=by
 have h1:=hs.1;refine zE (fn:=Tryz.f94) [.tmp 2] ?_;rw[AC];refine AX ?_;refine xR ?_;refine sV (λk:Nat=> [(2,.tok 1 k 2 0 k),(6,GF false s.sQ),(7,iN s.sQ.length),(8,iN k)]) (λk=> [lv (Aj false s),.live k (Aa Al ((AD s).take k))]) (λk=>s.sQ.length-k) (λk=>k<=s.sQ.length) 0 ((Wk.nil (t:=2) (s:=2) ?_).trans (Wk.fr ?_)) zS ?_
 .simp
 .simp[AA]
 .intro k hk;refine zs ?_;refine zc ?_ ?_<;>intro h
  .refine W.skip ?_;have hlt:k<s.sQ.length:=zO;have hto:(AD s).take (k+1)=(AD s).take k++[(s.sQ[k].at_,C7 s.sQ[k].data)]:=by
    rw[uV];simp[AD,hlt]
   have hlo:k<=(AD s).length:=by simp[AD];omega
   have hB:=Sq s.sQ[k].data (hs.2.2 _ (uQ hlt));refine x9 ?_;intro K hK;simp -implicitDefEqProofs (disch:=omega) [hlt];refine zk ?_;refine Hw ?_;intro K hK;simp -implicitDefEqProofs (disch:=omega) [hlo];refine s6 hB (by simp) (by simp) ?_;refine AO hlo ?_;refine⟨zO,zO,?_⟩;refine xM ?_;refine⟨k+1,zO,zO,sU (k:=2) zK ?_ zS zS zS zS⟩;rw[hto];simp[BI,AG,Al]
  .refine s7 ?_;have hk' :k=s.sQ.length:=zO;subst hk';have e:(AD s).take s.sQ.length=AD s:=uM (by simp[AD]);rw[e];refine Bd ?_;rw[e];simp[AD]
theorem Ml (l:List Bn):DP l=false↔∀i (h:i<l.length),i=l.length-1->l[i].gone=false:=by
 rw[DP,vV];by_cases h:0<l.length
 .rw[uT zO];constructor
  .intro g i hi e;subst e;exact g
  .intro g;exact g _ zO rfl
 .rw[uR zO];simp;intro i hi;omega
theorem PJ (s:An) (hs:A0 s):Ac pg 121 [.agg (Aj false s)] [] (λr _=>r= .bool (decide (HG s))):=by
 have h1:=hs.1;refine zE (fn:=Tryz.f121) [.tmp 2] ?_;rw[AC];refine AX ?_;by_cases c1:s.keep<1
 .refine xS c1 ?_;intro g;have:=g.1;omega
 by_cases c2:s.keep<=8;rotate_left
 .refine xS (an c1 c2) ?_;intro g;have:=g.2.1;omega
 by_cases c3:s.sS<1
 .refine xS (an c1 (an c2 c3)) ?_;intro g;have:=g.2.2.1;omega
 by_cases c4:s.sS<=100;rotate_left
 .refine xS (an c1 (an c2 (an c3 c4))) ?_;intro g;have:=g.2.2.2.1;omega
 refine xL (an c1 (an c2 (an c3 c4))) ?_;refine zb ?_;refine sV (λk:Nat=> [(1,pt 0),(24,GF false s.sQ),(25,iN s.sQ.length),(26,iN k)]) (λk=> [lv (Aj false s)]) (λk=>s.sQ.length-k) (λk=>k<=s.sQ.length/\∀i (h:i<s.sQ.length),i<k->GX s.sQ[i]/\(i=s.sQ.length-1->s.sQ[i].gone=false)) 0 (Wk.fr zK) zS ?_;rintro k ⟨hk,ht⟩;refine zs ?_;refine zc ?_ ?_<;>intro h
 .refine W.skip ?_;have hlt:k<s.sQ.length:=zO;have bad:¬(GX s.sQ[k]/\(k=s.sQ.length-1->s.sQ[k].gone=false))->¬HG s:=λg w=>g ⟨w.2.2.2.2.1 _ (uQ hlt),λe=>(Ml _).1 w.2.2.2.2.2.1 k hlt e⟩;refine x9 ?_;intro K hK;simp -implicitDefEqProofs (disch:=omega) [hlt];refine zk ?_;have fail:¬(GX s.sQ[k]/\(k=s.sQ.length-1->s.sQ[k].gone=false))->¬HG s:=bad;generalize hv:s.sQ[k]=v at*;by_cases d1:v.parent<0
  .refine xS d1 ?_;exact bad λg=>by have:=g.1.1;omega
  by_cases d2:v.parent<v.id;rotate_left
  .refine xS (an d1 d2) ?_;exact bad λg=>d2 g.1.2.1
  cases d3:v.gone
  .cases d4:v.tag
   all_goals
    refine xL (an d1 (an d2 (an d3 d4))) ?_;refine⟨k+1,zO,⟨zO,λi hi hik=>?_⟩,sU (k:=1) zK zS zS zS zS zS⟩;by_cases e:i=k
    .subst e;rw[hv];exact⟨⟨zO,d2,by simp[d3]⟩,λ_=>d3⟩
    .exact ht i hi zO
  .cases d4:v.tag
   .by_cases d5:k=s.sQ.length-1
    .have d5' :(k:Int)=(s.sQ.length:Int)-1:=zO;refine xS (an d1 (an d2 (an d3 (an d4 d5')))) ?_;exact bad λg=>by have:=g.2 d5;simp[d3] at this
    .have d5' :¬(k:Int)=(s.sQ.length:Int)-1:=zO;refine xL (an d1 (an d2 (an d3 (an d4 d5')))) ?_;refine⟨k+1,zO,⟨zO,λi hi hik=>?_⟩,sU (k:=1) zK zS zS zS zS zS⟩;by_cases e:i=k
     .subst e;rw[hv];exact⟨⟨zO,d2,by simp[d4]⟩,λe=>absurd e d5⟩
     .exact ht i hi zO
   .refine xS (an d1 (an d2 (an d3 d4))) ?_;exact bad λg=>g.1.2.2 ⟨d4,d3⟩
 .refine s7 ?_;have hk' :k=s.sQ.length:=zO;refine Hm (Mk s hs) (Sk (Ae s) hs.objs) ?_;refine zr ?_;constructor
  .intro hm;exact⟨zO,c2,zO,c4,λv hv=>by
    obtain⟨i,hi,rfl⟩:=vq.1 hv;exact(ht i hi zO).1,(Ml _).2 λi hi e=>(ht i hi zO).2 e,hm⟩
  .intro w;exact w.2.2.2.2.2.2
def Ba (xs:List Bool):List AV:=xs.map AV.bool
section
variable (xs ys:List Bool) (M:List Ag) (k:Nat)
@[simp] theorem jg (i:Nat):(Ba xs)[i]?=(xs[i]?).map AV.bool:=by simp[Ba]
@[simp] theorem jh:(Ba xs).length=xs.length:=by simp[Ba]
@[simp] theorem ji:Ba []=[]:=rfl
@[simp] theorem gF:(Ba xs).take k=Ba (xs.take k):=by simp[Ba,List.map_take]
@[simp] theorem gG:(Ba xs).drop k=Ba (xs.drop k):=by simp[Ba,List.map_drop]
@[simp] theorem kr:E0 (Ba xs)=true:=by simp[Ba,E0,-LZ]
@[simp] theorem kt:D5 k (Ba xs)=true:=by induction xs<;>simp_all[Ba]
@[simp] theorem jj:C6 (Ba xs)=true:=by induction xs<;>simp_all[Ba]
@[simp] theorem jk:(Ba xs).map (CV M k)=Ba xs:=by cases k<;>simp[Ba]
theorem Gq (i:Nat) (b:Bool):(Ba xs).set i (.bool b)=Ba (xs.set i b):=by simp[Ba]
theorem ON (n:Nat) (b:Bool):Bv n [.bool b]=Ba (uP n b):=by
 unfold Bv Ba
 induction n with
 |zero=>rfl
 |succ n ih=>simp[vO]
end
def EW (l:List (Int×Int)) (i:Int):Bool:=l.any λx=>decide (x.1<=i/\i<x.1+x.2)
def B0 (l:List (Int×Int)) (n:Nat):List Bool:=(vK n).map λ(j:Nat)=>EW l (j:Int)
def C1 (l:List (Int×Int)) (n:Nat) (a i:Int):List Bool:=(vK n).map λ(j:Nat)=>EW l (j:Int) ||decide (a<=(j:Int)/\(j:Int)<i)
@[simp] theorem OO (l:List (Int×Int)) (n:Nat):(B0 l n).length=n:=by simp[B0]
@[simp] theorem fR (l:List (Int×Int)) (n:Nat):(B0 l n).take n=B0 l n:=uM zS
@[simp] theorem fS (l:List (Int×Int)) (n:Nat) (a i:Int):(C1 l n a i).length=n:=by simp[C1]
theorem NB {l:List (Int×Int)} {n i:Nat} {a:Int} (hi:i<n):(C1 l n a i)[i]'(by simpa using hi)=EW l i:=by simp[C1]
theorem Mm (l:List (Int×Int)) (n:Nat) (a:Int):C1 l n a a=B0 l n:=by
 unfold C1 B0;refine xf λj _=>?_;have:decide (a<=(j:Int)/\(j:Int)<a)=false:=zS;rw[this,Bool.or_false]
theorem J9 (l:List (Int×Int)) (n:Nat) (x:Int×Int):C1 l n x.1 (x.1+x.2)=B0 (l++[x]) n:=by
 unfold C1 B0;refine xf λj _=>?_;simp[EW]
theorem Ka (l:List (Int×Int)) (n i:Nat) (a:Int) (ha:a<=i) (hi:i<n):(C1 l n a i).set i true=C1 l n a ((i:Int)+1):=by
 refine List.ext_getElem (by simp[C1]) λj h1 h2=>?_;simp only[C1,wB,List.length_range] at h2;rw[List.getElem_set];by_cases e:i=j
 .subst e;rw[zP rfl];simp[C1];right;omega
 .rw[zM e];simp only[C1,List.getElem_map,List.getElem_range];congr 1;simp only[decide_eq_decide];omega
theorem K9 {l:List (Int×Int)} {x:Int×Int} (hl:∀y∈l,1<=y.2) (hx:1<=x.2):(l++[x]).Pairwise apart↔l.Pairwise apart/\∀i,x.1<=i->i<x.1+x.2->EW l i=false:=by
 rw[wg];simp only[List.pairwise_singleton,true_and,wA,forall_eq,EW,List.any_eq_false,decide_eq_true_eq,apart];constructor
 .rintro⟨h1,h2⟩;refine⟨h1,λi a b y hy c=>?_⟩;have:=h2 y hy;omega
 .rintro⟨h1,h2⟩;refine⟨h1,λy hy c=>?_⟩;have hy1:=hl y hy;by_cases e:y.1<=x.1
  .exact h2 x.1 zO zO y hy zO
  .exact h2 y.1 zO zO y hy zO
def Jd (l:List (Int×Int)) (n:Int):AV:=if Cl l n then .tup [.own 1 n.toNat (Ba (B0 l n.toNat)),.bool true] else .tup [.own 1 0 [],.bool false]
def La (l:List (Int×Int)) (n:Int):Prop:=(∀x∈l,0<=x.1/\1<=x.2/\x.1+x.2<=n)/\l.Pairwise apart
theorem JL {l:List (Int×Int)} {n:Int} {x:Int×Int}:La (l++[x]) n↔La l n/\(0<=x.1/\1<=x.2/\x.1+x.2<=n)/\∀i,x.1<=i->i<x.1+x.2->EW l i=false:=by
 unfold La;constructor
 .rintro⟨h1,h2⟩;have hx:=h1 x zS;have h3:=(K9 (λy hy=>(h1 y (by simp[hy])).2.1) hx.2.1).1 h2;exact⟨⟨λy hy=>h1 y (by simp[hy]),h3.1⟩,hx,h3.2⟩
 .rintro⟨⟨h1,h2⟩,hx,h3⟩;refine⟨λy hy=>?_,(K9 (λy hy=>(h1 y hy).2.1) hx.2.1).2 ⟨h2,h3⟩⟩;rcases vd.1 hy with h|h
  .exact h1 y h
  .simp at h;subst h;exact hx
theorem WL {l:List (Int×Int)} {n:Int} (k:Nat) (h:La l n):La (l.take k) n:=⟨λx hx=>h.1 x (wh hx),h.2.sublist (List.take_sublist _ _)⟩
theorem Up (l:List (Int×Int)) (n:Int) (hl:l.length<1000000000):Ac pg 127 [.ro l.length (Aa Al l),iN n] [] (λr _=>r=Jd l n):=by
 refine zE (fn:=Tryz.f127) [.tmp 4,.tmp 5] ?_;rw[Aq];refine x8 ?_;intro K hK;refine sW (Sr n) (by simp) (by simp) ?_;by_cases c1:1<=n/\n<=100;rotate_left
 .rw[zV c1];refine xX ?_;rw[Jd,zM (λg=>c1 ⟨g.1,g.2.1⟩)]
 rw[zT c1];by_cases c2:l.length<=13;rotate_left
 .refine x7 c2 ?_;rw[Jd,zM (λg=>c2 g.2.2.1)]
 refine x5 c2 ?_;refine z1 ?_;intro K hK;refine⟨zO,zO,by show n<=(9223372036854775807:Int);omega,?_⟩;refine zk ?_;have e0:Bv n.toNat [.bool false]=Ba (B0 (l.take 0) n.toNat):=by
  rw[ON];congr 1;exact List.ext_getElem (by simp[B0]) λj _ _=>by simp[B0,EW]
 rw[e0];refine xR ?_;refine sV (λk:Nat=> [(0,.ro l.length (Aa Al l)),(1,iN n),(6,.tok 0 0 1 0 n.toNat),(20,.ro l.length (Aa Al l)),(21,iN l.length),(22,iN k)]) (λk=> [lv (Ba (B0 (l.take k) n.toNat))]) (λk=>l.length-k) (λk=>k<=l.length/\La (l.take k) n) 0 (Wk.fr zK) ⟨zO,by simp[La]⟩ ?_;rintro k ⟨hk,hok⟩;refine zs ?_;refine zc ?_ ?_<;>intro h
 .refine W.skip ?_;have hlt:k<l.length:=zO;have hto:l.take (k+1)=l.take k++[l[k]]:=by rw[uV];simp[hlt]
  have bad:¬La (l.take k++[l[k]]) n->Jd l n= .tup [.own 1 0 [],.bool false]:=λg=>by
   rw[Jd,zM];intro w;rw[<-hto] at g;exact g (WL (k+1) ⟨w.2.2.2.1,w.2.2.2.2⟩)
  rw[JL] at bad;refine x9 ?_;intro K hK;simp -implicitDefEqProofs (disch:=omega) [hlt];refine zk ?_;generalize hv:l[k]=x at*;obtain⟨x1,x2⟩:=x;simp only at bad;by_cases d1:x2<1
  .refine xS d1 ?_;rw[bad zO]
  by_cases d2:x1<0
  .refine xS (an d1 d2) ?_;rw[bad zO]
  by_cases d3:n<=x1
  .refine xS (an d1 (an d2 d3)) ?_;rw[bad zO]
  by_cases d4:x2<=n-x1;rotate_left
  .refine xS (an d1 (an d2 (an d3 d4))) ?_;rw[bad zO]
  refine xL (an d1 (an d2 (an d3 d4))) ?_;obtain⟨b,rfl⟩:=uS (by omega:0<=x1);obtain⟨e,rfl⟩:=uS (by omega:0<=x2);rw[<-Mm _ _ (b:Int)];refine zb ?_;refine sV (λi:Nat=> [(0,.ro l.length (Aa Al l)),(1,iN n),(6,.tok 0 0 1 0 n.toNat),(8,pt 1),(9,iN i),(20,.ro l.length (Aa Al l)),(21,iN l.length),(22,iN k)]) (λi=> [lv (Ba (C1 (l.take k) n.toNat b i)),lv [iN b,iN e]]) (λi=>b+e-i) (λi=>b<=i/\i<=b+e/\∀j:Int,b<=j->j<i->EW (l.take k) j=false) b (Wk.fr zK) ⟨zO,zO,λj h1 h2=>zO⟩ ?_;rintro i ⟨hb,hi,hf⟩;refine zs ?_;refine zc ?_ ?_<;>intro h
  .refine W.skip ?_;have hin:i<n.toNat:=zO;refine zb ?_;have hget:(C1 (List.take k l) n.toNat (b:Int) (i:Int))[i]?=some (EW (l.take k) i):=by rw[uT (by simpa using hin),NB hin]
   cases ht:EW (l.take k) i
   .rw[ht] at hget;refine BS (an hin hget) ?_;intro K hK;refine⟨zO,?_⟩;refine yh ?_;refine BS (an hin Gq) ?_;intro K hK;refine⟨zO,?_⟩;refine xM ?_;refine⟨i+1,zO,⟨zO,zO,λj h1 h2=>?_⟩,?_⟩
    .by_cases e:j=i
     .subst e;exact ht
     .exact hf j h1 zO
    .rw[Ka _ _ _ _ zO hin];exact Wk.fr zK
   .rw[ht] at hget;refine BS (an hin hget) ?_;intro K hK;refine⟨zO,?_⟩;refine yi ?_;rw[bad (λg=>by have:=g.2.2 i zO zO;rw[ht] at this;cases this)]
  .refine s7 ?_;have hie:i=b+e:=zO;subst hie;refine zs ?_;refine⟨k+1,zO,⟨zO,?_⟩,?_⟩
   .rw[hto,JL];exact⟨hok,⟨zO,zO,zO⟩,λj h1 h2=>hf j h1 (by simpa using h2)⟩
   .rw[hto];have e2:=J9 (l.take k) n.toNat ((b:Int),(e:Int));simp only at e2;rw[e2];exact sU (k:=1) zK zS zS zS zS zS
 .refine s7 ?_;have hk' :k=l.length:=zO;subst hk';rw[uW] at hok;have e:Jd l n= .tup [.own 1 n.toNat (Ba (B0 l n.toNat)),.bool true]:=by rw[Jd,zP ⟨c1.1,c1.2,c2,hok.1,hok.2⟩]
  have e2:l.take l.length=l:=uW;rw[e2];refine Bd ?_;rw[e]
theorem eH (l:List (Int×Int)) (n:Int) (hl:l.length<1000000000):Ac pg 93 [.ro l.length (Aa Al l),iN n] [] (λr _=>r= .bool (decide (Cl l n))):=by
 have sp:=Up l n hl;refine zE (fn:=Tryz.f93) [.tmp 4] ?_;rw[Aq];refine x8 ?_;intro K hK;by_cases h:Cl l n
 .rw[Jd,zP h] at sp;refine xN sp ?_;refine Bd ?_;simp[h]
 .rw[Jd,zM h] at sp;refine xN sp ?_;refine Bd ?_;simp[h]
theorem LD (xs:List B3) (f:Nat) (caps:List AV) (p:B3->Bool) (hx:xs.length<1000000000000) (hf:∀x∈xs,Ac pg f ([.agg ((Af false) x)]++caps) [] λr _=>r= .bool (p x)) (hcv:∀M,caps.map (vw M)=caps) (hcc:∀M k,caps.map (CV M k)=caps):
 Ac pg 124 [.ro xs.length (Aa (Af false) xs),.fn f caps] [] (λr _=>r= .bool (xs.any p)):=by
 refine zE (fn:=Tryz.f124) [.tmp 4] ?_;rw[Aq];refine x8 ?_;intro K hK;refine sW (OJ xs f caps p hx hf hcv) (by simp[hcc]) zS ?_;refine xU ?_;rw[wX];simp[C9]
theorem WM (x:B3) (id:Int):Ac pg 293 ([.agg (Af false x)]++[.rptr [iN id]]) [] (λr _=>r= .bool (decide (x.pin=id))):=by
 refine zE (fn:=Tryz.f293) [.tmp 3] ?_;simp only[vF,vU];rw[Aq];refine AX ?_;exact DM
def pinned (s:An) (id:Int):Bool:=s.sR.any λx=>decide (x.pin=id)
theorem N1 (s:An) (id:Int) (hs:A0 s):Ac pg 270 [.agg (Aj false s),iN id] [] (λr _=>r= .bool (pinned s id)):=by
 have h1:=hs.2.1;refine zE (fn:=Tryz.f270) [.tmp 4] ?_;rw[Aq];refine Cx ?_;refine yj (LD s.sR 293 [.rptr [iN id]] (λx=>decide (x.pin=id)) (by omega) (λx _=>WM x id) (by simp) (by simp)) ?_;rfl
def Bf (l:List Bn):List Int:=(l.filter λv=> !v.gone).map Bn.id
theorem OP {l:List Bn} {k:Nat} (hk:k<l.length):Bf (l.take (k+1))=Bf (l.take k)++if l[k].gone=true then [] else [l[k].id]:=by
 rw[uV,Bf,wV,wo];simp only[uT hk,xH];cases h:l[k].gone<;>simp[Bf,h]
theorem JM (l:List Bn):(Bf l).length<=l.length:=by
 simp only[Bf,wB];exact vY _ _
theorem WO (s:An) (hs:A0 s):Ac pg 219 [.agg (Aj false s)] [] (λr _=>r= .own 1 (Bf s.sQ).length (Ab (Bf s.sQ))):=by
 have h1:=hs.1;refine zE (fn:=Tryz.f219) [.tmp 2] ?_;rw[AC];refine AX ?_;refine xR ?_;refine sV (λs2:Nat×List Int=> [(2,.tok 1 s2.2.length 1 0 s2.2.length),(6,GF false s.sQ),(7,iN s.sQ.length),(8,iN s2.1)]) (λs2=> [lv (Aj false s),.live s2.2.length (Ab s2.2)]) (λs2=>s.sQ.length-s2.1) (λs2=>s2.1<=s.sQ.length/\s2.2=Bf (s.sQ.take s2.1)) (0,[]) ((Wk.nil (t:=2) (s:=1) ?_).trans (Wk.fr ?_)) (by simp[Bf]) ?_
 .simp
 .simp[AA]
 .rintro⟨k,acc⟩ ⟨hk,hacc⟩;simp only at hk hacc;have hal:acc.length<=k:=by rw[hacc];exact Nat.le_trans (JM _) Ao
  refine zs ?_;refine zc ?_ ?_<;>intro h
  .refine W.skip ?_;have hlt:k<s.sQ.length:=zO;have hst:=OP hlt;refine x9 ?_;intro K hK;simp -implicitDefEqProofs (disch:=omega) [hlt];refine zk ?_;cases hg:s.sQ[k].gone
   .rw[hg] at hst;refine xP hg ?_;refine z1 ?_;intro K hK;refine⟨zO,zO,?_⟩;refine xM ?_;refine⟨(k+1,acc++[s.sQ[k].id]),Ao,⟨Ao,?_⟩,sU (k:=2) zK ?_ zS zS zS zS⟩
    .simp only;rw[hst,hacc];simp
    .simp[B5,Ab]
   .rw[hg] at hst;refine xL hg ?_;refine⟨(k+1,acc),Ao,⟨Ao,?_⟩,sU (k:=2) zK zS zS zS zS zS⟩;simp only;rw[hst,hacc];simp
  .refine s7 ?_;have hk' :k=s.sQ.length:=zO;subst hk';rw[uW] at hacc;subst hacc;exact DM
def OQ (s:An):List Int:=(Bf s.sQ).drop (max 0 (((Bf s.sQ).length:Int)-s.keep)).toNat
def Hp (s:An) (v:Bn):Bool:=v.tag|| (OQ s).contains v.id||pinned s v.id
def EN (s:An) (want:Bool) (l:List Bn):List Int:=(l.filter λv=>Hp s v==want).map Bn.id
def DG (s:An) (want:Bool):List Int:=EN s want s.sQ
theorem Je {s:An} {want:Bool} {l:List Bn} {k:Nat} (hk:k<l.length):EN s want (l.take (k+1))=EN s want (l.take k)++if (Hp s l[k]==want)=true then [l[k].id] else []:=by
 rw[uV,EN,wV,wo];simp only[uT hk,xH];cases h:Hp s l[k]==want<;>simp[EN,h]
theorem GR (s:An) (want:Bool) (l:List Bn):(EN s want l).length<=l.length:=by
 simp only[EN,wB];exact vY _ _
theorem YD (s:An) (want:Bool) (hs:A0 s) (hk0:0<=s.keep/\s.keep<=1000000):Ac pg 268 [.agg (Aj false s),.bool want] [] (λr _=>r= .own 1 (DG s want).length (Ab (DG s want))):=by
 have h1:=hs.1;have hsl:=JM s.sQ;obtain⟨m,hm⟩:∃m:Nat,max 0 (((Bf s.sQ).length:Int)-s.keep)=(m:Int):=⟨_,(Int.toNat_of_nonneg zO).symm⟩;have hml:m<=(Bf s.sQ).length:=zO;have hla:OQ s=(Bf s.sQ).drop m:=by rw[OQ,hm];rfl
 refine zE (fn:=Tryz.f268) [.tmp 4] ?_;rw[Aq];refine AX ?_;refine AL (WO s hs) ?_;generalize Bf s.sQ=seen at*;by_cases hlk:s.keep<(seen.length:Int)
 .have em:(seen.length:Int)-s.keep=m:=zO;have hm0:0<m:=zO;refine zg (an em (an hlk hm0)) ?_;refine xR ?_;refine sV (λs2:Nat×List Int=> [(1,.bool want),(2,pt 0),(4,.tok 2 s2.2.length 1 0 s2.2.length),(5,.tok 1 0 1 m (seen.length-m)),(19,GF false s.sQ),(20,iN s.sQ.length),(21,iN s2.1)]) (λs2=> [lv (Aj false s),lv (Ab seen),.live s2.2.length (Ab s2.2)]) (λs2=>s.sQ.length-s2.1) (λs2=>s2.1<=s.sQ.length/\s2.2=EN s want (s.sQ.take s2.1)) (0,[]) ((Wk.nil (t:=4) (s:=1) zS).trans (Wk.fr (by simp[AA,em]))) (by simp[EN]) ?_;rintro⟨k,acc⟩ ⟨hk,hacc⟩;simp only at hk hacc;have hal:acc.length<=k:=by rw[hacc];exact Nat.le_trans (GR _ _ _) Ao
  refine zs ?_;refine zc ?_ ?_<;>intro h
  .refine W.skip ?_;have hlt:k<s.sQ.length:=zO;have hst:=Je (s:=s) (want:=want) hlt;refine x9 ?_;intro K hK;simp -implicitDefEqProofs (disch:=omega) [hlt];refine zk ?_;generalize hv:s.sQ[k]=v at*;have hkb:Hp s v=(v.tag|| (seen.drop m).contains v.id||pinned s v.id):=by rw[Hp,hla]
   cases ht:v.tag
   .refine BS ht ?_;intro K hK;refine sW (FQ (seen.drop m) v.id Ao) (by simp(disch:=omega);rw[uM zS]) zS ?_;cases hc:(seen.drop m).contains v.id
    .refine zx ?_;refine xN (N1 s v.id hs) ?_;refine zc ?_ ?_<;>intro h
     .refine z1 ?_;intro K hK;refine⟨zO,zO,?_⟩;refine xM ?_;refine⟨(k+1,acc++[v.id]),Ao,⟨Ao,?_⟩,sU (k:=3) zK ?_ zS zS zS zS⟩
      .simp only;rw[hst,hacc,hkb,ht,hc];simp[h]
      .simp[B5,Ab]
     .refine y2 ?_;refine⟨(k+1,acc),Ao,⟨Ao,?_⟩,sU (k:=3) zK zS zS zS zS zS⟩;simp only;rw[hst,hacc,hkb,ht,hc];simp[h]
    .refine Am ?_;refine zc ?_ ?_<;>intro h
     .refine z1 ?_;intro K hK;refine⟨zO,zO,?_⟩;refine xM ?_;refine⟨(k+1,acc++[v.id]),Ao,⟨Ao,?_⟩,sU (k:=3) zK ?_ zS zS zS zS⟩
      .simp only;rw[hst,hacc,hkb,ht,hc];simp[h]
      .simp[B5,Ab]
     .refine y2 ?_;refine⟨(k+1,acc),Ao,⟨Ao,?_⟩,sU (k:=3) zK zS zS zS zS zS⟩;simp only;rw[hst,hacc,hkb,ht,hc];simp[h]
   .refine zg ht ?_;refine zc ?_ ?_<;>intro h
    .refine z1 ?_;intro K hK;refine⟨zO,zO,?_⟩;refine xM ?_;refine⟨(k+1,acc++[v.id]),Ao,⟨Ao,?_⟩,sU (k:=3) zK ?_ zS zS zS zS⟩
     .simp only;rw[hst,hacc,hkb,ht];simp[h]
     .simp[B5,Ab]
    .refine y2 ?_;refine⟨(k+1,acc),Ao,⟨Ao,?_⟩,sU (k:=3) zK zS zS zS zS zS⟩;simp only;rw[hst,hacc,hkb,ht];simp[h]
  .refine s7 ?_;have hk' :k=s.sQ.length:=zO;subst hk';rw[uW] at hacc;have e:DG s want=acc:=hacc.symm;rw[e];exact DM
 .have em:m=0:=zO;refine zg hlk ?_;refine xR ?_;refine sV (λs2:Nat×List Int=> [(1,.bool want),(2,pt 0),(4,.tok 2 s2.2.length 1 0 s2.2.length),(5,.tok 1 0 1 m (seen.length-m)),(19,GF false s.sQ),(20,iN s.sQ.length),(21,iN s2.1)]) (λs2=> [lv (Aj false s),lv (Ab seen),.live s2.2.length (Ab s2.2)]) (λs2=>s.sQ.length-s2.1) (λs2=>s2.1<=s.sQ.length/\s2.2=EN s want (s.sQ.take s2.1)) (0,[]) ((Wk.nil (t:=4) (s:=1) zS).trans (Wk.fr (by simp[AA,em]))) (by simp[EN]) ?_;rintro⟨k,acc⟩ ⟨hk,hacc⟩;simp only at hk hacc;have hal:acc.length<=k:=by rw[hacc];exact Nat.le_trans (GR _ _ _) Ao
  refine zs ?_;refine zc ?_ ?_<;>intro h
  .refine W.skip ?_;have hlt:k<s.sQ.length:=zO;have hst:=Je (s:=s) (want:=want) hlt;refine x9 ?_;intro K hK;simp -implicitDefEqProofs (disch:=omega) [hlt];refine zk ?_;generalize hv:s.sQ[k]=v at*;have hkb:Hp s v=(v.tag|| (seen.drop m).contains v.id||pinned s v.id):=by rw[Hp,hla]
   cases ht:v.tag
   .refine BS ht ?_;intro K hK;refine sW (FQ (seen.drop m) v.id Ao) (by simp(disch:=omega);rw[uM zS]) zS ?_;cases hc:(seen.drop m).contains v.id
    .refine zx ?_;refine xN (N1 s v.id hs) ?_;refine zc ?_ ?_<;>intro h
     .refine z1 ?_;intro K hK;refine⟨zO,zO,?_⟩;refine xM ?_;refine⟨(k+1,acc++[v.id]),Ao,⟨Ao,?_⟩,sU (k:=3) zK ?_ zS zS zS zS⟩
      .simp only;rw[hst,hacc,hkb,ht,hc];simp[h]
      .simp[B5,Ab]
     .refine y2 ?_;refine⟨(k+1,acc),Ao,⟨Ao,?_⟩,sU (k:=3) zK zS zS zS zS zS⟩;simp only;rw[hst,hacc,hkb,ht,hc];simp[h]
    .refine Am ?_;refine zc ?_ ?_<;>intro h
     .refine z1 ?_;intro K hK;refine⟨zO,zO,?_⟩;refine xM ?_;refine⟨(k+1,acc++[v.id]),Ao,⟨Ao,?_⟩,sU (k:=3) zK ?_ zS zS zS zS⟩
      .simp only;rw[hst,hacc,hkb,ht,hc];simp[h]
      .simp[B5,Ab]
     .refine y2 ?_;refine⟨(k+1,acc),Ao,⟨Ao,?_⟩,sU (k:=3) zK zS zS zS zS zS⟩;simp only;rw[hst,hacc,hkb,ht,hc];simp[h]
   .refine zg ht ?_;refine zc ?_ ?_<;>intro h
    .refine z1 ?_;intro K hK;refine⟨zO,zO,?_⟩;refine xM ?_;refine⟨(k+1,acc++[v.id]),Ao,⟨Ao,?_⟩,sU (k:=3) zK ?_ zS zS zS zS⟩
     .simp only;rw[hst,hacc,hkb,ht];simp[h]
     .simp[B5,Ab]
    .refine y2 ?_;refine⟨(k+1,acc),Ao,⟨Ao,?_⟩,sU (k:=3) zK zS zS zS zS zS⟩;simp only;rw[hst,hacc,hkb,ht];simp[h]
  .refine s7 ?_;have hk' :k=s.sQ.length:=zO;subst hk';rw[uW] at hacc;have e:DG s want=acc:=hacc.symm;rw[e];exact DM
theorem FS (n m:Int):Ac pg 47 [iN n,iN m] [] (λr _=>r= .bool (decide (0<=n/\n<=m))):=by
 refine zE (fn:=Tryz.f47) [.tmp 4] ?_;rw[Aq];refine zs ?_;by_cases h1:0<=n
 .refine zg h1 ?_;exact zR
 .refine zg h1 ?_;exact zR
theorem Dn (n a b:Int):Ac pg 41 [iN n,iN a,iN b] [] (λr _=>r= .bool (decide (a<=n/\n<=b))):=by
 refine zE (fn:=Tryz.f41) [.tmp 6] ?_;rw[A6];refine zs ?_;by_cases h1:a<=n
 .refine Dx ?_;intro K hK;simp -implicitDefEqProofs (disch:=omega) [h1];refine zk ?_;refine tq ?_;simp only[B6,C0,CM];refine CA (d:=0) ?_;simp -implicitDefEqProofs (disch:=omega)
  try simp[h1]
 .refine Dx ?_;intro K hK;simp -implicitDefEqProofs (disch:=omega) [h1];refine zk ?_;refine tq ?_;simp only[B6,C0,CM];refine CA (d:=0) ?_;simp -implicitDefEqProofs (disch:=omega)
  try simp[h1]
theorem Lb (xs:List Int) (x:Int) (hx:xs.length<4611686018427387904):Ac pg 71 [.ro xs.length (Ab xs),iN x] [] (λr _=>r=iN (AN (λy=>decide (y=x)) xs)):=by
 refine zE (fn:=Tryz.f71) [.tmp 4] ?_;rw[Aq];refine xV ?_;refine sV (λk:Nat=> [(0,.ro xs.length (Ab xs)),(1,iN x),(5,iN k)]) (λ_=> []) (λk=>xs.length-k) (λk=>k<=xs.length/\∀i (h:i<xs.length),i<k->xs[i]≠x) 0 (Wk.fr ?_) zS ?_
 .simp[AA]
 .rintro k ⟨hk,ht⟩;refine zs ?_;refine zc ?_ ?_<;>intro h
  .refine y3 ?_;refine zc ?_ ?_<;>intro h
   .refine Bd ?_;exact(DY zO (by simp[h]) λi hi hik=>by simpa using ht i hi hik).symm
   .refine y2 ?_;refine⟨k+1,zO,⟨zO,?_⟩,Wk.fr zK⟩;intro i hi hik;by_cases e:i=k
    .subst e;exact λe=>h e
    .exact ht i hi zO
  .refine AJ ?_;exact(Fa λi hi=>by simpa using ht i hi zO).symm
theorem Ij (a b:Gr) (ha:G5 a):Ac pg 24 [.agg (A1 false a),.agg (A1 false b)] [] (λr _=>r= .bool (decide (a=b))):=by
 have e0:(a=b)↔a.n=b.n/\a.out=b.out:=Gr.ext_iff;have h1:=ha.1;refine zE (fn:=Tryz.f24) [.tmp 4] ?_;rw[Aq];refine Cx ?_;by_cases h1:a.n=b.n
 .refine GL h1 (Mb a.out b.out (by omega) (λr hr=>by have:=ha.2 r hr;omega)) ?_;refine zr ?_;simp[e0,h1]
 .refine xQ h1 ?_;simp[e0,h1]
def OR (j:B7):Prop:=j.list.length<1000000000/\j.out.length<1000000000
theorem HK (a b:B7) (ha:OR a):Ac pg 89 [.agg (BY false a),.agg (BY false b)] [] (λr _=>r= .bool (decide (a=b))):=by
 have e0:(a=b)↔a.kind=b.kind/\a.a=b.a/\a.at_=b.at_/\a.move=b.move/\a.list=b.list/\a.out=b.out:=B7.ext_iff;have hl1:=ha.1;have hl2:=ha.2;refine zE (fn:=Tryz.f89) [.tmp 4] ?_;rw[Aq];refine Cx ?_;by_cases h1:a.kind=b.kind
 .by_cases h2:a.a=b.a
  .by_cases h3:a.at_=b.at_
   .by_cases h4:a.move=b.move
    .refine BS (an h1 (an h2 (an h3 h4))) ?_;intro K hK;refine sW (EM a.list b.list (by omega)) (by simp) (by simp) ?_;by_cases h5:a.list=b.list
     .rw[zT h5];refine zx ?_;refine xN (EM a.out b.out (by omega)) ?_;refine zr ?_;simp[e0,h1,h2,h3,h4,h5]
     .rw[zV h5];refine xU ?_;simp[e0,h5]
    .refine xQ (an h1 (an h2 (an h3 h4))) ?_;simp[e0,h4]
   .refine xQ (an h1 (an h2 h3)) ?_;simp[e0,h3]
  .refine xQ (an h1 h2) ?_;simp[e0,h2]
 .refine xQ h1 ?_;simp[e0,h1]
def FT (s:B3):Prop:=G5 s.sT/\OR s.job
theorem NC (a b:B3) (ha:FT a):Ac pg 88 [.agg (Af false a),.agg (Af false b)] [] (λr _=>r= .bool (decide (a=b))):=by
 have e0:(a=b)↔a.opn=b.opn/\a.pin=b.pin/\a.on=b.on/\a.frm=b.frm/\a.sT=b.sT/\a.job=b.job:=B3.ext_iff;refine zE (fn:=Tryz.f88) [.tmp 4] ?_;rw[Aq];refine Cx ?_;by_cases h1:a.opn=b.opn
 .by_cases h2:a.pin=b.pin
  .by_cases h3:a.on=b.on
   .by_cases h4:a.frm=b.frm
    .refine BS (an h1 (an h2 (an h3 h4))) ?_;intro K hK;refine sW (Ij a.sT b.sT ha.1) (by simp) (by simp) ?_;by_cases h5:a.sT=b.sT
     .rw[zT h5];refine zx ?_;refine xN (HK a.job b.job ha.2) ?_;refine zr ?_;simp[e0,h1,h2,h3,h4,h5]
     .rw[zV h5];refine xU ?_;simp[e0,h5]
    .refine xQ (an h1 (an h2 (an h3 h4))) ?_;simp[e0,h4]
   .refine xQ (an h1 (an h2 h3)) ?_;simp[e0,h3]
  .refine xQ (an h1 h2) ?_;simp[e0,h2]
 .refine xQ h1 ?_;simp[e0,h1]
theorem JN (xs ys:List Bn) (hx:xs.length<1000000000000):Ac pg 52 [.ro xs.length (Aa As xs),.ro ys.length (Aa As ys)] [] (λr _=>r= .bool (decide (xs=ys))):=by
 refine zE (fn:=Tryz.f52) [.tmp 4] ?_;rw[Aq];refine y2 ?_;refine zc ?_ ?_<;>intro h
 .refine Bd ?_;intro e;exact h (by rw[e])
 .refine W.skip ?_;have hl:xs.length=ys.length:=zO;refine xR ?_;refine sV (λk:Nat=> [(0,.ro xs.length (Aa As xs)),(1,.ro ys.length (Aa As ys)),(5,iN k)]) (λ_=> []) (λk=>xs.length-k) (λk=>k<=xs.length/\xs.take k=ys.take k) 0 (Wk.fr ?_) zS ?_
  .simp[AA]
  .rintro k ⟨hk,ht⟩;refine zs ?_;refine zc ?_ ?_<;>intro h
   .refine W.skip ?_;have hlt:k<xs.length:=zO;have hlt' :k<ys.length:=zO;refine zb ?_;refine CN ?_;intro K hK;simp[hlt,hlt',As];refine zk ?_;refine zc ?_ ?_<;>intro h
    .refine Bd ?_;intro e;subst e;simp at h
    .refine W.skip ?_;have he:xs[k]=ys[k]:=Bn.ext h.1 h.2.1 h.2.2.1 (DX.ext h.2.2.2.1 h.2.2.2.2.1) h.2.2.2.2.2.1 h.2.2.2.2.2.2.1 h.2.2.2.2.2.2.2;refine zs ?_;refine⟨k+1,zO,⟨zO,?_⟩,Wk.fr ?_⟩
     .rw[uV,uV,ht];simp[hlt,hlt',he]
     .simp[AA]
   .refine s7 ?_;have hk' :k=xs.length:=zO;subst hk';refine Bd ?_;rw[uW,hl,uW] at ht;simp[ht]
theorem Sv (xs ys:List B3) (hx:xs.length<1000000000000) (hr:∀r∈xs,FT r):Ac pg 53 [.ro xs.length (Aa (Af false) xs),.ro ys.length (Aa (Af false) ys)] [] (λr _=>r= .bool (decide (xs=ys))):=by
 refine zE (fn:=Tryz.f53) [.tmp 4] ?_;rw[Aq];refine y2 ?_;refine zc ?_ ?_<;>intro h
 .refine Bd ?_;intro e;exact h (by rw[e])
 .refine W.skip ?_;have hl:xs.length=ys.length:=zO;refine xR ?_;refine sV (λk:Nat=> [(0,.ro xs.length (Aa (Af false) xs)),(1,.ro ys.length (Aa (Af false) ys)),(5,iN k)]) (λ_=> []) (λk=>xs.length-k) (λk=>k<=xs.length/\xs.take k=ys.take k) 0 (Wk.fr ?_) zS ?_
  .simp[AA]
  .rintro k ⟨hk,ht⟩;refine zs ?_;refine zc ?_ ?_<;>intro h
   .refine W.skip ?_;have hlt:k<xs.length:=zO;have hlt' :k<ys.length:=zO;have sp:=NC xs[k] ys[k] (hr _ (uQ hlt));refine zb ?_;refine Dy (an hlt hlt') ?_;intro K hK;refine s6 sp (by simp) (by simp) ?_;by_cases he:xs[k]=ys[k]
    .rw[zT he];refine yu ?_;refine⟨k+1,zO,⟨zO,?_⟩,Wk.fr ?_⟩
     .rw[uV,uV,ht];simp[hlt,hlt',he]
     .simp[AA]
    .rw[zV he];refine xX ?_;intro e;subst e;simp at he
   .refine s7 ?_;have hk' :k=xs.length:=zO;subst hk';refine Bd ?_;rw[uW,hl,uW] at ht;simp[ht]
theorem Qu (a b:An) (ha:a.sQ.length<1000000000000/\a.sR.length<1000000000000/\∀r∈a.sR,FT r):Ac pg 19 [.agg (Aj false a),.agg (Aj false b)] [] (λr _=>r= .bool (decide (a=b))):=by
 have e0:(a=b)↔a.keep=b.keep/\a.sS=b.sS/\a.sQ=b.sQ/\a.sR=b.sR:=An.ext_iff;refine zE (fn:=Tryz.f19) [.tmp 4] ?_;rw[Aq];refine Cx ?_;by_cases h1:a.keep=b.keep
 .by_cases h2:a.sS=b.sS
  .refine BS (an h1 h2) ?_;intro K hK;refine sW (JN a.sQ b.sQ ha.1) (by simp) (by simp) ?_;by_cases h3:a.sQ=b.sQ
   .rw[zT h3];refine zx ?_;refine xN (Sv a.sR b.sR ha.2.1 ha.2.2) ?_;refine zr ?_;simp[e0,h1,h2,h3]
   .rw[zV h3];refine xU ?_;simp[e0,h3]
  .refine xQ (an h1 h2) ?_;simp[e0,h2]
 .refine xQ h1 ?_;simp[e0,h1]
theorem Kt (xs:List Bn) (hx:xs.length<1000000000):Ac pg 66 [.ro xs.length (Aa As xs)] [] (λr _=>r= .own 8 xs.length (Aa As xs)):=by
 refine zE (fn:=Tryz.f66) [.tmp 2] ?_;rw[AC];refine xZ ?_;refine sV (λk:Nat=> [(0,.ro xs.length (Aa As xs)),(3,.tok 0 k 8 0 k),(4,iN k)]) (λk=> [.live k (Aa As (xs.take k))]) (λk=>xs.length-k) (λk=>k<=xs.length) 0 ((Wk.nil (t:=3) (s:=8) ?_).trans (Wk.fr ?_)) zS ?_
 .simp
 .simp[AA]
 .intro k hk;refine zs ?_;refine zc ?_ ?_<;>intro h
  .refine W.skip ?_;have hlt:k<xs.length:=zO;refine x9 ?_;intro K hK;simp -implicitDefEqProofs (disch:=omega) [hlt];refine⟨zO,zO,?_⟩;refine xM ?_;refine⟨k+1,zO,zO,sU (k:=1) zK ?_ zS zS zS zS⟩;have hto:xs.take (k+1)=xs.take k++[xs[k]]:=by rw[uV];simp[hlt]
   rw[hto,BI];simp[AG]
  .refine s7 ?_;have hk' :k=xs.length:=zO;subst hk';exact DM
theorem Gs (j:B7) (hj:OR j):Ac pg 139 [.agg (BY false j)] [] (λr _=>r= .agg (BY true j)):=by
 have h1:=hj.1;have h2:=hj.2;refine zE (fn:=Tryz.f139) [.cell 2 38] ?_;rw[AC];refine Cx ?_;refine AX ?_;refine AL (Ee j.list (by omega)) ?_;refine AL (Ee j.out (by omega)) ?_;exact DM
end Go.Abs
