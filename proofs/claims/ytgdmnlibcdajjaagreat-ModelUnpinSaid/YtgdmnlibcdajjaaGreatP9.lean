/- A graph laid: by itself, by another one. -/
import Derived.Test.YtgdmnlibcdajjaaGreatP8
import Derived.Test.YtgdmnlibcdajjaaGreatRows
import Derived.JoinedOf
open Bool renaming and_eq_true -> uU, eq_false_iff -> xl
open Classical renaming not_not -> wG
open Int renaming eq_ofNat_of_zero_le -> uS, toNat_natCast -> vE, le_refl -> wM
open List renaming take_of_length_le -> uM, getElem?_set_ne -> uN, getElem?_set_self -> uO, replicate -> uP, getElem_mem -> uQ, getElem?_eq_getElem -> uT, take_add_one -> uV, take_length -> uW, drop_eq_getElem_cons -> uX, append_assoc -> uZ, length_append -> u0, all_eq_true -> u1, mem_append -> vd, getD_eq_getElem?_getD -> vf, getElem?_append_right -> vj, mem_iff_getElem -> vq, set_append_right -> vz, length_cons -> vA, pairwise_iff_getElem -> vB, cons_append -> vF, take_append_drop -> vJ, mem_cons -> vL, append_nil -> vM, findIdx?_eq_some_iff_getElem -> vN, replicate_succ -> vO, pairwise_cons -> vP, set_cons_zero -> vQ, length_set -> vS, nil_append -> vU, getLast?_eq_getElem? -> vV, mem_or_eq_of_mem_set -> vX, getElem_set_self -> vZ, getElem?_map -> wa, mem_of_mem_take -> wh, map_set -> wi, map_cons -> wj, ext_getElem? -> wk, getElem?_set -> wl, set_cons_succ -> wu, length_take -> wy, filter_eq_self -> wD, set_set -> wF, mem_of_mem_drop -> wH, replicate_succ' -> wJ, find?_eq_none -> wN, length_replicate -> wQ, filter_append -> wV, findIdx?_cons -> w9, set_eq_take_append_cons_drop -> xr, contains_iff_mem -> xx
open Nat renaming lt_or_ge -> uY, le_refl -> vg, sub_self -> wp, add_assoc -> wx, le_of_ble_eq_true -> wC, add_mul -> wK, min_eq_left -> wO, add_zero -> xg
open Option renaming map_some -> vI
set_option maxHeartbeats 8000000
set_option linter.unusedVariables false
set_option linter.unusedSimpArgs false
set_option maxRecDepth 100000
namespace Go.Abs
open Go.Proofs
theorem S9:[AV.own 1 0 [],AV.int .i64 0]=C4 []:=by simp[C4,pk,Fn]
theorem cx (g:Gr) (hg:AP g):Ac pg 256 [.agg (A1 false g)] [] (λr _=>∃ats:List Int,r= .tup [.optr (C4 (BG g)),.own 1 ats.length (Ab ats)]):=by
 obtain⟨n,hn⟩:=uS hg.1;have hn16:n<=16:=by have:=hg.2.1;omega
 have hout:g.out.length=n:=by have:=hg.2.2.1;omega
 obtain⟨c,hc⟩:∃c:Nat,c=n+1:=zX;have hg0:=KA (n:=c) zO;have en:(n:Int)+1=(c:Int):=zO;have sp0:=Gy [] c zS zO zO;have hfb:BG g=AM c++CX A9 0 g.out:=by unfold BG;rw[hn,vE,hc]
 refine zE (fn:=Tryz.f256) [.tmp 2,.tmp 3] ?_;rw[AC];refine AX ?_;rw[hn];refine z1 ?_;intro K hK;rw[S9];refine zk ?_;refine BS en ?_;intro K hK;refine sZ [1] sp0 zS zS zS zS ?_;rintro r M ⟨rfl,rfl⟩ _;refine Am ?_;refine xV ?_;refine sV (λz:Nat×List Bool×List Int=> [(4,pt 1),(5,.tok 2 z.1 1 0 z.1),(16,.ro n (Ak false g.out)),(17,iN n),(18,iN z.1)]) (λz=> [lv [iN n,.ro g.out.length (Ak false g.out)],lv (C4 z.2.1),.live z.1 (Ab z.2.2)]) (λz=>n-z.1) (λz=>z.1<=n/\z.2.1=AM c++CX A9 0 (g.out.take z.1)/\z.2.1.length<=9+166*z.1/\z.2.2.length=z.1) (0,AM c,[]) ((Wk.nil (t:=5) (s:=1) zS).trans (Wk.fr (by simp[AA,hout]))) ⟨zS,by simp[CX],Ao,rfl⟩ ?_;rintro⟨i,B,ats⟩ ⟨hi,hB,hBl,hal⟩;simp only at hi hB hBl hal |-;by_cases c1:i<n;rotate_left
 .have hi' :i=n:=zO;subst hi';rw[uM zO] at hB;rw[<-hfb] at hB;subst hB;refine x3 c1 ?_;refine⟨ats,?_⟩;rw[hal,uM zO];simp
 have hlt:i<g.out.length:=zO;have hml:=(hg.2.2.2.1 _ (uQ hlt)).1;have hto:=IN A9 hlt;have hrl:=Hr (v:=(i:Int)) ⟨zO,zO⟩ hml;refine xL c1 ?_;refine zg (an hlt c1) ?_;refine z1 ?_;intro K hK;refine sZ [1] (Xx B zO) zS zS zS zS ?_;rintro r M ⟨rfl,rfl⟩ _;refine zx ?_;refine⟨zO,zO,?_⟩;refine zk ?_;refine z0 ?_;intro K hK;refine sZ [1] (UI B i g.out[i] zO ⟨zO,zO⟩ hml) zS zS zS zS ?_;rintro r M ⟨rfl,rfl⟩ _;refine ye ?_;refine⟨(i+1,B++A9 i g.out[i],ats++[(B.length:Int)]),by simp only;omega,⟨by simp only;omega,?_,by simp;omega,by simp;exact hal⟩,sU (k:=3) (by simp[AA]) (by simp[B5,Ab]) (by simp) (by simp) (by simp) (by simp)⟩;simp only[hto];rw[hB];simp
theorem Ta (g:Gr) (hg:AP g):Ac pg 220 [.agg (A1 false g)] [] (λr _=>r= .agg (Dd (Eb (BG g)))):=by
 have hl:=Ix hg;refine zE (fn:=Tryz.f220) [.cell 2 59] ?_;rw[AC];refine Cx ?_;refine z0 ?_;intro K hK;refine tr (cx g hg) zS ?_;rintro r ⟨ats,rfl⟩;refine⟨zS,?_⟩;refine Am ?_;refine z1 ?_;intro K hK;refine sZ [2] (QW (BG g) hl) zS zS zS zS ?_;rintro r M ⟨rfl,rfl⟩ _;refine Am ?_;exact DM
theorem UJ (a g:Gr) (ha:AP a) (hg:AP g):Ac pg 221 [.agg (A1 false a),.agg (A1 false g)] [] (λr _=>r= .agg (Dd (Eb (BH a g)))):=by
 obtain⟨n,hn⟩:=uS hg.1;have hn16:n<=16:=by have:=hg.2.1;omega
 have hout:g.out.length=n:=by have:=hg.2.2.1;omega
 obtain⟨c,hc⟩:∃c:Nat,c=n+1:=zX;have hg0:=KA (n:=c) zO;have en:(n:Int)+1=(c:Int):=zO;have sp0:=Gy [] c zS zO zO;have hfb:BH a g=AM c++CX (λv l=>Do v (AF a v) l) 0 g.out:=by unfold BH;rw[hn,vE,hc]
 refine zE (fn:=Tryz.f221) [.cell 4 59] ?_;rw[Aq];refine Ig ?_;rw[hn];refine z1 ?_;intro K hK;rw[S9];refine zk ?_;refine BS en ?_;intro K hK;refine sZ [3] sp0 zS zS zS zS ?_;rintro r M ⟨rfl,rfl⟩ _;refine yw ?_;refine sV (λz:Nat×List Bool=> [(2,pt 0),(4,pt 2),(5,pt 3),(18,.ro n (Ak false g.out)),(19,iN n),(20,iN z.1)]) (λz=> [lv [iN a.n,.ro a.out.length (Ak false a.out)],lv [iN n,.ro g.out.length (Ak false g.out)],lv [.str ByteArray.empty,iN 0],lv (C4 z.2)]) (λz=>n-z.1) (λz=>z.1<=n/\z.2=AM c++CX (λv l=>Do v (AF a v) l) 0 (g.out.take z.1)/\z.2.length<=9+330*z.1) (0,AM c) (Wk.fr (by simp[AA,hout])) ⟨zS,by simp[CX],Ao⟩ ?_;rintro⟨i,B⟩ ⟨hi,hB,hBl⟩;simp only at hi hB hBl |-;by_cases c1:i<n;rotate_left
 .have hi' :i=n:=zO;subst hi';rw[uM zO] at hB;rw[<-hfb] at hB;subst hB;refine th c1 ?_;refine z1 ?_;intro K hK;refine sZ [3] (QW (BH a g) (Iy ha hg)) zS zS zS zS ?_;rintro r M ⟨rfl,rfl⟩ _;refine Am ?_;exact DM
 have hlt:i<g.out.length:=zO;have hml:=(hg.2.2.2.1 _ (uQ hlt)).1;have hto:=IN (λv l=>Do v (AF a v) l) hlt;have hrl:=Lo (v:=(i:Int)) ⟨zO,zO⟩ (Dc ha i) hml;have hbl:=Dc ha i;have spC:=cu B i (AF a i) g.out[i] zO ⟨zO,zO⟩ hbl hml;refine xL c1 ?_;refine zg (an hlt c1) ?_;refine z0 ?_;intro K hK;refine Ad.ro (Um a i zO ha.2.2.1) zS ?_;rintro r (rfl| ⟨h1,rfl⟩)
 .refine zx ?_;refine sZ [3] spC zS zS zS zS ?_;rintro r M ⟨rfl,rfl⟩ _;refine ye ?_;refine⟨(i+1,B++Do i (AF a i) g.out[i]),by simp only;omega,⟨by simp only;omega,?_,Ao⟩,Wk.fr zK⟩;simp only[hto];rw[hB];simp
 .rw[h1] at spC;refine zx ?_;refine sZ [3] spC zS (by simp[h1]) (by simp[h1]) (by simp[h1]) ?_;rintro r M ⟨rfl,rfl⟩ _;refine xK h1 ?_;refine zs ?_;refine⟨(i+1,B++Do i (AF a i) g.out[i]),by simp only;omega,⟨by simp only;omega,?_,Ao⟩,sU (k:=4) zK (by simp[h1]) zS zS zS zS⟩;simp only[hto];rw[hB];simp
theorem Za (o:Obj) (id:Int):Ac pg 294 ([.agg (Ar o)]++[.rptr [iN id]]) [] (λr _=>r= .bool (decide (o.id=id))):=by
 refine zE (fn:=Tryz.f294) [.tmp 3] ?_;simp only[vF,vU];rw[Aq];refine AX ?_;exact DM
theorem cy (xs:List Obj) (a id:Int) (hx:DZ xs) (hl:xs.length<=1000) (hb:∀o∈xs,o.base=0\/∃q∈xs,q.id=o.base) (ha:a=0\/∃q∈xs,q.id=a):Ac pg 274 [.ro xs.length (Aa Ar xs),iN a,iN id] [] (λr _=>r=iN (AN (λo=>decide (o.id=id)) (A4 xs xs.length a))):=by
 have hw:=Kr xs xs.length a;have spW:=Vv xs a xs.length hx hl hb ha;obtain⟨w,hwd⟩:∃w,w=A4 xs xs.length a:=zX;rw[<-hwd] at hw spW |-;refine zE (fn:=Tryz.f274) [.tmp 6] ?_;rw[A6];refine AX ?_;refine Hm spW (OI w 294 [.rptr [iN id]] (λo=>decide (o.id=id)) (by omega) (λo _=>Za o id) (by simp)) ?_;exact zR
theorem Zb (xs:List Obj) (hx:xs.length<1000000000):Ac pg 275 [.ro xs.length (Aa Ar xs)] [] (λr _=>r= .own 4 xs.length (Aa Ar xs)):=by
 refine zE (fn:=Tryz.f275) [.tmp 2] ?_;rw[AC];refine x8 ?_;intro K hK;refine⟨λh=>?_,λh=>⟨?_,?_⟩⟩
 .refine yh ?_;refine z1 ?_;intro K hK;refine⟨zO,zO,?_⟩;refine zk ?_;exact zR
 .refine yh ?_;subst h;refine AX ?_;exact zR
 .refine yi ?_;simp[h]
theorem Xy (l:List Obj) (i:Nat) (q:Obj) (hx:DZ l) (hl:BJ l) (hall:∀o∈l,(AT l o.id).2=0) (hi:i<l.length) (hb:l[i].base≠0) (hq:A5 l l[i].base=some q):Ac pg 236 [.ro l.length (Aa Ar l),iN l[i].id,iN q.base] [] (λr _=>r= .tup [.own 4 l.length (Aa Ar (l.set i (Ex l l[i] q.base))),iN 0]):=by
 have hlen:l.length<=12:=hl.1;have hm:=uQ hi;have hcl:∀o∈l,o.base=0\/∃r∈l,r.id=o.base:=hl.closed;obtain⟨d1,d2,d3,d4⟩:=JV hl hall hi hb hq;obtain⟨s1,s2⟩:=VK hl hall hi hb hq l.length;have hids:(l.map λo=>o.id).Pairwise (·<·):=List.pairwise_map.2 hl.2.2;have hidx:AN (λo=>decide (o.id=l[i].id)) l=(i:Int):=by
  refine DY hi zS λj hj hlt=>?_;have:=vB.1 hl.2.2 j i hj hi hlt;simp;omega
 have spM:=Sk l hx;rw[zT hl] at spM;have spO:=So l l[i].id hx hl;rw[hall _ hm] at spO;have hgm:=Da l l[i].id;have spB:=So l q.base hx hl;have hbm:=Da l q.base;have spF:=OK l l[i].id zO;rw[hidx] at spF;have spC:=Zb l zO;have spS:=λa ha=>cy l a l[i].id hx zO hcl ha;have spD:=Sl l q.base hx hcl;obtain⟨o,ho⟩:∃o,o=l[i]:=zX;have oc0:(Aa Ar l)[i*4]?=some (iN l[i].id):=Au (f:=Ar) (s:=4) zL hi (i:=0) zO;simp only[<-ho] at*;obtain⟨b,hbd⟩:∃b,b=q.base:=zX;simp only[<-hbd] at*;obtain⟨g,hg⟩:∃g,g=(AT l o.id).1:=zX;obtain⟨p,hp⟩:∃p,p=(AT l b).1:=zX;rw[<-hg] at hgm;rw[<-hp] at hbm;have hreb:Ex l o b=⟨o.id,b,Ed l b g⟩:=by rw[Ex,hg]
 rw[hreb];have spG:=Ta g hgm;have spY:=UJ p g hbm hgm;have hby:Ed l b g=if b=0 then Eb (BG g) else Eb (BH p g):=by unfold Ed;rw[hp];split<;>rfl
 obtain⟨e1,he1⟩:∃e1,e1=Eb (BG g):=zX;obtain⟨e2,he2⟩:∃e2,e2=Eb (BH p g):=zX;obtain⟨d,hd⟩:∃d,d=Ed l b g:=zX;rw[<-he1] at spG hby;rw[<-he2] at spY hby;rw[<-hd] at hby |-;have hOg:AT l o.id=(g,0):=Prod.ext hg.symm (hall _ hm);rw[hOg] at spO;obtain⟨D,hD⟩:∃D:Int,D=if b=0 then 1 else(AY l b).1+1:=zX
 rw[<-hD] at s2;have hD2:1<=D/\D<=3:=by
  rw[hD];split
  .omega
  .rename_i h;have:=d4 h;omega
 have hput:(((Aa Ar l).set (i*4+1) (iN b)).set (i*4+1+1) (.str d.data)).set (i*4+1+1+1) (iN d.n)=Aa Ar (l.set i ⟨o.id,b,d⟩):=by
  rw[<-PS ⟨o.id,b,d⟩ l i hi];congr 3;refine(wk λj=>?_);rw[wl];split
  .rename_i h;subst h;rw[oc0];simp;omega
  .rfl
 have hput2:(((Aa Ar l).set (i*4+1) (iN b)).set (i*4+2) (.str d.data)).set (i*4+2+1) (iN d.n)=Aa Ar (l.set i ⟨o.id,b,d⟩):=hput;refine zE (fn:=Tryz.f236) [.tmp 6,.tmp 7] ?_;rw[A6];refine zs ?_;refine ym spM ?_;refine EU spO ?_;refine y3 ?_;refine EU spG ?_;refine zs ?_;refine s5 (λ_:Unit=> [(0,.ro l.length (Aa Ar l)),(1,iN o.id),(2,iN b),(10,pt 2),(11,iN D)]) (λ_=> [lv [iN g.n,.tok 1 0 1 0 g.out.length],lv (Ak true g.out),lv [.str d.data,iN d.n]]) (λ_=>True) ?_ ?_
 .refine zc ?_ ?_<;>intro h
  .obtain⟨k1,k2,k3,k4⟩:=d4 h;rw[zM h] at hby hD;have hOb:AT l b=(p,0):=by
    obtain⟨r,rm,ri⟩:=k1;exact Prod.ext hp.symm (by rw[<-ri];exact hall r rm)
   rw[hOb] at spB;have hDb:AY l b=(D-1,0):=Prod.ext (by simp only;omega) k2;rw[hDb] at spD;have spSb:=spS b (.inr k1);obtain⟨z,hz⟩:∃z,z=AN (λx=>decide (x.id=o.id)) (A4 l l.length b):=zX;have hzn:¬0<=z:=by have:=s1 h;omega
   rw[<-hz] at spSb;have hDD:D-1+1=D:=zO;refine EU spB ?_;refine y3 ?_;refine z0 ?_;intro K hK;refine sW spSb (by simp) (by simp) ?_;refine x5 hzn ?_;refine AL spD ?_;refine AL spY ?_;exact⟨(),trivial,sU (k:=3) (by simp[AA,hDD]) (by simp[hby]) zS zS zS zS⟩
  .rw[zP h] at hby hD;refine W.skip ?_;exact⟨(),trivial,sU (k:=3) (by simp[AA,hD]) (by simp[hby]) zS zS zS zS⟩
 rintro _ _;refine xR ?_;refine sV (λk:Nat=> [(0,.ro l.length (Aa Ar l)),(1,iN o.id),(2,iN b),(10,pt 2),(11,iN D),(60,.ro l.length (Aa Ar l)),(61,iN l.length),(62,iN k)]) (λ_=> [lv [iN g.n,.tok 1 0 1 0 g.out.length],lv (Ak true g.out),lv [.str d.data,iN d.n]]) (λk=>l.length-k) (λk=>k<=l.length) 0 (Wk.fr zK) zS ?_;intro k hk;by_cases c1:k<l.length;rotate_left
 .refine th c1 ?_;refine AL spC ?_;refine AL spF ?_;(repeat refine ta ?_);refine tj 0 [(10,95),(10,92)] rfl true Df AK λK hK=>?_;simp -implicitDefEqProofs (disch:=omega) [hi];refine⟨zO,zO,?_⟩;(repeat refine⟨by first|assumption|omega,?_⟩);refine hK _ _ (by simp(disch:=omega)) ?_;clear hK K;rw[hput2];refine Bd ?_;rw[uM zS]
 have o0:(Aa Ar l)[k*4]?=some (iN l[k].id):=Au (f:=Ar) (s:=4) zL c1 (i:=0) zO;have o1:(Aa Ar l)[k*4+1]?=some (iN l[k].base):=Au (f:=Ar) (s:=4) zL c1 (i:=1) zO;have o2:(Aa Ar l)[k*4+1+1]?=some (.str l[k].data.data):=Au (f:=Ar) (s:=4) zL c1 (i:=2) zO;have o3:(Aa Ar l)[k*4+1+1+1]?=some (iN l[k].data.n):=Au (f:=Ar) (s:=4) zL c1 (i:=3) zO;have spSk:=spS l[k].id (.inr ⟨_,uQ c1,rfl⟩);have hsk:=s2 _ (uQ c1);have hgz:-1<=AN (λx=>decide (x.id=o.id)) (A4 l l.length l[k].id)/\AN (λx=>decide (x.id=o.id)) (A4 l l.length l[k].id)<=12:=by
  have hw:=Kr l l.length l[k].id;unfold AN;cases e:(A4 l l.length l[k].id).findIdx? (λx=>decide (x.id=o.id)) with
  |none=>simp
  |some j=>have:=(vN.1 e).1;simp only;omega
 obtain⟨z,hz⟩:∃z,z=AN (λx=>decide (x.id=o.id)) (A4 l l.length l[k].id):=zX;rw[<-hz] at spSk hsk hgz;have hzn:¬3<z+D:=zO;refine xL c1 ?_;refine GQ (an c1 (an o0 (an o1 (an o2 o3)))) ?_;intro K hK;refine zk ?_;refine z0 ?_;intro K hK;refine sW spSk (by simp) (by simp) ?_;refine xK hzn ?_;refine y3 ?_;exact⟨k+1,zO,zO,sU (k:=3) zK zS zS zS zS zS⟩
@[simp] def Od (a:Int×Int):List AV:=[iN a.1,iN a.2]
theorem Tb (s:An) (id:Int):AN (λo=>decide (o.id=id)) (Ae s)=AN (λv=>decide (v.id=id)) s.sQ:=by
 unfold AN Ae;rw[List.findIdx?_map];rfl
theorem Tc {l:List Obj} {o:Obj} (b:Int):(Ex l o b).data.data.size<1000000000:=by
 have:=(Io (l:=l) b (Da l o.id)).1;simp only[Ex];omega
theorem Xz (hR:BK) (s:An) (k id:Int) (hs:A0 s) (hx:BO s) (hok:A2 s):Ac pg 190 [.agg (Aj false s),.agg [iN k,iN id]] [] (λr _=>r= .tup [.agg (Aj true (Di s k id).1),iN (Di s k id).2]):=by
 have h1:=hs.1;have hmy:=hok.1.1.2.2.2.2.2.2;have hall:=hok.1.2.2.1;have spP:=HJ s id hs;have spT:=cp hR s id hs hx;obtain⟨z,hz⟩:∃z,z=AN (λv=>decide (v.id=id)) s.sQ:=zX;have hz2:=hz;rw[<-hz] at spP;refine zE (fn:=Tryz.f190) [.cell 4 25,.tmp 5] ?_;rw[Aq];refine Ig ?_;refine AL spP ?_;refine zb ?_;unfold Di;rw[<-hz];by_cases c1:k=1\/k=2;rotate_left
 .have c1a:¬k=1:=λh=>c1 (.inl h);have c1b:¬k=2:=λh=>c1 (.inr h);rw[zP c1];refine th (an c1a c1b) ?_;refine W.weak ((sX 2 2).trans (sX 2 3)) ?_;refine zr ?_;simp[Av]
 rw[zM (λh=>h c1)];refine zw ?_;refine s5 (λ_:Unit=> [(0,.agg (Aj false s)),(2,pt 0),(3,pt 1),(4,pt 2),(6,iN z),(14,.bool false)]) (λ_=> [lv (Aj false s),lv [iN k,iN id],lv [iN 0,iN 0,.own 8 0 [],.own 12 0 []]]) (λ_=>True) ?_ ?_
 .rcases c1 with rfl|rfl
  .refine zs ?_;exact⟨(),trivial,Wk.fr zK⟩
  .refine zs ?_;exact⟨(),trivial,Wk.fr zK⟩
 rintro _ _;refine zn ?_;by_cases c2:z<0
 .rw[zP c2];refine th c2 ?_;refine W.weak ((sX 2 2).trans (sX 2 3)) ?_;refine zr ?_;simp[Av]
 rw[zM c2];refine xO c2 ?_;by_cases c3:k=1
 .rw[zP c3];refine xP c3 ?_;refine AL spT ?_;exact zR
 rw[zM c3];obtain⟨i,hi⟩:∃i:Nat,z=(i:Int):=⟨z.toNat,zO⟩;have hzt:z.toNat=i:=zO;obtain⟨hk,By⟩:∃hk:i<s.sQ.length,s.sQ[i].id=id:=by
  obtain⟨hk,By⟩:=Nh (s:=s) (id:=id) (by rw[<-hz];exact c2);have e:(AN (λv=>decide (v.id=id)) s.sQ).toNat=i:=by rw[<-hz];exact hzt
  simp only[e] at hk By;exact⟨hk,By⟩
 have hgv:s.sQ[z.toNat]?=some s.sQ[i]:=by rw[hzt];exact uT hk
 simp only[hgv];clear hgv hzt hz2 hz;subst hi;have v2:(Aa As s.sQ)[i*8+2]?=some (iN s.sQ[i].base):=Au (f:=As) (s:=8) zL hk (i:=2) zO;by_cases c4:s.sQ[i].base=0
 .rw[zP c4];refine xO c3 ?_;refine th (an hk (an v2 c4)) ?_;refine W.weak ((sX 2 2).trans (sX 2 3)) ?_;refine zr ?_;simp[Av]
 rw[zM c4];have hio:i<(Ae s).length:=by simpa[Ae] using hk
 have eo:(Ae s)[i]=B2 s.sQ[i]:=by simp[Ae]
 obtain⟨q,hq⟩:=C3.1 ((hmy.closed _ (uQ hio)).resolve_left (by rw[eo];exact c4));have hq2:A5 (Ae s) s.sQ[i].base=some q:=by rw[eo] at hq;exact hq
 have hqb:FA (Ae s) s.sQ[i].base=q.base:=by unfold FA;rw[hq2]
 obtain⟨j,hj,j1,j2,j3⟩:=EI hq2;rw[Tb] at j1;have hjv:j<s.sQ.length:=by simpa[Ae] using hj
 have j4:(Aa As s.sQ)[j*8+2]?=some (iN q.base):=by
  rw[<-j2];have:=Au (f:=As) (s:=8) zL hjv (i:=2) zO;rw[this];simp[Ae,B2,As]
 have hjb:s.sQ[j].base=q.base:=by rw[<-j2];simp[Ae,B2]
 have spP2:=HJ s s.sQ[i].base hs;rw[j1] at spP2;have spL:=Mk s hs;have spR:=Xy (Ae s) i q hs.objs hmy hall hio (by rw[eo];exact c4) hq;rw[eo] at spR;have hoid:(B2 s.sQ[i]).id=id:=By;rw[hoid] at spR;have hrl:=(Oc hok hk c4).1;rw[hqb] at hrl |-;obtain⟨o,ho⟩:∃o,o=Ex (Ae s) (B2 s.sQ[i]) q.base:=zX;have hos:o.data.data.size<1000000000:=by rw[ho];exact Tc _
 rw[<-ho] at spR hrl |-;have spY:=Xg hR s o 0 hs hx hos (by have:=hmy.1;simp[Ae] at this;omega);rw[hrl] at spY;obtain⟨l,hl⟩:∃l,l=Ae s:=zX;rw[<-hl] at spL spR hio;have o0:(Aa Ar (l.set i o))[i*4]?=some (iN o.id):=by
  have:=Au (f:=Ar) (s:=4) (xs:=l.set i o) zL (show i<(l.set i o).length by simpa using hio) (i:=0) zO;rw[vZ] at this;exact this
 have o1:(Aa Ar (l.set i o))[i*4+1]?=some (iN o.base):=by
  have:=Au (f:=Ar) (s:=4) (xs:=l.set i o) zL (show i<(l.set i o).length by simpa using hio) (i:=1) zO;rw[vZ] at this;exact this
 have o2:(Aa Ar (l.set i o))[i*4+1+1]?=some (.str o.data.data):=by
  have:=Au (f:=Ar) (s:=4) (xs:=l.set i o) zL (show i<(l.set i o).length by simpa using hio) (i:=2) zO;rw[vZ] at this;exact this
 have o3:(Aa Ar (l.set i o))[i*4+1+1+1]?=some (iN o.data.n):=by
  have:=Au (f:=Ar) (s:=4) (xs:=l.set i o) zL (show i<(l.set i o).length by simpa using hio) (i:=3) zO;rw[vZ] at this;exact this
 refine xO c3 ?_;refine th (an hk (an v2 c4)) ?_;refine Dy (an hk v2) ?_;intro K hK;refine s6 spP2 (by simp) (by simp) ?_;refine xK (an hjv (an j4 hjb)) ?_;refine jd spL spR ?_;refine y3 ?_;refine OC (an hio (an o0 (an o1 (an o2 o3)))) spY ?_;exact zR
theorem Nj {s:An} {k id:Int} (hs:A0 s) (hx:BO s) (hok:A2 s):A0 (Di s k id).1/\BO (Di s k id).1:=by
 unfold Di;split
 .exact GH
 split
 .exact GH
 split
 .exact Xq hs hx
 split
 .exact GH
 .rename_i v hv;split
  .exact GH
  .rename_i hb;obtain⟨hi,e⟩:=List.getElem?_eq_some_iff.1 hv;subst e;rw[<-(Oc hok hi hb).1];exact Y4 hs hx (Tc _) (by have:=hok.1.1.2.2.2.2.2.2.1;simp[Ae] at this;omega)
theorem XA (v:Bn) (id:Int):Ac pg 269 ([.agg (As v)]++[.rptr [iN id]]) [] (λr _=>r= .bool (decide (v.base=id))):=by
 refine zE (fn:=Tryz.f269) [.tmp 3] ?_;simp only[vF,vU];rw[Aq];refine AX ?_;exact DM
def MJ (s:An) (id:Int):Bool:=decide ((Di s (Er s id).1 (Er s id).2).2=0)
theorem Zc (hR:BK) (s:An) (id:Int) (hs:A0 s) (hx:BO s) (hok:A2 s):Ac pg 234 [.agg (Aj false s),iN id] [] (λr _=>r= .tup [.agg (Od (Er s id)),.bool (MJ s id)]):=by
 have h1:=hs.1;have spI:=K6 s.sQ 269 [.rptr [iN id]] (λv=>decide (v.base=id)) zO (λv _=>XA v id) zS;obtain⟨z,hz⟩:∃z,z=AN (λv=>decide (v.base=id)) s.sQ:=zX;rw[<-hz] at spI;obtain⟨a,ha⟩:∃a,a=Er s id:=zX;have spD:=Xz hR s a.1 a.2 hs hx hok;have hin:=Nj (k:=a.1) (id:=a.2) hs hx hok;unfold MJ;rw[<-ha];obtain⟨y,hy⟩:∃y,y=(Di s a.1 a.2).1:=zX;obtain⟨e,he⟩:∃e,e=(Di s a.1 a.2).2:=zX;rw[<-hy,<-he] at spD;rw[<-he];refine zE (fn:=Tryz.f234) [.cell 4 157,.tmp 5] ?_;rw[Aq];refine Ig ?_;refine AL spI ?_;refine x6 ?_;refine s5 (λ_:Unit=> [(2,pt 0),(4,pt 2),(7,pt 3)]) (λ_=> [lv (Aj false s),lv [iN id],lv [iN 0,iN 0],lv (Od a)]) (λ_=>True) ?_ ?_
 .refine zc ?_ ?_<;>intro h
  .obtain⟨k,hk⟩:=uS h;subst hk;have hkk:∃hk:k<s.sQ.length,a=(2,s.sQ[k].id):=by
    unfold AN at hz;cases e:s.sQ.findIdx? (λv=>decide (v.base=id)) with
    |none=>rw[e] at hz;simp at hz
    |some j=>
     rw[e] at hz;have:j=k:=by simp at hz;omega
     subst this;obtain⟨q1,q2,q3⟩:=vN.1 e;refine⟨q1,?_⟩;have hf:s.sQ.find? (λv=>decide (v.base=id))=some s.sQ[j]:=Jj q1 (λx hx=>by
      obtain⟨m,hm,rfl⟩:=vq.1 hx;simp only[wy] at hm;have:=q3 m zO;simpa using this) q2
     rw[ha,Er,hf]
   obtain⟨hk,hak⟩:=hkk;have v0:(Aa As s.sQ)[k*8]?=some (iN s.sQ[k].id):=Au (f:=As) (s:=8) zL hk (i:=0) zO;refine zg (an hk v0) ?_;subst hak;exact⟨(),trivial,Wk.fr zK⟩
  .have hak:a=(1,id):=by
    have hf:s.sQ.find? (λv=>decide (v.base=id))=none:=by
     rw[wN];intro v hv c;have:0<=z:=by rw[hz];exact C9.2 ⟨v,hv,c⟩
     omega
    rw[ha,Er,hf]
   refine W.skip ?_;subst hak;exact⟨(),trivial,Wk.fr zK⟩
 rintro _ _;refine EU spD ?_;exact DM
theorem TJ (hR:BK) (s:An) (hs:A0 s) (hx:BO s) (hok:A2 s):Ac pg 189 [.agg (Aj false s)] [] (λr _=>r= .agg (Od (CU s))):=by
 have h1:=hs.1;have hkp:0<=s.keep/\s.keep<=1000000:=⟨by have:=hok.1.1.1;omega,by have:=hok.1.1.2.1;omega⟩;have spW:=cg s hs hkp;have hwl:(DG s false).length<=s.sQ.length:=GR ..;obtain⟨a,ha⟩:∃a,a=CU s:=zX;have hfo:a=match (DG s false).find? (MJ s) with|some id=>Er s id|none=>(0,0):=by rw[ha];rfl
 rw[<-ha];obtain⟨w,hw⟩:∃w,w=DG s false:=zX;rw[<-hw] at spW hwl hfo;refine zE (fn:=Tryz.f189) [.cell 2 157] ?_;rw[AC];refine Cx ?_;refine AL spW ?_;refine zb ?_;refine sV (λk:Nat=> [(1,pt 0),(2,pt 1),(8,.tok 2 0 1 0 w.length),(9,iN w.length),(10,iN k)]) (λ_=> [lv (Aj false s),lv [iN 0,iN 0],lv (Ab w)]) (λk=>w.length-k) (λk=>k<=w.length/\∀x∈w.take k,MJ s x=false) 0 (Wk.fr zK) ⟨zO,zS⟩ ?_;rintro k ⟨hk,hno⟩;by_cases c1:k<w.length;rotate_left
 .have hke:k=w.length:=zO;have hf:w.find? (MJ s)=none:=by
   rw[wN];intro x hx;rw[uM zO] at hno;simpa using hno x hx
  rw[hf] at hfo;subst hfo;refine zg c1 ?_;exact Kp
 have spA:=Zc hR s w[k] hs hx hok;obtain⟨id,By⟩:∃id,id=w[k]:=zX;rw[<-By] at spA;have g1:(Ab w)[k]?=some (iN id):=by rw[By];simp[c1,Ab]
 refine xL c1 ?_;refine zg (an c1 g1) ?_;cases hoa:MJ s id
 .rw[hoa] at spA;refine EU spA ?_;refine y4 ?_;exact⟨k+1,zO,⟨zO,JR c1 hno (by rw[<-By];exact hoa)⟩,sU (k:=3) zK zS zS zS zS zS⟩
 .rw[hoa] at spA;have hf:=Jj c1 hno (by rw[<-By];exact hoa);rw[hf] at hfo;simp only[<-By] at hfo;subst hfo;refine EU spA ?_;exact Kp
def D1 (a b:Nat) (c:An):List AV:=[iN c.keep,iN c.sS,.tok a 0 8 0 c.sQ.length,.tok b 0 12 0 c.sR.length]
section
variable (xs:List An) (m:Bool) (M:List Ag) (k:Nat)
@[simp] theorem kF:(Aa (Aj m) xs).length=xs.length*4:=Bk _ (λx=>by simp[Aj]) xs
@[simp] theorem jn:(Aa (Aj m) xs).take (k*4)=Aa (Aj m) (xs.take k):=E8 _ (λx=>by simp[Aj]) k xs
@[simp] theorem mV:E0 (Aa (Aj m) xs)=true:=I9 _ (λx=>by simp[Aj]) xs
@[simp] theorem kG:C6 (Aa (Aj true) xs)=true:=If _ (λx=>by simp[Aj]) xs
end
theorem XB (L:List An) (a b:Nat) (c:An) (Z:List AV):(Aa (Aj true) L++(D1 a b c++Z))[L.length*4+2]?=some (.tok a 0 8 0 c.sQ.length):=by
 rw[vj zS];simp[D1]
theorem XC (L:List An) (a b:Nat) (c:An) (Z:List AV) (x:AV):((Aa (Aj true) L++(D1 a b c++Z)).set (L.length*4+2) x)[L.length*4+3]?=some (.tok b 0 12 0 c.sR.length):=by
 rw[uN zO,vj zS];simp[D1]
theorem Zd (L:List An) (a b:Nat) (c:An) (Z:List AV):((Aa (Aj true) L++(D1 a b c++Z)).set (L.length*4+2) (.own 8 c.sQ.length (((Aa As c.sQ).drop 0).take (c.sQ.length*8)))).set (L.length*4+3) (.own 12 c.sR.length (((Aa (Af true) c.sR).drop 0).take (c.sR.length*12)))=Aa (Aj true) (L++[c])++Z:=by
 rw[vz _ _ zS,vz _ _ zS,BI];simp[D1,AG]
theorem tU {p:Nat} {F:Fr} {M:List Ag} {v:Nat} (L:List An) (c:An) (Z:List AV) (h1:Ah M 1 v=some (Aa (Aj true) L++(D1 2 3 c++Z))) (h2:M[2]?=some (lv (Aa As c.sQ))) (h3:M[3]?=some (lv (Aa (Af true) c.sR))):
 Wk p F M F (((M.set 1 (.live v (Aa (Aj true) (L++[c])++Z))).set 2 .dead).set 3 .dead):=by
 obtain⟨a0,a1,a2,a3,M',rfl⟩:∃a0 a1 a2 a3 M',M=a0::a1::a2::a3::M' :=by
  match M,h3 with
  |a0::a1::a2::a3::M',_=>exact⟨a0,a1,a2,a3,M',rfl⟩
 simp only[List.getElem?_cons_succ,List.getElem?_cons_zero,Option.some.injEq] at h2 h3;subst h2 h3;have w1:=sY (p:=p) (F:=F) (B:=1) (v:=v) (j:=L.length*4+2) (T:=2) (u:=0) (s:=8) (off:=0) (n:=c.sQ.length) (xs:=Aa As c.sQ) h1 (XB L 2 3 c Z) zF zD zS zS;have w2:=λM h=>sY (p:=p) (F:=F) (M:=M) (B:=1) (v:=v) (j:=L.length*4+3) (T:=3) (u:=0) (s:=12) (off:=0) (n:=c.sR.length) (xs:=Aa (Af true) c.sR) (cs:=(Aa (Aj true) L++(D1 2 3 c++Z)).set (L.length*4+2) (.own 8 c.sQ.length (((Aa As c.sQ).drop 0).take (c.sQ.length*8)))) h (XC L 2 3 c Z _);refine w1.trans ?_;refine(w2 _ ?_ ?_ zD zS zS).trans ?_
 .simp[Ah]
 .simp[Ah]
 have hp:=Zd L 2 3 c Z;simp only[wu,vQ];rw[hp];exact Wk.refl
theorem Oe {c:An} {m:Nat} (h:(CU c).1≠0):CJ c (m+1)=(Di c (CU c).1 (CU c).2).1::CJ (Di c (CU c).1 (CU c).2).1 m:=by rw[CJ,zM h]
theorem PU {c:An} (m:Nat) (h:(CU c).1=0):CJ c m=[]:=by cases m<;>simp[CJ,h]
theorem gR (hR:BK) (s:An) (n:Nat) (hs:A0 s) (hx:BO s) (hok:A2 s) (hn:n<=1000):Ac pg 137 [.agg (Aj false s),iN n] [] (λr _=>r= .own 4 (CJ s n).length (Aa (Aj true) (CJ s n))):=by
 refine zE (fn:=Tryz.f137) [.tmp 4] ?_;rw[Aq];refine AX ?_;refine xR ?_;refine sV (λz:Nat×List An×An=> [(2,pt 0),(4,if z.1=0 then .own 4 0 [] else .tok 1 0 4 0 z.1),(6,iN n),(7,iN z.1)]) (λz=>if z.1=0 then [lv (Aj false s)] else [lv (D1 2 3 z.2.2),lv (Aa (Aj true) z.2.1++D1 2 3 z.2.2),lv (Aa As z.2.2.sQ),lv (Aa (Af true) z.2.2.sR)]) (λz=>n-z.1) (λz=>z.1<=n/\A2 z.2.2/\A0 z.2.2/\BO z.2.2/\(z.1=0->z.2.2=s)/\(0<z.1->z.2.1.length+1=z.1/\z.2.1++z.2.2::CJ z.2.2 (n-z.1)=CJ s n)) (0,[],s) (Wk.fr zK) ⟨zO,hok,hs,hx,λ_=>rfl,λh=>by simp at h⟩ ?_;have rnV:=λ(K:List (Nat×Nat)) (y:An)=>RO K (xs:=Aa As y.sQ) zS;have rnS:=λ(K:List (Nat×Nat)) (y:An)=>RO K (xs:=Aa (Af true) y.sR) zS;have rnA:=λ(K:List (Nat×Nat)) (L:List An)=>RO K (xs:=Aa (Aj true) L) zS;rintro⟨k,L,c⟩ ⟨hk,hcok,hcs,hcx,hc0,hcL⟩;simp only at hk hcok hcs hcx hc0 hcL |-;have spF:=TJ hR c hcs hcx hcok;obtain⟨a,ha⟩:∃a,a=CU c:=zX;rw[<-ha] at spF;have spD:=Xz hR c a.1 a.2 hcs hcx hcok;have hyin:=Nj (k:=a.1) (id:=a.2) hcs hcx hcok;have hyok:=λh:a.1≠0=>S7 (k:=a.1) (id:=a.2) hcok (by rw[ha] at h |-;exact MI h);obtain⟨y,hy⟩:∃y,y=(Di c a.1 a.2).1:=zX;obtain⟨e,he⟩:∃e,e=(Di c a.1 a.2).2:=zX;rw[<-hy,<-he] at spD;rw[<-hy] at hyin;simp only[<-hy] at hyok;by_cases k0:k=0
 .have hcs0:=hc0 k0;subst hcs0;subst k0;simp only[if_true];by_cases c1:0<n;rotate_left
  .have hn0:n=0:=zO;subst hn0;refine Ue ?_;simp[CJ]
  refine xL c1 ?_;refine EU spF ?_;by_cases c2:a.1=0
  .refine x3 c2 ?_;rw[PU n (by rw[<-ha];exact c2)];simp
  have hrow:CJ c n=y::CJ y (n-1):=by
   obtain⟨m,rfl⟩:∃m,n=m+1:=⟨n-1,zO⟩;rw[Oe (by rw[<-ha];exact c2),<-ha,<-hy];simp
  refine th c2 ?_;refine AL spD ?_;refine W.weak (Wk.nil (t:=4) (s:=4) zS) ?_;refine x6 ?_;have hyk:=hyok c2;refine⟨(1,[],y),by simp only;omega,⟨by simp only;omega,hyk.1,hyin.1,hyin.2,zS,λ_=>⟨rfl,by simp only[vU];rw[hrow]⟩⟩,?_⟩;refine ue [(0,0),(4,1),(2,0),(3,0)] [D1 2 3 y,D1 2 3 y,Aa As y.sQ,Aa (Af true) y.sR] zD ?_ ?_ ?_
  .simp[Ub,Ah,D1]
  .simp[RP,rn,IH,w9]
  .simp[IA,rn,IH,D1,w9,rnV,rnS]
 simp only[zM k0];obtain⟨hL,hLr⟩:=hcL zO;by_cases c1:k<n;rotate_left
 .have hkn:k=n:=zO;subst hkn;have hfin:CJ s k=L++[c]:=by rw[<-hLr,wp];simp[CJ]
  refine th c1 ?_;refine W.weak (tU (v:=0) L c [] (by simp[Ah,D1]) rfl rfl) ?_;simp only[wu,vQ,vM];rw[<-hfin];have hlen:(CJ s k).length=k:=by rw[hfin];simp;omega
  refine Bd ?_;rw[uM zO,hlen];exact⟨rfl,rfl⟩
 simp only[D1];refine xL c1 ?_;refine EU spF ?_;by_cases c2:a.1=0
 .refine th c2 ?_;have hfin:CJ s n=L++[c]:=by rw[<-hLr,PU (n-k) (by rw[<-ha];exact c2)]
  refine W.weak (tU (v:=0) L c [] (by simp[Ah,D1]) rfl rfl) ?_;simp only[wu,vQ,vM];rw[<-hfin];have hlen:(CJ s n).length=k:=by rw[hfin];simp;omega
  refine Bd ?_;rw[uM zO,hlen];exact⟨rfl,rfl⟩
 refine th c2 ?_;refine AL spD ?_;refine x6 ?_;have hyk:=hyok c2;have hrow:CJ c (n-k)=y::CJ y (n-(k+1)):=by
  obtain⟨m,hm⟩:∃m,n-k=m+1:=⟨n-k-1,zO⟩;rw[hm,Oe (by rw[<-ha];exact c2),<-ha,<-hy,show n-(k+1)=m by omega]
 refine⟨(k+1,L++[c],y),by simp only;omega,⟨by simp only;omega,hyk.1,hyin.1,hyin.2,zS,λ_=>⟨by simp only[u0,List.length_singleton];omega,by simp only;rw[<-hLr,hrow];simp⟩⟩,?_⟩;refine(tU (v:=1) L c (D1 5 6 y) (by simp[Ah,D1]) rfl rfl).trans ?_;simp only[wu,vQ];refine ue [(0,0),(1,1),(5,0),(6,0)] [D1 5 6 y,Aa (Aj true) (L++[c])++D1 5 6 y,Aa As y.sQ,Aa (Af true) y.sR] zD ?_ ?_ ?_
 .simp[Ub,Ah,D1]
 .simp[RP,rn,IH,w9]
 .simp[IA,rn,IH,D1,w9,rnV,rnS,rnA,aW]
def qk (s:An) (n:Int):An×Int×Int:=if A2 s/\0<=n/\n<=1000 then((CJ s n.toNat).getLast?.getD s,((CJ s n.toNat).length:Int),0) else(Av,0,1)
def sq (s:An):List AV:=[iN s.keep,iN s.sS,.ro s.sQ.length [],.ro s.sR.length []]
section
variable (xs:List An) (k:Nat)
end
def MK (s:An) (n:Nat):An:=(CJ s n).getLast?.getD s
theorem XD {s:An} (h:A2 s) (n:Nat):A2 (MK s n):=by
 unfold MK;cases e:(CJ s n).getLast? with
 |none=>exact h
 |some y=>exact(Xu n s h y (List.mem_of_getLast? e)).1
def fo (l:List Obj):Int:=(l.map λo=>(AY l o.id).1).sum
structure sr (s x:An) (n:Nat):Prop where
 ok:A2 x
 sin:A0 x
 all:BO x
 ses:x.sR=s.sR
 blk:x.sS=s.sS
 kep:x.keep=s.keep
 ids:∀j,j∈x.sQ.map (λv=>v.id)->j∈s.sQ.map λv=>v.id
 gra:∀j,j≠0->j∈x.sQ.map (λv=>v.id)->AT (Ae x) j=AT (Ae s) j
 kpt:DG x true=DG s true
 dep:fo (Ae x)+n<=3*s.sQ.length
 len:x.sQ.length<=s.sQ.length
@[ext] structure Cy where
  kind:Int
  s:Int
  v:Int
  a:Int
  b:Int
  n:Int
  deriving DecidableEq
@[ext] structure HA where
  err:Int
  n:Int
  list:List Int
  deriving DecidableEq
def AZ (o:Cy):List AV:=[.int .i64 o.kind,.int .i64 o.s,.int .i64 o.v,.int .i64 o.a,.int .i64 o.b,.int .i64 o.n]
def Fm (m:Bool) (r:HA):List AV:=[.int .i64 r.err,.int .i64 r.n,DB m r.list]
attribute [simp] AZ Fm
def B8 (n a b:Int):Prop:=a<=n/\n<=b
instance (n a b:Int):Decidable (B8 n a b):=inferInstanceAs (Decidable (_/\_))
def EL (k:Int):Prop:=B8 k 2 13
instance (k:Int):Decidable (EL k):=inferInstanceAs (Decidable (B8 _ _ _))
def EY (k:Int):Prop:=k=3\/B8 k 13 16
instance (k:Int):Decidable (EY k):=inferInstanceAs (Decidable (_\/_))
def GU (k:Int):Prop:=k=7\/k=8\/k=11
instance (k:Int):Decidable (GU k):=inferInstanceAs (Decidable (_\/_))
def Gf (o:Cy):Prop:=if o.kind=6 then B8 o.n 0 16 else if o.kind=11\/o.kind=12\/o.kind=18 then B8 o.n 0 1000 else if o.kind=17 then B8 o.n 1 8 else o.n=0
instance (o:Cy):Decidable (Gf o):=by unfold Gf;exact inferInstance
def DV (o:Cy):Prop:=B8 o.kind 1 18/\Gf o/\(if EL o.kind then B8 o.s 0 2 else o.s=0)/\(if EY o.kind then B8 o.v 1 1048576 else o.v=0)/\
 (if GU o.kind then B8 o.a (-1073741824) 1073741824/\B8 o.b (-1073741824) 1073741824/\(o.kind=11->B8 o.a 1 6) else o.a=0/\o.b=0)
instance (o:Cy):Decidable (DV o):=by unfold DV;exact inferInstance
def D2 (l:List Int) (b:Int):Nat:=(l.takeWhile λx=>decide (x<b)).length
def GI (g:Gr) (n:Int):Gr×Int:=if 16-g.n<n then(Az,2) else(⟨g.n+n,g.out++uP n.toNat []⟩,0)
def DC (g:Gr) (a:Int):Prop:=0<=a/\a<g.n
instance (g:Gr) (a:Int):Decidable (DC g a):=inferInstanceAs (Decidable (_/\_))
def DA (l:List Int) (b:Int):List Int:=l.take (D2 l b)++b::l.drop (D2 l b)
def DQ (l:List Int) (b:Int):List Int:=l.take (D2 l b)++l.drop (D2 l b+1)
def HT (g:Gr) (a b:Int):Gr×Int:=if¬(DC g a/\DC g b) then(Az,3) else if (AF g a).contains b=true then(Az,4) else if 120<=Br g.out then(Az,2) else
 (⟨g.n,g.out.set a.toNat (DA (AF g a) b)⟩,0)
def Hu (g:Gr) (a b:Int):Gr×Int:=if¬(DC g a/\DC g b) then(Az,3) else if (AF g a).contains b=false then(Az,3) else(⟨g.n,g.out.set a.toNat (DQ (AF g a) b)⟩,0)
def Cm (g:Gr):List (Int×Int):=(g.out.zipIdx.map λx=>x.1.map λb=>((x.2:Int),b)).flatten
def Fs (a b:Gr):List (Int×Int):=(Cm a).filter λp=> ! decide (DC b p.1/\(AF b p.1).contains p.2=true)
def DU (g:Gr):Nat->B7->B7
 |0,j=>j
 |n+1,j=>if BX g j=true then j else DU g n (A8 g j)
def Cf (s:An) (id:Int):Gr:=if id=0 then Az else(AT (Ae s) id).1
def CG (s:An) (i:Int):B3:=s.sR.getD i.toNat BU
def Ch (s:An) (i:Int) (x:B3):An:={s with sR:=s.sR.set i.toNat x}
def DE (s:An):An×HA:=(s,⟨0,0,[]⟩)
def AE (s:An) (e:Int):An×HA:=(s,⟨e,0,[]⟩)
def Gg (s:An):An×HA:=match s.sR.findIdx? λx=> !x.opn with
 |some i=>({s with sR:=s.sR.set i {BU with opn:=true}},⟨0,i,[]⟩)
 |none=>AE s 5
def Jn (s:An) (o:Cy) (u:B3):Gr×Int:=if o.kind=6 then GI u.sT o.n else if o.kind=7 then HT u.sT o.a o.b else Hu u.sT o.a o.b
def E3 (s:An) (o:Cy) (u:B3):An×HA:=if u.frm≠At s.sQ then AE s 7 else
 if (BP (Ae s) u.frm u.sT).2≠0 then AE s (BP (Ae s) u.frm u.sT).2 else
 if (Du s (BP (Ae s) u.frm u.sT).1 u.frm).2≠0 then AE s (Du s (BP (Ae s) u.frm u.sT).1 u.frm).2 else
 (Ch (Du s (BP (Ae s) u.frm u.sT).1 u.frm).1 o.s {u with on:=false,frm:=0,sT:=Az},⟨0,(BP (Ae s) u.frm u.sT).1.id,[]⟩)
def DK (s:An) (o:Cy) (u:B3) (j:B7):An×HA:=
 if BX (Cf s u.pin) (DU (Cf s u.pin) o.n.toNat j)=true then(Ch s o.s {u with job:=A3},⟨0,0,(DU (Cf s u.pin) o.n.toNat j).out⟩)
 else(Ch s o.s {u with job:=DU (Cf s u.pin) o.n.toNat j},⟨8,0,[]⟩)
def BM (s:An) (o:Cy) (u:B3):An×HA:=
 if o.kind=2 then DE (Ch s o.s BU)
 else if o.kind=3 then(if u.pin≠0 then AE s 6 else if (Bf s.sQ).contains o.v=false then AE s 3 else DE (Ch s o.s {u with pin:=o.v}))
 else if o.kind=4 then(if u.pin=0 then AE s 6 else DE (Ch s o.s {u with pin:=0,job:=A3}))
 else if o.kind=5 then(if u.on=true then AE s 6 else DE (Ch s o.s {u with on:=true,frm:=At s.sQ,sT:=Cf s (At s.sQ)}))
 else if o.kind=11 then(if u.pin=0 then AE s 6 else if DO (Cf s u.pin) o.a o.b≠0 then AE s (DO (Cf s u.pin) o.a o.b) else DK s o u (B9 (Cf s u.pin) o.a o.b))
 else if o.kind=12 then(if u.job=A3 then AE s 6 else DK s o u u.job)
 else if o.kind=13 then(if u.pin=0 then AE s 6 else if (Bf s.sQ).contains o.v=false then AE s 3 else(s,⟨0,0,((Fs (Cf s u.pin) (Cf s o.v)).map λp=> [p.1,p.2]).flatten⟩))
 else if u.on=false then AE s 6
 else if o.kind=10 then DE (Ch s o.s {u with on:=false,frm:=0,sT:=Az})
 else if o.kind=9 then E3 s o u
 else if (Jn s o u).2≠0 then AE s (Jn s o u).2 else DE (Ch s o.s {u with sT:=(Jn s o u).1})
def Ft (s:An) (o:Cy):An×HA:=if (Bf s.sQ).contains o.v=false then AE s 3 else
 match s.sQ[(AN (λv=>decide (v.id=o.v)) s.sQ).toNat]? with
 |none=>AE s 3
 |some v=>if o.kind=14/\v.tag=true then AE s 4 else if o.kind=15/\v.tag=false then AE s 6 else if o.kind=16/\(v.tag=true\/o.v=At s.sQ) then AE s 6 else
  DE {s with sQ:=s.sQ.set (AN (λv=>decide (v.id=o.v)) s.sQ).toNat {v with tag:=decide (o.kind=14),gone:=decide (o.kind=16)}}
def D6 (s:An) (o:Cy):An×HA:=
 if o.kind=1 then Gg s
 else if EL o.kind then(if (CG s o.s).opn=false then AE s 3 else BM s o (CG s o.s))
 else if o.kind=17 then DE {s with keep:=o.n}
 else if o.kind=18 then(MK s o.n.toNat,⟨0,(CJ s o.n.toNat).length,[]⟩)
 else Ft s o
def ML (a b:An):Bool:=decide (a.keep≠b.keep\/a.sS≠b.sS\/a.sQ≠b.sQ)
def Bo (S:An) (O:List Cy):List AV:=Aj false S++[.ro O.length (Aa AZ O)]
theorem c3:pg.cellsOf 3=1:=AK
theorem c4:pg.cellsOf 4=1:=AK
theorem c9:pg.cellsOf 9=1:=AK
theorem jo:pg.cellsOf 36=1:=AK
theorem nO:pg.cellsOf 22=1:=AK
theorem nP:pg.cellsOf 23=1:=AK
theorem nQ:pg.cellsOf 25=4:=AK
theorem nR:pg.cellsOf 59=2:=AK
theorem nS:pg.cellsOf 32=1:=AK
theorem nT:pg.cellsOf 34=2:=AK
theorem nU:pg.cellsOf 38=6:=AK
theorem nV:pg.cellsOf 26=1:=AK
section
variable {H:Type} {enc:TypeId×Value->H} {w:World}
theorem JW:B4 enc pg w 3 (λn:Int=> [.int .i64 n]) λ_=>True:=B4.int Tryz.underlying3
theorem XE:B4 enc pg w 4 (λb:Bool=> [.bool b]) λ_=>True:=B4.bool Tryz.underlying4
theorem nW:B4 enc pg w 9 (λs:ByteArray=> [.str s]) λs=>s.size<=reachBytes:=uJ Tryz.underlying9
theorem kH:B4 enc pg w 59 Dd λb=>b.data.size<=reachBytes:=
 B4.map (tt Tryz.underlying59 (.cons nW c9 rfl (.cons JW c3 rfl .nil)) AK) (λx=>⟨x.1,x.2.1⟩) zL λ_ h=>h.1
theorem kI:B4 enc pg w 61 As λv=>v.data.data.size<=reachBytes:=
 B4.map (tt Tryz.underlying61 (.cons JW c3 rfl (.cons JW c3 rfl (.cons JW c3 rfl (.cons kH nR rfl (.cons JW c3 rfl (.cons XE c4 rfl (.cons XE c4 rfl .nil))))))) AK) (λx=>⟨x.1,x.2.1,x.2.2.1,x.2.2.2.1,x.2.2.2.2.1,x.2.2.2.2.2.1,x.2.2.2.2.2.2.1⟩) zL λ_ h=>h.2.2.2.1
theorem XF (xs:List Int):Aa (λn:Int=> [AV.int .i64 n]) xs=Ab xs:=by
 induction xs with
 |nil=>rfl
 |cons x xs ih=>simp only[AG,ih];rfl
theorem Ze:B4 enc pg w 36 (λl:List Int=> [DB false l]) λl=>l.length<=reachBytes:=
 B4.map (tI JW Tryz.underlying36 (wC AK)) id (λl=>by rw[XF];rfl) λ_ h=>h.1
theorem VM (xs:List (List Int)):Aa (λl:List Int=> [DB false l]) xs=Ak false xs:=by
 induction xs with
 |nil=>rfl
 |cons x xs ih=>simp only[AG,ih];rfl
theorem kJ:B4 enc pg w 32 (λl:List (List Int)=> [DH false l]) λl=>l.length<=reachBytes/\∀x∈l,x.length<=reachBytes:=
 B4.map (tI Ze Tryz.underlying32 (wC AK)) id (λl=>by rw[VM];rfl) λ_ h=>h
theorem kK:B4 enc pg w 34 (A1 false) λg=>g.out.length<=reachBytes/\∀x∈g.out,x.length<=reachBytes:=
 B4.map (tt Tryz.underlying34 (.cons JW c3 rfl (.cons kJ nS rfl .nil)) AK) (λx=>⟨x.1,x.2.1⟩) zL λ_ h=>h.2.1
theorem kL:B4 enc pg w 38 (BY false) λj=>j.list.length<=reachBytes/\j.out.length<=reachBytes:=
 B4.map (tt Tryz.underlying38 (.cons JW c3 rfl (.cons JW c3 rfl (.cons JW c3 rfl (.cons XE c4 rfl (.cons Ze jo rfl (.cons Ze jo rfl .nil)))))) AK) (λx=>⟨x.1,x.2.1,x.2.2.1,x.2.2.2.1,x.2.2.2.2.1,x.2.2.2.2.2.1⟩) zL λ_ h=>⟨h.2.2.2.2.1,h.2.2.2.2.2.1⟩
theorem kM:B4 enc pg w 40 (Af false) λs=>(s.sT.out.length<=reachBytes/\∀x∈s.sT.out,x.length<=reachBytes)/\s.job.list.length<=reachBytes/\s.job.out.length<=reachBytes:=
 B4.map (tt Tryz.underlying40 (.cons XE c4 rfl (.cons JW c3 rfl (.cons XE c4 rfl (.cons JW c3 rfl (.cons kK nT rfl (.cons kL nU rfl .nil)))))) AK) (λx=>⟨x.1,x.2.1,x.2.2.1,x.2.2.2.1,x.2.2.2.2.1,x.2.2.2.2.2.1⟩) zL λ_ h=>⟨h.2.2.2.2.1,h.2.2.2.2.2.1⟩
theorem kN:B4 enc pg w 22 (λl:List Bn=> [GF false l]) λl=>l.length<=reachBytes/\∀v∈l,v.data.data.size<=reachBytes:=
 B4.map (tI kI Tryz.underlying22 (wC AK)) id zL λ_ h=>h
theorem kO:B4 enc pg w 23 (λl:List B3=> [KV false l]) λl=>l.length<=reachBytes/\∀s∈l,(s.sT.out.length<=reachBytes/\∀x∈s.sT.out,x.length<=reachBytes)/\s.job.list.length<=reachBytes/\s.job.out.length<=reachBytes:=
 B4.map (tI kM Tryz.underlying23 (wC AK)) id zL λ_ h=>h
theorem Gz {n:Nat} (h:n<=reachBytes):n<Gw:=by
 have:=reachBytes_lt;simp only[Gw];omega
theorem kP:B4 enc pg w 25 (Aj false) Ji:=
 B4.map (tt Tryz.underlying25 (.cons JW c3 rfl (.cons JW c3 rfl (.cons kN nO rfl (.cons kO nP rfl .nil)))) AK) (λx=>⟨x.1,x.2.1,x.2.2.1,x.2.2.2.1⟩) zL λ_ h=>
  ⟨Gz h.2.2.1.1,Gz h.2.2.2.1.1,λv hv=>Gz (h.2.2.1.2 v hv),λx hx=>⟨⟨Gz (h.2.2.2.1.2 x hx).1.1,λl hl=>Gz ((h.2.2.2.1.2 x hx).1.2 l hl)⟩,Gz (h.2.2.2.1.2 x hx).2.1,Gz (h.2.2.2.1.2 x hx).2.2⟩⟩
def QX (n:Int):Prop:=-9223372036854775808<=n/\n<=9223372036854775807
theorem ft {n:Int} (h:(Lit.int .i64 n).wf=true):QX n:=by
 have h:=(by simpa[Lit.wf] using h:IntKind.i64.min<=n/\n<=9223372036854775807);exact h
theorem PV:B4 enc pg w 3 (λn:Int=> [.int .i64 n]) λn=>QX n:=B4.map (uD Tryz.underlying3) id zL λn h=>ft h
def VN (o:Cy):Prop:=QX o.kind/\QX o.s/\QX o.v/\QX o.a/\QX o.b/\QX o.n
theorem kQ:B4 enc pg w 42 AZ VN:=
 B4.map (tt Tryz.underlying42 (.cons PV c3 rfl (.cons PV c3 rfl (.cons PV c3 rfl (.cons PV c3 rfl (.cons PV c3 rfl (.cons PV c3 rfl .nil)))))) AK) (λx=>⟨x.1,x.2.1,x.2.2.1,x.2.2.2.1,x.2.2.2.2.1,x.2.2.2.2.2.1⟩) zL λ_ h=>⟨h.1,h.2.1,h.2.2.1,h.2.2.2.1,h.2.2.2.2.1,h.2.2.2.2.2.1⟩
theorem kR:B4 enc pg w 26 (λl:List Cy=> [.ro l.length (Aa AZ l)]) λl=>l.length*48<=reachBytes/\∀o∈l,VN o:=
 B4.map (tV kQ Tryz.underlying26) id zL λl h=>⟨(show pg.bytesOf 42=48 by kernel_rfl) ▸ h.1,h.2⟩
theorem kS:B4 enc pg w 28 (λx:An×List Cy=>Bo x.1 x.2) λx=>Ji x.1/\x.2.length*48<=reachBytes/\∀o∈x.2,VN o:=
 B4.map (tt Tryz.underlying28 (.cons kP nQ rfl (.cons kR nV rfl .nil)) AK) (λx=>⟨x.1,x.2.1⟩) zL λ_ h=>⟨h.1,h.2.1⟩
end
open Go.Proofs Go.ChangeShapes Go.WideShapes Go.ChangeAt Go.RowKit
theorem own0:ownKnob pg.godebug=none:=AK
theorem gS:laidOutB pg=true:=AK
theorem fu:mapsRowed pg=true:=AK
theorem gT:Kids pg (·<pg.types.size):=kids_rows gS fu
theorem gU:∀t e,t<pg.types.size->pg.underlying t=some (.slice e)->0<pg.cellsOf e:=slices_full_of pg AK
theorem gV (w:World):Cp w (Ww w) σ0 (λ_=>none) []:=⟨λT B h=>by simp at h,λ_ _ _=>rfl⟩
theorem GJ.kept {w w' :World} {own' :Nat->Option Nat} (h:GJ w w' (λ_=>none) own'):w.keptBut w' (λ_=>False):=by
 have hb:∀i,i<w.heap.size->w'.heap[i]?=w.heap[i]?:=λi hi=>h.block i hi rfl;refine⟨h.os,h.output,λi hi=>?_⟩;rw[hb i hi];cases hw:w.heap[i]? with
 |none=>trivial
 |some o=>cases o<;>simp
section
variable {H:Type} {enc:TypeId×Value->H}
theorem LF {P:Program} {w w' :World} {base:Nat} {spare:Nat->Bool} {Zj:Bool}:∀{ts:List TypeId} {vs:List Value} {ds:List (DataW H)} {ps:List MemPlace},DataW.TrodAll enc P w base spare Zj ts vs ds ps->(∀p∈ps,w.sameAt w' p)->DataW.TrodAll enc P w' base spare Zj ts vs ds ps
 | [],[],[],_,h,_=>h
 |_::_,_::_,_::_,_,⟨p,q,⟨n,h1⟩,h2,e⟩,hs=>⟨p,q,⟨n,DataW.trod_carry n _ _ _ h1 λx hx=>hs x (by rw[e];exact List.mem_append_left _ hx)⟩,LF h2 (λx hx=>hs x (by rw[e];exact List.mem_append_right _ hx)),e⟩
theorem XG {f:Func} {s:ChangeSpec} {fresh handsOn again:Bool} {W W' :World} {args:Array Value} {v:Value} {ds gs:List (DataW H)} {before:List MemPlace} {own' :Nat->Option Nat}
 (hW:DataW.Whole enc pg f.params.toList s.vars false W args.toList ds gs before) (hT:∀t∈f.params.toList,t<pg.types.size) (hv:s.vars=[]) (hE:GJ W W' (λ_=>none) own') (hs:s.fn H (ds++gs)={results:=[.lit (.bool true)],args:=ds})
 (hr:f.resultTypes= #[4]) (he:v= .bool true):s.post enc pg f false fresh handsOn again W args v W' :=by
 have hold:∀p∈before,(λb=>decide (b<W.heap.size)) p.block=true:=λp hp=>by simpa using hW.lt p hp
 have hlt:=λp hp=>hW.lt p hp;have hW0:=hW;obtain⟨p,q,hA,hV,rfl,hz,hn⟩:=hW;rw[hv] at hV;obtain⟨rfl,rfl⟩:=trodVars_none hV;simp only[vM] at*;have hargs:∀sp:Nat->Bool,(∀x∈p,sp x.block=true)->DataW.TrodAll enc pg W' 0 sp true f.params.toList args.toList ds p:=λsp hsp=>by
  refine DataW.TrodAll.respare gT gU hT ?_ hsp;refine LF hA λx hx=>?_;have hb:=hE.block _ (hlt x hx) rfl;cases x with
  |cell b off=>exact World.cell?_of_block hb
  |map b=>exact hb
 have hres:∀(b:Nat) (sp:Nat->Bool) (hd:Bool),DataW.TrodAll enc pg W' b sp hd f.resultTypes.toList (v.resultList f.resultTypes.size) [.lit (.bool true)] []:=λb sp hd=>by
  subst he;rw[hr];exact trodAll_mk1 (shut_bool Tryz.underlying4 true)
 have hvars:∀sp:Nat->Bool,DataW.TrodVars enc pg W' sp s.vars [] []:=λsp=>by rw[hv];rfl
 refine⟨ds,[],p,[],p,[],by simpa using hW0,?_,?_,?_,World.keptBut_mono (λx hx=>hx.elim) hE.kept,λ_=>?_⟩
 .simp only[vM,hs];exact hres _ _ _
 .simp only[vM,hs];exact hargs _ hold
 .simp only[vM,hs];exact hvars _
 .refine⟨ok_one (P:=pg) (f:=f) (t:=4) hr (by subst he;rfl) (by subst he;exact okWide_bool_mk Tryz.underlying4 true),?_⟩;refine⟨[.lit (.bool true)]++ds,[],[]++p,⟨[]++p,[],?_,hvars _,zS,λb off hp=>?_,λh=>by cases h⟩,λx hx _=>by simpa using hx⟩
  .exact trodAll_append (hargs (λ_=>true) (λ_ _=>rfl)) (hres 0 (λ_=>true) true)
  .have hp' :MemPlace.cell b off∈p:=by simpa using hp
   have:=hz b off hp';rw[World.frozen?_of_block (w:=W) (hE.block _ (hlt _ hp') rfl)];exact this
end
section
variable {H:Type} {enc:TypeId×Value->H}
theorem FB {f:Nat} {fn:Func} {s:ChangeSpec} {fresh handsOn again:Bool} (hp:fn.params= #[28]) (hr:fn.resultTypes= #[4]) (hv:s.vars=[]) (hs:∀(H:Type) (d:DataW H),s.fn H [d]={results:=[.lit (.bool true)],args:=[d]})
 (hc:∀(S:An) (O:List Cy),Ji S->O.length*48<=reachBytes->(∀o∈O,VN o)->Ac pg f [.agg (Bo S O)] [] λr _=>r= .bool true)
 (W:World) (base:Nat) (args:Array Value) (ds gs:List (DataW H)) (before:List MemPlace) (hval:∀(j:Nat) t v,fn.params[j]?=some t->args[j]?=some v->Value.okWide pg W .any base t v)
 (hW:DataW.Whole enc pg fn.params.toList s.vars false W args.toList ds gs before) (hsz:(DataW.weightsEach pg (fn.params.toList++s.plain.varTypes pg) (ds++gs)).all (·<=reachBytes)=true):
 Calls pg f args W λe W' =>∃v,e= .returned v/\s.post enc pg fn false fresh handsOn again W args v W' :=by
 have hW0:=hW;obtain⟨p,q,hA,hV,rfl,hz,hn⟩:=hW;rw[hv] at hV;obtain⟨rfl,rfl⟩:=trodVars_none hV;rw[hp] at hA hval hsz;obtain⟨v0,d0,ha,rfl,fuel,h0⟩:=trodAll_one hA;obtain rfl:args= #[v0]:=by cases args;simp_all
 have hok:=hval 0 28 v0 rfl rfl;unfold Value.okWide at hok;rw[Tryz.underlying28] at hok;obtain⟨cs,rfl,_,_⟩:=hok;obtain⟨⟨S,O⟩,hvr,g1,g2,g3⟩:=kS fuel cs.toList _ h0 (λn hn' =>by
  have:=u1.1 hsz n (DataW.weights_mem_each (j:=0) (t:=28) (d:=d0) rfl rfl n hn');simpa using this)
 refine((hc S O g1 g2 g3).2 W (Ww W) σ0 (λ_=>none) #[.agg cs] (RT ⟨cs,rfl,hvr⟩) (gV W) (λg hg=>⟨rfl,hg⟩)).mono ?_;rintro e W' ⟨r,v,M',σ',own',fpr,rfl,rfl,_,hvv,_,_,_,hE,_⟩;have hvt:v= .bool true:=hvv.1;exact⟨v,rfl,XG hW0 (by rw[hp];intro t ht;simp at ht;subst ht;exact of_decide_eq_true AK) hv hE (by simpa using hs H d0) hr hvt⟩
end
theorem Em (n a b:Int):Ac pg 96 [iN n,iN a,iN b] [] (λr _=>r= .bool (decide (B8 n a b))):=by
 refine zE (fn:=Tryz.f96) [.tmp 6] ?_;rw[A6];refine zs ?_;by_cases h1:a<=n
 .by_cases h2:n<=b
  .refine xQ (an h1 h2) ?_;simp[B8,h1,h2]
  .refine xQ (an h1 h2) ?_;simp[B8,h1,h2]
 .refine xQ h1 ?_;simp[B8,h1]
theorem UK (k:Int):Ac pg 95 [iN k] [] (λr _=>r= .tup [.bool (decide (EL k)),.bool (decide (EY k)),.bool (decide (GU k))]):=by
 refine zE (fn:=Tryz.f95) [.tmp 2,.tmp 3,.tmp 4] ?_;rw[AC];refine yo ?_;refine s5 (λ_:Unit=> [(0,iN k),(2,.bool (decide (EL k)))]) (λ_=> []) (λ_=>True) ?_ ?_
 .by_cases a1:2<=k
  .by_cases a2:k<=13
   .refine zg (an a1 a2) ?_;exact⟨(),trivial,Wk.fr (by simp[AA,EL,B8,a1,a2])⟩
   .refine zg (an a1 a2) ?_;exact⟨(),trivial,Wk.fr (by simp[AA,EL,B8,a1,a2])⟩
  .refine zg a1 ?_;exact⟨(),trivial,Wk.fr (by simp[AA,EL,B8,a1])⟩
 rintro _ _;refine zw ?_;refine s5 (λ_:Unit=> [(0,iN k),(2,.bool (decide (EL k))),(3,.bool (decide (EY k)))]) (λ_=> []) (λ_=>True) ?_ ?_
 .by_cases a1:k=3
  .refine zg a1 ?_;exact⟨(),trivial,Wk.fr (by simp[AA,EY,a1])⟩
  .by_cases a2:13<=k
   .by_cases a3:k<=16
    .refine zg (an a1 (an a2 a3)) ?_;exact⟨(),trivial,Wk.fr (by simp[AA,EY,B8,a1,a2,a3])⟩
    .refine zg (an a1 (an a2 a3)) ?_;exact⟨(),trivial,Wk.fr (by simp[AA,EY,B8,a1,a2,a3])⟩
   .refine zg (an a1 a2) ?_;exact⟨(),trivial,Wk.fr (by simp[AA,EY,B8,a1,a2])⟩
 rintro _ _;by_cases a1:k=7
 .refine xQ a1 ?_;simp[GU,a1]
 .by_cases a2:k=8
  .refine xQ (an a1 a2) ?_;simp[GU,a1,a2]
  .by_cases a3:k=11
   .refine xQ (an a1 (an a2 a3)) ?_;simp[GU,a1,a2,a3]
   .refine xQ (an a1 (an a2 a3)) ?_;simp[GU,a1,a2,a3]
theorem Zf (o:Cy):Ac pg 97 [.agg (AZ o)] [] (λr _=>r= .bool (decide (Gf o))):=by
 refine zE (fn:=Tryz.f97) [.tmp 2] ?_;rw[AC];refine AX ?_;refine y2 ?_;by_cases k6:o.kind=6
 .refine xP k6 ?_;refine yj (Em o.n 0 16) ?_;simp[Gf,k6]
 refine xO k6 ?_;by_cases a1:o.kind=11
 .refine xL a1 ?_;refine yj (Em o.n 0 1000) ?_;simp[Gf,a1]
 refine xO a1 ?_;by_cases a2:o.kind=12
 .refine xL a2 ?_;refine yj (Em o.n 0 1000) ?_;simp[Gf,a2]
 refine xO a2 ?_;by_cases a3:o.kind=18
 .refine xP a3 ?_;refine yj (Em o.n 0 1000) ?_;simp[Gf,a3]
 refine xO a3 ?_;by_cases a4:o.kind=17
 .refine xP a4 ?_;refine yj (Em o.n 1 8) ?_;simp[Gf,a4]
 refine x3 a4 ?_;simp[Gf,k6,a1,a2,a3,a4]
theorem cC (o:Cy):Ac pg 50 [.agg (AZ o)] [] (λr _=>r= .bool (decide (DV o))):=by
 have spN:=UK o.kind;have spM:=Zf o;obtain⟨bs,hbs⟩:∃bs:Bool,bs=decide (EL o.kind):=zX;obtain⟨bv,hbv⟩:∃bv:Bool,bv=decide (EY o.kind):=zX;obtain⟨ba,hba⟩:∃ba:Bool,ba=decide (GU o.kind):=zX;rw[<-hbs,<-hbv,<-hba] at spN;have w1:=Em o.kind 1 18;have w2:=Em o.s 0 2;have w3:=Em o.v 1 1048576;have w4:=Em o.a (-1073741824) 1073741824;have w5:=Em o.b (-1073741824) 1073741824;have w6:=Em o.a 1 6;refine zE (fn:=Tryz.f50) [.tmp 2] ?_;rw[AC];refine AX ?_;refine AL spN ?_;refine zb ?_;by_cases c1:B8 o.kind 1 18;rotate_left
 .rw[zV c1] at w1;refine AL w1 ?_;refine AJ ?_;simp[DV,c1]
 rw[zT c1] at w1;by_cases c2:Gf o;rotate_left
 .rw[zV c2] at spM;refine Hm w1 spM ?_;refine AJ ?_;simp[DV,c2]
 rw[zT c2] at spM;refine Hm w1 spM ?_;refine zn ?_;refine zw ?_;refine s5 (λ_:Unit=> [(1,pt 0),(3,.bool bs),(4,.bool bv),(5,.bool ba),(23,.bool (decide (¬(if EL o.kind then B8 o.s 0 2 else o.s=0))))]) (λ_=> [lv (AZ o)]) (λ_=>True) ?_ ?_
 .cases bs
  .have hb:¬EL o.kind:=of_decide_eq_false hbs.symm;by_cases c3:o.s=0
   .refine zg c3 ?_;exact⟨(),trivial,sU (k:=1) (by simp[AA,hb,c3]) (by simp[c3]) zS zS zS zS⟩
   .refine zg c3 ?_;exact⟨(),trivial,sU (k:=1) (by simp[AA,hb,c3]) (by simp[c3]) zS zS zS zS⟩
  .have hb:EL o.kind:=of_decide_eq_true hbs.symm;refine z0 ?_;intro K hK;refine sW w2 (by simp) (by simp) ?_;by_cases c3:B8 o.s 0 2
   .rw[zT c3];refine Am ?_;exact⟨(),trivial,sU (k:=1) (by simp[AA,hb,c3]) (by simp[c3]) zS zS zS zS⟩
   .rw[zV c3];refine Am ?_;exact⟨(),trivial,sU (k:=1) (by simp[AA,hb,c3]) (by simp[c3]) zS zS zS zS⟩
 rintro _ _;by_cases c3:if EL o.kind then B8 o.s 0 2 else o.s=0
 rotate_left
 .rw[zT c3];refine AJ ?_;exact λh=>c3 h.2.2.1
 rw[zV (λh=>h c3)];refine zn ?_;refine zw ?_;refine s5 (λ_:Unit=> [(1,pt 0),(5,.bool ba),(40,.bool (decide (¬(if EY o.kind then B8 o.v 1 1048576 else o.v=0))))]) (λ_=> [lv (AZ o)]) (λ_=>True) ?_ ?_
 .cases bv
  .have hb:¬EY o.kind:=of_decide_eq_false hbv.symm;by_cases c4:o.v=0
   .refine zg c4 ?_;exact⟨(),trivial,sU (k:=1) (by simp[AA,hb,c4]) (by simp[c4]) zS zS zS zS⟩
   .refine zg c4 ?_;exact⟨(),trivial,sU (k:=1) (by simp[AA,hb,c4]) (by simp[c4]) zS zS zS zS⟩
  .have hb:EY o.kind:=of_decide_eq_true hbv.symm;refine z0 ?_;intro K hK;refine sW w3 (by simp) (by simp) ?_;by_cases c4:B8 o.v 1 1048576
   .rw[zT c4];refine Am ?_;exact⟨(),trivial,sU (k:=1) (by simp[AA,hb,c4]) (by simp[c4]) zS zS zS zS⟩
   .rw[zV c4];refine Am ?_;exact⟨(),trivial,sU (k:=1) (by simp[AA,hb,c4]) (by simp[c4]) zS zS zS zS⟩
 rintro _ _;by_cases c4:if EY o.kind then B8 o.v 1 1048576 else o.v=0
 rotate_left
 .rw[zT c4];refine AJ ?_;exact λh=>c4 h.2.2.2.1
 rw[zV (λh=>h c4)];refine zn ?_;cases ba
 .have hb:¬GU o.kind:=of_decide_eq_false hba.symm;have e:DV o↔(o.a=0/\o.b=0):=by unfold DV;rw[zM hb];exact⟨λh=>h.2.2.2.2,λh=>⟨c1,c2,c3,c4,h⟩⟩
  refine y3 ?_;by_cases c5:o.a=0
  .by_cases c6:o.b=0
   .refine xQ (an c5 c6) ?_;simp[e,c5,c6]
   .refine xQ (an c5 c6) ?_;simp[e,c5,c6]
  .refine xQ c5 ?_;simp[e,c5]
 .have hb:GU o.kind:=of_decide_eq_true hba.symm;have e:DV o↔(B8 o.a (-1073741824) 1073741824/\B8 o.b (-1073741824) 1073741824/\(o.kind=11->B8 o.a 1 6)):=by unfold DV;rw[zP hb];exact⟨λh=>h.2.2.2.2,λh=>⟨c1,c2,c3,c4,h⟩⟩
  refine xY ?_;intro K hK;refine sW w4 (by simp) (by simp) ?_;by_cases c5:B8 o.a (-1073741824) 1073741824;rotate_left
  .rw[zV c5];refine xU ?_;simp[e,c5]
  rw[zT c5];refine zx ?_;refine sW w5 (by simp) (by simp) ?_;by_cases c6:B8 o.b (-1073741824) 1073741824;rotate_left
  .rw[zV c6];refine xU ?_;simp[e,c5,c6]
  rw[zT c6];by_cases c7:o.kind=11
  .refine AO c7 ?_;refine sW w6 (by simp) (by simp) ?_;refine xK c7 ?_;refine zr ?_;simp[e,c5,c6,c7]
  .refine xK c7 ?_;refine zr ?_;simp[e,c5,c6,c7]
theorem Pk (g:Gr) (j:B7):(A8 g j).kind=j.kind/\(A8 g j).a=j.a:=by
 unfold A8;simp only
 repeat' split
 all_goals exact⟨rfl,rfl⟩
theorem UL {g:Gr} (hg:AP g) (j:B7):∀(k:Nat) (x:B7),GO g x<k->Gu g x->FU g j x=true->Gu g j/\(BX g j=false->FU g (A8 g j) x=true)
 |0,x,h,_,_=>zO
 |k+1,x,hk,hx,h=>by
  by_cases e:x=j
  .subst e;refine⟨hx,λho=>?_⟩;by_cases e2:x=A8 g x
   .exact IV e2
   .rw[Kw hg hx e2 ho];exact IV rfl
  .cases ho:BX g x with
   |true=>rw[Mq e ho] at h;cases h
   |false=>
    rw[Kw hg hx e ho] at h;obtain⟨h1,h2⟩:=HM hg hx ho;obtain⟨i1,i2⟩:=UL hg j k (A8 g x) zO h1 h;refine⟨i1,λhj=>?_⟩;by_cases e2:x=A8 g j
    .exact IV e2
    .rw[Kw hg hx e2 ho];exact i2 hj
theorem Ir {g:Gr} {j:B7} (hg:AP g) (h:Ct g j=true):Gu g j/\(BX g j=false->Ct g (A8 g j)=true):=by
 rw[HN,uU,decide_eq_true_eq] at h;obtain⟨i1,i2⟩:=UL hg j _ _ (Nat.lt_succ_self _) (Lh hg h.1) h.2;refine⟨i1,λho=>?_⟩;rw[HN,(Pk g j).1,(Pk g j).2,uU,decide_eq_true_eq];exact⟨h.1,i2 ho⟩
theorem Lt {g:Gr} {k a:Int} (hg:AP g) (h:DO g k a=0):Ct g (B9 g k a)=true:=by
 have e:DO g k (B9 g k a).a=0:=by
  unfold B9;simp only;split
  .exact h
  .rename_i hn;unfold DO at h |-;split at h
   .omega
   .rw[zM (by assumption),zM (λc=>hn c.1)]
 have e2:B9 g k (B9 g k a).a=B9 g k a:=by
  unfold B9;simp only;split
  .rfl
  .rename_i hn;have h4:k≠4:=λc=>hn (by subst c;rfl);simp[hn,h4]
 rw[HN,uU,decide_eq_true_eq];exact⟨e,by rw[show(B9 g k a).kind=k from rfl,e2];exact IV rfl⟩
theorem KD {g:Gr} (hg:AP g):∀(n:Nat) (j:B7),Ct g j=true->Ct g (DU g n j)=true
 |0,j,h=>h
 |n+1,j,h=>by
  unfold DU;split
  .exact h
  .rename_i ho;exact KD hg n _ ((Ir hg h).2 (xl.2 ho))
theorem MN:∀(l:List (List Int)) (i:Nat) (x:List Int) (h:i<l.length),Br (l.set i x)+l[i].length=Br l+x.length
 |y::l,0,x,_=>by simp[Br];omega
 |y::l,i+1,x,h=>by
  have:=MN l i x (by simpa using h);simp[Br] at this |-;omega
theorem XH (xs ys:List (List Int)):Br (xs++ys)=Br xs+Br ys:=by simp[Br]
theorem VO (n:Nat):Br (uP n [])=0:=by
 induction n with
 |zero=>rfl
 |succ n ih=>simp[Br,vO]
theorem Jo:∀(l:List Int) (b:Int),l.Pairwise (·<·)->D2 l b<=l.length/\(∀x∈l.take (D2 l b),x<b)/\∀x∈l.drop (D2 l b),b<=x
 | [],b,_=>by simp[D2]
 |y::l,b,h=>by
  rw[vP] at h;obtain⟨i0,i1,i2⟩:=Jo l b h.2;unfold D2 at i0 i1 i2 |-;by_cases c:y<b
  .rw[List.takeWhile_cons_of_pos (by simpa using c)];simp only[vA,List.take_succ_cons,List.drop_succ_cons,vL];exact⟨zO,λx hx=>hx.elim (λe=>e ▸ c) (i1 x),i2⟩
  .rw[List.takeWhile_cons_of_neg (by simpa using c)];simp only[List.length_nil,List.take_zero,List.drop_zero,vL];exact⟨Nat.zero_le _,λx hx=>by simp at hx,λx hx=>hx.elim (λe=>zO) (λm=>by have:=h.1 x m;omega)⟩
theorem XI {l:List Int} {b:Int} (h:l.Pairwise (·<·)) (hb:b∈l):∃hk:D2 l b<l.length,l[D2 l b]=b:=by
 obtain⟨i0,i1,i2⟩:=Jo l b h;rw[<-vJ (D2 l b) l,vd] at hb;rcases hb with hb|hb
 .have:=i1 b hb;omega
 .have hk:D2 l b<l.length:=by
   rcases uY (D2 l b) l.length with c|c
   .exact c
   .rw[List.drop_eq_nil_of_le c] at hb;cases hb
  refine⟨hk,?_⟩;rw[uX hk,vL] at hb;rcases hb with e|e
  .exact e.symm
  .have h1:(l.drop (D2 l b)).Pairwise (·<·):=h.sublist (List.drop_sublist _ _);rw[uX hk,vP] at h1;have:=h1.1 b e;have:=i2 l[D2 l b] (by rw[uX hk];exact List.mem_cons_self);omega
theorem Zg {l:List Int} {b:Int} (h:AU l) (hb:0<=b/\b<16) (hn:¬b∈l):AU (DA l b)/\(DA l b).length=l.length+1/\∀x∈DA l b,x∈l\/x=b:=by
 obtain⟨i0,i1,i2⟩:=Jo l b h.2;have hm:∀x∈DA l b,x∈l\/x=b:=λx hx=>by
  simp only[DA,vd,vL] at hx;rcases hx with hx|rfl|hx
  .exact .inl (wh hx)
  .exact .inr rfl
  .exact .inl (wH hx)
 refine⟨⟨λx hx=>(hm x hx).elim (h.1 x) (λe=>e ▸ hb),?_⟩,by simp[DA];omega,hm⟩;have h2:∀x∈l.drop (D2 l b),b<x:=λx hx=>by
  have:=i2 x hx;have:x≠b:=λe=>hn (e ▸ wH hx);omega
 unfold DA;rw[List.pairwise_append,vP];refine⟨h.2.sublist (List.take_sublist _ _),⟨h2,h.2.sublist (List.drop_sublist _ _)⟩,λx hx y hy=>?_⟩;have:=i1 x hx;rcases vL.1 hy with rfl|hy
 .exact this
 .have:=h2 y hy;omega
theorem Zh {l:List Int} (b:Int) (h:AU l):AU (DQ l b)/\(DQ l b).length<=l.length/\∀x∈DQ l b,x∈l:=by
 have hs:(DQ l b).Sublist l:=by unfold DQ;rw[<-List.eraseIdx_eq_take_drop_succ];exact List.eraseIdx_sublist _ _
 exact⟨⟨λx hx=>h.1 x (hs.mem hx),h.2.sublist hs⟩,hs.length_le,λx hx=>hs.mem hx⟩
theorem Zi {g:Gr} {n:Int} (hg:AP g) (h0:0<=n) (h:(GI g n).2=0):AP (GI g n).1:=by
 obtain⟨a1,a2,a3,a4,a5⟩:=hg;unfold GI at h |-;split
 .rename_i c;rw[zP c] at h;simp at h
 .refine⟨by simp only;omega,by simp only;omega,Ao,λl hl=>?_,by rw[XH,VO];omega⟩;rcases vd.1 hl with hl|hl
  .exact⟨(a4 l hl).1,λx hx=>by have:=(a4 l hl).2 x hx;simp only;omega⟩
  .rw[(List.mem_replicate.1 hl).2];exact⟨⟨λx hx=>by simp at hx,.nil⟩,λx hx=>by simp at hx⟩
theorem UM {g:Gr} {a:Int} {l:List Int} (hg:AP g) (ha:DC g a) (hl:AU l) (hx:∀x∈l,x<g.n) (he:Br (g.out.set a.toNat l)<=120):AP ⟨g.n,g.out.set a.toNat l⟩:=by
 obtain⟨a1,a2,a3,a4,a5⟩:=hg;refine⟨a1,a2,by simpa using a3,λy hy=>?_,he⟩;rcases vX hy with hy|rfl
 .exact a4 y hy
 .exact⟨hl,hx⟩
theorem Td {g:Gr} {a:Int} (hg:AP g) (ha:DC g a):∃h:a.toNat<g.out.length,AF g a=g.out[a.toNat]:=by
 have h3:=hg.2.2.1;have:a.toNat<g.out.length:=by have:=ha.1;have:=ha.2;omega
 exact⟨this,by unfold AF;rw[vf,uT this];rfl⟩
theorem cD {g:Gr} {a b:Int} (hg:AP g) (h:(HT g a b).2=0):AP (HT g a b).1:=by
 unfold HT at h |-;split
 .rename_i c;rw[zP c] at h;simp at h
 rename_i c1;rw[zM c1] at h;have c1:=wG.1 c1;split
 .rename_i c;rw[zP c] at h;simp at h
 rename_i c2;rw[zM c2] at h;split
 .rename_i c;rw[zP c] at h;simp at h
 rename_i c3;obtain⟨hk,e⟩:=Td hg c1.1;have hm:=hg.2.2.2.1 _ (uQ hk);have hbn:0<=b/\b<g.n:=c1.2;have hg2:=hg.2.1;obtain⟨m1,m2,m3⟩:=Zg (b:=b) (e ▸ hm.1) zO (by simpa using c2);refine UM hg c1.1 m1 (λx hx=>?_) ?_
 .rcases m3 x hx with hx|rfl
  .exact hm.2 x (e ▸ hx)
  .omega
 .have:=MN g.out a.toNat (DA (AF g a) b) hk;rw[m2,e] at this;rw[e];omega
theorem cE {g:Gr} {a b:Int} (hg:AP g) (h:(Hu g a b).2=0):AP (Hu g a b).1:=by
 unfold Hu at h |-;split
 .rename_i c;rw[zP c] at h;simp at h
 rename_i c1;rw[zM c1] at h;have c1:=wG.1 c1;split
 .rename_i c;rw[zP c] at h;simp at h
 obtain⟨hk,e⟩:=Td hg c1.1;have hm:=hg.2.2.2.1 _ (uQ hk);obtain⟨m1,m2,m3⟩:=Zh b (e ▸ hm.1);refine UM hg c1.1 m1 (λx hx=>hm.2 x (e ▸ m3 x hx)) ?_;have:=MN g.out a.toNat (DQ (AF g a) b) hk;have:=hg.2.2.2.2;rw[e] at*;omega
theorem KE {s:An} {i:Int} {x:B3} (h:A2 s) (hx:AQ s (Ae s) x):A2 (Ch s i x):=by
 obtain⟨⟨w,l,g,a⟩,p⟩:=h;refine⟨⟨w,by simpa[Ch] using l,g,λy hy=>?_⟩,p⟩;rcases vX hy with hy|rfl
 .exact a y hy
 .exact hx
theorem Is {s:An} {i:Int} (h:A2 s) (hi:B8 i 0 2):∃hk:i.toNat<s.sR.length,CG s i=s.sR[i.toNat]/\AQ s (Ae s) (CG s i):=by
 have hl:=h.1.2.1;have hk:i.toNat<s.sR.length:=by have:=hi.1;have:=hi.2;omega
 have e:CG s i=s.sR[i.toNat]:=by unfold CG;rw[vf,uT hk];rfl
 exact⟨hk,e,by rw[e];exact h.1.2.2.2 _ (uQ hk)⟩
theorem D4 (s:An) (id:Int):AP (Cf s id):=by
 unfold Cf;split
 .exact⟨zD,zD,rfl,(λl hl=>by cases hl),zD⟩
 .exact Da _ _
def gW (v:Bn):Bn:={v with tag:=false}
def gX (v:Bn):Bn:={v with tag:=true,gone:=false}
def ss (s:An):An:=⟨1,100,s.sQ.map gW,[BU,BU,BU]⟩
def Zj (s:An):An:=⟨1,100,s.sQ.map gX,[BU,BU,BU]⟩
theorem CK {s:An} {l:List Obj} {x:B3} (ho:x.opn=true):AQ s l x↔(x.pin=0\/∃v∈s.sQ,v.id=x.pin)/\(if x.on=true then 0<=x.frm/\x.frm<=At s.sQ/\AP x.sT else x.frm=0/\x.sT=Az)/\
 (x.job=A3\/(x.pin≠0/\Ct (AT l x.pin).1 x.job=true/\BX (AT l x.pin).1 x.job=false)):=by
 unfold AQ;rw[zM (by rw[ho];simp)]
theorem XJ {s:An} {o:Obj} {p:Int} (h:A2 s) (hne:(Du s o p).2≠1):Du s o p=Fz s o p:=by
 have e:N8 s o p=Du s o p:=by unfold N8;rw[zP h]
 obtain⟨a,b⟩:=S4 s o p h;by_cases c:KC s o p
 .rw[<-e];exact a c
 .have:=b c;rw[e] at this;rw[this] at hne;exact absurd rfl hne
theorem fv {s:An} (h:A2 s):0<=At s.sQ:=by
 have:=QS h.1.1.2.2.2.2.2.2;omega
theorem Nk {s:An} {id:Int} (h:A2 s) (hv:(Bf s.sQ).contains id=true):∃k,∃hk:k<s.sQ.length,AN (λv=>decide (v.id=id)) s.sQ=(k:Int)/\s.sQ[k].id=id/\s.sQ[k].gone=false:=by
 have hm:id∈Bf s.sQ:=by simpa using hv
 unfold Bf at hm;obtain⟨v,hu,rfl⟩:=List.mem_map.1 hm;obtain⟨hw,hg⟩:=List.mem_filter.1 hu;obtain⟨k,hk,rfl⟩:=List.getElem_of_mem hw;exact⟨k,hk,UE h.1.1.2.2.2.2.2.2 hk,rfl,by simpa using hg⟩
theorem cF {s:An} {k:Nat} (h:A2 s) (hk:k<s.sQ.length) {t g:Bool} (h1:¬(t=true/\g=true)) (h2:g=true->s.sQ[k].id≠At s.sQ):A2 {s with sQ:=s.sQ.set k {s.sQ[k] with tag:=t,gone:=g}}:=by
 obtain⟨⟨⟨a1,a2,a3,a4,a5,a6,a7⟩,b,c,d⟩,p⟩:=h;have eo:Ae {s with sQ:=s.sQ.set k {s.sQ[k] with tag:=t,gone:=g}}=Ae s:=by
  unfold Ae;refine wk λi=>?_;simp only[wa,wl];split
  .rename_i e;subst e;simp[hk,B2]
  .rfl
 have ep:AD {s with sQ:=s.sQ.set k {s.sQ[k] with tag:=t,gone:=g}}=AD s:=by
  unfold AD;refine wk λi=>?_;simp only[wa,wl];split
  .rename_i e;subst e;simp[hk]
  .rfl
 have ei:∀j,(∃v∈s.sQ,v.id=j)->∃v∈s.sQ.set k {s.sQ[k] with tag:=t,gone:=g},v.id=j:=λj ⟨v,hv,e⟩=>by
  obtain⟨i,hi,rfl⟩:=List.getElem_of_mem hv;refine⟨(s.sQ.set k {s.sQ[k] with tag:=t,gone:=g})[i]'(by simpa using hi),uQ _,?_⟩;rw[List.getElem_set];split
  .rename_i e2;subst e2;exact e
  .exact e
 have el:At (s.sQ.set k {s.sQ[k] with tag:=t,gone:=g})=At s.sQ:=by
  unfold At;rw[vV,vV,vS,wl];by_cases e:k=s.sQ.length-1
  .rw[zP e,zP hk,<-e,uT hk]
  .rw[zM e]
 refine⟨⟨⟨a1,a2,a3,a4,λv hv=>?_,?_,eo ▸ a7⟩,b,by rw[eo];exact c,λx hx=>?_⟩,ep ▸ p⟩
 .rcases vX hv with hv|rfl
  .exact a5 v hv
  .have:=a5 _ (uQ hk);exact⟨this.1,this.2.1,h1⟩
 .unfold DP at a6 |-;rw[vV] at a6 |-;simp only[vS];rw[wl];by_cases e:k=s.sQ.length-1
  .rw[zP e,zP hk];simp only;cases g with
   |false=>rfl
   |true=>
    refine absurd ?_ (h2 rfl);unfold At;rw[vV,<-e];simp[hk]
  .rw[zM e];exact a6
 .have hd:=d x hx;rw[eo];unfold AQ at hd |-;simp only;rw[el];split
  .rename_i c1;rw[zP c1] at hd;exact hd
  .rename_i c1;rw[zM c1] at hd;exact⟨hd.1.imp id (ei _),hd.2⟩
theorem XK {s:An} {o:Cy} (h:A2 s) (hi:B8 o.s 0 2) (ho:(CG s o.s).opn=true) (hn:(CG s o.s).on=true):A2 (E3 s o (CG s o.s)).1:=by
 obtain⟨hk,e,hs⟩:=Is h hi;rw[CK ho,zP hn] at hs;unfold E3;split
 .exact h
 rename_i c1;have c1:=wG.1 c1;split
 .exact h
 rename_i c2;have c2:=wG.1 c2;rw[c1] at c2 |-;rcases MH h hs.2.1.2.2 c2 with m| ⟨a,m,m2,_⟩
 .rw[m];simp only[zP (show(5:Int)≠0 by decide)];exact h
 .rw[m,zM zS];refine KE m2 ?_;obtain⟨o1,ho1⟩:∃o1,o1=(BP (Ae s) (At s.sQ) (CG s o.s).sT).1:=zX;rw[<-ho1] at m m2 |-;have hx:=m2.1.2.2.2 (CG s o.s) (by show _∈s.sR;rw[e];exact uQ hk);rw[CK ho] at hx;exact(CK (by exact ho)).2 ⟨hx.1,zS,hx.2.2⟩
theorem Te {s:An} {o:Cy} {j:B7} (h:A2 s) (hi:B8 o.s 0 2) (ho:(CG s o.s).opn=true) (hp:(CG s o.s).pin≠0) (hj:Ct (Cf s (CG s o.s).pin) j=true):A2 (DK s o (CG s o.s) j).1:=by
 obtain⟨hk,e,hs⟩:=Is h hi;rw[CK ho] at hs;unfold DK;split
 .exact KE h ((CK (by exact ho)).2 ⟨hs.1,hs.2.1,.inl rfl⟩)
 .rename_i c;refine KE h ?_;have:=KD (D4 s _) o.n.toNat j hj;refine(CK (by exact ho)).2 ⟨hs.1,hs.2.1,.inr ⟨hp,?_,?_⟩⟩
  .simpa[Cf,hp] using this
  .simpa[Cf,hp] using c
theorem cG {s:An} {o:Cy} (h:A2 s) (hO:DV o) (hi:B8 o.s 0 2) (ho:(CG s o.s).opn=true):A2 (BM s o (CG s o.s)).1:=by
 obtain⟨hk,e,hs⟩:=Is h hi;rw[CK ho] at hs;have hput:∀x:B3,AQ s (Ae s) x->A2 (Ch s o.s x):=λx hx=>KE h hx;unfold BM;simp only[DE,AE];by_cases k2:o.kind=2
 .rw[zP k2];exact hput _ (by unfold AQ;simp[BU])
 rw[zM k2];by_cases k3:o.kind=3
 .rw[zP k3];split
  .exact h
  rename_i c3;split
  .exact h
  rename_i c4;obtain⟨k,hk,_,e1,_⟩:=Nk h (by simpa using c4);have c3:=wG.1 c3;exact hput _ ((CK (by exact ho)).2 ⟨.inr ⟨_,uQ hk,e1⟩,hs.2.1,.inl (hs.2.2.resolve_right λc=>c.1 c3)⟩)
 rw[zM k3];by_cases k4:o.kind=4
 .rw[zP k4];split
  .exact h
  exact hput _ ((CK (by exact ho)).2 ⟨.inl rfl,hs.2.1,.inl rfl⟩)
 rw[zM k4];by_cases k5:o.kind=5
 .rw[zP k5];split
  .exact h
  exact hput _ ((CK (by exact ho)).2 ⟨hs.1,by simp only[if_true];exact⟨fv h,wM _,D4 _ _⟩,hs.2.2⟩)
 rw[zM k5];by_cases k11:o.kind=11
 .rw[zP k11];split
  .exact h
  rename_i c1;split
  .exact h
  rename_i c2;exact Te h hi ho c1 (Lt (D4 s _) (wG.1 c2))
 rw[zM k11];by_cases k12:o.kind=12
 .rw[zP k12];split
  .exact h
  rename_i c1;have:=hs.2.2.resolve_left c1;refine Te h hi ho this.1 ?_;unfold Cf;rw[zM this.1];exact this.2.1
 rw[zM k12];by_cases k13:o.kind=13
 .rw[zP k13]
  repeat' split
  all_goals exact h
 rw[zM k13];split
 .exact h
 rename_i c1;have hon:(CG s o.s).on=true:=by simpa using c1
 rw[zP hon] at hs;split
 .exact hput _ ((CK (by exact ho)).2 ⟨hs.1,zS,hs.2.2⟩)
 split
 .exact XK h hi ho hon
 split
 .exact h
 rename_i c4;have c4:=wG.1 c4;refine hput _ ((CK (by exact ho)).2 ⟨hs.1,?_,hs.2.2⟩);simp only[hon,if_true];refine⟨hs.2.1.1,hs.2.1.2.1,?_⟩;unfold Jn at c4 |-;split
 .rename_i c5;rw[zP c5] at c4;refine Zi hs.2.1.2.2 ?_ c4;have:=hO.2.1;unfold Gf at this;rw[zP c5] at this;exact this.1
 .rename_i c5;rw[zM c5] at c4;split
  .rename_i c6;rw[zP c6] at c4;exact cD hs.2.1.2.2 c4
  .rename_i c6;rw[zM c6] at c4;exact cE hs.2.1.2.2 c4
theorem Tf {s:An} {o:Cy} (h:A2 s) (hO:DV o):A2 (D6 s o).1:=by
 unfold D6;split
 .unfold Gg;split
  .rename_i i hi;have:A2 (Ch s (i:Int) {BU with opn:=true}):=KE h (by rw[CK rfl];exact⟨.inl rfl,by simp[BU],.inl rfl⟩);simpa[Ch] using this
  .exact h
 split
 .rename_i c;have hi:=hO.2.2.1;rw[zP c] at hi;split
  .exact h
  .rename_i c2;exact cG h hO hi (by simpa using c2)
 split
 .rename_i c;have hn:=hO.2.1;unfold Gf at hn;rw[zM zO,zM zO,zP c] at hn;obtain⟨⟨⟨a1,a2,a3⟩,b⟩,p⟩:=h;exact⟨⟨⟨hn.1,hn.2,a3⟩,b⟩,p⟩
 split
 .exact XD h _
 .unfold Ft;split
  .exact h
  rename_i c;obtain⟨k,hk,e1,e2,e3⟩:=Nk h (by simpa using c);rw[e1];simp only[vE,uT hk];split
  .exact h
  split
  .exact h
  split
  .exact h
  .rename_i c1 c2 c3;refine cF h hk Ao λhg=>?_;rw[decide_eq_true_eq] at hg;rw[e2];exact λc=>c3 ⟨hg,.inr c⟩
theorem Zk {xs:List Int} {i:Nat} (h:i<xs.length):(uP i (-99)++xs.drop i).set i (-99)=uP (i+1) (-99:Int)++xs.drop (i+1):=by
 rw[vz _ _ zS,wQ,wp,uX h,vQ,wJ];simp
theorem JX (xs:List Int) (u:Nat) (hx:xs.length<1000000000):Ac pg 36 [.tok 0 u 1 0 xs.length] [.live u (Ab xs)] (λr M=>r= .tup []/\M=[.live u (Ab (uP xs.length (-99)))]):=by
 refine zE (fn:=Tryz.f36) [] ?_;rw[AC];refine xR ?_;refine sV (λi:Nat=> [(0,.tok 0 u 1 0 xs.length),(2,iN i)]) (λi=> [.live u (Ab (uP i (-99)++xs.drop i))]) (λi=>xs.length-i) (λi=>i<=xs.length) 0 (Wk.fr zK) zS ?_;intro i hi;by_cases c1:i<xs.length
 .have hset:=Zk c1;obtain⟨l,hl⟩:∃l,l=uP i (-99)++xs.drop i:=zX;have hll:l.length=xs.length:=by rw[hl];simp;omega
  rw[<-hl] at hset |-;refine xL c1 ?_;refine BS (an c1 hll) ?_;intro K hK;refine⟨zO,?_⟩;refine zk ?_;rw[Eu,hset];refine zs ?_;exact⟨i+1,zO,zO,Wk.fr zK⟩
 .have:i=xs.length:=zO;subst this;refine th c1 ?_;(try simp only[BN,Cn,CB,CC,if_true]);refine Fw (d:=0) ?_;simp -implicitDefEqProofs (disch:=omega)
@[simp] theorem mW (n:Nat):C6 (uP n (AV.own 1 0 []))=true:=by
  induction n with
  |zero=>rfl
  |succ n ih=>rw[vO,C6,ih];rfl
def FY (i:Nat) (xs:List (List Int)):List AV:=uP i (.own 1 0 [])++Ak true (xs.drop i)
theorem XL {i:Nat} {xs:List (List Int)} (h:i<=xs.length):(FY i xs).length=xs.length:=by simp[FY,Ak];omega
theorem Zl {i:Nat} {xs:List (List Int)} (h:i<xs.length):(FY i xs)[i]?=some (.own 1 xs[i].length (Ab xs[i])):=by
 rw[FY,vj zS,wQ,wp,uX h];simp only[Ak,wj,List.getElem?_cons_zero,DB,aZ]
theorem XM {i:Nat} {xs:List (List Int)} (h:i<xs.length):(FY i xs).set i (.own 1 0 [])=FY (i+1) xs:=by
 rw[FY,FY,vz _ _ zS,wQ,wp,uX h,wJ];simp only[Ak,wj,vQ,uZ,vF,vU]
theorem XN (xs:List (List Int)):FY xs.length xs=uP xs.length (.own 1 0 []):=by simp[FY,Ak]
@[simp] theorem kT (i n:Nat) (xs:List (List Int)):D5 n (FY i xs)=true:=by
  rw[FY,T6];have:D5 n (uP i (AV.own 1 0 []))=true:=by rw[IS];simp[Iz]
  simp[this]
theorem Zm (xs:List (List Int)) (g u:Nat) (n:Int) (hx:xs.length<1000000000) (hxs:∀l∈xs,l.length<1000000000):Ac pg 74 [.agg [iN n,.tok 0 u 1 0 xs.length]] [.live u (Ak true xs)] (λr M=>r= .tup []/\M=[.live u (uP xs.length (.own 1 0 []))]):=by
 refine zE (fn:=Tryz.f74) [] ?_;rw[AC];refine AX ?_;refine xR ?_;refine sV (λi:Nat=> [(1,pt 1),(2,iN i)]) (λi=> [.live u (FY i xs),lv [iN n,.tok 0 u 1 0 xs.length]]) (λi=>xs.length-i) (λi=>i<=xs.length) 0 (sU (k:=2) zK (by simp[FY]) zS zS zS zS) zS ?_;intro i hi;by_cases c1:i<xs.length
 .have hll:=XL (Nat.le_of_lt c1);have hat:=Zl c1;have hset:=XM c1;obtain⟨l,hl⟩:∃l,l=FY i xs:=zX;rw[<-hl] at hset hll hat |-;refine xL c1 ?_;refine W.weak (te (B:=0) (v:=u) (j:=i) (s:=1) (n:=xs[i].length) (xs:=Ab xs[i]) (by simp[Ah]) hat) ?_;have hin:=hxs _ (uQ c1);have hcell:(l.set i (.tok 2 0 1 0 xs[i].length))[i]?=some (.tok 2 0 1 0 xs[i].length):=uO zO;refine BS (an c1 (an hll hcell)) ?_;intro K hK;refine sZ [2] (JX xs[i] 0 hin) zS zS zS zS ?_;rintro r M ⟨rfl,rfl⟩ _;refine Am ?_;refine BS (an c1 hll) ?_;intro K hK;refine⟨zO,?_⟩;refine zk ?_;rw[hset];refine zs ?_;exact⟨i+1,zO,zO,sU (k:=2) zK zS zS zS zS zS⟩
 .have:i=xs.length:=zO;subst this;refine th c1 ?_;(try simp only[BN,Cn,CB,CC,if_true]);refine Fw (d:=0) ?_;simp -implicitDefEqProofs (disch:=omega);rw[XN];exact⟨by simp[E0,-LZ],rfl⟩
theorem fw (k a t:Int) (b:Bool) (xs ys:List Int) (u v:Nat) (hx:xs.length<1000000000) (hy:ys.length<1000000000):Ac pg 75 [.agg [iN k,iN a,iN t,.bool b,.tok 0 u 1 0 xs.length,.tok 1 v 1 0 ys.length]] [.live u (Ab xs),.live v (Ab ys)] (λr M=>r= .tup []/\M=[.live u (Ab (uP xs.length (-99))),.live v (Ab (uP ys.length (-99)))]):=by
 refine zE (fn:=Tryz.f75) [] ?_;rw[AC];refine yg ?_;intro K hK;refine sZ [0] (JX xs u hx) zS zS zS zS ?_;rintro r M ⟨rfl,rfl⟩ _;refine Am ?_;refine z0 ?_;intro K hK;refine sZ [1] (JX ys v hy) zS zS zS zS ?_;rintro r M ⟨rfl,rfl⟩ _;refine Am ?_;(try simp only[BN,Cn,CB,CC,if_true]);refine Fw (d:=0) ?_;simp -implicitDefEqProofs (disch:=omega)
def VP:Bn:=⟨-9,0,0,⟨ByteArray.empty,0⟩,0,false,false⟩
def Tg:B3:=⟨false,-9,false,0,⟨0,[]⟩,⟨0,0,0,false,[],[]⟩⟩
def NM (k:Nat) (l:List Bn):List Bn:=uP k VP++l.drop k
def LG (k:Nat) (l:List B3):List B3:=uP k Tg++l.drop k
theorem cH {l:List Bn} {k:Nat} (h:k<l.length):(NM k l).set k VP=NM (k+1) l:=by
 unfold NM;rw[vz _ _ zS,wQ,wp,uX h,vQ,wJ];simp
theorem cI {l:List B3} {k:Nat} (h:k<l.length):(LG k l).set k Tg=LG (k+1) l:=by
 unfold LG;rw[vz _ _ zS,wQ,wp,uX h,vQ,wJ];simp
theorem fx {l:List B3} {k:Nat} (h:k<l.length):(LG k l)[k]?=some l[k]:=by
 unfold LG;rw[vj zS,wQ,wp,uX h];rfl
theorem Of {α:Type} {f:α->List AV} {s:Nat} (h:∀x,(f x).length=s) (x:α) {l:List α} {k:Nat} (hk:k<l.length):Bt (Aa f l) (k*s) (f x)=Aa f (l.set k x):=by
 have hl:=Bk (f:=f) h l;have h1:(k+1)*s<=l.length*s:=Nat.mul_le_mul_right s hk;rw[wK,Nat.one_mul] at h1;rw[Gb _ _ _ (by rw[h,hl];exact h1),h,xr,zP hk,BI,AG,<-E8 (f:=f) h,<-II (f:=f) h,wK,Nat.one_mul,uZ]
theorem MO {cs ys:List AV} {o i:Nat} (z:AV) (h:o+ys.length<=cs.length) (hi:i<ys.length):Bt (cs.set (o+i) z) o ys=Bt cs o ys:=by
 rw[Gb _ _ _ (by simpa using h),Gb _ _ _ h,List.take_set_of_le zO,List.drop_set_of_lt zO]
theorem cJ {l:List Bn} {k:Nat} (h:k<l.length):((((((((Aa As l).set (k*8) (iN (-9))).set (k*8+1) (iN 0)).set (k*8+1+1) (iN 0)).set (k*8+1+1+1) (.str ByteArray.empty)).set (k*8+1+1+1+1) (iN 0)).set (k*8+1+1+1+1+1) (iN 0)).set (k*8+1+1+1+1+1+1) (.bool false)).set (k*8+1+1+1+1+1+1+1) (.bool false)=Aa As (l.set k VP):=
 Of (f:=As) (s:=8) zL VP h
theorem Zn (s:An) (u v:Nat) (hs:A0 s) (hx:BO s):Ac pg 35 [.agg [iN s.keep,iN s.sS,.tok 0 u 8 0 s.sQ.length,.tok 1 v 12 0 s.sR.length]] [.live u (Aa As s.sQ),.live v (Aa (Af true) s.sR)] (λr M=>r= .tup []/\M=[.live u (Aa As (NM s.sQ.length s.sQ)),.live v (Aa (Af true) (LG s.sR.length s.sR))]):=by
 have h1:=hs.1;have h2:=hs.2.1;refine zE (fn:=Tryz.f35) [] ?_;rw[AC];refine x6 ?_;refine s5 (λ_:Nat=> [(1,pt 2)]) (λ_=> [.live u (Aa As (NM s.sQ.length s.sQ)),.live v (Aa (Af true) s.sR),lv [iN s.keep,iN s.sS,.tok 0 u 8 0 s.sQ.length,.tok 1 v 12 0 s.sR.length]]) (λ_=>True) ?_ ?_
 .refine zb ?_;refine sV (λk:Nat=> [(1,pt 2),(2,iN k)]) (λk=> [.live u (Aa As (NM k s.sQ)),.live v (Aa (Af true) s.sR),lv [iN s.keep,iN s.sS,.tok 0 u 8 0 s.sQ.length,.tok 1 v 12 0 s.sR.length]]) (λk=>s.sQ.length-k) (λk=>k<=s.sQ.length) 0 (sU (k:=3) zK (by simp[NM]) zS zS zS zS) zS ?_;intro k hk;by_cases c1:k<s.sQ.length
  .have hset:=cH c1;obtain⟨l,hl⟩:∃l,l=NM k s.sQ:=zX;have hll:l.length=s.sQ.length:=by rw[hl,NM];simp;omega
   rw[<-hl] at hset |-;refine xL c1 ?_;have hput:=cJ (l:=l) (k:=k) zO;refine BS (an c1 hll) ?_;intro K hK;refine⟨zO,?_⟩;refine zk ?_;rw[hput,hset];refine zs ?_;exact⟨k+1,zO,zO,Wk.fr zK⟩
  .have:k=s.sQ.length:=zO;subst this;refine th c1 ?_;exact⟨0,trivial,Wk.fr zK⟩
 rintro _ _;refine xR ?_;refine sV (λk:Nat=> [(1,pt 2),(3,iN k)]) (λk=> [.live u (Aa As (NM s.sQ.length s.sQ)),.live v (Aa (Af true) (LG k s.sR)),lv [iN s.keep,iN s.sS,.tok 0 u 8 0 s.sQ.length,.tok 1 v 12 0 s.sR.length]]) (λk=>s.sR.length-k) (λk=>k<=s.sR.length) 0 (Wk.fr (by simp[AA,LG])) zS ?_;intro k hk;by_cases c1:k<s.sR.length
 .have hset:=cI c1;have hat:=fx c1;obtain⟨l,hl⟩:∃l,l=LG k s.sR:=zX;have hll:l.length=s.sR.length:=by rw[hl,LG];simp;omega
  rw[<-hl] at hset hat |-;have hkl:k<l.length:=zO;rw[uT hkl] at hat;have hat:=Option.some.inj hat;have hin:=hx _ (uQ c1);obtain⟨x,hxx⟩:∃x,x=s.sR[k]:=zX;rw[<-hxx] at hat hin;refine xL c1 ?_;have k5:(Aa (Af true) l)[k*12+5]?=some (.own 1 x.sT.out.length (Ak true x.sT.out)):=by
   rw[Au (f:=Af true) (s:=12) zL hkl (i:=5) zO,hat];rfl
  have k10:(Aa (Af true) l)[k*12+10]?=some (.own 1 x.job.list.length (Ab x.job.list)):=by
   rw[Au (f:=Af true) (s:=12) zL hkl (i:=10) zO,hat];rfl
  have k11:(Aa (Af true) l)[k*12+11]?=some (.own 1 x.job.out.length (Ab x.job.out)):=by
   rw[Au (f:=Af true) (s:=12) zL hkl (i:=11) zO,hat];rfl
  refine W.weak (te (B:=1) (v:=v) (j:=k*12+5) (s:=1) (n:=x.sT.out.length) (xs:=Ak true x.sT.out) (by simp[Ah]) k5) ?_;have j5:((Aa (Af true) l).set (k*12+5) (.tok 3 0 1 0 x.sT.out.length))[k*12+5]?=some (.tok 3 0 1 0 x.sT.out.length):=uO (by rw[Bk (f:=Af true) (s:=12) zL];omega);have j4:((Aa (Af true) l).set (k*12+5) (.tok 3 0 1 0 x.sT.out.length))[k*12+4]?=some (iN x.sT.n):=by
   rw[uN zO,Au (f:=Af true) (s:=12) zL hkl (i:=4) zO,hat];rfl
  refine BS (an c1 (an hll (an j4 j5))) ?_;intro K hK;refine sZ [3] (Zm x.sT.out 0 0 x.sT.n hin.1.1 hin.1.2) zS zS zS zS ?_;rintro r M ⟨rfl,rfl⟩ _;refine Am ?_;have hcl:(Aa (Af true) l).length=l.length*12:=Bk (f:=Af true) (s:=12) zL l;have cell:∀i,i<12->(Aa (Af true) l)[k*12+i]?=(Af true x)[i]?:=λi hi=>by rw[Au (f:=Af true) (s:=12) zL hkl (i:=i) hi,hat]
  obtain⟨c1',hc1⟩:∃c1',c1' =(Aa (Af true) l).set (k*12+5) (.tok 3 0 1 0 x.sT.out.length):=zX;rw[<-hc1];have m10:c1'[k*12+10]?=some (.own 1 x.job.list.length (Ab x.job.list)):=by rw[hc1,uN zO];exact k10
  refine W.weak (te (B:=1) (v:=v) (j:=k*12+10) (s:=1) (n:=x.job.list.length) (xs:=Ab x.job.list) (by simp[Ah]) m10) ?_;have m11:(c1'.set (k*12+10) (.tok 4 0 1 0 x.job.list.length))[k*12+11]?=some (.own 1 x.job.out.length (Ab x.job.out)):=by rw[uN zO,hc1,uN zO];exact k11
  refine W.weak (te (B:=1) (v:=v) (j:=k*12+11) (s:=1) (n:=x.job.out.length) (xs:=Ab x.job.out) (by simp[Ah]) m11) ?_;obtain⟨c2',hc2⟩:∃c2',c2' =(c1'.set (k*12+10) (.tok 4 0 1 0 x.job.list.length)).set (k*12+11) (.tok 5 0 1 0 x.job.out.length):=zX;have hc1l:c1'.length=l.length*12:=by rw[hc1];simp
  have hc2l:c2'.length=l.length*12:=by rw[hc2];simpa using hc1l
  have n6:c2'[k*12+6]?=some (iN x.job.kind):=by rw[hc2,uN zO,uN zO,hc1,uN zO,cell 6 zO];rfl
  have n7:c2'[k*12+6+1]?=some (iN x.job.a):=by rw[show k*12+6+1=k*12+7 by omega,hc2,uN zO,uN zO,hc1,uN zO,cell 7 zO];rfl
  have n8:c2'[k*12+6+1+1]?=some (iN x.job.at_):=by rw[show k*12+6+1+1=k*12+8 by omega,hc2,uN zO,uN zO,hc1,uN zO,cell 8 zO];rfl
  have n9:c2'[k*12+6+1+1+1]?=some (.bool x.job.move):=by rw[show k*12+6+1+1+1=k*12+9 by omega,hc2,uN zO,uN zO,hc1,uN zO,cell 9 zO];rfl
  have n10:c2'[k*12+6+1+1+1+1]?=some (.tok 4 0 1 0 x.job.list.length):=by rw[show k*12+6+1+1+1+1=k*12+10 by omega,hc2,uN zO,uO zO]
  have n11:c2'[k*12+6+1+1+1+1+1]?=some (.tok 5 0 1 0 x.job.out.length):=by rw[show k*12+6+1+1+1+1+1=k*12+11 by omega,hc2,uO Ao]
  have hput:Bt c2' (k*12) (Af true Tg)=Aa (Af true) (LG (k+1) s.sR):=by
   have hb:(Af true Tg).length=12:=rfl;rw[hc2,MO _ Ao zO,MO _ zO zO,hc1,MO _ zO zO,Of (f:=Af true) (s:=12) zL Tg hkl,hset]
  have hput:=(show((((((((((((c2'.set (k*12) (.bool false)).set (k*12+1) (iN (-9))).set (k*12+1+1) (.bool false)).set (k*12+1+1+1) (iN 0)).set (k*12+1+1+1+1) (iN 0)).set (k*12+1+1+1+1+1) (.own 1 0 [])).set (k*12+1+1+1+1+1+1) (iN 0)).set (k*12+1+1+1+1+1+1+1) (iN 0)).set (k*12+1+1+1+1+1+1+1+1) (iN 0)).set (k*12+1+1+1+1+1+1+1+1+1) (.bool false)).set (k*12+1+1+1+1+1+1+1+1+1+1) (.own 1 0 [])).set (k*12+1+1+1+1+1+1+1+1+1+1+1) (.own 1 0 []))=Aa (Af true) (LG (k+1) s.sR) from hput);clear hc2l hc1l hcl cell k5 k10 k11 j4 j5 m10 m11;change W pg tT _ _ _ [_,.live v ((c1'.set (k*12+10) (.tok 4 0 1 0 x.job.list.length)).set (k*12+11) (.tok 5 0 1 0 x.job.out.length)),_,_,_,_] _;rw[<-hc2];refine BS (an c1 (an hll (an n6 (an n7 (an n8 (an n9 (an n10 n11))))))) ?_;intro K hK;refine sZ [4,5] (fw x.job.kind x.job.a x.job.at_ x.job.move x.job.list x.job.out 0 0 hin.2.1 hin.2.2) zS zS zS zS ?_;rintro r M ⟨rfl,rfl⟩ _;refine Am ?_;have hc2l:c2'.length=l.length*12:=by rw[hc2,hc1];simp only[vS];exact Bk (f:=Af true) (s:=12) zL l
  refine BS (an c1 (an hll hc2l)) ?_;intro K hK;refine⟨zO,?_⟩;refine zk ?_;rw[hput];refine zs ?_;exact⟨k+1,zO,zO,sU (k:=3) zK zS zS zS zS zS⟩
 .have:k=s.sR.length:=zO;subst this;refine th c1 ?_;(try simp only[BN,Cn,CB,CC,if_true]);refine Fw (d:=0) ?_;simp -implicitDefEqProofs (disch:=omega)
theorem cK (x:B3):Ac pg 179 ([.agg (Af false x)]++[]) [] (λr _=>r= .bool (!x.opn)):=by
 refine zE (fn:=Tryz.f179) [.tmp 2] ?_;simp only[vM];rw[AC];refine AX ?_;exact DM
theorem PW (s:An) (id:Int) (hs:A0 s):Ac pg 180 [.rptr (Aj false s),iN id] [] (λr _=>r= .bool ((Bf s.sQ).contains id)):=by
 have h1:=hs.1;have spS:=WO s hs;have hsl:(Bf s.sQ).length<=s.sQ.length:=by unfold Bf;rw[List.length_map];exact List.length_filter_le _ _
 obtain⟨l,hl⟩:∃l,l=Bf s.sQ:=zX;rw[<-hl] at spS hsl |-;refine zE (fn:=Tryz.f180) [.tmp 4] ?_;rw[Aq];refine zs ?_;refine Hm spS (FQ l id (by omega)) ?_;exact zR
def Fu (y:An) (rp:HA):AV->List Ag->Prop:=λr M=>r= .tup [.agg (Fm true ⟨0,rp.n,rp.list⟩),iN rp.err]/\M=[lv (Aj true y)]
theorem cL (s:An) (hs:A0 s):Ac pg 129 [pt 0] [lv (Aj true s)] (Fu (Gg s).1 (Gg s).2):=by
 have h2:=hs.2.1;have spI:=OJ s.sR 179 [] (λx=> !x.opn) zO (λx _=>cK x) zS;obtain⟨q,hq⟩:∃q,q=s.sR.findIdx? λx=> !x.opn:=zX;unfold AN at spI;unfold Gg Fu;rw[<-hq] at spI |-;refine zE (fn:=Tryz.f129) [.cell 2 45,.tmp 3] ?_;rw[AC];refine AX ?_;refine W.weak (sX 0 3) ?_;cases q with
 |none=>
  simp only[AE] at spI |-;refine yq spI ?_;refine W.weak (Wk.inn 0 3) ?_;refine W.weak (sX 1 2) ?_;exact zR
 |some i=>
  have hi:i<s.sR.length:=(List.findIdx?_eq_some_iff_findIdx_eq.1 hq.symm).1;simp only at spI |-;refine AL spI ?_;have e0:¬(i:Int)<0:=zO;refine th e0 ?_;refine zg hi ?_;refine W.weak (sY (B:=0) (v:=0) (j:=3) (T:=2) (u:=0) (s:=12) (off:=0) (n:=s.sR.length) (xs:=Aa (Af true) (s.sR.set i {BU with opn:=true})) zF zF (congrArg some (Of (f:=Af true) (s:=12) zL {BU with opn:=true} hi)) zS zS zS) ?_;refine zs ?_;refine W.weak (sX 1 2) ?_;refine zr ?_;rw[uM zS]
theorem Pl (a:List AV):∀(xs b:List AV) (j:Nat),Bt (a++b) (a.length+j) xs=a++Bt b j xs
 | [],_,_=>rfl
 |x::xs,b,j=>by
  rw[Bt,Bt,vz _ _ zO,show a.length+j-a.length=j by omega,show a.length+j+1=a.length+(j+1) by omega,Pl a xs]
theorem QY (c:List AV):∀(xs b:List AV) (j:Nat),j+xs.length<=b.length->Bt (b++c) j xs=Bt b j xs++c
 | [],_,_,_=>rfl
 |x::xs,b,j,h=>by
  simp only[vA] at h;rw[Bt,Bt,List.set_append_left _ _ zO,QY c xs _ _ Ao]
theorem FG {α:Type} {f:α->List AV} {s j:Nat} (h:∀x,(f x).length=s) {xs:List AV} (hj:j+xs.length<=s) {y:α} {l:List α} {k:Nat} (hk:k<l.length) (e:Bt (f l[k]) j xs=f y):Bt (Aa f l) (k*s+j) xs=Aa f (l.set k y):=by
 have hl:l=l.take k++l[k]::l.drop (k+1):=by rw[<-uX hk,vJ]
 have ht:(Aa f (l.take k)).length=k*s:=by rw[Bk (f:=f) h,wy,wO zO]
 have e1:Aa f l=Aa f (l.take k)++(f l[k]++Aa f (l.drop (k+1))):=by
  conv=>lhs;rw[hl]
  rw[BI,AG]
 rw[e1,<-ht,Pl,QY _ _ _ _ (by rw[h];exact hj),e,xr,zP hk,BI,AG]
def G1 (p:An×HA):AV->List Ag->Prop:=λr M=>r=iN p.2.err/\M=[lv (Aj true p.1)]
theorem fz (s:An) (i:Nat) (v:Int) (hs:A0 s) (hi:i<s.sR.length) (hz:s.sR[i].pin=0->s.sR[i].job=A3):Ac pg 130 [pt 0,.agg (AZ ⟨3,i,v,0,0,0⟩)] [lv (Aj true s)]
 (G1 (BM s ⟨3,i,v,0,0,0⟩ s.sR[i])):=by
 have h2:=hs.2.1;have spS:=PW s v hs;obtain⟨p,hp⟩:∃p,p=BM s ⟨3,i,v,0,0,0⟩ s.sR[i]:=zX;rw[<-hp];unfold BM at hp;rw[zM zS,zP rfl] at hp;obtain⟨b,hb⟩:∃b,b=(Bf s.sQ).contains v:=zX;simp only at hp;rw[<-hb] at spS hp;have k1:(Aa (Af true) s.sR)[i*12+1]?=some (iN s.sR[i].pin):=Au (f:=Af true) (s:=12) zL hi (i:=1) zO;unfold G1;refine zE (fn:=Tryz.f130) [.tmp 4] ?_;rw[Aq];refine AX ?_;refine W.weak (sX 0 3) ?_;refine zh hi ?_;by_cases c1:s.sR[i].pin=0;rotate_left
 .rw[zP c1] at hp;refine yp (an k1 c1) ?_;refine W.weak (Wk.inn 0 3) ?_;refine zr ?_;simp[hp,AE]
 rw[zM (λh=>h c1)] at hp;refine zh (an k1 c1) ?_;refine xY ?_;intro K hK;refine sW spS (by simp) (by simp) ?_;cases b
 .rw[zP rfl] at hp;refine x4 ?_;refine W.weak (Wk.inn 0 3) ?_;refine zr ?_;simp[hp,AE]
 rw[zM zS] at hp;refine x4 ?_;refine zg hi ?_;have e1:=FG (f:=Af true) (s:=12) (j:=1) zL (xs:=[iN v]) (y:={s.sR[i] with pin:=v}) zS hi zF;have hi' :i<(s.sR.set i {s.sR[i] with pin:=v}).length:=by simpa using hi
 have e2:=FG (f:=Af true) (s:=12) (j:=6) zL (xs:=BY true A3) (y:={s.sR[i] with pin:=v}) zS hi' (by rw[vZ];simp[Af,hz c1,Bt,A3]);rw[wF] at e2;refine W.weak (sY (B:=0) (v:=0) (j:=3) (T:=2) (u:=0) (s:=12) (off:=0) (n:=s.sR.length) (xs:=Aa (Af true) (s.sR.set i {s.sR[i] with pin:=v})) zF zF (congrArg some ((congrArg (λm=>Bt m (i*12+6) (BY true A3)) e1).trans e2)) zS zS zS) ?_;refine Bd ?_;rw[uM zS];simp[hp,DE,Ch]
theorem Zo (s:An) (i:Nat) (hs:A0 s) (hi:i<s.sR.length):Ac pg 130 [pt 0,.agg (AZ ⟨4,i,0,0,0,0⟩)] [lv (Aj true s)]
 (G1 (BM s ⟨4,i,0,0,0,0⟩ s.sR[i])):=by
 have h2:=hs.2.1;obtain⟨p,hp⟩:∃p,p=BM s ⟨4,i,0,0,0,0⟩ s.sR[i]:=zX;rw[<-hp];unfold BM at hp;rw[zM zS,zM zS,zP rfl] at hp;have k1:(Aa (Af true) s.sR)[i*12+1]?=some (iN s.sR[i].pin):=Au (f:=Af true) (s:=12) zL hi (i:=1) zO;unfold G1;refine zE (fn:=Tryz.f130) [.tmp 4] ?_;rw[Aq];refine AX ?_;refine W.weak (sX 0 3) ?_;refine zh hi ?_;by_cases c1:s.sR[i].pin=0
 .rw[zP c1] at hp;refine yp (an k1 c1) ?_;refine W.weak (Wk.inn 0 3) ?_;refine zr ?_;simp[hp,AE]
 rw[zM c1] at hp;refine zh (an k1 c1) ?_;refine y5 ?_;refine zg hi ?_;have e1:=FG (f:=Af true) (s:=12) (j:=1) zL (xs:=[iN 0]) (y:={s.sR[i] with pin:=0}) zS hi zF;have hi' :i<(s.sR.set i {s.sR[i] with pin:=0}).length:=by simpa using hi
 have e2:=FG (f:=Af true) (s:=12) (j:=6) zL (xs:=BY true A3) (y:={s.sR[i] with pin:=0,job:=A3}) zS hi' (by rw[vZ];simp[Af,Bt,A3]);rw[wF] at e2;refine W.weak (sY (B:=0) (v:=0) (j:=3) (T:=2) (u:=0) (s:=12) (off:=0) (n:=s.sR.length) (xs:=Aa (Af true) (s.sR.set i {s.sR[i] with pin:=0,job:=A3})) zF zF (congrArg some ((congrArg (λm=>Bt m (i*12+6) (BY true A3)) e1).trans e2)) zS zS zS) ?_;refine Bd ?_;rw[uM zS];simp[hp,DE,Ch]
theorem cN (s:An) (k v:Int) (hk:k=14\/k=15\/k=16) (hs:A0 s) (h:A2 s):Ac pg 136 [pt 0,.agg (AZ ⟨k,0,v,0,0,0⟩)] [lv (Aj true s)] (G1 (Ft s ⟨k,0,v,0,0,0⟩)):=by
 have h1:=hs.1;have h2:=hs.2.1;have spS:=PW s v hs;have spP:=HJ s v hs;have spL:=EV s hs;obtain⟨p,hp⟩:∃p,p=Ft s ⟨k,0,v,0,0,0⟩:=zX;rw[<-hp];unfold Ft at hp;simp only at hp;obtain⟨b,hb⟩:∃b,b=(Bf s.sQ).contains v:=zX;rw[<-hb] at spS hp;unfold G1;refine zE (fn:=Tryz.f136) [.tmp 4] ?_;rw[Aq];refine yg ?_;intro K hK;refine sW spS (by simp) (by simp) ?_;cases b
 .rw[zP rfl] at hp;refine xX ?_;simp[hp,AE]
 rw[zM zS] at hp;obtain⟨j,hj,e1,e2,e3⟩:=Nk h hb.symm;rw[e1] at hp spP;simp only[vE,uT hj] at hp;have k6:(Aa As s.sQ)[j*8+6]?=some (.bool s.sQ[j].tag):=Au (f:=As) (s:=8) zL hj (i:=6) zO;refine x4 ?_;refine W.weak (sX 0 2) ?_;refine W.weak (sX 0 3) ?_;refine CN ?_;intro K hK;refine s6 spP (by simp) (by simp) ?_;refine xK hj ?_;refine zb ?_;have fin:∀t g:Bool,Bt (Bt (Aa As s.sQ) (j*8+6) [.bool t]) (j*8+7) [.bool g]=Aa As (s.sQ.set j {s.sQ[j] with tag:=t,gone:=g}):=λt g=>by
  have a1:=FG (f:=As) (s:=8) (j:=6) zL (xs:=[.bool t]) (y:={s.sQ[j] with tag:=t}) zS hj zF;have hj' :j<(s.sQ.set j {s.sQ[j] with tag:=t}).length:=by simpa using hj
  have a2:=FG (f:=As) (s:=8) (j:=7) zL (xs:=[.bool g]) (y:={s.sQ[j] with tag:=t,gone:=g}) zS hj' (by rw[vZ];rfl);rw[wF] at a2;rw[a1,a2]
 rcases hk with rfl|rfl|rfl
 .cases c:s.sQ[j].tag;rotate_left
  .rw[zP ⟨rfl,c⟩] at hp;refine th (an k6 c) ?_;refine W.weak (Wk.inn 0 2) ?_;refine W.weak (Wk.inn 0 3) ?_;refine zr ?_;simp[hp,AE]
  rw[zM (by simp[c]),zM zS,zM zS] at hp;refine xL (an k6 c) ?_;refine CN ?_;intro K hK;refine yh ?_;(repeat refine ta ?_);refine tj 0 [(70,74),(70,69)] rfl true Df AK λK hK=>?_;simp -implicitDefEqProofs (disch:=omega) [hj];(repeat refine⟨by first|assumption|omega,?_⟩);refine hK _ _ (by simp(disch:=omega)) ?_;clear hK K;refine W.weak (sY (B:=0) (v:=0) (j:=2) (T:=2) (u:=0) (s:=8) (off:=0) (n:=s.sQ.length) (xs:=Aa As (s.sQ.set j {s.sQ[j] with tag:=true,gone:=false})) zF zF (congrArg some (fin true false)) zS zS zS) ?_;refine W.weak (Wk.inn 0 3) ?_;refine Bd ?_;rw[uM zS];simp[hp,DE]
 .cases c:s.sQ[j].tag
  .rw[zM zS,zP ⟨rfl,c⟩] at hp;refine y2 ?_;refine th (an k6 c) ?_;refine W.weak (Wk.inn 0 2) ?_;refine W.weak (Wk.inn 0 3) ?_;refine zr ?_;simp[hp,AE]
  rw[zM zS,zM (by simp[c]),zM zS] at hp;refine y2 ?_;refine xO (an k6 c) ?_;refine CN ?_;intro K hK;refine yh ?_;(repeat refine ta ?_);refine tj 0 [(70,74),(70,69)] rfl true Df AK λK hK=>?_;simp -implicitDefEqProofs (disch:=omega) [hj];(repeat refine⟨by first|assumption|omega,?_⟩);refine hK _ _ (by simp(disch:=omega)) ?_;clear hK K;refine W.weak (sY (B:=0) (v:=0) (j:=2) (T:=2) (u:=0) (s:=8) (off:=0) (n:=s.sQ.length) (xs:=Aa As (s.sQ.set j {s.sQ[j] with tag:=false,gone:=false})) zF zF (congrArg some (fin false false)) zS zS zS) ?_;refine W.weak (Wk.inn 0 3) ?_;refine Bd ?_;rw[uM zS];simp[hp,DE]
 .cases c:s.sQ[j].tag;rotate_left
  .rw[zM zS,zM zS,zP ⟨rfl,.inl c⟩] at hp;refine y4 ?_;refine yp (an k6 c) ?_;refine W.weak (Wk.inn 0 2) ?_;refine W.weak (Wk.inn 0 3) ?_;refine zr ?_;simp[hp,AE]
  by_cases c2:v=At s.sQ
  .rw[zM zS,zM zS,zP ⟨rfl,.inr c2⟩] at hp;refine y4 ?_;refine Dy (an k6 c) ?_;intro K hK;refine s6 spL (by simp) (by simp) ?_;refine x5 c2 ?_;refine W.weak (Wk.inn 0 2) ?_;refine W.weak (Wk.inn 0 3) ?_;refine zr ?_;simp[hp,AE]
  rw[zM zS,zM zS,zM (by simp[c,c2])] at hp;refine y4 ?_;refine Dy (an k6 c) ?_;intro K hK;refine s6 spL (by simp) (by simp) ?_;refine x5 c2 ?_;(repeat refine ta ?_);refine tj 0 [(70,74),(70,69)] rfl true Df AK λK hK=>?_;simp -implicitDefEqProofs (disch:=omega) [hj];(repeat refine⟨by first|assumption|omega,?_⟩);refine hK _ _ (by simp(disch:=omega)) ?_;clear hK K;refine W.weak (sY (B:=0) (v:=0) (j:=2) (T:=2) (u:=0) (s:=8) (off:=0) (n:=s.sQ.length) (xs:=Aa As (s.sQ.set j {s.sQ[j] with tag:=false,gone:=true})) zF zF (congrArg some (fin false true)) zS zS zS) ?_;refine W.weak (Wk.inn 0 3) ?_;refine Bd ?_;rw[uM zS];simp[hp,DE]
theorem Zp (g:Gr) (j:B7) (n:Nat) (hgi:G5 g) (hg:AP g) (hj:Gu g j) (hn:n<1000000):Ac pg 187 [.agg (A1 false g),.agg (BY false j),iN n] [] (λr _=>r= .agg (BY true (DU g n j))):=by
 have hsj:=hj.small hg;refine zE (fn:=Tryz.f187) [.cell 6 38] ?_;rw[A6];refine Ig ?_;refine AL (Xe j ⟨by omega,by omega⟩) ?_;refine W.weak (Wk.inn 1 4) ?_;refine W.weak (Wk.inn 1 5) ?_;refine zb ?_;refine sV (λx:Nat×B7=> [(2,iN x.1),(3,pt 0),(4,pt 1),(6,pt 2)]) (λx=> [lv (A1 false g),lv (BY true x.2),lv [iN 0,iN 0,iN 0,.bool false,.own 1 0 [],.own 1 0 []]]) (λx=>x.1) (λx=>x.1<1000000/\Gu g x.2/\DU g x.1 x.2=DU g n j) (n,j) (sU (k:=3) zK zS zS zS zS zS) ⟨hn,hj,rfl⟩ ?_;rintro⟨m,x⟩ ⟨hm,hx,hs⟩;simp only at hm hx hs;have hsx:=hx.small hg;refine W.weak (sX 1 4) ?_;refine W.weak (sX 1 5) ?_;cases m with
 |zero=>
  have e:DU g n j=x:=by rw[<-hs];rfl
  rw[e];exact RX
 |succ m=>
  have c1:(0:Int)<((m+1:Nat):Int):=zO;cases ho:BX g x with
  |true=>
   have e:DU g n j=x:=by rw[<-hs,DU,zP ho]
   have spO:=Ks g x zO;rw[ho] at spO;rw[e];refine GL c1 spO ?_;exact Kp
  |false=>
   have spO:=Ks g x zO;rw[ho] at spO;rw[DU,zM (by rw[ho];simp)] at hs;refine GL c1 spO ?_;refine y3 ?_;refine W.weak (Wk.inn 1 4) ?_;refine W.weak (Wk.inn 1 5) ?_;refine z0 ?_;intro K hK;refine sZ [1] (Uu g x hgi hg hx ho) zS zS zS zS ?_;rintro r M ⟨rfl,rfl⟩ _;refine Am ?_;have e1:((m+1:Nat):Int)-1=(m:Int):=zO;refine zg e1 ?_;exact⟨(m,A8 g x),zS,⟨zO,(HM hg hx ho).1,hs⟩,sU (k:=3) zK zS zS zS zS zS⟩
theorem cO (l:List Obj) (p:Int) (g:Gr) (hx:DZ l) (hm:BJ l) (hg:AP g):Ac pg 181 [.ro l.length (Aa Ar l),iN p,.agg (A1 false g)] [] (λr _=>r= .tup [.agg (Ar (BP l p g).1),iN (BP l p g).2]):=by
 have spC:=Sk l hx;have spG:=Jc g hg.inn;rw[zT hm] at spC;rw[zT hg] at spG;have spF:=Ta g hg;have hl:=hm.1;have hnb:=MF hm;obtain⟨q,hq⟩:∃q,q=BP l p g:=zX;rw[<-hq];obtain⟨fb,hfb⟩:∃fb,fb=Eb (BG g):=zX;have hfn:fb.n=((BG g).length:Int):=by rw[hfb];rfl
 rw[<-hfb] at spF;obtain⟨ni,hni⟩:∃ni,ni=C8 l:=zX;rw[<-hni] at hnb;unfold BP at hq;rw[<-hni] at hq;refine zE (fn:=Tryz.f181) [.cell 6 127,.tmp 7] ?_;rw[A6];refine Cx ?_;refine Hm spC spG ?_;refine y2 ?_;refine EU spF ?_;refine zw ?_;refine s5 (λ_:Unit=> [(0,.ro l.length (Aa Ar l)),(1,iN p),(5,pt 0),(6,pt 1),(7,iN 0),(8,pt 2),(28,.bool (decide (0<l.length)))]) (λ_=> [lv (A1 false g),lv (Ar GZ),lv (Ar ⟨1,0,fb⟩)]) (λ_=>True) ?_ ?_
 .refine zs ?_;exact⟨(),trivial,sU (k:=3) zK (by simp[GZ]) zS zS zS zS⟩
 rintro _ _;refine zw ?_;refine s5 (λ_:Unit=> [(0,.ro l.length (Aa Ar l)),(1,iN p),(5,pt 0),(6,pt 1),(7,iN 0),(8,pt 2)]) (λ_=> [lv (A1 false g),lv (Ar GZ),lv (Ar ⟨ni,0,fb⟩)]) (λ_=>True) ?_ ?_
 .by_cases c1:l=[]
  .rw[zV (by simp[c1])];refine y2 ?_;have e:ni=1:=by rw[hni,c1];rfl
   exact⟨(),trivial,sU (k:=3) zK (by simp[e]) zS zS zS zS⟩
  .rw[zT (List.length_pos_iff.2 c1)];have hlt:l.length-1<l.length:=by have:=List.length_pos_iff.2 c1;omega
   have e:ni=l[l.length-1].id+1:=by rw[hni];unfold C8;rw[vV,uT hlt]
   have e2:(l.length:Int)-1=((l.length-1:Nat):Int):=zO;have k0:(Aa Ar l)[(l.length-1)*4]?=some (iN l[l.length-1].id):=Au (f:=Ar) (s:=4) zL hlt (i:=0) zO;refine zt ?_;refine zg (an e2 (an hlt k0)) ?_;exact⟨(),trivial,sU (k:=3) zK (by simp[e]) zS zS zS zS⟩
 rintro _ _;by_cases c1:12<=l.length\/1048576<ni
 .rw[zP c1] at hq;by_cases a1:(12:Int)<=(l.length:Int)
  .refine xS a1 ?_;simp[hq,GZ]
  .have a2:1048576<ni:=zO;refine xS (an a1 a2) ?_;simp[hq,GZ]
 rw[zM c1] at hq;have a1:¬(12:Int)<=(l.length:Int):=zO;have a2:¬1048576<ni:=zO;refine th (an a1 a2) ?_;by_cases c2:p=0
 .rw[zP c2] at hq;have e:Ed l 0 g=fb:=by unfold Ed;rw[zP rfl,hfb]
  refine xS c2 ?_;simp[hq,e]
 rw[zM c2] at hq;refine th c2 ?_;have spO:=So l p hx hm;have hga:=Da l p;obtain⟨a,ha⟩:∃a,a=AT l p:=zX;rw[<-ha] at spO hga hq;refine EU spO ?_;by_cases c3:a.2=0;rotate_left
 .rw[zP c3] at hq;refine xS c3 ?_;simp[hq,GZ]
 rw[zM (λh=>h c3)] at hq;refine th c3 ?_;refine AL (Sl l p hx hm.closed) ?_;have spD:=UJ a.1 g hga hg;obtain⟨db,hdb⟩:∃db,db=Eb (BH a.1 g):=zX;have hdn:db.n=((BH a.1 g).length:Int):=by rw[hdb];rfl
 rw[<-hdb] at spD;refine EU spD ?_;by_cases c4:(AY l p).1<3/\(BH a.1 g).length<(BG g).length
 .rw[zP c4] at hq;have e:Ed l p g=db:=by unfold Ed;rw[zM c2,hdb,ha]
  have b1:=c4.1;have b2:db.n<fb.n:=zO;refine xP (an b1 b2) ?_;(repeat refine ta ?_);refine tj 0 [(13,81),(13,79)] rfl true Df AK λK hK=>?_;simp -implicitDefEqProofs (disch:=omega);(repeat refine⟨by first|assumption|omega,?_⟩);refine hK _ _ (by simp(disch:=omega)) ?_;clear hK K;refine Bd ?_;simp[hq,e]
 .rw[zM c4] at hq;have e:Ed l 0 g=fb:=by unfold Ed;rw[zP rfl,hfb]
  by_cases b1:(AY l p).1<3
  .have b2:¬db.n<fb.n:=zO;refine x3 (an b1 b2) ?_;simp[hq,e]
  .refine x3 b1 ?_;simp[hq,e]
def Be (cs:List AV) (b:Nat):List (Nat×AV)->List AV
 | []=>cs
 |p::ps=>Be (cs.set (b+p.1) p.2) b ps
theorem MP (a:List AV):∀(ps:List (Nat×AV)) (b:List AV),Be (a++b) a.length ps=a++Be b 0 ps
 | [],_=>rfl
 |p::ps,b=>by
  rw[Be,Be,vz _ _ zO,show a.length+p.1-a.length=0+p.1 by omega,MP a ps]
theorem NN (c:List AV):∀(ps:List (Nat×AV)) (b:List AV),(∀p∈ps,p.1<b.length)->Be (b++c) 0 ps=Be b 0 ps++c
 | [],_,_=>rfl
 |p::ps,b,h=>by
  have h0:=h p List.mem_cons_self;rw[Be,Be,List.set_append_left _ _ zO,NN c ps _ (λq hq=>by rw[vS];exact h q (List.mem_cons_of_mem _ hq))]
theorem BA {α:Type} {f:α->List AV} {s:Nat} (h:∀x,(f x).length=s) {ps:List (Nat×AV)} (hp:∀p∈ps,p.1<s) {y:α} {l:List α} {k:Nat} (hk:k<l.length) (e:Be (f l[k]) 0 ps=f y):Be (Aa f l) (k*s) ps=Aa f (l.set k y):=by
 have hl:l=l.take k++l[k]::l.drop (k+1):=by rw[<-uX hk,vJ]
 have ht:(Aa f (l.take k)).length=k*s:=by rw[Bk (f:=f) h,wy,wO zO]
 have e1:Aa f l=Aa f (l.take k)++(f l[k]++Aa f (l.drop (k+1))):=by
  conv=>lhs;rw[hl]
  rw[BI,AG]
 rw[e1,<-ht,MP,NN _ _ _ (by rw[h];exact hp),e,xr,zP hk,BI,AG]
theorem Pm (s:An) (id:Int) (hs:A0 s) (hm:BJ (Ae s)):Ac pg 175 [.agg (Aj false s),iN id] [] (λr _=>r= .agg (A1 true (Cf s id))):=by
 unfold Cf;by_cases h:id=0
 .subst h;rw[zP rfl];exact bD s
 .rw[zM h];exact Ss s id hs hm h
theorem UN (s:An) (i n:Nat) (k a b:Int) (hs:A0 s) (hm:BJ (Ae s)) (hi:i<s.sR.length) (hn:n<1000000) (hj:s.sR[i].job=A3\/Ct (Cf s s.sR[i].pin) s.sR[i].job=true):Ac pg 134 [pt 0,.agg (AZ ⟨k,i,0,a,b,n⟩)] [lv (Aj true s)]
 (Fu (if s.sR[i].job=A3 then AE s 6 else DK s ⟨k,i,0,a,b,n⟩ s.sR[i] s.sR[i].job).1 (if s.sR[i].job=A3 then AE s 6 else DK s ⟨k,i,0,a,b,n⟩ s.sR[i] s.sR[i].job).2):=by
 have h1:=hs.1;have h2:=hs.2.1;obtain⟨u,hu⟩:∃u,u=s.sR[i]:=zX;obtain⟨p,hp⟩:∃p,p=if s.sR[i].job=A3 then AE s 6 else DK s ⟨k,i,0,a,b,n⟩ s.sR[i] s.sR[i].job:=zX
 rw[<-hp];rw[<-hu] at hp hj;have k1:(Aa (Af true) s.sR)[i*12+1]?=some (iN u.pin):=by rw[hu];exact Au (f:=Af true) (s:=12) zL hi (i:=1) zO
 have k6:(Aa (Af true) s.sR)[i*12+6]?=some (iN u.job.kind):=by rw[hu];exact Au (f:=Af true) (s:=12) zL hi (i:=6) zO
 have spG:=Pm s u.pin hs hm;have hg:=D4 s u.pin;obtain⟨g,hgd⟩:∃g,g=Cf s u.pin:=zX;rw[<-hgd] at spG hg hj;unfold Fu;refine zE (fn:=Tryz.f134) [.cell 4 45,.tmp 5] ?_;rw[Aq];refine Cx ?_;refine W.weak (sX 0 2) ?_;refine W.weak (sX 0 3) ?_;refine zh hi ?_;by_cases c1:u.job=A3
 .rw[zP c1] at hp;have c1' :u.job.kind=0:=by rw[c1];rfl
  refine th (an k6 c1') ?_;refine W.weak (Wk.inn 0 2) ?_;refine W.weak (Wk.inn 0 3) ?_;refine W.weak (sX 2 2) ?_;refine zr ?_;simp[hp,AE]
 rw[zM c1] at hp;have hj:=hj.resolve_left c1;obtain⟨hJ,-⟩:=Ir hg hj;have c1' :¬u.job.kind=0:=by have:=hJ.k1;omega
 refine th (an k6 c1') ?_;refine Hw ?_;intro K hK;simp -implicitDefEqProofs (disch:=omega) [k1];refine xW spG ?_;have hsj:=hJ.small hg;have fat:∀(q:Nat),q<12->(Aa (Af true) s.sR)[i*12+q]?=(Af true u)[q]?:=λq hq=>by rw[hu];exact Au (f:=Af true) (s:=12) zL hi hq
 have hfl:(Aa (Af true) s.sR).length=s.sR.length*12:=Bk (f:=Af true) zL _;refine W.weak (te (B:=4) (v:=0) (j:=i*12+10) (s:=1) (n:=u.job.list.length) (cs:=Aa (Af true) s.sR) (xs:=Ab u.job.list) zF (fat 10 zO)) ?_;refine W.weak (te (B:=4) (v:=0) (j:=i*12+11) (s:=1) (n:=u.job.out.length) (cs:=(Aa (Af true) s.sR).set (i*12+10) (.tok 7 0 1 0 u.job.list.length)) (xs:=Ab u.job.out) zF (by rw[uN zO];exact fat 11 zO)) ?_;obtain⟨L,hL⟩:∃L,L=((Aa (Af true) s.sR).set (i*12+10) (.tok 7 0 1 0 u.job.list.length)).set (i*12+11) (.tok 8 0 1 0 u.job.out.length):=zX;have hLl:True->L.length=s.sR.length*12:=λ_=>by rw[hL];simp[hfl]
 have lat:∀q:Nat,q<10->L[i*12+q]?=(Af true u)[q]?:=λq hq=>by
  rw[hL,uN zO,uN zO];exact fat q zO
 have m6:L[i*12+6]?=some (iN u.job.kind):=lat 6 zO;have m7:L[i*12+6+1]?=some (iN u.job.a):=lat 7 zO;have m8:L[i*12+6+1+1]?=some (iN u.job.at_):=lat 8 zO;have m9:L[i*12+6+1+1+1]?=some (.bool u.job.move):=lat 9 zO;have m10:L[i*12+6+1+1+1+1]?=some (.tok 7 0 1 0 u.job.list.length):=by
  show L[i*12+10]?=_;rw[hL,uN zO,uO (by rw[hfl];omega)]
 have m11:L[i*12+6+1+1+1+1+1]?=some (.tok 8 0 1 0 u.job.out.length):=by
  show L[i*12+11]?=_;rw[hL,uO (by rw[vS,hfl];omega)]
 have spJ:=Zp g u.job n hg.inn hg hJ hn;have hJx:=(Ir hg (KD hg n _ hj)).1;unfold DK at hp;simp only[vE] at hp;rw[<-hgd] at hp;obtain⟨x,hx⟩:∃x,x=DU g n u.job:=zX;rw[<-hx] at spJ hJx hp;have hsx:=hJx.small hg;have spO:=Ks g x zO;show W _ _ _ _ _ [_,_,_,_,lv (((Aa (Af true) s.sR).set (i*12+10) (.tok 7 0 1 0 u.job.list.length)).set (i*12+11) (.tok 8 0 1 0 u.job.out.length)),_,_,_,_] _;rw[<-hL];refine Hw ?_;intro K hK;simp -implicitDefEqProofs (disch:=omega) [m6,m7,m8,m9,m10,m11];refine xW spJ ?_;cases ho:BX g x with
 |false=>
  rw[ho] at spO hp;refine AL spO ?_;refine zt ?_;refine zg (an (hLl trivial) hi) ?_;subst hL;refine W.weak (sY (B:=4) (v:=0) (j:=i*12+10) (T:=10) (u:=0) (s:=1) (off:=0) (n:=x.list.length) (xs:=Ab x.list) zF (by rw[uN zO,uO Ao]) zF zS zS zS) ?_;refine W.weak (sY (B:=4) (v:=0) (j:=i*12+11) (T:=11) (u:=0) (s:=1) (off:=0) (n:=x.out.length) (xs:=Ab x.out) zF (by rw[uN zO,uO Ao]) zF zS zS zS) ?_;refine W.weak (Wk.inn 0 2) ?_;refine W.weak (sY (B:=0) (v:=0) (j:=3) (T:=4) (u:=0) (s:=12) (off:=0) (n:=s.sR.length) (xs:=Aa (Af true) (s.sR.set i {u with job:=x})) zF zF (congrArg some (BA (f:=Af true) (s:=12) zL (ps:=[(10,.tok 7 0 1 0 u.job.list.length),(11,.tok 8 0 1 0 u.job.out.length),(6,iN x.kind),(7,iN x.a),(8,iN x.at_),(9,.bool x.move),(10,.tok 10 0 1 0 x.list.length),(11,.tok 11 0 1 0 x.out.length),(10,.own 1 x.list.length (((Ab x.list).drop 0).take (x.list.length*1))),(11,.own 1 x.out.length (((Ab x.out).drop 0).take (x.out.length*1)))]) zS hi (by rw[<-hu];simp[Be,Af]))) zS zS zS) ?_;refine zs ?_;refine W.weak (sX 2 2) ?_;refine zr ?_;rw[uM zS];simp[hp,Ch]
 |true=>
  rw[ho] at spO hp;refine ym spO ?_;refine zg (an (hLl trivial) hi) ?_;subst hL;refine W.weak (Wk.inn 0 2) ?_;refine W.weak (sY (B:=0) (v:=0) (j:=3) (T:=4) (u:=0) (s:=12) (off:=0) (n:=s.sR.length) (xs:=Aa (Af true) (s.sR.set i {u with job:=A3})) zF zF (congrArg some (BA (f:=Af true) (s:=12) zL (ps:=[(10,.tok 7 0 1 0 u.job.list.length),(11,.tok 8 0 1 0 u.job.out.length),(6,iN 0),(7,iN 0),(8,iN 0),(9,.bool false),(10,.own 1 0 []),(11,.own 1 0 [])]) zS hi (by rw[<-hu];simp[Be,Af,A3]))) zS zS zS) ?_;refine Bd ?_;rw[uM zS];simp[hp,Ch]
theorem XO (s:An) (o:Cy) (u:B3) (j:B7) (hi:o.s.toNat<s.sR.length):DK (Ch s o.s {u with job:=j}) o {u with job:=j} j=DK s o u j:=by
 have e:∀x y:B3,Ch (Ch s o.s x) o.s y=Ch s o.s y:=λx y=>by unfold Ch;simp[wF]
 have eg:∀x:B3,Cf (Ch s o.s x) u.pin=Cf s u.pin:=λ_=>rfl;unfold DK;simp only[eg,e]
theorem fA (hR:BK) (s:An) (i n:Nat) (a b:Int) (hs:A0 s) (hm:BJ (Ae s)) (hi:i<s.sR.length) (hn:n<1000000):Ac pg 133 [pt 0,.agg (AZ ⟨11,i,0,a,b,n⟩)] [lv (Aj true s)]
 (Fu (BM s ⟨11,i,0,a,b,n⟩ s.sR[i]).1 (BM s ⟨11,i,0,a,b,n⟩ s.sR[i]).2):=by
 have h1:=hs.1;have h2:=hs.2.1;obtain⟨u,hu⟩:∃u,u=s.sR[i]:=zX;obtain⟨p,hp⟩:∃p,p=BM s ⟨11,i,0,a,b,n⟩ s.sR[i]:=zX;rw[<-hp];unfold BM at hp;rw[zM zS,zM zS,zM zS,zM zS,zP rfl] at hp;simp only at hp;rw[<-hu] at hp;have k1:(Aa (Af true) s.sR)[i*12+1]?=some (iN u.pin):=by rw[hu];exact Au (f:=Af true) (s:=12) zL hi (i:=1) zO
 have spG:=Pm s u.pin hs hm;have hg:=D4 s u.pin;obtain⟨g,hgd⟩:∃g,g=Cf s u.pin:=zX;rw[<-hgd] at spG hg hp;have spB:=PM hR g a b hg.inn hg;unfold Fu;refine zE (fn:=Tryz.f133) [.cell 4 45,.tmp 5] ?_;rw[Aq];refine Cx ?_;refine W.weak (sX 0 2) ?_;refine W.weak (sX 0 3) ?_;refine zh hi ?_;by_cases c1:u.pin=0
 .rw[zP c1] at hp;refine th (an k1 c1) ?_;refine W.weak (Wk.inn 0 2) ?_;refine W.weak (Wk.inn 0 3) ?_;refine W.weak (sX 2 2) ?_;refine zr ?_;simp[hp,AE]
 rw[zM c1] at hp;refine th (an k1 c1) ?_;by_cases c2:DO g a b=0;rotate_left
 .rw[zP c2] at hp;rw[zM c2] at spB;refine Hw ?_;intro K hK;simp -implicitDefEqProofs (disch:=omega) [k1];refine CQ spG ?_;refine xW spB ?_;refine th c2 ?_;refine W.weak (Wk.inn 0 2) ?_;refine W.weak (Wk.inn 0 3) ?_;refine W.weak (sX 2 2) ?_;refine zr ?_;simp[hp,AE]
 rw[zM (λh=>h c2)] at hp;rw[zP c2,c2] at spB;have hB:=Lt hg c2;have hBin:=Lh hg c2;have hkd:(B9 g a b).kind=a:=rfl;obtain⟨x,hx⟩:∃x,x=B9 g a b:=zX;rw[<-hx] at spB hp hB hBin;refine Hw ?_;intro K hK;simp -implicitDefEqProofs (disch:=omega) [k1];refine CQ spG ?_;refine xW spB ?_;refine y3 ?_;have hfl:(Aa (Af true) s.sR).length=s.sR.length*12:=Bk (f:=Af true) zL _;refine zg (an hfl hi) ?_;refine W.weak (sY (B:=4) (v:=0) (j:=i*12+10) (T:=7) (u:=0) (s:=1) (off:=0) (n:=x.list.length) (xs:=Ab x.list) zF (by rw[uN zO,uO Ao]) zF zS zS zS) ?_;refine W.weak (sY (B:=4) (v:=0) (j:=i*12+11) (T:=8) (u:=0) (s:=1) (off:=0) (n:=x.out.length) (xs:=Ab x.out) zF (by rw[uN zO,uO Ao]) zF zS zS zS) ?_;refine W.weak (Wk.inn 0 2) ?_;refine W.weak (sY (B:=0) (v:=0) (j:=3) (T:=4) (u:=0) (s:=12) (off:=0) (n:=s.sR.length) (xs:=Aa (Af true) (s.sR.set i {u with job:=x})) zF zF (congrArg some (BA (f:=Af true) (s:=12) zL (ps:=[(6,iN x.kind),(7,iN x.a),(8,iN x.at_),(9,.bool x.move),(10,.tok 7 0 1 0 x.list.length),(11,.tok 8 0 1 0 x.out.length),(10,.own 1 x.list.length (((Ab x.list).drop 0).take (x.list.length*1))),(11,.own 1 x.out.length (((Ab x.out).drop 0).take (x.out.length*1)))]) zS hi (by rw[<-hu];simp[Be,Af]))) zS zS zS) ?_;obtain⟨y,hy⟩:∃y,y=Ch s i {u with job:=x}:=zX;have hyi:i<y.sR.length:=by rw[hy];simpa[Ch] using hi
 have hyu:y.sR[i]={u with job:=x}:=by simp[hy,Ch]
 have hyo:Ae y=Ae s:=by rw[hy];rfl
 have hgy:Cf y u.pin=g:=by rw[hgd];unfold Cf;rw[hyo]
 have hxz:x≠A3:=λh=>by have:=hBin.k1;rw[h] at this;simp[A3] at this
 have spM:=UN y i n 11 a b ⟨by rw[hy];exact hs.1,by rw[hy];simpa[Ch] using hs.2.1,by rw[hy];exact hs.2.2⟩ (by rw[hyo];exact hm) hyi hn (.inr (by rw[hyu];simp only;rw[hgy];exact hB));have hya:=XO s ⟨11,i,0,a,b,n⟩ u x (by simpa using hi);simp only at hya;rw[hyu] at spM;simp only at spM;rw[zM hxz,hy,hya,<-hp] at spM;unfold Fu at spM;refine z0 ?_;intro K hK;refine sZ [0] spM zS (by simp[Ch,Aj];rw[uM zS]) zS zS ?_;rintro r M ⟨rfl,rfl⟩ _;refine Am ?_;exact zR
theorem Th {M:List Ag} {l:List B3} {i a b c:Nat} (hi:i<l.length) (ha:M[a]?=some (lv (Ak true l[i].sT.out))) (hb:M[b]?=some (lv (Ab l[i].job.list))) (hc:M[c]?=some (lv (Ab l[i].job.out))) (d:Nat):
 ((((Aa (Af true) l).set (i*12+5) (.tok a 0 1 0 l[i].sT.out.length)).set (i*12+10) (.tok b 0 1 0 l[i].job.list.length)).set (i*12+11) (.tok c 0 1 0 l[i].job.out.length)).map (CV M (d+1))=Aa (Af false) l:=by
 rw[wi,wi,wi,RW];have h:=BA (f:=Af false) (s:=12) zL (ps:=[(5,CV M (d+1) (.tok a 0 1 0 l[i].sT.out.length)),(10,CV M (d+1) (.tok b 0 1 0 l[i].job.list.length)),(11,CV M (d+1) (.tok c 0 1 0 l[i].job.out.length))]) (y:=l[i]) zS hi (by simp[Be,Af,CV,Ah,ha,hb,hc]);rw[List.set_getElem_self] at h;exact h
theorem D7 {p:Nat} {F:Fr} {R:Ag} {Mr:List Ag} {s:An} {i:Nat} (hi:i<s.sR.length):Wk p F (lv [iN s.keep,iN s.sS,.tok 2 0 8 0 s.sQ.length,.tok 3 0 12 0 s.sR.length]::R::lv (Aa As s.sQ)::
 lv ((((Aa (Af true) s.sR).set (i*12+5) (.tok 4 0 1 0 s.sR[i].sT.out.length)).set (i*12+10) (.tok 5 0 1 0 s.sR[i].job.list.length)).set (i*12+11) (.tok 6 0 1 0 s.sR[i].job.out.length))::
 lv (Ak true s.sR[i].sT.out)::lv (Ab s.sR[i].job.list)::lv (Ab s.sR[i].job.out)::Mr) F (lv (Aj true s)::R:: .dead:: .dead:: .dead:: .dead:: .dead::Mr):=by
 have hfl:(Aa (Af true) s.sR).length=s.sR.length*12:=Bk (f:=Af true) zL _;obtain⟨u,hu⟩:∃u,u=s.sR[i]:=zX;rw[<-hu];refine Wk.trans (sY (B:=3) (v:=0) (j:=i*12+5) (T:=4) (u:=0) (s:=1) (off:=0) (n:=u.sT.out.length) (xs:=Ak true u.sT.out) zF (by rw[uN zO,uN zO,uO (by rw[hfl];omega)]) zF zS zS zS) ?_;refine Wk.trans (sY (B:=3) (v:=0) (j:=i*12+10) (T:=5) (u:=0) (s:=1) (off:=0) (n:=u.job.list.length) (xs:=Ab u.job.list) zF (by rw[uN zO,uN zO,uO (by rw[vS,hfl];omega)]) zF zS zS zS) ?_;refine Wk.trans (sY (B:=3) (v:=0) (j:=i*12+11) (T:=6) (u:=0) (s:=1) (off:=0) (n:=u.job.out.length) (xs:=Ab u.job.out) zF (by rw[uN zO,uN zO,uO (by rw[vS,vS,hfl];omega)]) zF zS zS zS) ?_;refine Wk.trans (Wk.inn 0 2) ?_;refine Wk.trans (sY (B:=0) (v:=0) (j:=3) (T:=3) (u:=0) (s:=12) (off:=0) (n:=s.sR.length) (xs:=Aa (Af true) s.sR) zF zF (congrArg some ((BA (f:=Af true) (s:=12) zL (y:=u) (ps:=[(5,.tok 4 0 1 0 u.sT.out.length),(10,.tok 5 0 1 0 u.job.list.length),(11,.tok 6 0 1 0 u.job.out.length),(5,.own 1 u.sT.out.length (((Ak true u.sT.out).drop 0).take (u.sT.out.length*1))),(10,.own 1 u.job.list.length (((Ab u.job.list).drop 0).take (u.job.list.length*1))),(11,.own 1 u.job.out.length (((Ab u.job.out).drop 0).take (u.job.out.length*1)))]) zS hi (by rw[<-hu];simp[Be,Af])).trans (by rw[hu,List.set_getElem_self]))) zS zS zS) ?_;have e:∀M M' :List Ag,M=M' ->Wk p F M F M' :=λ_ _ h=>h ▸ Wk.refl;exact e _ _ zS
theorem XP (hR:BK) (s:An) (i:Nat) (hs:A0 s) (hx:BO s) (h:A2 s) (hi:i<s.sR.length) (ho:s.sR[i].opn=true):Ac pg 131 [pt 0,iN i] [lv (Aj true s)]
 (Fu (BM s ⟨9,i,0,0,0,0⟩ s.sR[i]).1 (BM s ⟨9,i,0,0,0,0⟩ s.sR[i]).2):=by
 have h1:=hs.1;have h2:=hs.2.1;have hm:=h.1.1.2.2.2.2.2.2;obtain⟨u,hu⟩:∃u,u=s.sR[i]:=zX;obtain⟨p,hp⟩:∃p,p=BM s ⟨9,i,0,0,0,0⟩ s.sR[i]:=zX;rw[<-hp];have hso:=h.1.2.2.2 _ (uQ hi);rw[CK ho] at hso;unfold BM at hp;rw[zM zS,zM zS,zM zS,zM zS,zM zS,zM zS,zM zS] at hp;rw[<-hu] at hp hso;have fat:∀(q:Nat),q<12->(Aa (Af true) s.sR)[i*12+q]?=(Af true u)[q]?:=λq hq=>by rw[hu];exact Au (f:=Af true) (s:=12) zL hi hq
 have hfl:(Aa (Af true) s.sR).length=s.sR.length*12:=Bk (f:=Af true) zL _;unfold Fu;refine zE (fn:=Tryz.f131) [.cell 4 45,.tmp 5] ?_;rw[Aq];refine AX ?_;refine W.weak (sX 0 2) ?_;refine W.weak (sX 0 3) ?_;refine W.weak (te (B:=3) (v:=0) (j:=i*12+5) (s:=1) (n:=u.sT.out.length) (cs:=Aa (Af true) s.sR) (xs:=Ak true u.sT.out) zF (fat 5 zO)) ?_;refine W.weak (te (B:=3) (v:=0) (j:=i*12+10) (s:=1) (n:=u.job.list.length) (cs:=(Aa (Af true) s.sR).set (i*12+5) (.tok 4 0 1 0 u.sT.out.length)) (xs:=Ab u.job.list) zF (by rw[uN zO];exact fat 10 zO)) ?_;refine W.weak (te (B:=3) (v:=0) (j:=i*12+11) (s:=1) (n:=u.job.out.length) (cs:=((Aa (Af true) s.sR).set (i*12+5) (.tok 4 0 1 0 u.sT.out.length)).set (i*12+10) (.tok 5 0 1 0 u.job.list.length)) (xs:=Ab u.job.out) zF (by rw[uN zO,uN zO];exact fat 11 zO)) ?_;obtain⟨L,hL⟩:∃L,L=(((Aa (Af true) s.sR).set (i*12+5) (.tok 4 0 1 0 u.sT.out.length)).set (i*12+10) (.tok 5 0 1 0 u.job.list.length)).set (i*12+11) (.tok 6 0 1 0 u.job.out.length):=zX;have hLl:True->L.length=s.sR.length*12:=λ_=>by rw[hL];simp[hfl]
 have hV:∀(M:List Ag) (d:Nat),M[4]?=some (lv (Ak true u.sT.out))->M[5]?=some (lv (Ab u.job.list))->M[6]?=some (lv (Ab u.job.out))->L.map (CV M (d+1))=Aa (Af false) s.sR:=λM d ha hb hc=>by
  rw[hL,hu];rw[hu] at ha hb hc;exact Th hi ha hb hc d
 have lat:∀q:Nat,q<12->q≠5->q≠10->q≠11->L[i*12+q]?=(Af true u)[q]?:=λq hq _ _ _=>by
  rw[hL,uN zO,uN zO,uN zO];exact fat q zO
 have m0:L[i*12]?=some (.bool u.opn):=lat 0 zO zO zO zO;have m1:L[i*12+1]?=some (iN u.pin):=lat 1 zO zO zO zO;have m2:L[i*12+1+1]?=some (.bool u.on):=lat 2 zO zO zO zO;have m3:L[i*12+1+1+1]?=some (iN u.frm):=lat 3 zO zO zO zO;have m4:L[i*12+1+1+1+1]?=some (iN u.sT.n):=lat 4 zO zO zO zO;have m5:L[i*12+1+1+1+1+1]?=some (.tok 4 0 1 0 u.sT.out.length):=by
  show L[i*12+5]?=_;rw[hL,uN zO,uN zO,uO (by rw[hfl];omega)]
 have m6:L[i*12+1+1+1+1+1+1]?=some (iN u.job.kind):=lat 6 zO zO zO zO;have m7:L[i*12+1+1+1+1+1+1+1]?=some (iN u.job.a):=lat 7 zO zO zO zO;have m8:L[i*12+1+1+1+1+1+1+1+1]?=some (iN u.job.at_):=lat 8 zO zO zO zO;have m9:L[i*12+1+1+1+1+1+1+1+1+1]?=some (.bool u.job.move):=lat 9 zO zO zO zO;have m10:L[i*12+1+1+1+1+1+1+1+1+1+1]?=some (.tok 5 0 1 0 u.job.list.length):=by
  show L[i*12+10]?=_;rw[hL,uN zO,uO (by rw[vS,hfl];omega)]
 have m11:L[i*12+1+1+1+1+1+1+1+1+1+1+1]?=some (.tok 6 0 1 0 u.job.out.length):=by
  show L[i*12+11]?=_;rw[hL,uO (by rw[vS,vS,hfl];omega)]
 show W _ _ _ _ _ [_,_,_,lv ((((Aa (Af true) s.sR).set (i*12+5) (.tok 4 0 1 0 u.sT.out.length)).set (i*12+10) (.tok 5 0 1 0 u.job.list.length)).set (i*12+11) (.tok 6 0 1 0 u.job.out.length)),_,_,_] _;rw[<-hL];refine GQ (an hi (an m0 (an m1 (an m2 (an m3 (an m4 (an m5 (an m6 (an m7 (an m8 (an m9 (an m10 m11)))))))))))) ?_;intro K hK;refine zk ?_;refine zb ?_;by_cases c1:u.on=false
 .rw[zP c1] at hp;refine th c1 ?_;subst hL;subst hu;refine W.weak (D7 hi) ?_;refine W.weak (sX 1 2) ?_;refine zr ?_;simp[hp,AE]
 rw[zM c1] at hp;have c1' :u.on=true:=by simpa using c1
 rw[zM zS,zP rfl] at hp;rw[zP c1'] at hso;unfold E3 at hp;simp only at hp;have spL:=EV s hs;have spI:=Mk s hs;have hob:DZ (Ae s):=hs.objs;have spM:=cO (Ae s) u.frm u.sT hob hm hso.2.1.2.2;refine xO c1' ?_;by_cases c2:u.frm=At s.sQ;rotate_left
 .rw[zP c2] at hp;refine CN ?_;intro K hK;refine s6 spL (by simp[hV,hLl trivial]) zS ?_;refine x5 c2 ?_;subst hL;subst hu;refine W.weak (D7 hi) ?_;refine W.weak (sX 1 2) ?_;refine zr ?_;simp[hp,AE]
 rw[zM (λh=>h c2)] at hp;refine CN ?_;intro K hK;refine s6 spL (by simp[hV,hLl trivial]) zS ?_;refine x5 (eq_true c2) ?_;obtain⟨q,hq⟩:∃q,q=BP (Ae s) u.frm u.sT:=zX;rw[<-hq] at spM hp;refine Hw ?_;intro K hK;simp -implicitDefEqProofs (disch:=omega);refine s6 spI (by simp[hV,hLl trivial]) zS ?_;refine zx ?_;refine xW spM ?_;by_cases c3:q.2=0;rotate_left
 .rw[zP c3] at hp;refine th c3 ?_;subst hL;subst hu;refine W.weak (D7 hi) ?_;refine W.weak (sX 1 2) ?_;refine zr ?_;simp[hp,AE]
 rw[zM (λh=>h c3)] at hp;refine th c3 ?_;have hMk:q.2=(BP (Ae s) (At s.sQ) u.sT).2:=by rw[hq,c2]
 have hLd:=MH h hso.2.1.2.2 (hMk ▸ c3);rw[<-c2,<-hq] at hLd;have hqd:q.1.data.data.size<1000000000:=by
  have:=(S5 (l:=Ae s) (p:=u.frm) hm hso.2.1.2.2 (by rw[<-hq];exact c3)).1;rw[<-hq] at this;omega
 have hn12:=hm.1;have spY:=Xg hR s q.1 u.frm hs hx hqd (by simp[Ae] at hn12;omega);obtain⟨z,hz⟩:∃z,z=Du s q.1 u.frm:=zX;rw[<-hz] at spY hp hLd;rcases hLd with e| ⟨a,e,_⟩
 .rw[zP (by simp[e])] at hp;rw[e] at spY;refine Hw ?_;intro K hK;simp -implicitDefEqProofs (disch:=omega);refine s6 spY (by simp[hV,hLl trivial]) zS ?_;refine yu ?_;subst hL;subst hu;refine W.weak (D7 hi) ?_;refine W.weak (sX 1 2) ?_;refine zr ?_;simp[hp,AE,e]
 rw[zM (by simp[e])] at hp;have ez:z.2=0:=by rw[e]
 have es:z.1.sR=s.sR:=by rw[e];rfl
 obtain⟨y,hy⟩:∃y,y=z.1:=zX;rw[ez,<-hy] at spY;rw[<-hy] at hp es;refine Hw ?_;intro K hK;simp -implicitDefEqProofs (disch:=omega);refine s6 spY (by simp[hV,hLl trivial]) zS ?_;refine Am ?_;refine y4 ?_;have hyi:i<y.sR.length:=by rw[es];exact hi
 refine yf hyi hyi ?_;refine W.weak (Wk.inn 0 2) ?_;refine W.weak (sY (B:=0) (v:=0) (j:=3) (T:=12) (u:=0) (s:=12) (off:=0) (n:=y.sR.length) (xs:=Aa (Af true) (y.sR.set i {u with on:=false,frm:=0,sT:=Az})) zF zF (congrArg some (BA (f:=Af true) (s:=12) zL (ps:=[(2,.bool false),(3,iN 0),(4,iN 0),(5,.own 1 0 [])]) zS hyi (by rw[show y.sR[i]=u by rw[hu];simp[es]];simp[Be,Af,Az,Ak]))) zS zS zS) ?_;refine zs ?_;refine W.weak (sX 1 2) ?_;refine zr ?_;rw[uM zS];simp[hp,Ch]
theorem Pn {out:List (List Int)} {k:Nat} (hk:k<out.length):Cm ⟨0,out.take (k+1)⟩=Cm ⟨0,out.take k⟩++out[k].map λb=>((k:Int),b):=by
 have e:out.take (k+1)=out.take k++[out[k]]:=by rw[uV,uT hk];rfl
 simp only[Cm];rw[e,List.zipIdx_append,List.map_append,List.flatten_append];simp[wO (Nat.le_of_lt hk)]
theorem GA (n:Int):∀(out:List (List Int)),(Cm ⟨n,out⟩).length=Br out:=by
 intro out;simp only[Cm,Br,List.length_flatten,List.map_map];congr 1;apply List.ext_getElem
 .simp
 .intro i h1 h2;simp
theorem cP (g:Gr) (h1:g.out.length<1000000000) (h2:Br g.out<1000000000):Ac pg 230 [.agg (A1 false g)] [] (λr _=>r= .own 2 (Cm g).length (Aa Al (Cm g))):=by
 have ep:Cm g=Cm ⟨0,g.out⟩:=rfl;rw[ep];have hel:=GA 0;refine zE (fn:=Tryz.f230) [.tmp 2] ?_;rw[AC];refine z1 ?_;intro K hK;refine xM ?_;refine zb ?_;refine sV (λs:Nat×List (Int×Int)=> [(2,.tok 1 s.2.length 2 0 s.2.length),(8,DH false g.out),(9,iN g.out.length),(10,iN s.1)]) (λs=> [lv (A1 false g),.live s.2.length (Aa Al s.2)]) (λs=>g.out.length-s.1) (λs=>s.1<=g.out.length/\s.2=Cm ⟨0,g.out.take s.1⟩) (0,[]) ((Wk.nil (t:=2) (s:=2) ?_).trans (Wk.fr ?_)) (by simp[Cm]) ?_
 .simp
 .simp[AA]
 .rintro⟨k,acc⟩ ⟨hk,hacc⟩;simp only at hk hacc;have hal:acc.length=Br (g.out.take k):=by rw[hacc];exact hel _
  refine zs ?_;refine zc ?_ ?_<;>intro h
  .refine W.skip ?_;have hlt:k<g.out.length:=zO;have hst:=Pn hlt;have hs:=IK hlt;have ht:=IJ g.out (k+1);refine zb ?_;refine z0 ?_;intro K hK;refine xM ?_;refine zb ?_;refine(sV (λj:Nat=> [(2,.tok 1 (acc.length+j) 2 0 (acc.length+j)),(3,iN k),(8,DH false g.out),(9,iN g.out.length),(10,iN k),(15,.ro g.out[k].length (Ab g.out[k])),(16,iN g.out[k].length),(17,iN j)]) (λj=> [lv (A1 false g),.live (acc.length+j) (Aa Al (acc++(g.out[k].take j).map λb=>((k:Int),b)))]) (λj=>g.out[k].length-j) (λj=>j<=g.out[k].length) 0 (sU (k:=2) zK zS zS zS zS zS) zS ?_);intro j hj;refine zs ?_;refine zc ?_ ?_<;>intro h
   .refine W.skip ?_;have hlj:j<g.out[k].length:=zO;have etk:(g.out[k].map λb=>((k:Int),b)).take (j+1)=(g.out[k].map λb=>((k:Int),b)).take j++[((k:Int),g.out[k][j])]:=by rw[uV];simp[hlj]
    refine zb ?_;refine Dx ?_;intro K hK;simp -implicitDefEqProofs (disch:=omega) [hlj];refine zk ?_;refine z1 ?_;intro K hK;refine⟨zO,zO,?_⟩;refine xM ?_;refine⟨j+1,zO,zO,sU (k:=2) (by simp[AA,wx]) ?_ zS zS zS zS⟩;simp[etk,BI,AG,Al,wx]
   .refine s7 ?_;have hj' :j=g.out[k].length:=zO;subst hj';refine zs ?_;refine⟨(k+1,acc++g.out[k].map λb=>((k:Int),b)),Ao,⟨Ao,by simp only;rw[hst,hacc]⟩,sU (k:=2) zK (by simp[uM]) zS zS zS zS⟩
  .refine s7 ?_;have hk' :k=g.out.length:=zO;subst hk';rw[uW] at hacc;subst hacc;exact DM
def KF (g:Gr) (p:Int×Int):Bool:=decide (DC g p.1/\(AF g p.1).contains p.2=true)
theorem cQ (g:Gr) (p:Int×Int) (hn:(g.out.length:Int)=g.n) (h2:∀l∈g.out,l.length<1000000000):Ac pg 232 [.agg (A1 false g),.agg (Al p)] [] (λr _=>r= .bool (KF g p)):=by
 obtain⟨x,y⟩:=p;have spI:=OG g x;have ei:(0<=x/\x<g.n)=DC g x:=rfl;simp only[ei] at spI;refine zE (fn:=Tryz.f232) [.tmp 4] ?_;rw[Aq];refine z2 ?_;intro K hK;refine zk ?_;by_cases c:DC g x
 .rw[zT c] at spI;obtain⟨k,rfl⟩:∃k:Nat,x=k:=⟨x.toNat,by have:=c.1;omega⟩;have hk:k<g.out.length:=by have:=c.2;omega
  have spC:=FQ g.out[k] y (by have:=h2 _ (uQ hk);omega);have eb:AF g k=g.out[k]:=by simp[AF,hk]
  refine E1 ?_;intro K hK;simp -implicitDefEqProofs (disch:=omega) [hk,Al];refine s6 spI (by simp) (by simp) ?_;simp only[Et];simp -implicitDefEqProofs (disch:=omega) [hk,Al];refine s6 spC (by simp) (by simp) ?_;refine zx ?_;refine zk ?_;refine zr ?_;simp[KF,c,eb]
 .rw[zV c] at spI;refine E1 ?_;intro K hK;simp -implicitDefEqProofs (disch:=omega) [Al];refine s6 spI (by simp) (by simp) ?_;refine xU ?_;simp[KF,c]
theorem cR (g:Gr) (p:Int×Int) (hn:(g.out.length:Int)=g.n) (h2:∀l∈g.out,l.length<1000000000):Ac pg 231 ([.agg (Al p)]++[.rptr (A1 false g)]) [] (λr _=>r= .bool (KF g p)):=by
 refine zE (fn:=Tryz.f231) [.tmp 3] ?_;simp only[vF,vU];rw[Aq];refine yg ?_;intro K hK;refine sW (cQ g p hn h2) (by simp[Al]) zS ?_;refine Am ?_;exact zR
theorem TK (xs:List (Int×Int)) (f:Nat) (caps:List AV) (p:Int×Int->Bool) (hx:xs.length<1000000000000) (hf:∀x∈xs,Ac pg f ([.agg (Al x)]++caps) [] λr _=>r= .bool (p x)) (hcv:∀M,caps.map (vw M)=caps):
 Ac pg 267 [.ro xs.length (Aa Al xs),.fn f caps] [] (λr _=>r=iN (AN p xs)):=by
 refine zE (fn:=Tryz.f267) [.tmp 4] ?_;rw[Aq];refine zs ?_;refine xR ?_;refine sV (λk:Nat=> [(0,.ro xs.length (Aa Al xs)),(1,.fn f caps),(7,iN xs.length),(8,iN k)]) (λ_=> []) (λk=>xs.length-k) (λk=>k<=xs.length/\∀i (h:i<xs.length),i<k->p xs[i]=false) 0 (Wk.fr ?_) zS ?_
 .simp[AA]
 .rintro k ⟨hk,ht⟩;refine zs ?_;refine zc ?_ ?_<;>intro h
  .refine W.skip ?_;have hlt:k<xs.length:=zO;refine zb ?_;refine zs ?_;refine Dx ?_;intro K hK;simp -implicitDefEqProofs (disch:=omega) [hlt];have sp:=hf xs[k] (uQ hlt);refine sW sp (by simp[hcv,Al]) zS ?_;refine Am ?_;cases hp:p xs[k]
   .refine y3 ?_;refine⟨k+1,zO,⟨zO,?_⟩,Wk.fr zK⟩;intro i hi hik;by_cases e:i=k
    .subst e;exact hp
    .exact ht i hi zO
   .refine AJ ?_;exact(DY hlt hp λi hi hik=>ht i hi hik).symm
  .refine AJ ?_;exact(Fa λi hi=>ht i hi zO).symm
theorem Og:∀(l:List (Int×Int)),E0 (Aa Al l)=true
 | []=>rfl
 |x::l=>by
  have:=Og l;unfold E0 at this |-;rw[AG,List.all_append,this];rfl
theorem VQ {α:Type} (p:α->Bool) (l:List α):(AN p l=-1/\∀x∈l,p x=false)\/∃k,∃h:k<l.length,AN p l=(k:Int)/\p l[k]=true/\∀i (h:i<l.length),i<k->p l[i]=false:=by
 unfold AN;cases h:l.findIdx? p with
 |none=>exact .inl ⟨rfl,by simpa using h⟩
 |some k=>
  obtain⟨h1,h2,h3⟩:=vN.1 h;exact .inr ⟨k,h1,rfl,h2,λi hi hik=>by simpa using h3 i hik⟩
theorem XQ (xs:List (Int×Int)) (u f:Nat) (caps:List AV) (p:Int×Int->Bool) (hx:xs.length<1000000) (hf:∀x∈xs,Ac pg f ([.agg (Al x)]++caps) [] λr _=>r= .bool (p x)) (hcv:∀M,caps.map (vw M)=caps) (hcc:∀M k,caps.map (CV M k)=caps) (hcn:∀k,D5 k caps=true):
 Ac pg 229 [.tok 0 u 2 0 xs.length,.fn f caps] [.live u (Aa Al xs)] (λr M=>r= .own 2 (xs.filter λx=> ! p x).length (Aa Al (xs.filter λx=> ! p x))/\M=[.dead]):=by
 have hfl:(Aa Al xs).length=xs.length*2:=Bk (f:=Al) (λ_=>rfl) _;refine tA (fn:=Tryz.f229) tk rfl rfl rfl (wC rfl) (by kernel_rfl) ?_;intro C hC hp hnC hrd hdf;have hp0:C.p<=1:=Nat.le_of_eq hp;have hn42:C.n=42:=hnC;show AW C _ _ _ (Fo tT [.tmp 4] 1 _);rw[Aq];refine tn tk hC hp0 (by rw[hn42];kernel_rfl) ?_;refine zs ?_;refine tn tk hC hp0 (by rw[hn42];kernel_rfl) ?_;have spI:=TK xs f caps p (by omega) hf hcv;refine z0 ?_;intro K hK;refine sW spI (by simp[hcc,uM,hfl]) (by simp) ?_;refine zx ?_;refine zk ?_;refine tn tk hC hp0 (by rw[hn42];kernel_rfl) ?_;rcases VQ p xs with⟨c,hall⟩ | ⟨k,hk,c,hpk,hmin⟩
 .rw[c];refine z0 ?_;intro K hK;refine zk ?_;refine zt ?_;refine zs ?_;have ef:(xs.filter λx=> ! p x)=xs:=wD.2 λx hx=>by simp[hall x hx]
  refine zr ?_;rw[ef];exact⟨rfl,rfl⟩
 rw[c];have c1:¬(k:Int)=-1:=by omega
 refine BS c1 ?_;intro K hK;refine zk ?_;refine zn ?_;refine W.skip ?_;refine tn tk hC hp0 (by rw[hn42];kernel_rfl) ?_;refine zs ?_;have hinv0:xs.take k=(xs.take (k+1)).filter λx=> ! p x:=by
  have e1:(xs.take k).filter (λx=> ! p x)=xs.take k:=wD.2 λx hx=>by
   obtain⟨i,hi,rfl⟩:=vq.1 hx;simp at hi;simp[hmin i (by omega) (by omega)]
  rw[uV,uT hk,wV,e1];simp[hpk]
 (repeat refine ta ?_);refine W.block (sV (λs:Nat×Nat×List (Int×Int)=> [(0,.tok 0 u 2 0 xs.length),(1,.fn f caps),(5,iN s.2.1),(6,iN s.1)]) (λs=> [.live u (Aa Al s.2.2)]) (λs=>xs.length-s.1) (λs=>s.2.1<s.1/\s.1<=xs.length/\s.2.2.length=xs.length/\s.2.2.take s.2.1=(xs.take s.1).filter (λx=> ! p x)/\s.2.2.drop s.1=xs.drop s.1) (k+1,k,xs) (Wk.fr (by simp[AA])) ⟨by simp,by simp;omega,rfl,hinv0,rfl⟩ ?_)
 .rintro⟨j,i,ys⟩ ⟨hij,hjn,hyl,hyt,hyd⟩;simp only at hij hjn hyl hyt hyd;refine zs ?_;refine zc ?_ ?_<;>intro h
  .refine W.skip ?_;have hlt:j<ys.length:=by omega
   have hlx:j<xs.length:=by omega
   have hyj:ys[j]=xs[j]:=by
    have:=congrArg (λl=>l[0]?) hyd;simpa[hlt,hlx] using this
   have hnx:(xs.take (j+1)).filter (λx=> ! p x)=(xs.take j).filter (λx=> ! p x)++if p xs[j]=true then [] else [xs[j]]:=by
    rw[uV,uT hlx,wV];cases hp:p xs[j]<;>simp[hp]
   have hyd2:ys.drop (j+1)=xs.drop (j+1):=by
    have:=congrArg (λl=>l.drop 1) hyd;simpa[List.drop_drop,Nat.add_comm] using this
   have sp:=hf xs[j] (uQ hlx);have f0:(Aa Al ys)[j*2]?=some (iN xs[j].1):=by
    have:=Au (f:=Al) (s:=2) (λ_=>rfl) (k:=j) (i:=0) hlt (by omega);rw[<-hyj];simpa[Al] using this
   have f1:(Aa Al ys)[j*2+1]?=some (iN xs[j].2):=by
    have:=Au (f:=Al) (s:=2) (λ_=>rfl) (k:=j) (i:=1) hlt (by omega);rw[<-hyj];simpa[Al] using this
   refine zb ?_;refine GQ (an f0 f1) ?_;intro K hK;refine zk ?_;refine z0 ?_;intro K hK;refine sW sp (by simp[hcv,Al]) (by simp) ?_;refine zx ?_;refine zk ?_;cases hp:p xs[j]
   .rw[zM (by simp[hp])] at hnx;refine zt ?_;have hi:i<ys.length:=by omega
    have hfs:=FG (f:=Al) (s:=2) (j:=0) (λ_=>rfl) (xs:=Al xs[j]) (by simp[Al]) (y:=xs[j]) (l:=ys) (k:=i) hi (by simp[Al,Bt]);simp only[xg] at hfs;have hfy:(Aa Al ys).length=xs.length*2:=by rw[Bk (f:=Al) (s:=2) (λ_=>rfl),hyl]
    refine BS hfy ?_;intro K hK;refine xM ?_;refine zs ?_;refine⟨(j+1,i+1,ys.set i xs[j]),by simp;omega,⟨by simp;omega,by simp;omega,by simp[hyl],?_,?_⟩,sU (k:=1) (by simp[AA,hcn]) ?_ (by simp[hcn]) (by simp[hcn]) (by simp[hcn]) (by simp[hcn])⟩
    .simp only;rw[hnx,<-hyt,uV,List.take_set_of_le (vg _),uO hi];rfl
    .simp only;rw[List.drop_set_of_lt (by omega),hyd2]
    .simp only[<-hfs];simp[Al,Bt]
   .rw[zP (by simp[hp])] at hnx;refine zn ?_;refine W.skip ?_;refine zs ?_;refine⟨(j+1,i,ys),by simp;omega,⟨by simp;omega,by simp;omega,hyl,?_,hyd2⟩,sU (k:=1) (by simp[AA,hcn]) (by simp[hcn]) (by simp[hcn]) (by simp[hcn]) (by simp[hcn]) (by simp[hcn])⟩;simp only;rw[hnx,<-hyt];simp
  .refine s7 ?_;have hfy:(Aa Al ys).length=xs.length*2:=by rw[Bk (f:=Al) (s:=2) (λ_=>rfl),hyl]
   have hjx:j=xs.length:=by omega
   rw[hjx,uW] at hyt;obtain⟨zs,hzs⟩:∃zs,zs=xs.filter λx=> ! p x:=⟨_,rfl⟩;rw[<-hzs] at hyt |-;have hin:i<xs.length:=by omega
   have hzl:zs.length=i:=by rw[<-hyt];simp;omega
   refine tC ?_;intro a w hr;refine wpIn_region_lit ?_;refine(ES (hC ▸ tk) (K:=λF' M' =>Wk 1 F' M' (fr [(0,.tok 0 u 2 0 xs.length),(5,iN i),(38,.tok 0 u 2 (i*2) (xs.length-i))]) [.live u (Aa Al ys)]) ?_ [_,_,_] 1 _ _ a w ?_ ?_ ?_ hr:wpListIn _ _ _ _ _ ([_,_,_]++[_]) a w);rotate_left
   .rw[hn42];kernel_rfl
   .rw[hn42];kernel_rfl
   .refine Dk (call:=Ad pg) (call' :=Cd C) (λf args M K K' hk hc=>(hc C hC).mono hk) (λ_ _ h=>h) _ _ _ _ ?_;simp -implicitDefEqProofs (maxSteps:=999999) (disch:=omega);exact Wk.fr (by simp[AA])
   clear hr a w;intro F' M' a w hwk hr;obtain⟨σ,own,R⟩:=hwk C hp0 a w hr;clear hr hwk;simp only[wpListIn];rw[zP (by simp[Region.wanted])];obtain⟨h8,b8,sz,cc,hst,hv8,hnc,hcm,hsz⟩:=L5 R (t:=38) (B:=0) (u:=u) (s:=2) (off:=i*2) (n:=xs.length-i) (cs:=Aa Al ys) (by omega) rfl (by simp[Ah]) (by omega);refine Vp (hC ▸ tk) R (t:=103) (e:=106) (s:=2) (eb:=16) (ez:=[iN 0,iN 0]) rfl (B:=0) (u:=u) (h:=h8) (b:=b8) (sz:=sz) (cs:=Aa Al ys) (off:=i*2) (n:=xs.length-i) (by simp[Ah]) hst hv8 (by rfl) (by omega) (by omega) λa w R=>?_;clear hv8 hst;have hrl:(Bv (xs.length-i) [AV.int .i64 0,iN 0]).length=(xs.length-i)*2:=by simp[Bv]
   rw[show([Ag.live u (Aa Al ys)].set 0 (.live u (Bt (Aa Al ys) (i*2) (Bv (xs.length-i) [AV.int .i64 0,iN 0]))))=[Ag.live u (Bt (Aa Al ys) (i*2) (Bv (xs.length-i) [AV.int .i64 0,iN 0]))] from rfl] at R;have ht3:(Bt (Aa Al ys) (i*2) (Bv (xs.length-i) [AV.int .i64 0,iN 0])).take (i*2)=Aa Al zs:=by
    rw[Gb _ _ _ (by omega),uZ,List.take_left' (by simp;omega),E8 (f:=Al) (λ_=>rfl),hyt]
   have hl3:i*2<=(Bt (Aa Al ys) (i*2) (Bv (xs.length-i) [AV.int .i64 0,iN 0])).length:=by
    rw[Gb _ _ _ (by omega)];simp;omega
   generalize Bt (Aa Al ys) (i*2) (Bv (xs.length-i) [AV.int .i64 0,iN 0])=cs3 at ht3 hl3 R;refine .inl ⟨_,_,?_,σ,own,R⟩;show AW C _ _ _ _;refine AW.weak (Wk.fr (p:=1) (S:=[(0,.tok 0 u 2 0 xs.length),(5,iN i)]) (by simp[AA,Bu]) C hp0) ?_;refine tn (Q:=Fo tT [.tmp 4] 1 _) tk hC hp0 (by rw[hn42];kernel_rfl) ?_;refine Dx ?_;intro K hK;simp -implicitDefEqProofs (disch:=omega);(repeat refine⟨by first|assumption|omega,?_⟩);refine hK _ _ ?_;clear hK K;refine tK ?_;simp only[B6,C0,CM];refine CA (d:=0) ?_;have hq:=Og zs;rw[<-ht3] at hq |-;simp -implicitDefEqProofs (maxSteps:=999999) (disch:=omega) [hq,hzl]
theorem cT (a b:Gr) (ha:AP a) (hb:AP b):Ac pg 188 [.agg (A1 false a),.agg (A1 false b)] [] (λr _=>r= .own 2 (Fs b a).length (Aa Al (Fs b a))):=by
 have h1:=hb.1;have h2:=hb.2.1;have h3:=hb.2.2.1;have h5:=hb.2.2.2.2;have spL:=cP b zO zO;have hpl:(Cm b).length=Br b.out:=GA _ _;have hal:∀l∈a.out,l.length<1000000000:=λl hl=>by have:=Bw (ha.2.2.2.1 l hl).1;omega
 obtain⟨xs,hxs⟩:∃xs,xs=Cm b:=zX;have el:Fs b a=xs.filter λx=> ! KF a x:=by rw[hxs];rfl
 rw[<-hxs] at spL hpl;rw[el];have spD:=XQ xs 0 231 [.rptr (A1 false a)] (KF a) zO (λx _=>cR a x ha.2.2.1 hal) zS zS zS;refine zE (fn:=Tryz.f188) [.tmp 4] ?_;rw[Aq];refine Cx ?_;refine z0 ?_;intro K hK;refine zj spL ?_;refine sZ [2] spD zS zS (by simp[Og]) zS ?_;rintro r M ⟨rfl,rfl⟩ _;refine Am ?_;exact zR
theorem cU {l:List Int} {x:Int} {k:Nat} (hk:k<=l.length) (h1:∀i (h:i<l.length),i<k->l[i]<x) (h2:∀i (h:i<l.length),k<=i->x<=l[i]):D2 l x=k:=by
 have e:l=l.take k++l.drop k:=(vJ k l).symm;have ht:∀y∈l.take k,decide (y<x)=true:=λy hy=>by
  obtain⟨i,hi,rfl⟩:=vq.1 hy;simp at hi;simp[h1 i zO zO]
 have hd:(l.drop k).takeWhile (λy=>decide (y<x))=[]:=by
  rcases uY k l.length with c|c
  .rw[uX c,List.takeWhile_cons_of_neg];have:=h2 k c (vg _);simp;omega
  .rw[List.drop_of_length_le c];rfl
 unfold D2;rw[e,List.takeWhile_append_of_pos ht,hd];simp;omega
theorem cV (x:Int):Ac pg 262 [iN x] [] (λr _=>r= .bool false):=by
 refine zE (fn:=Tryz.f262) [.tmp 2] ?_;rw[AC];exact Ny
theorem fB (x:Int):Ac pg 290 [iN x] [] (λr _=>r= .bool false):=by
 refine zE (fn:=Tryz.f290) [.tmp 2] ?_;rw[AC];exact Ny
theorem cW (x y:Int):Ac pg 261 [iN x,iN y] [] (λr _=>r= .bool (decide (x<y))):=by
 refine zE (fn:=Tryz.f261) [.tmp 4] ?_;rw[Aq];refine zs ?_;refine AL (fB x) ?_;exact zR
theorem QZ (xs:List Int) (x:Int) (hn:xs.length<1000000) (hs:xs.Pairwise (·<·)):Ac pg 224 [.ro xs.length (Ab xs),iN x] [] (λr _=>r= .tup [iN (D2 xs x),.bool (xs.contains x)]):=by
 have hmono:∀i j (hi:i<xs.length) (hj:j<xs.length),i<=j->xs[i]<=xs[j]:=λi j hi hj h=>by
  by_cases e:i=j
  .subst e;exact wM _
  .have:=vB.1 hs i j hi hj zO;omega
 refine zE (fn:=Tryz.f224) [.tmp 4,.tmp 5] ?_;rw[Aq];refine zs ?_;refine zs ?_;refine xR ?_;refine sV (λs:Nat×Nat=> [(0,.ro xs.length (Ab xs)),(1,iN x),(6,iN xs.length),(7,iN s.1),(8,iN s.2)]) (λ_=> []) (λs=>s.2-s.1) (λs=>s.1<=s.2/\s.2<=xs.length/\(∀i (h:i<xs.length),i<s.1->xs[i]<x)/\∀i (h:i<xs.length),s.2<=i->x<=xs[i]) (0,xs.length) (Wk.fr zK) ⟨zS,vg _,λi h h2=>by simp at h2,λi h h2=>by simp at h2;omega⟩ ?_;rintro⟨lo,hi⟩ ⟨h1,h2,h3,h4⟩;simp only at h1 h2 h3 h4;refine zs ?_;refine zc ?_ ?_<;>intro h
 .refine W.skip ?_;have hm:(lo+hi)/2<xs.length:=zO;obtain⟨m,hmd⟩:∃m,m=(lo+hi)/2:=zX;rw[<-hmd] at hm;have e1:((lo:Int)+hi)/2=(m:Int):=zO;have e2:((lo:Int)+hi)>>>1=(m:Int):=by rw[Int.shiftRight_eq_div_pow];omega
  refine zb ?_;refine BS (an e1 e2) ?_;intro K hK;refine zk ?_;refine Dx ?_;intro K hK;simp -implicitDefEqProofs (disch:=omega) [hm];refine sW (cW xs[m] x) (by simp) (by simp) ?_;refine Am ?_;by_cases c:xs[m]<x
  .refine zt ?_;refine zs ?_;refine⟨(m+1,hi),Ao,⟨Ao,Ao,λi hi' hx=>?_,h4⟩,Wk.fr zK⟩;have:=hmono i m hi' hm (by simp at hx;omega);omega
  .refine zn ?_;refine zs ?_;refine⟨(lo,m),Ao,⟨Ao,Ao,h3,λi hi' hx=>?_⟩,Wk.fr zK⟩;have:=hmono m i hm hi' (by simpa using hx);omega
 .refine s7 ?_;have e:lo=hi:=zO;subst e;have ep:D2 xs x=lo:=cU h2 h3 h4;by_cases c1:lo<xs.length
  .have hco:xs.contains x=decide (xs[lo]=x):=by
    rw[Bool.eq_iff_iff];simp only[xx,decide_eq_true_eq];constructor
    .intro hx;obtain⟨i,hi,rfl⟩:=vq.1 hx;by_cases e:i<lo
     .have:=h3 i hi e;omega
     .have a:=h4 lo c1 (vg _);have b:=hmono lo i c1 hi zO;omega
    .intro e;rw[<-e];exact uQ _
   have hm2:x∈xs↔xs[lo]=x:=by rw[<-xx,hco];simp
   by_cases c2:xs[lo]=x
   .refine xQ (an c1 c2) ?_;simp[ep,hm2,c2]
   .refine GL (an c1 c2) (cV xs[lo]) ?_;refine zr ?_;simp[ep,hm2,c2]
  .have hco:xs.contains x=false:=by
    rw[xl];intro hx;obtain⟨i,hi,rfl⟩:=vq.1 (xx.1 hx);have:=h3 i hi zO;omega
   refine xQ c1 ?_;simp only[ep,true_and];simpa using hco
theorem Zq (cs:List AV) (u n i:Nat) (hi:i<n) (hn:n<1000000000000) (hl:cs.length=n*1) (hpl:cs.all DS=true) (htf:E0 cs=true):Ac pg 226 [.tok 0 u 1 0 n,.int .i64 i,.int .i64 ((i+1:Nat):Int)] [.live u cs] (λr M=>r= .own 1 (n-1) (cs.take (i*1)++cs.drop ((i+1)*1))/\M=[.dead]):=by
 refine tA (fn:=Tryz.f226) tk rfl rfl rfl (wC rfl) AK ?_;intro C hC hp hnC hrd hdf;have hp0:C.p<=1:=Nat.le_of_eq hp;have hn33:C.n=33:=hnC;show AW C _ _ _ (Fo tT [.tmp 6] 1 _);rw[A6];refine tn tk hC hp0 (by rw[hn33];kernel_rfl) ?_;refine zs ?_;refine tC ?_;intro a w hr;refine wpIn_region_lit ?_;refine(ES (hC ▸ tk) (K:=λF' M' =>Wk 1 F' M' (fr [(0,.tok 0 u 1 0 n),(1,.int .i64 i),(2,.int .i64 ((i+1:Nat):Int)),(8,.tok 0 u 1 0 n),(9,.int .i64 i),(10,.int .i64 ((i+1:Nat):Int)),(12,.int .i64 n)]) [.live u cs]) ?_ [_,_,_,_,_] 1 _ _ a w ?_ ?_ ?_ hr:wpListIn _ _ _ _ _ ([_,_,_,_,_]++[_]) a w);rotate_left
 .rw[hn33];kernel_rfl
 .rw[hn33];kernel_rfl
 .refine Dk (call:=Ad pg) (call' :=Cd C) (λf args M K K' hk hc=>(hc C hC).mono hk) (λ_ _ h=>h) _ _ _ _ ?_;simp -implicitDefEqProofs (maxSteps:=999999) (disch:=omega);exact Wk.fr zK
 clear hr a w;intro F' M' a w hwk hr;obtain⟨σ,own,R⟩:=hwk C hp0 a w hr;clear hr hwk;simp only[wpListIn];rw[zP (by simp[Region.wanted])];obtain⟨h8,b8',sz,c,hst,hv8,hnc,hcm,hsz⟩:=L5 R (t:=8) (B:=0) (u:=u) (s:=1) (off:=0) (n:=n) (cs:=cs) zO rfl (by simp[Ah]) zO;have e9:a.eval (.tmp 9)= .int .i64 i:=(R.tmp 9 zO).1;have e10:a.eval (.tmp 10)= .int .i64 ((i+1:Nat):Int):=(R.tmp 10 zO).1;have e12:a.eval (.tmp 12)= .int .i64 n:=(R.tmp 12 zO).1;have e8:a.eval (.tmp 8)=_:=hv8;obtain⟨v,hv⟩:=Ws (hC ▸ tk) (t:=36) (e:=3) (es:=1) (eb:=8) (ez:=[AV.int .i64 0]) rfl (ad:=some ⟨h8,b8' +0,none⟩) (n:=n) (c:=c) (l:=i) (h:=i+1) (m:=n) zO zO hnc w;refine tc (λ_ h=>by cases h) (v:=v) (w' :=w) ?_ (.inl ⟨_,_,?_,σ,own,R.put (some 13) (av:= .any) zL⟩)
 .simp only[execOp,e8,e9,e10,e12,vI,Sem.run_bind];rw[hv];simp only[Result.andThen_ok,Sem.run_pure]
 refine AW.weak (Wk.fr (S:=[(0,.tok 0 u 1 0 n),(1,.int .i64 i),(2,.int .i64 ((i+1:Nat):Int))]) (by simp[AA,Bu]) C hp0) ?_;clear hv e8 e9 e10 e12 v hv8 hst R;refine tn tk hC hp0 (by rw[hn33];kernel_rfl) ?_;have z1:¬(i:Int)=((i+1:Nat):Int):=zO;refine th z1 ?_;refine tn tk hC hp0 (by rw[hn33];kernel_rfl) ?_;refine zs ?_;refine AW.weak (Wk.fr (S:=[(0,.tok 0 u 1 0 n),(1,.int .i64 i),(2,.int .i64 ((i+1:Nat):Int)),(7,.int .i64 n)]) (by simp[AA,Bu]) C hp0) ?_;clear hnc hcm hsz h8 b8' sz c own σ a w M' F';obtain⟨m,hm⟩:∃m,m=n-(i+1):=zX;have hys:((cs.drop ((i+1)*1)).take (m*1)).length=m*1:=Ao;have hcs:Bt cs (i*1) ((cs.drop ((i+1)*1)).take (m*1))=cs.take (i*1)++cs.drop ((i+1)*1)++cs.drop ((n-1)*1):=by
  rw[Gb _ _ _ (by rw[hys];omega),hys,show i*1+m*1=(n-1)*1 by omega,uM (l:=cs.drop ((i+1)*1)) Ao]
 intro a w hr;refine wpIn_seq (wpIn_mono (Q:=λe a w=>e= .normal/\∃F σ own h b sz c,F 0= .tok 0 u 1 0 (n-1)/\F 7= .int .i64 n/\AS C F [.live u (cs.take (i*1)++cs.drop ((i+1)*1)++cs.drop ((n-1)*1))] a w σ own/\σ 0 u=some (.loc h b sz)/\a.tmps.getD 0 undef= .slice (some ⟨h,b,none⟩) (n-1) c/\n<=c/\c<=maxLen/\b+c*1<=sz) ?_ ?_);rotate_left
 .rintro e a w ⟨rfl,F,σ,own,h0,b0,sz,c,f0,f7,R,hst,hv0,hnc,hcm,hsz⟩;obtain⟨cs2,hc2⟩:∃cs2,cs2=cs.take (i*1)++cs.drop ((i+1)*1)++cs.drop ((n-1)*1):=zX;have hl2:cs2.length=n*1:=by rw[hc2];simp;omega
  have ht2:cs2.take ((n-1)*1)=cs.take (i*1)++cs.drop ((i+1)*1):=by
   rw[hc2,List.take_left' Ao]
  have hq:E0 (cs2.take ((n-1)*1))=true:=by
   rw[ht2];unfold E0 at htf |-;rw[u1] at htf |-;intro x hx;rcases vd.1 hx with h|h
   .exact htf x (wh h)
   .exact htf x (wH h)
  rw[<-ht2];rw[<-hc2] at R;clear hc2 ht2 hcs hys hr;refine wpIn_seq (wpIn_region_lit ?_);simp only[wpListIn];have e7:a.tmps.getD 7 undef= .int .i64 n:=by have:=R.tmp 7 zO;rw[f7] at this;exact this.1
  have r0:=R.tmp 0 zO;rw[f0,hv0] at r0;rw[zP (by simp[Region.wanted])];refine GW R (λ_ h=>by cases h) rfl zO (v:= .slice (some ⟨h0,b0,none⟩) (n-1) c) (av:= .tok 0 u 1 0 (n-1)) r0 (by rw[<-hv0];rfl) λa1 R v1 k1=>?_;rw[zP (by simp[Region.wanted])];refine GW R (λ_ h=>by cases h) rfl zO (v:= .slice (some ⟨h0,b0,none⟩) (n-1) c) (av:= .tok 0 u 1 0 (n-1)) r0 (by rw[<-hv0,<-k1 0 zD];rfl) λa2 R v2 k2=>?_;rw[zP (by simp[Region.wanted])];have e28:a2.eval (.tmp 28)= .slice (some ⟨h0,b0,none⟩) (n-1) c:=v2;refine GW R (λ_ h=>by cases h) rfl zO (v:= .int .i64 ((n-1:Nat):Int)) (av:= .int .i64 ((n-1:Nat):Int)) ⟨rfl,λ_=>rfl⟩ ?_ λa3 R v3 k3=>?_
  .have hD:=(CH (P:=C.P) (hC ▸ tk:BQ C.P tT) (t:=36) (e:=3) (es:=1) (eb:=8) (ez:=[AV.int .i64 0]) rfl).1;simp[execOp,resolve,invoke,builtin,e28,Builtin.len_,run_underlying hD,goInt]
  rw[zP (by simp[Region.wanted])];refine GW R (λ_ h=>by cases h) rfl zO (v:= .int .i64 n) (av:= .int .i64 n) ⟨rfl,λ_=>rfl⟩ (by rw[<-e7,<-k1 7 zD,<-k2 7 zD,<-k3 7 zD];rfl) λa4 R v4 k4=>?_;rw[zP (by simp[Region.wanted])];have e27:a4.eval (.tmp 27)= .slice (some ⟨h0,b0,none⟩) (n-1) c:=by
   show a4.tmps.getD 27 undef=_;rw[k4 _ zD,k3 _ zD,k2 _ zD,v1]
  have e29:a4.eval (.tmp 29)= .int .i64 ((n-1:Nat):Int):=by
   show a4.tmps.getD 29 undef=_;rw[k4 _ zD,v3]
  have e30:a4.eval (.tmp 30)= .int .i64 n:=v4;have hs31:=Vo (hC ▸ tk) (t:=36) (e:=3) (es:=1) (eb:=8) (ez:=[AV.int .i64 0]) rfl (ad:=some ⟨h0,b0,none⟩) (n:=n-1) (c:=c) (lo:=some (n-1)) (hi:=some n) (l:=n-1) (h:=n) rfl rfl zO hnc w;have hne:¬c=n-1:=zO;simp only[vI,hne,if_false,show n-(n-1)=1 by omega] at hs31;refine GW R (λ_ h=>by cases h) rfl zO (v:= .slice (some (Addr.add ⟨h0,b0,none⟩ ((n-1)*1))) 1 (c-(n-1))) (av:= .any) zL ?_ λa5 R v5 k5=>?_
  .simp only[execOp,e27,e29,e30,vI,Option.map_none,Sem.run_bind];rw[hs31];simp only[Result.andThen_ok,Sem.run_pure]
  rw[show(some (Addr.add ⟨h0,b0,none⟩ ((n-1)*1)))=some ⟨h0,b0+(n-1)*1,none⟩ by simp[Addr.add]] at v5;rw[zP (by simp[Region.wanted])];refine Vp (hC ▸ tk) R (t:=36) (e:=3) (s:=1) (eb:=8) (ez:=[AV.int .i64 0]) rfl (B:=0) (u:=u) (h:=h0) (b:=b0) (sz:=sz) (cs:=cs2) (off:=(n-1)*1) (n:=1) (by simp[Ah]) hst v5 zF zO zO λa w R=>?_;clear hs31 e27 e29 e30 e28 v1 v2 v3 v4 v5 k1 k2 k3 k4 k5 r0 e7 hv0 hst;have hl1:(Bv 1 [AV.int .i64 0]).length=1:=rfl;rw[show([Ag.live u cs2].set 0 (.live u (Bt cs2 ((n-1)*1) (Bv 1 [AV.int .i64 0]))))=[Ag.live u (Bt cs2 ((n-1)*1) (Bv 1 [AV.int .i64 0]))] from rfl,Gb _ _ _ (by rw[hl1];omega)] at R;have ht3:cs2.take ((n-1)*1)=(cs2.take ((n-1)*1)++Bv 1 [AV.int .i64 0]++cs2.drop ((n-1)*1+(Bv 1 [AV.int .i64 0]).length)).take ((n-1)*1):=by
   rw[uZ,List.take_left' Ao]
  have hl3:(n-1)*1<=(cs2.take ((n-1)*1)++Bv 1 [AV.int .i64 0]++cs2.drop ((n-1)*1+(Bv 1 [AV.int .i64 0]).length)).length:=by
   simp only[u0,wy];omega
  generalize cs2.take ((n-1)*1)++Bv 1 [AV.int .i64 0]++cs2.drop ((n-1)*1+(Bv 1 [AV.int .i64 0]).length)=cs3 at ht3 hl3 R;rw[ht3] at hq |-;have hw:=Wk.fr (p:=1) (S:=[(0,.tok 0 u 1 0 (n-1))]) (by simp[AA,Bu,f0]) C hp0 a _ ⟨σ,own,R⟩;refine tn (Q:=Fo tT [.tmp 6] 1 _) tk hC hp0 (by rw[hn33];kernel_rfl) ?_ a w hw;refine zs ?_;refine tK ?_;simp only[B6,C0,CM];refine CA (d:=0) ?_;simp only[Nat.mul_one] at hq;simp -implicitDefEqProofs (maxSteps:=999999) (disch:=omega) [hq]
 refine wpIn_region_any (hC ▸ Df) ?_;obtain⟨σ,own,R⟩:=hr;have R:=R.drew;show wpAnyIn _ _ _ _ _ _ 8 _ a w.drew;generalize w.drew=w at*;obtain⟨h0,b0,sz,c,hst,hv0,hnc,hcm,hsz⟩:=L5 R (t:=0) (B:=0) (u:=u) (s:=1) (off:=0) (n:=n) (cs:=cs) zO rfl (by simp[Ah]) zO;have e1:a.tmps.getD 1 undef= .int .i64 i:=(R.tmp 1 zO).1;have e2:a.tmps.getD 2 undef= .int .i64 ((i+1:Nat):Int):=(R.tmp 2 zO).1;simp only[xg] at hv0 hsz;refine FC hrd R (i:=0) rfl AK AK AK zO zO λa1 R v1 k1=>?_;rw[hv0] at v1;refine FC hrd R (i:=1) rfl AK AK AK zO zO λa2 R v2 k2=>?_;rw[k1 _ zD,e1] at v2;refine IG (hC ▸ tk) hrd R (i:=2) (lo:=none) (hi:=some (21,i)) (u:=u) (B:=0) (n:=n) (c:=c) (hp:=h0) (b:=b0) (sz:=sz) (h:=i) (l:=0) (es:=1) rfl AK AK AK zO (t:=36) rfl hst (by rw[k2 _ zD,v1]) hcm hsz zS (by rintro x ⟨⟩;exact v2) rfl rfl zO zO λa3 R v3 k3=>?_;refine FC hrd R (i:=3) rfl AK AK AK zO zO λa4 R v4 k4=>?_;rw[k3 _ zD,k2 _ zD,k1 _ zD,hv0] at v4;refine FC hrd R (i:=4) rfl AK AK AK zO zO λa5 R v5 k5=>?_;rw[k4 _ zD,k3 _ zD,k2 _ zD,k1 _ zD,e2] at v5;refine IG (hC ▸ tk) hrd R (i:=5) (lo:=some (24,i+1)) (hi:=none) (u:=u) (B:=0) (n:=n) (c:=c) (hp:=h0) (b:=b0) (sz:=sz) (h:=n) (l:=i+1) (es:=1) rfl AK AK AK zO (t:=36) rfl hst (by rw[k5 _ zD,v4]) hcm hsz (by rintro x ⟨⟩;exact v5) zS rfl rfl zO zO λa6 R v6 k6=>?_;rw[show(if c=0 then(some ⟨h0,b0,none⟩:Option Addr) else some ⟨h0,b0+0*1,none⟩)=some ⟨h0,b0,none⟩ by split<;>simp] at v3;have e22:a6.tmps.getD 22 undef= .slice (some ⟨h0,b0,none⟩) i c:=by
  have:a6.tmps.getD 22 undef= .slice (some ⟨h0,b0,none⟩) (i-0) (c-0):=by rw[k6 _ zD,k5 _ zD,k4 _ zD];exact v3
  exact this
 refine wpAnyIn_ready (rs:=[6]) AK zS (AllReadyIn.cons rfl (λK' hK=>?_) AllReadyIn.nil);rw[zP (by simp[Region.wanted])];refine ZL (hC ▸ tk) R (t:=36) (e:=3) (s:=1) (eb:=8) (ez:=[AV.int .i64 0]) rfl (B:=0) (u:=u) (h:=h0) (b:=b0) (sz:=sz) (cs:=cs) (by simp[Ah]) hst e22 zO (m:=m) (ys:=(cs.drop ((i+1)*1)).take (m*1)) (n:=i) (c:=c) (by simp[Bu,De,Ah,hm]) hys (UC hpl _ _) zO zO hcm hsz zO λa7 w' R' v7=>hK _ _ ?_;rw[hcs,show i+m=n-1 by omega] at R';rw[show i+m=n-1 by omega] at v7;refine wpAnyIn_ready (rs:=[7]) AK zS (AllReadyIn.cons rfl (λK' hK=>?_) AllReadyIn.nil);rw[zP (by simp[Region.wanted])];refine GW R' (λ_ h=>by cases h) rfl zO (v:= .slice (some ⟨h0,b0,none⟩) (n-1) c) (av:= .tok 0 u 1 0 (n-1)) (L6 hst zO hcm zO zL) (by rw[<-v7];rfl) λa R v8 k8=>hK _ _ ?_;refine wpAnyIn_done AK ⟨rfl,?_⟩ _;exact⟨_,σ,own,h0,b0,sz,c,by simp[Bu],by simp[Bu,fr],R,hst,v8,hnc,hcm,hsz⟩
theorem UO (g:Gr) (a b:Int) (hg:AP g):Ac pg 223 [.agg (A1 false g),iN a,iN b] [] (λr _=>r=iN (if¬(DC g a/\DC g b) then 3 else 0)):=by
 have spM:=Jc g hg.inn;rw[zT hg] at spM;have spA:=OG g a;have spB:=OG g b;have ea:(0<=a/\a<g.n)=DC g a:=rfl;have eb:(0<=b/\b<g.n)=DC g b:=rfl;simp only[ea] at spA;simp only[eb] at spB;refine zE (fn:=Tryz.f223) [.tmp 6] ?_;rw[A6];refine AX ?_;refine zb ?_;refine AL spM ?_;refine zn ?_;by_cases c1:DC g a
 .rw[zT c1] at spA;by_cases c2:DC g b
  .rw[zT c2] at spB;refine Hm spA spB ?_;refine Ck ?_;simp[c1,c2]
  .rw[zV c2] at spB;refine Hm spA spB ?_;refine AJ ?_;simp[c1,c2]
 .rw[zV c1] at spA;refine AL spA ?_;refine AJ ?_;simp[c1]
def fC:Tr:= .a 0 (.a 2 (.a 3 (.a 5 (.a 8 (.a 9 (.a 10 (.a 1 (.a 4 (.a 6 (.a 7 (.a 11 (.a 12 (.a 13 (.l []) (.s)) (.s)) (.s)) (.s)) (.s)) (.s)) (.a 4 (.a 1 (.a 6 (.a 7 (.a 11 (.a 12 (.a 13 (.l []) (.s)) (.s)) (.s)) (.s)) (.s)) (.a 6 (.a 1 (.a 7 (.a 11 (.a 12 (.a 13 (.l []) (.s)) (.s)) (.s)) (.s)) (.a 7 (.a 1 (.a 11 (.a 12 (.a 13 (.l []) (.s)) (.s)) (.s)) (.a 11 (.a 1 (.a 12 (.a 13 (.l []) (.s)) (.s)) (.s)) (.s))) (.s))) (.s))) (.s))) .s) .s) .s) .s) .s) .s) .s
theorem fD (g:Gr) (a b:Int) (hg:AP g):Ac pg 185 [.agg (A1 false g),iN a,iN b] [] (λr _=>r= .tup [.agg (A1 true (Hu g a b).1),iN (Hu g a b).2]):=by
 have spA:=UO g a b hg;have hin:=hg.inn;have spO:=O3 g hin;obtain⟨q,hq⟩:∃q,q=Hu g a b:=zX;rw[<-hq];unfold Hu at hq;refine zE (fn:=Tryz.f185) [.cell 6 34,.tmp 7] ?_;rw[A6];refine Cx ?_;by_cases c1:DC g a/\DC g b;rotate_left
 .rw[zP c1] at hq spA;refine yq spA ?_;refine W.weak (sX 1 1) ?_;refine zr ?_;simp[hq,Az]
 rw[zM (λh=>h c1)] at hq spA;obtain⟨k,rfl⟩:∃k:Nat,a=k:=⟨a.toNat,by have:=c1.1.1;omega⟩;have hn3:=hg.2.2.1;have hk:k<g.out.length:=by have:=c1.1.2;omega
 obtain⟨l,hl⟩:∃l,l=g.out[k]:=zX;have hml:AU l:=by rw[hl];exact(hg.2.2.2.1 _ (uQ hk)).1
 have hll:=Bw hml;have spB:=QZ l b zO hml.2;have eb:AF g k=l:=by simp[AF,hk,hl]
 rw[eb] at hq;refine yq spA ?_;have hl2:g.out[k]?=some l:=by rw[hl];simp[hk]
 obtain⟨bb,hbb⟩:∃bb,bb=l.contains b:=zX;obtain⟨i,hi⟩:∃i,i=D2 l b:=zX;rw[<-hbb] at spB hq;rw[<-hi] at spB;refine Dx ?_;intro K hK;simp -implicitDefEqProofs (disch:=omega) [hk,<-hl];refine xN spB ?_;cases bb
 .rw[zP rfl] at hq;refine y3 ?_;refine W.weak (sX 1 1) ?_;refine zr ?_;simp[hq,Az]
 rw[zM zS] at hq;obtain⟨hpk,hpv⟩:=XI hml.2 (xx.1 hbb.symm);rw[<-hi] at hpk;refine y3 ?_;refine AL spO ?_;have hgl:(Ak true g.out)[k]?=some (.own 1 l.length (Ab l)):=by simp[Ak,hl2,DB,sl]
 refine W.weak (te (B:=2) (v:=0) (j:=k) (s:=1) (n:=l.length) (cs:=Ak true g.out) (xs:=Ab l) zF hgl) ?_;obtain⟨L,hL⟩:∃L,L=(Ak true g.out).set k (.tok 3 0 1 0 l.length):=zX;have hLk:L[k]?=some (.tok 3 0 1 0 l.length):=by rw[hL];simp[hk]
 have hLl:True->L.length=g.out.length:=λ_=>by rw[hL];simp
 have spD:=Zq (Ab l) 0 l.length i hpk zO zS zS zS;have ecut:(Ab l).take (i*1)++(Ab l).drop ((i+1)*1)=Ab (DQ l b):=by
  rw[DQ,<-hi,B5];simp[Ab]
 rw[ecut] at spD;obtain⟨c,hc⟩:∃c:Nat,c=i+1:=zX;have e1:(i:Int)+1=(c:Int):=zO;rw[<-hc] at spD;refine W.weak (Wk.fr (S:=[(1,iN k),(2,iN b),(3,pt 0),(6,pt 1),(9,iN i)]) zK) ?_;show W _ _ _ _ _ [lv [iN g.n,.tok 2 0 1 0 g.out.length],lv [iN 0,.own 1 0 []],lv ((Ak true g.out).set k (.tok 3 0 1 0 l.length)),lv (Ab l)] _;rw[<-hL];refine uo (R:=λF M=>F=fr [(3,pt 0),(6,pt 1)]/\M=[lv [iN g.n,.tok 2 0 1 0 g.out.length],lv [iN 0,.own 1 0 []],lv (L.set k (.tok 4 0 1 0 (l.length-1))),.dead,lv (Ab (DQ l b))]) ?_ ?_
 .refine tv 0 fC rfl Df AK (λK hK=>?_);unfold fC;refine Cb rfl ?_ Bp;simp -implicitDefEqProofs (maxSteps:=999999) (disch:=omega) [hLk,e1];refine Cb rfl ?_ Bp;simp -implicitDefEqProofs (maxSteps:=999999) (disch:=omega) [hLk,e1];refine Cb rfl ?_ Bp;simp -implicitDefEqProofs (maxSteps:=999999) (disch:=omega) [hLk,e1];refine Cb rfl ?_ Bp;simp -implicitDefEqProofs (maxSteps:=999999) (disch:=omega) [hLk,e1];refine Cb rfl ?_ Bp;simp -implicitDefEqProofs (maxSteps:=999999) (disch:=omega) [hLk,e1];refine Cb rfl ?_ Bp;simp -implicitDefEqProofs (maxSteps:=999999) (disch:=omega) [hLk,e1];refine Cb rfl ?_ Bp;simp -implicitDefEqProofs (maxSteps:=999999) (disch:=omega) [hLk,e1]
  repeat' (first|exact Bp|refine Eo ?_|refine⟨hk,?_⟩ | (refine sZ [3] spD zS zS zS zS ?_;rintro _ _ ⟨rfl,rfl⟩ _;refine⟨zS,zS,?_⟩;simp -implicitDefEqProofs (maxSteps:=999999) (disch:=omega) [hLk,e1]) | (refine Cb rfl ?_ ?_<;>try exact Bp)<;>try (simp -implicitDefEqProofs (maxSteps:=999999) (disch:=omega) [hLk,e1]))
  all_goals exact⟨by have:=hLl trivial;omega,Eo (hK _ _ ⟨_,_,Wk.fr zK,rfl,rfl⟩)⟩
 rintro F M ⟨rfl,rfl⟩;have hcl:(DQ l b).length=l.length-1:=by rw[DQ,<-hi];simp;omega
 have eL:(L.set k (.tok 4 0 1 0 (l.length-1))).set k (.own 1 (l.length-1) (((Ab (DQ l b)).drop 0).take ((l.length-1)*1)))=Ak true (g.out.set k (DQ l b)):=by
  rw[hL,wF,wF,<-hcl];simp[Ak,wi,DB,sl,uM]
 refine W.weak (sY (B:=2) (v:=0) (j:=k) (T:=4) (u:=0) (s:=1) (off:=0) (n:=l.length-1) (xs:=Ab (DQ l b)) zF (by rw[uO (by have:=hLl trivial;omega)]) zF zS (by simp[hcl]) zS) ?_;show W _ _ _ _ _ [lv [iN g.n,.tok 2 0 1 0 g.out.length],lv [iN 0,.own 1 0 []],lv ((L.set k (.tok 4 0 1 0 (l.length-1))).set k (.own 1 (l.length-1) (((Ab (DQ l b)).drop 0).take ((l.length-1)*1)))),.dead,.dead] _;rw[eL];refine Bd ?_;rw[hq];simp[A1,DH,sl,uM]
end Go.Abs
