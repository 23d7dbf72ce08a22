/- What is written is read again: bits as bytes, lists, graphs. No program. -/
import Derived.Test.YtgdmnlibcdajjaaGreatP7
open Bool renaming eq_false_iff -> xl
open Int renaming eq_ofNat_of_zero_le -> uS, toNat_natCast -> vE, le_refl -> wM
open List renaming take_of_length_le -> uM, replicate -> uP, getElem_mem -> uQ, getElem?_eq_none -> uR, getElem?_eq_getElem -> uT, take_add_one -> uV, take_length -> uW, drop_eq_getElem_cons -> uX, append_assoc -> uZ, length_append -> u0, all_eq_true -> u1, mem_append -> vd, getD_eq_getElem?_getD -> vf, mem_of_getElem? -> vo, mem_iff_getElem -> vq, eq_nil_of_length_eq_zero -> vr, set_append_right -> vz, length_cons -> vA, pairwise_iff_getElem -> vB, mem_map -> vH, take_append_drop -> vJ, mem_cons -> vL, append_nil -> vM, findIdx?_eq_some_iff_getElem -> vN, replicate_succ -> vO, set_cons_zero -> vQ, nil_append -> vU, getLast?_eq_getElem? -> vV, mem_or_eq_of_mem_set -> vX, getElem_set_self -> vZ, mem_of_mem_take -> wh, map_set -> wi, map_cons -> wj, ext_getElem? -> wk, getElem?_set -> wl, map_append -> wo, length_take -> wy, length_map -> wB, getElem_map -> wE, mem_of_mem_drop -> wH, take -> wL, find?_eq_none -> wN, take_succ_eq_append_getElem -> wP, eraseIdx_eq_take_drop_succ -> wS, getElem_range -> wW, take_succ_cons -> wY, pairwise_map -> wZ, mem_of_mem_eraseIdx -> xi, find?_append -> xm, map_nil -> xo, filter_cons -> xv, length_eraseIdx_le -> xB, find?_cons -> xD, nodup_append -> xE, getLast?_map -> xF, any_eq_true -> xI
open Nat renaming le_refl -> vg, log2 -> vR, sub_self -> wp, le_of_ble_eq_true -> wC, pow_le_pow_right -> wI, pow_succ -> w8, add_sub_cancel -> xa, pow_pos -> xq
open Option renaming map_some -> vI
set_option maxHeartbeats 8000000
set_option linter.unusedVariables false
set_option linter.unusedSimpArgs false
namespace Go.Abs
theorem S2:∀(ns:List Nat) (r:ByteArray),((CW ns).foldl (λr c=>r.push (LM c)) r).data.toList=r.data.toList++ns.map UInt8.ofNat
 | [],r=>by simp[CW]
 |n::ns,r=>by
  have:=S2 ns (r.push (UInt8.ofNat n));simp only[CW,wj,List.foldl_cons] at this |-;have e:LM (ID n)=UInt8.ofNat n:=by simp[ID,LM]
  rw[e,this];simp[ByteArray.push]
theorem O7 (ns:List Nat):(E5 (CW ns)).data.toList=ns.map UInt8.ofNat:=by
 have:=S2 ns ByteArray.empty;unfold E5;rw[this];rfl
theorem O8 (ns:List Nat):(E5 (CW ns)).size=ns.length:=by
 have e:(E5 (CW ns)).size=(E5 (CW ns)).data.toList.length:=(Array.length_toList).symm;rw[e,O7,wB]
theorem VG (ns:List Nat) (i:Nat) (h:i<ns.length) (hb:ns[i]<256):DT (E5 (CW ns)) i=ns[i]:=by
 have hs:=O8 ns;unfold DT;rw[dif_pos zO];have h1:(E5 (CW ns)).data.toList[i]?=some (UInt8.ofNat ns[i]):=by rw[O7];simp[h]
 have h2:(E5 (CW ns)).data.toList[i]?=some (E5 (CW ns))[i]:=by
  have:i<(E5 (CW ns)).data.size:=by have:(E5 (CW ns)).size=(E5 (CW ns)).data.size:=rfl;omega
  rw[Array.getElem?_toList,Array.getElem?_eq_getElem this];rfl
 rw[h1] at h2;have h3:(E5 (CW ns))[i]=UInt8.ofNat ns[i]:=by simpa using h2.symm
 rw[h3];simp[UInt8.toNat_ofNat'];omega
theorem Xi (k:Nat):Cg (uP k false)=0:=by
 induction k with
 |zero=>rfl
 |succ k ih=>rw[vO,Gp,ih];simp
theorem Xj {c:List Bool} (h:c.length<=8) {j:Nat} (hj:j<8):decide (Ge c/2^(7-j)%2=1)=c.getD j false:=by
 have e:Ge c=Cg (c++uP (8-c.length) false):=by rw[RY,Xi];simp[Ge]
 have hl:(c++uP (8-c.length) false).length=8:=Ao;have hb:=J7 (c++uP (8-c.length) false);rw[hl] at hb;have h1:(Bq (Ge c) 8)[j]?=(c++uP (8-c.length) false)[j]?:=by rw[e,hb]
 have h2:(Bq (Ge c) 8)[j]?=some (decide (Ge c/2^(7-j)%2=1)):=by simp[Bq,hj]
 rw[h2] at h1;rw[vf];by_cases hc:j<c.length
 .rw[List.getElem?_append_left hc] at h1;rw[<-h1];rfl
 .rw[List.getElem?_append_right zO] at h1;have:(uP (8-c.length) false)[j-c.length]?=some false:=by rw[List.getElem?_replicate,zP zO]
  rw[this] at h1;rw[uR zO];simpa using h1
theorem QJ (l:List Bool) (i:Nat) (h:i/8<(l.length+7)/8):FN (Eb l).data i=l.getD i false:=by
 have hk:i/8<(pk l).length:=by simpa[pk] using h
 have hlt:(pk l)[i/8]<256:=S0 h;unfold FN Eb;rw[VG (pk l) (i/8) hk hlt];simp only[pk,Fn,wE,wW];have:=Xj (c:=(l.drop (8*(i/8))).take 8) Ao (j:=i%8) (Nat.mod_lt _ zO);rw[this];simp only[vf,List.getElem?_take,List.getElem?_drop];rw[zP (Nat.mod_lt _ zO),Nat.div_add_mod]
@[simp] theorem cd (l:List Bool):(Eb l).n=l.length:=rfl
theorem Lp (l:List Bool):(Eb l).data.size=(l.length+7)/8:=by simp[Eb,O8,pk]
theorem IR (l:List Bool):AH (Eb l)=l:=by
 unfold AH;refine List.ext_getElem zS λi h1 h2=>?_;simp only[wE,wW];rw[QJ _ _ zO,vf,uT h2];rfl
theorem UA {l:List Bool} (h:l.length<=6000):DI (Eb l):=by
 refine⟨zS,Ao,by rw[Lp,cd];omega,λi hi hn=>?_⟩;rw[Lp] at hi;rw[QJ _ _ zO,vf,uR (by simpa using hn)];rfl
def On (bs:List Bool) (p:Nat) (x:List Bool):Prop:=∃s,bs.drop p=x++s
theorem On.app {bs:List Bool} {p:Nat} {x y:List Bool} (h:On bs p (x++y)):On bs p x/\On bs (p+x.length) y:=by
 obtain⟨s,h⟩:=h;refine⟨⟨y++s,by rw[h,uZ]⟩,s,?_⟩;rw[<-List.drop_drop,h,uZ,List.drop_left]
theorem On.code {bs:List Bool} {p n:Nat} (h:On bs p (AM n)) (h1:1<=n) (h2:n<=1073741824):Bi bs p=some (n,p+(AM n).length):=by
 obtain⟨s,h⟩:=h;have hl:=E9 n;have hp:p<=bs.length:=by
  have:=congrArg List.length h;simp at this;omega
 have:=Tx (l:=bs) (pre:=bs.take p) (suf:=s) h1 h2 (by rw[uZ,<-h,vJ])
 rwa [List.length_take_of_le hp] at this
theorem QK {bs:List Bool} {v:Int} (hv:0<=v/\v<=16):∀(l:List Int) (f:Bool) (p:Nat) (e:Int),(∀x∈l,0<=x/\x<16)->PL l f e->(f=true->e=v)->(f=false->0<=e)->On bs p (Dg v l f e)->CY bs l.length f p e=some (l,p+(Dg v l f e).length)
 | [],f,p,e,_,_,_,_,_=>by simp[CY,Dg]
 |x::l,f,p,e,hx,hp,h1,h2,ho=>by
  rw[Dg] at ho |-;obtain⟨o1,o2⟩:=ho.app;have hx0:=hx x zS;have hn:1<=(if f=true then CR (x-v)+1 else x-e).toNat/\(if f=true then CR (x-v)+1 else x-e).toNat<=1073741824:=by
   cases f
   .have:=hp.1;simp at this |-;have:=h2 rfl;omega
   .have:=Eg (x-v);simp only[if_true];have:CR (x-v)<=100:=by unfold CR;split<;>omega
    omega
  have hy:e+(if f=true then Dr (((if f=true then CR (x-v)+1 else x-e).toNat:Int)-1) else((if f=true then CR (x-v)+1 else x-e).toNat:Int))=x:=by
   cases f
   .have:=hp.1;simp at this |-;omega
   .have z:=Eg (x-v);simp only[if_true];rw[show((CR (x-v)+1).toNat:Int)-1=CR (x-v) by omega,M6,h1 rfl];omega
  rw[vA];simp only[CY];rw[o1.code hn.1 hn.2];simp only;rw[hy,zP hx0,QK hv l false _ x (λy hy=>hx y (by simp[hy])) hp.2 zS (λ_=>hx0.1) o2];simp;omega
theorem QL {bs:List Bool} {v:Int} (hv:0<=v/\v<=16):∀(l:List (Int×Int)) (f:Bool) (p:Nat) (e:Int),(∀x∈l,0<=x.1/\x.1<16/\x.2<=16)->Iw l f e->(f=true->e=v)->(f=false->0<=e)->On bs p (C2 v l f e)->Dl bs l.length f p e=some (l,p+(C2 v l f e).length)
 | [],f,p,e,_,_,_,_,_=>by simp[Dl,C2]
 | (x,k)::l,f,p,e,hx,hp,h1,h2,ho=>by
   rw[C2,uZ] at ho;rw[C2];obtain⟨o1,o2⟩:=ho.app;obtain⟨o2,o3⟩:=o2.app;have hx0:=hx (x,k) zS;simp only[Iw] at hx0 hp;have hn:1<=(if f=true then CR (x-v)+1 else x-e).toNat/\(if f=true then CR (x-v)+1 else x-e).toNat<=1073741824:=by
    cases f
    .have:=hp.1;simp at this |-;have:=h2 rfl;omega
    .have:=Eg (x-v);simp only[if_true];have:CR (x-v)<=100:=by unfold CR;split<;>omega
     omega
   have hy:e+(if f=true then Dr (((if f=true then CR (x-v)+1 else x-e).toNat:Int)-1) else((if f=true then CR (x-v)+1 else x-e).toNat:Int))=x:=by
    cases f
    .have:=hp.1;simp at this |-;omega
    .have z:=Eg (x-v);simp only[if_true];rw[show((CR (x-v)+1).toNat:Int)-1=CR (x-v) by omega,M6,h1 rfl];omega
   rw[vA];simp only[Dl];rw[o1.code hn.1 hn.2];simp only;rw[o2.code zO zO];simp only;rw[hy,show((k-3+1).toNat:Int)-1+3=k by omega,QL hv l false _ (x+k) (λy hy=>hx y (by simp[hy])) hp.2.2 zS (λ_=>zO) o3];simp;omega
theorem Xk {bs:List Bool} {v:Int} {l:List Int} {p:Nat} (hv:0<=v/\v<=16) (hl:AU l) (h:On bs p (Dz v l)):EE bs p v=some (l,p+(Dz v l).length):=by
 unfold Dz at h |-;obtain⟨o1,o2⟩:=h.app;have:=Bw hl;unfold EE;rw[o1.code zO zO];simp only;rw[Us v l 0 v] at o2 |-;rw[zP zO,xa,QK hv l true _ v hl.1 (M7 l true v hl.2 (.inl rfl)) zL zS o2];simp;omega
theorem N9:∀(l:List Int) (x:Int) (y:Int),y∈(x::l).take (Bc (x::l))↔x<=y/\y<x+(Bc (x::l):Nat)
 | [],x,y=>by simp[Bc];omega
 |z::t,x,y=>by
  simp only[Bc];split
  .rename_i e;subst e;have:=N9 t (x+1) y;rw[wY,vL,this];omega
  .simp;omega
theorem NI (a n:Int) (r:List (Int×Int)) (i:Int):BZ ((a,n)::r) i=true↔(a<=i/\i<a+n)\/BZ r i=true:=by simp[BZ]
theorem QM:∀(n:Nat) (l:List Int),l.length<=n->l.Pairwise (·<·)->(∀y,y∈l↔y∈(Ay l).2\/BZ (Ay l).1 y=true)/\∀y∈(Ay l).2,BZ (Ay l).1 y=false
 |_,[],_,_=>by simp[Ay,BZ]
 |0,x::l,h,_=>by simp at h
 |n+1,x::l,h,hp=>by
  have h1:=FO x l;have h2:=Gl (x::l);have h3:((x::l).drop (Bc (x::l))).length=(x::l).length-Bc (x::l):=zS;have hd:=hp.sublist (List.drop_sublist (Bc (x::l)) (x::l));have hn:=H0 l x hp;obtain⟨i1,i2⟩:=QM n ((x::l).drop (Bc (x::l))) zO hd;have ht:=N9 l x;have hm:∀y,y∈x::l↔y∈(x::l).take (Bc (x::l))\/y∈(x::l).drop (Bc (x::l)):=λy=>by
   rw[<-vd,vJ]
  have hr:∀y,BZ (Ay ((x::l).drop (Bc (x::l)))).1 y=true->x+(Bc (x::l):Nat)<y:=λy hy=>hn y ((i1 y).2 (.inr hy));rw[Ay];split
  .refine⟨λy=>?_,λy hy=>?_⟩
   .rw[hm y,ht y,i1 y,NI];simp only;constructor
    .rintro(h|h|h)
     .exact .inr (.inl h)
     .exact .inl h
     .exact .inr (.inr h)
    .rintro(h|h|h)
     .exact .inr (.inl h)
     .exact .inl h
     .exact .inr (.inr h)
   .have a1:=hn y ((i1 y).2 (.inl hy));have a2:=i2 y hy;rw[xl] at a2 |-;intro c;rw[NI] at c;rcases c with c|c
    .omega
    .exact a2 c
  .refine⟨λy=>?_,λy hy=>?_⟩
   .rw[hm y,i1 y,vd];simp only;rw[or_assoc]
   .simp only at hy |-;rw[vd] at hy;rcases hy with hy|hy
    .rw[xl];intro c;have a1:=hr y c;have a2:=(ht y).1 hy;omega
    .exact i2 y hy
theorem Oa:∀(n:Nat) (l:List Int) (e:Int),l.length<=n->AU l->(∀x∈l,e<x)->Ez (Ay l).1 e
 |_,[],_,_,_,_=>by simp[Ay,Ez]
 |0,x::l,_,h,_,_=>by simp at h
 |n+1,x::l,e,h,hl,he=>by
  have h1:=FO x l;have h2:=Gl (x::l);have h3:((x::l).drop (Bc (x::l))).length=(x::l).length-Bc (x::l):=zS;have hd:AU ((x::l).drop (Bc (x::l))):=⟨λy hy=>hl.1 y (wH hy),hl.2.sublist (List.drop_sublist _ _)⟩;have hn:=H0 l x hl.2;have ht:=(N9 l x (x+(Bc (x::l):Nat)-1)).2 zO;have hx:=hl.1 x zS;have hx2:=hl.1 _ (wh ht);have hxe:=he x zS;rw[Ay];split
  .exact⟨hx.1,hx.2,zO,zO,hxe,Oa n _ _ zO hd hn⟩
  .exact Oa n _ _ zO hd λy hy=>by have:=hn y hy;omega
theorem TE {l:List Int} (hl:AU l):FZ (Ay l).1 (Ay l).2=some l:=by
 have hle:=vg l.length;obtain⟨W,w1,w2,w3,w4,w5⟩:=H4 (Ay l).1 (-1) (Oa l.length l (-1) hle hl λx hx=>by have:=(hl.1 x hx).1;omega);obtain⟨m1,m2⟩:=QM l.length l hle hl.2;obtain⟨_,_,p3,p4⟩:=FD l.length l true 0 hle hl.2 (.inl rfl);have hr:AU (Ay l).2:=⟨λx hx=>hl.1 x (p4 x hx),p3⟩;have hs:AU (CO ((Ay l).2++W)):=by
  rw[Jf];refine⟨λx hx=>?_,?_⟩
  .rcases vd.1 hx with h|h
   .exact hr.1 x h
   .exact w5 x h
  .rw[xE];refine⟨Gt p3,Gt w2,λa ha b hb e=>?_⟩;subst e;have c1:=m2 a ha;have c2:=(w4 a).1 hb;rw[c1] at c2;simp at c2
 have he:CO ((Ay l).2++W)=l:=Kv _ _ hs.2 hl.2 λx=>by
  rw[Hc,vd,w4 x,m1 x]
 unfold FZ;rw[w1];simp only;rw[he,zP ⟨hr,hl⟩]
theorem QN {bs:List Bool} {v:Int} {l:List Int} {p:Nat} (hv:0<=v/\v<=16) (hl:AU l) (h:On bs p (A9 v l)):Ea bs p v=some (l,p+(A9 v l).length):=by
 have hle:=vg l.length;have hll:=Bw hl;obtain⟨p1,p2,p3,p4⟩:=FD l.length l true v hle hl.2 (.inl rfl);have pin:=Jh l.length l hle;unfold A9 at h |-;rw[uZ] at h;obtain⟨o1,o2⟩:=h.app;obtain⟨o2,o3⟩:=o2.app;rw[Ut v _ 0 v] at o2 o3 |-;unfold Ea;rw[o1.code zO zO];simp only;rw[zP zO,xa,QL hv (Ay l).1 true _ v (λq hq=>by
  have h1:=pin q hq;have h2:=hl.1 _ h1.1;omega) p1 zL zS o2]
 simp only;rw[Xk hv ⟨λx hx=>hl.1 x (p4 x hx),p3⟩ o3];simp only;rw[TE hl];simp;omega
theorem Ke (l:List Int):∀(ref pre:List Int) (i:Bool) (n:Nat),pre.length=n->BC ((Bj l ref i n).map λn=>((n:Nat):Int)) (pre++ref) i=some ((if i=true then pre else [])++ref.filter λx=>l.contains x)
 | [],pre,i,n,h=>by simp[Bj,BC]
 |x::ref,pre,i,n,h=>by
  simp only[Bj];split
  .rename_i e;have:=Ke l ref (pre++[x]) i (n+1) (by simp[h]);rw[uZ,List.singleton_append] at this;rw[this];cases i
   .simp[xv];intro c;simp[c] at e
   .simp[xv];simp at e;simp[e]
  .rename_i e;have:=Ke l ref [x] (!i) 1 rfl;rw[List.singleton_append] at this;simp only[wj,BC];rw[zM (by simp[h];omega),vE,<-h,List.drop_left,this,List.take_left];simp only[Option.some.injEq];cases i
   .simp at e;simp[xv,e]
   .simp at e;simp[xv,e]
theorem Xl {ref l:List Int} (hr:AU ref) (hl:AU l):Dm ref (sS ref l) (Bz ref l)=some l:=by
 have hc:=Ke l ref [] true 0 rfl;simp only[vU,if_true] at hc;have he:CO (Bz ref l++ref.filter λx=>l.contains x)=l:=by
  refine Kv _ _ ((SC _).2 ?_) hl.2 λx=>?_
  .rw[xE];refine⟨(Gt hl.2).filter _,(Gt hr.2).filter _,λa ha b hb e=>?_⟩;subst e;simp[Bz] at ha hb;exact ha.2 hb.1
  .rw[Hc,vd];simp[Bz];by_cases h:x∈l<;>by_cases h2:x∈ref<;>simp[h,h2]
 unfold Dm sS;rw[hc];simp only;rw[he,zP ⟨hl,rfl,rfl⟩]
theorem QO {bs:List Bool}:∀(l:List Int) (f:Bool) (p:Nat),(∀(j:Nat) (h:j<l.length),0<=l[j]/\l[j]<=100/\(f=true->j=0\/1<=l[j])/\(f=false->1<=l[j]))->On bs p (EG l f)->Dh bs l.length f p=some (l,p+(EG l f).length)
 | [],f,p,_,_=>by simp[Dh,EG]
 |x::l,f,p,hx,ho=>by
  rw[EG] at ho |-;obtain⟨o1,o2⟩:=ho.app;have hx0:=hx 0 zS;simp at hx0;have hn:1<=(if f=true then x+1 else x).toNat/\(if f=true then x+1 else x).toNat<=1073741824:=by
   cases f
   .have:=hx0.2.2 rfl;simp;omega
   .simp;omega
  rw[vA];simp only[Dh];rw[o1.code hn.1 hn.2];simp only;rw[QO l false _ (λj hj=>by
   have:=hx (j+1) (by simpa using hj);simp at this;refine⟨this.1,this.2.1,zS,λ_=>?_⟩;cases f
   .exact this.2.2.2 rfl
   .exact this.2.2.1 rfl) o2]
  cases f
  .have:=hx0.2.2 rfl;simp;omega
  .simp;omega
theorem TF {bs:List Bool} {v:Int} {ref l:List Int} {p:Nat} (hv:0<=v/\v<=16) (hr:AU ref) (hl:AU l) (h:On bs p (Do v ref l)):DF bs p v ref=some (l,p+(Do v ref l).length):=by
 have hrl:=Bw hr;have hb:=IP ref l;unfold Do at h |-;rw[uZ] at h;obtain⟨o1,o2⟩:=h.app;obtain⟨o2,o3⟩:=o2.app;unfold DF;rw[o1.code zO zO];simp only;rw[zP zO,xa,QO (sS ref l) true _ (λj hj=>by
  have:=JT ref l j hj;refine⟨this.1,zO,λ_=>?_,zS⟩;rcases Nat.eq_zero_or_pos j with h|h
  .exact .inl h
  .exact .inr (this.2.2 h)) o2]
 simp only;rw[QN hv (IQ hl) o3];simp only;rw[Xl hr hl];simp;omega
theorem O9 {bs:List Bool} {rd:Rd} {f:Int->List Int->List Bool}:∀(ls:List (List Int)) (v:Int) (p:Nat),(∀(i:Nat) (h:i<ls.length) (q:Nat),On bs q (f (v+i) ls[i])->rd q (v+i)=some (ls[i],q+(f (v+i) ls[i]).length))->On bs p (CX f v ls)->BD rd ls.length v p=some (ls,p+(CX f v ls).length)
 | [],v,p,_,_=>by simp[BD,CX]
 |l::ls,v,p,h,ho=>by
  rw[CX] at ho |-;obtain⟨o1,o2⟩:=ho.app;have h0:=h 0 zS p;simp at h0;rw[vA];simp only[BD];rw[h0 o1];simp only;rw[O9 ls (v+1) _ (λi hi q=>by
   have:=h (i+1) (by simpa using hi) q;simp only[List.getElem_cons_succ] at this;rw[show v+1+(i:Int)=v+((i+1:Nat):Int) by omega];exact this) o2]
  simp;omega
theorem Pa {g:Gr} {rd:Rd} {f:Int->List Int->List Bool} (hg:AP g) (h:∀(i:Nat) (h:i<g.out.length) (q:Nat),On (AM (g.n.toNat+1)++CX f 0 g.out) q (f i g.out[i])->rd q i=some (g.out[i],q+(f i g.out[i]).length)):DJ (AM (g.n.toNat+1)++CX f 0 g.out) rd=some g:=by
 have h1:=hg.1;have h2:=hg.2.1;have h3:=hg.2.2.1;have ho:On (AM (g.n.toNat+1)++CX f 0 g.out) 0 (AM (g.n.toNat+1)++CX f 0 g.out):=⟨[],zS⟩;obtain⟨o1,o2⟩:=ho.app;unfold DJ;rw[o1.code zO zO];simp only;have hl:=O9 (rd:=rd) (f:=f) g.out 0 _ (λi hi q hq=>by
  have:=h i hi q;simp only[Int.zero_add] at hq |-;exact this hq) o2
 rw[zP zO,xa,show g.n.toNat=g.out.length by omega] at*;rw[hl];simp only;have e:(((g.out.length+1:Nat):Int)-1)=g.n:=zO;rw[e,zP ⟨zS,hg⟩]
theorem Pb {g:Gr} (hg:AP g):Cs (BG g)=some g:=by
 have h2:=hg.2.1;have h3:=hg.2.2.1;unfold Cs BG;exact Pa hg λi hi q ho=>QN ⟨zO,zO⟩ (hg.2.2.2.1 _ (uQ hi)).1 ho
theorem Pc {a g:Gr} (ha:AP a) (hg:AP g):CF a (BH a g)=some g:=by
 have h2:=hg.2.1;have h3:=hg.2.2.1;unfold CF BH;exact Pa (f:=λv l=>Do v (AF a v) l) hg λi hi q ho=>TF ⟨zO,zO⟩ (JP ha _) (hg.2.2.2.1 _ (uQ hi)).1 ho
set_option maxRecDepth 100000
open Go.Proofs
theorem Pd (s:An) (hs:A0 s):Ac pg 72 [.agg (Aj false s)] [] (λr _=>r= .own 1 (Bf s.sQ).length (Ab (Bf s.sQ))):=by
 have h1:=hs.1;refine zE (fn:=Tryz.f72) [.tmp 2] ?_;rw[AC];refine AX ?_;refine xV ?_;refine sV (λx:Nat×List Int=> [(1,pt 0),(3,.tok 1 x.2.length 1 0 x.2.length),(4,iN x.1)]) (λx=> [lv (Aj false s),.live x.2.length (Ab x.2)]) (λx=>s.sQ.length-x.1) (λx=>x.1<=s.sQ.length/\x.2=Bf (s.sQ.take x.1)) (0,[]) ((Wk.nil (t:=3) (s:=1) zS).trans (Wk.fr zK)) (by simp[Bf]) ?_;rintro⟨k,acc⟩ ⟨hk,hacc⟩;simp only at hk hacc;have hal:acc.length<=k:=by rw[hacc];exact Nat.le_trans (JM _) Ao
 by_cases c1:k<s.sQ.length
 .have hst:=OP c1;refine xL c1 ?_;cases hg:s.sQ[k].gone
  .refine xP (an c1 hg) ?_;refine GK ?_;intro K hK;simp -implicitDefEqProofs (disch:=omega) [c1];refine⟨zO,zO,?_⟩;refine xM ?_;refine⟨(k+1,acc++[s.sQ[k].id]),Ao,⟨Ao,?_⟩,sU (k:=2) zK ?_ zS zS zS zS⟩
   .simp only;rw[hst,hacc,hg];simp
   .simp[B5,Ab]
  .refine xL (an c1 hg) ?_;refine⟨(k+1,acc),Ao,⟨Ao,?_⟩,sU (k:=2) zK zS zS zS zS zS⟩;simp only;rw[hst,hacc,hg];simp
 .have:k=s.sQ.length:=zO;subst this;rw[uW] at hacc;subst hacc;refine zg c1 ?_;exact Kp
theorem YY (s:An) (id:Int) (hs:A0 s) (hm:BJ (Ae s)):Ac pg 15 [.agg (Aj false s),iN id] [] (λr _=>r= .agg (A1 true (if id=0 then Az else(AT (Ae s) id).1))):=by
 have spO:=Nc s hs;have spR:=FE (Ae s) id hs.objs hm;refine zE (fn:=Tryz.f15) [.cell 4 34] ?_;rw[Aq];refine Cx ?_;by_cases h:id=0
 .refine th h ?_;refine W.weak (sX 1 1) ?_;refine zr ?_;simp[h,Az]
 .refine th h ?_;refine jc spO spR ?_;refine Bd ?_;simp[h]
theorem ff (b k:Int):Ac pg 62 [iN b,iN k] [] (λr _=>r= .agg (Aj true (EX b k))):=by
 refine zE (fn:=Tryz.f62) [.cell 4 25] ?_;rw[Aq];refine AX ?_;refine z1 ?_;intro K hK;refine⟨by show(3:Int)<=9223372036854775807;decide,?_⟩;have e:Bv 3 [AV.bool false,AV.int .i64 0,AV.bool false,AV.int .i64 0,AV.int .i64 0,AV.own 1 0 [],AV.int .i64 0,AV.int .i64 0,AV.int .i64 0,AV.bool false,AV.own 1 0 [],AV.own 1 0 []]=Aa (Af true) [BU,BU,BU]:=rfl;rw[e];refine zk ?_;refine W.weak (sX 0 2) ?_;refine zr ?_;exact(rfl:AV.agg (Aj true (EX b k))=_)
theorem YZ {α:Type} (p:α->Bool) (l:List α) (k:Nat) (h:k<l.length):(l.take (k+1)).any p=((l.take k).any p||p l[k]):=by
 rw[wP h,List.any_append];simp
theorem cf (s:An) (old:Bool) (hs:A0 s) (hk0:0<=s.keep/\s.keep<=1000000):Ac pg 148 [.agg (Aj false s),.bool old] [] (λr _=>r= .own 1 (DG s (!old)).length (Ab (DG s (!old)))):=by
 have h1:=hs.1;have h2:=hs.2.1;have hsl:=JM s.sQ;obtain⟨m,hm⟩:∃m:Nat,max 0 (((Bf s.sQ).length:Int)-s.keep)=(m:Int):=⟨_,(Int.toNat_of_nonneg zO).symm⟩;have hml:m<=(Bf s.sQ).length:=zO;have hla:OQ s=(Bf s.sQ).drop m:=by rw[OQ,hm];rfl
 refine zE (fn:=Tryz.f148) [.tmp 4] ?_;rw[Aq];refine AX ?_;refine AL (Pd s hs) ?_;generalize Bf s.sQ=seen at*;refine yo ?_;refine s5 (λ_:Unit=> [(1,.bool old),(2,pt 0),(5,.tok 1 0 1 m (seen.length-m))]) (λ_=> [lv (Aj false s),lv (Ab seen)]) (λ_=>True) ?_ ?_
 .by_cases hlk:s.keep<(seen.length:Int)
  .have em:(seen.length:Int)-s.keep=m:=zO;rw[zT hlk];refine zt ?_;refine zg em ?_;exact⟨(),trivial,Wk.fr zK⟩
  .have em:m=0:=zO;rw[zV hlk];refine y2 ?_;exact⟨(),trivial,Wk.fr (by simp[AA,em])⟩
 rintro _ _;refine y2 ?_;have hdl:(seen.drop m).length=seen.length-m:=zS;refine zb ?_;refine sV (λx:Nat×List Int=> [(1,.bool old),(2,pt 0),(5,.tok 1 0 1 m (seen.length-m)),(6,.tok 2 x.2.length 1 0 x.2.length),(7,iN x.1)]) (λx=> [lv (Aj false s),lv (Ab seen),.live x.2.length (Ab x.2)]) (λx=>s.sQ.length-x.1) (λx=>x.1<=s.sQ.length/\x.2=EN s (!old) (s.sQ.take x.1)) (0,[]) ((Wk.nil (t:=6) (s:=1) zS).trans (Wk.fr zK)) (by simp[EN]) ?_;rintro⟨k,acc⟩ ⟨hk,hacc⟩;simp only at hk hacc;have hal:acc.length<=k:=by rw[hacc];exact Nat.le_trans (GR _ _ _) Ao
 by_cases c1:k<s.sQ.length;rotate_left
 .have:k=s.sQ.length:=zO;subst this;rw[uW] at hacc;subst hacc;refine x3 c1 ?_;exact⟨rfl,rfl⟩
 have hst:=Je (s:=s) (want:= !old) c1;refine xL c1 ?_;refine GK ?_;intro K hK;simp -implicitDefEqProofs (disch:=omega) [c1];refine zk ?_;obtain⟨v,hv⟩:∃v,v=s.sQ[k]:=zX;rw[<-hv] at hst |-;have hkb:Hp s v=(v.tag|| (seen.drop m).contains v.id||pinned s v.id):=by rw[Hp,hla]
 refine zw ?_;refine s5 (λ_:Unit=> [(1,.bool old),(2,pt 0),(5,.tok 1 0 1 m (seen.length-m)),(6,.tok 2 acc.length 1 0 acc.length),(7,iN k),(8,pt 3),(9,.bool (v.tag|| (seen.drop m).contains v.id))]) (λ_=> [lv (Aj false s),lv (Ab seen),.live acc.length (Ab acc),lv (As v)]) (λ_=>True) ?_ ?_
 .cases ht:v.tag
  .have spI:=Lb (seen.drop m) v.id Ao;have hc:=Ll (seen.drop m) v.id;refine BS ht ?_;intro K hK;refine sW spI (by simp(disch:=omega);rw[uM zS]) zS ?_;cases e:(seen.drop m).contains v.id
   .rw[e] at hc;have hn:¬0<=AN (λy=>decide (y=v.id)) (seen.drop m):=by rw[hc];simp
    refine xK hn ?_;have e2:¬v.id∈seen.drop m:=by simpa using e
    exact⟨(),trivial,sU (k:=4) (by simp[AA,e2]) (by simp[ht]) zS zS zS zS⟩
   .rw[e] at hc;have hn:0<=AN (λy=>decide (y=v.id)) (seen.drop m):=by rw[hc]
    refine xK hn ?_;have e2:v.id∈seen.drop m:=by simpa using e
    exact⟨(),trivial,sU (k:=4) (by simp[AA,e2]) (by simp[ht]) zS zS zS zS⟩
  .refine zg ht ?_;exact⟨(),trivial,sU (k:=4) zK (by simp[ht]) zS zS zS zS⟩
 rintro _ _;obtain⟨b,hb⟩:∃b,b=(v.tag|| (seen.drop m).contains v.id):=zX;rw[<-hb] at hkb |-;refine xR ?_;refine sV (λx:Nat=> [(1,.bool old),(2,pt 0),(5,.tok 1 0 1 m (seen.length-m)),(6,.tok 2 acc.length 1 0 acc.length),(7,iN k),(8,pt 3),(9,.bool (b|| (s.sR.take x).any λy=>decide (y.pin=v.id))),(10,iN x)]) (λ_=> [lv (Aj false s),lv (Ab seen),.live acc.length (Ab acc),lv (As v)]) (λx=>s.sR.length-x) (λx=>x<=s.sR.length) 0 (Wk.fr zK) zS ?_;intro x hx;by_cases g1:x<s.sR.length
 .have hany:=YZ (λy:B3=>decide (y.pin=v.id)) s.sR x g1;refine th g1 ?_;obtain⟨c,hc⟩:∃c,c=(b|| (s.sR.take x).any λy=>decide (y.pin=v.id)):=zX;have hn:(b|| (s.sR.take (x+1)).any λy=>decide (y.pin=v.id))=(c||decide (s.sR[x].pin=v.id)):=by rw[hany,hc,Bool.or_assoc]
  rw[<-hc];have l1:(Aa (Af false) s.sR)[x*12+1]?=some (iN s.sR[x].pin):=Au (f:=Af false) (s:=12) zL g1 (i:=1) zO;refine zb ?_;cases c
  .refine zh (an g1 l1) ?_;refine zs ?_;exact⟨x+1,zO,zO,Wk.fr (by simp[AA,hn])⟩
  .refine zh (an g1 l1) ?_;refine zs ?_;exact⟨x+1,zO,zO,Wk.fr (by simp[AA,hn])⟩
 have hxe:x=s.sR.length:=zO;subst hxe;have hp:(b|| (wL s.sR.length s.sR).any λy=>decide (y.pin=v.id))=Hp s v:=by rw[uW,hkb];rfl
 rw[hp];refine th g1 ?_;obtain⟨kb,hkb'⟩:∃kb,kb=Hp s v:=zX;rw[<-hkb'] at hst |-;by_cases e:kb=old
 .have e' :(kb== !old)=false:=by rw[e];cases old<;>rfl
  rw[e'] at hst;refine xL e ?_;refine⟨(k+1,acc),Ao,⟨Ao,?_⟩,sU (k:=3) zK zS zS zS zS zS⟩;simp only;rw[hst,hacc];simp
 .have e' :(kb== !old)=true:=by cases kb<;>cases old<;>simp at e |-
  rw[e'] at hst;refine xP e ?_;refine z1 ?_;intro K hK;refine⟨zO,zO,?_⟩;refine xM ?_;refine⟨(k+1,acc++[v.id]),Ao,⟨Ao,?_⟩,sU (k:=3) zK ?_ zS zS zS zS⟩
  .simp only;rw[hst,hacc];simp
  .simp[B5,Ab]
theorem cg (s:An) (hs:A0 s) (hk0:0<=s.keep/\s.keep<=1000000):Ac pg 233 [.agg (Aj false s)] [] (λr _=>r= .own 1 (DG s false).length (Ab (DG s false))):=by
 refine zE (fn:=Tryz.f233) [.tmp 2] ?_;rw[AC];refine AX ?_;refine AL (YD s false hs hk0) ?_;exact zR
theorem Im:∀(t:List Bool) (i a:Int),a<=i->∀x∈BV t i a,1<=x.2/\a<=x.1/\x.1+x.2<=i+t.length
 | [],i,a,h,x,hx=>by
   simp only[BV] at hx;split at hx
   .simp at hx;subst hx;simp;omega
   .simp at hx
 |true::t,i,a,h,x,hx=>by
  simp only[BV,vd] at hx;rcases hx with hx|hx
  .split at hx
   .simp at hx;subst hx;simp;omega
   .simp at hx
  .have:=Im t (i+1) (i+1) (wM _) x hx;simp;omega
 |false::t,i,a,h,x,hx=>by
  simp only[BV] at hx;have:=Im t (i+1) a zO x hx;simp;omega
def nK (s:An) (id:Int):Gr×Int:=
 if A2 s then(if id=0 then(Az,0) else if AN (λv=>decide (v.id=id)) s.sQ<0 then(Az,3) else((AT (Ae s) id).1,0)) else(Az,1)
def EH (y:List (Int×Int)) (a:Nat) (k:Nat):List (Int×Int):=y++if a<k then [((a:Int),(k:Int)-a)] else []
theorem Y0 {x:List (Int×Int)} {i:Nat} {p:Int×Int} (h:i<x.length) (n:Int) (hp:p=(x[i].1,n)):(Aa Al x).set (i*2+1) (iN n)=Aa Al (x.set i p):=by
 subst hp
 induction x generalizing i with
 |nil=>simp at h
 |cons a t ih=>
  cases i with
  |zero=>simp[AG,Al]
  |succ i=>
   have e:=ih (i:=i) (by simpa using h);have hl:(Al a).length=2:=rfl;rw[AG,vz _ _ zO,show(i+1)*2+1-(Al a).length=i*2+1 by omega,e];simp[AG]
theorem cj (l:List (Int×Int)) (sS:Int) (hl:l.length<1000000000) (hp:Cl l sS):Ac pg 240 [.ro l.length (Aa Al l),iN sS] [] (λr _=>r= .own 2 (BV (B0 l sS.toNat) 0 0).length (Aa Al (BV (B0 l sS.toNat) 0 0))):=by
 obtain⟨n,hn⟩:=uS (show 0<=sS by have:=hp.1;omega);have hn1:=hp.1;have hn2:=hp.2.1;subst hn;rw[vE];refine zE (fn:=Tryz.f240) [.tmp 4] ?_;rw[Aq];refine zs ?_;refine z1 ?_;intro K hK;refine⟨zO,zO,?_⟩;rw[ON];refine xM ?_;refine zb ?_;refine sV (λk:Nat=> [(0,.ro l.length (Aa Al l)),(1,iN n),(5,.tok 0 0 1 0 n),(6,iN k)]) (λk=> [lv (Ba (B0 (l.take k) n))]) (λk=>l.length-k) (λk=>k<=l.length) 0 (sU (k:=1) zK (by simp[B0,EW,List.map_const']) zS zS zS zS) zS ?_
 .intro i hi;by_cases c1:i<l.length;rotate_left
  .have:i=l.length:=zO;subst this;rw[uW];refine th c1 ?_;obtain⟨t,ht⟩:∃t,t=B0 l n:=zX;have htl:t.length=n:=by rw[ht,OO]
   rw[<-ht];obtain⟨g,hg⟩:∃g,g=BV t 0 0:=zX;have hgl:g.length<=n+1:=by have:=He t 0 0;rw[hg];omega
   rw[<-hg];refine xV ?_;refine sV (λx:Nat×List (Int×Int)×Nat=> [(0,.ro l.length (Aa Al l)),(1,iN n),(5,.tok 0 0 1 0 n),(8,.tok 1 (EH x.2.1 x.2.2 x.1).length 2 0 (EH x.2.1 x.2.2 x.1).length),(9,iN x.1)]) (λx=> [lv (Ba t),.live (EH x.2.1 x.2.2 x.1).length (Aa Al (EH x.2.1 x.2.2 x.1))]) (λx=>n-x.1) (λx=>x.1<=n/\x.2.2<=x.1/\g=x.2.1++BV (t.drop x.1) x.1 x.2.2/\∀z∈x.2.1,0<=z.1/\1<=z.2/\z.1+z.2<x.2.2) (0,[],0) ?_ ?_ ?_
   .exact(Wk.nil (t:=8) (s:=2) zS).trans (sU (k:=2) (by simp[AA,EH]) (by simp[EH]) zS zS zS zS)
   .exact⟨zS,zS,by simp[hg],zS⟩
   rintro⟨k,y,a⟩ ⟨hk,hak,hgy,hy⟩;simp only at hk hak hgy hy |-;by_cases d1:k<n;rotate_left
   .have:k=n:=zO;subst this;rw[List.drop_of_length_le zO] at hgy;have e:EH y a k=g:=by rw[hgy,EH,BV];congr 1;split<;>split<;>first|rfl|omega
    rw[e];refine zg d1 ?_;exact Kp
   refine xL d1 ?_;have hkt:k<t.length:=zO;cases d2:t[k];rotate_left
   .rw[QD hkt d2] at hgy;refine xL (an d1 (an d2 hkt)) ?_;refine⟨(k+1,EH y a k,k+1),by simp only;omega,⟨by simp only;omega,by simp only;omega,by simp only;rw[hgy,EH,uZ];congr 2;split<;>split<;>first|rfl|omega,?_⟩,?_⟩
    .intro z hz;simp only[EH,vd] at hz |-;rcases hz with hz|hz
     .have:=hy z hz;omega
     .split at hz
      .simp at hz;subst hz;simp only;omega
      .simp at hz
    .have e:EH (EH y a k) (k+1) (k+1)=EH y a k:=by rw[EH,zM zO,vM]
     simp only[e];exact sU (k:=2) zK zS zS zS zS zS
   rw[O2 hkt d2] at hgy;refine th (an d1 (an d2 hkt)) ?_;have hyl:y.length<=n+1:=by rw[hgy] at hgl;simp at hgl;omega
   by_cases e1:a<k
   .obtain⟨x,hx⟩:∃x,x=EH y a k:=zX;have hx2:x=y++[((a:Int),(k:Int)-a)]:=by rw[hx,EH,zP e1]
    have hxl:x.length=y.length+1:=by rw[hx2];simp
    have hN:y.length<x.length:=zO;have hxN:x[y.length]=((a:Int),(k:Int)-a):=by simp[hx2]
    have em:(x.length:Int)-1=(y.length:Int):=zO;have hpos:0<x.length:=zO;have f0:(Aa Al x)[y.length*2]?=some (iN a):=by
     have:(Aa Al x)[y.length*2]?=some (iN x[y.length].1):=Au (f:=Al) (s:=2) zL hN (i:=0) zO;rw[hxN] at this;exact this
    have f1:(Aa Al x)[y.length*2+1]?=some (iN ((k:Int)-a)):=by
     have:(Aa Al x)[y.length*2+1]?=some (iN x[y.length].2):=Au (f:=Al) (s:=2) zL hN (i:=1) zO;rw[hxN] at this;exact this
    have hcd:((a:Int)+((k:Int)-a)=k)=True:=eq_true zO;have hset:=Y0 (x:=x) (i:=y.length) (p:=((a:Int),(k:Int)-a+1)) hN ((k:Int)-a+1) (by rw[hxN]);have hxs:x.set y.length ((a:Int),(k:Int)-a+1)=EH y a (k+1):=by
     rw[hx2,vz _ _ zO,wp,vQ,EH,zP zO];congr 2;simp;omega
    have hxgl:(EH y a (k+1)).length=x.length:=by rw[<-hxs];simp
    rw[<-hx];refine zh (an hpos (an em (an hN (an f0 (an f1 hcd))))) ?_;refine zt ?_;refine BS (an em (an hN (an f0 f1))) ?_;intro K hK;refine⟨zO,?_⟩;refine zk ?_;rw[hset,hxs];refine zs ?_;refine⟨(k+1,y,a),by simp only;omega,⟨by simp only;omega,by simp only;omega,by simp only;rw[hgy];simp,hy⟩,?_⟩;simp only[hxgl];exact sU (k:=2) zK zS zS zS zS zS
   .have hae:a=k:=zO;subst hae;have hx:EH y a a=y:=by rw[EH,zM zO,vM]
    have hx2:EH y a (a+1)=y++[((a:Int),1)]:=by rw[EH,zP zO];congr 2;simp;omega
    rw[hx];refine zw ?_;refine s5 (λ_:Unit=> [(0,.ro l.length (Aa Al l)),(1,iN n),(5,.tok 0 0 1 0 n),(8,.tok 1 y.length 2 0 y.length),(9,iN a),(66,.bool false)]) (λ_=> [lv (Ba t),.live y.length (Aa Al y)]) (λ_=>True) ?_ ?_
    .by_cases e2:y.length=0
     .have e2' :y=[]:=vr e2;subst e2';refine CN ?_;intro K hK;refine zk ?_;exact⟨(),trivial,Wk.fr zK⟩
     .obtain⟨N,hN⟩:∃N,y.length=N+1:=⟨y.length-1,zO⟩;have hNl:N<y.length:=zO;have em:(y.length:Int)-1=(N:Int):=zO;have hpos:0<y.length:=zO;have f0:(Aa Al y)[N*2]?=some (iN y[N].1):=Au (f:=Al) (s:=2) zL hNl (i:=0) zO;have f1:(Aa Al y)[N*2+1]?=some (iN y[N].2):=Au (f:=Al) (s:=2) zL hNl (i:=1) zO;have hz:=hy _ (uQ hNl);have hcd:(y[N].1+y[N].2=(a:Int))=False:=eq_false zO;refine zh (an hpos (an em (an hNl (an f0 (an f1 hcd))))) ?_;exact⟨(),trivial,Wk.fr zK⟩
    rintro _ _;refine zn ?_;refine z1 ?_;intro K hK;refine⟨zO,zO,?_⟩;refine xM ?_;refine⟨(a+1,y,a),by simp only;omega,⟨by simp only;omega,by simp only;omega,by simp only;rw[hgy];simp,hy⟩,?_⟩;simp only[hx2];exact sU (k:=2) zK (by simp[BI,AG,Al]) zS zS zS zS
  obtain⟨p1,p2,p3⟩:=hp.2.2.2.1 _ (uQ c1);have hto:l.take (i+1)=l.take i++[l[i]]:=by rw[uV];simp[c1]
  refine yr c1 ?_;obtain⟨a,ha⟩:=uS p1;obtain⟨m,hm⟩:=uS (show 0<=l[i].2 by omega);refine zb ?_;refine sV (λk:Nat=> [(0,.ro l.length (Aa Al l)),(1,iN n),(5,.tok 0 0 1 0 n),(6,iN i),(7,iN k)]) (λk=> [lv (Ba (C1 (l.take i) n a ((a+k:Nat):Int)))]) (λk=>m-k) (λk=>k<=m) 0 (sU (k:=1) zK (by simp[Mm]) zS zS zS zS) zS ?_;intro k hk;have g0:(Aa Al l)[i*2]?=some (iN a):=by rw[<-ha];exact Au (f:=Al) (s:=2) zL c1 (i:=0) zO
  have g1:(Aa Al l)[i*2+1]?=some (iN m):=by rw[<-hm];exact Au (f:=Al) (s:=2) zL c1 (i:=1) zO
  by_cases c2:k<m
  .have hidx:a+k<n:=zO;have hset:=Ka (l.take i) n (a+k) a zO hidx;refine xL (an c1 (an g1 c2)) ?_;have ei:(a:Int)+(k:Int)=((a+k:Nat):Int):=zO;obtain⟨q,hq⟩:∃q,q=a+k:=zX;rw[<-hq] at ei hset hidx;rw[ei];have hql:q<(Ba (C1 (l.take i) n a q)).length:=by simp;exact hidx
   refine Dx ?_;intro K hK;simp -implicitDefEqProofs (disch:=omega) [c1,ha,Al,ei,hidx];refine⟨zO,?_⟩;refine zk ?_;rw[Gq,hset];refine zs ?_;have eq1:((a+(k+1):Nat):Int)=(q:Int)+1:=zO;exact⟨k+1,zO,zO,sU (k:=1) zK (by rw[eq1];simp) zS zS zS zS⟩
  .have:k=m:=zO;subst this;refine xL (an c1 (an g1 c2)) ?_;exact⟨i+1,zO,zO,sU (k:=1) zK (by rw[hto,<-J9,ha,hm];simp) zS zS zS zS⟩
theorem ck (l:List (Int×Int)) (sS m:Int) (hl:l.length<1000000000) (hp:Cl l sS):Ac pg 194 [.ro l.length (Aa Al l),.int .i64 sS,.int .i64 m] [] (λr _=>r= .int .i64 (match (BV (B0 l sS.toNat) 0 0).find? λx=>decide (m<=x.2) with|some x=>x.1|none=>-1)):=by
 have sp:=cj l sS hl hp;obtain⟨g,hg⟩:∃g,g=BV (B0 l sS.toNat) 0 0:=zX;have hgl:g.length<=101:=by have:=He (B0 l sS.toNat) 0 0;have:=hp.2.1;rw[hg];simp at*;omega
 rw[<-hg] at sp |-;refine zE (fn:=Tryz.f194) [.tmp 6] ?_;rw[A6];refine zs ?_;refine AL sp ?_;refine xR ?_;refine sV (λk:Nat=> [(2,iN m),(7,.tok 0 0 2 0 g.length),(8,iN k)]) (λ_=> [lv (Aa Al g)]) (λk=>g.length-k) (λk=>k<=g.length/\∀x∈g.take k,decide (m<=x.2)=false) 0 (Wk.fr zK) ⟨zO,zS⟩ ?_;rintro k ⟨hk,hm⟩;by_cases c3:k<g.length;rotate_left
 .rw[uM zO] at hm;rw[wN.2 (by intro x hx;simpa using hm x hx)];refine zg c3 ?_;exact Kp
 have g0:(Aa Al g)[k*2]?=some (iN g[k].1):=Au (f:=Al) (s:=2) zL c3 (i:=0) zO;have g1:(Aa Al g)[k*2+1]?=some (iN g[k].2):=Au (f:=Al) (s:=2) zL c3 (i:=1) zO;refine xL c3 ?_;by_cases c4:m<=g[k].2
 .rw[Jj c3 hm (by simpa using c4)];refine xP (an c3 (an g1 c4)) ?_;refine zg (an c3 g0) ?_;exact zR
 .refine xL (an c3 (an g1 c4)) ?_;exact⟨k+1,zO,⟨zO,JR c3 hm (by simpa using c4)⟩,Wk.fr zK⟩
theorem cn {C:BF} {T:Nat->Option TI} (tk:BQ C.P T) {t e es eb:Nat} {ez:List AV} (htd:Ax T t= .slice e es eb ez) {a:Option Addr} {n c l h:Nat} {lo hi:Option (IntKind×Int)} (hnc:n<=c) (h1:Hh (hi.map λx=> .int x.1 x.2) n n=some h) (h2:Hh (lo.map λx=> .int x.1 x.2) 0 h=some l) (w:World):
 (Instr.sliceAt t (.slice a n c) (lo.map λx=> .int x.1 x.2) (hi.map λx=> .int x.1 x.2) none).run C.P w= .ok (.slice (if c=l then a else a.map (·.add (l*es))) (h-l) (c-l)) w:=by
 obtain⟨hD,E,z,hE,hs,_⟩:=CH tk htd;have hh:∀(x:Option (IntKind×Int)) (y:AV),(x.map λx=>AV.int x.1 x.2)=some y->∃u,(x.map λx=>Value.int x.1 x.2)=some u/\VR w C.sh (λ_ _=>none) y u (λ_=>0):=by
  intro x y hy;cases x with
  |none=>simp at hy
  |some x=>simp at hy;subst hy;exact⟨_,rfl,rfl,λ_=>rfl⟩
 have hb:=(G8 (P:=C.P) (w:=w) (σ:=λ_ _=>none) (C:=C) true (hh lo) (by cases lo<;>simp) (hh hi) (by cases hi<;>simp) hnc h1 h2).1;simp only[Instr.sliceAt,Sem.run_bind,run_underlying hD,Result.andThen_ok,Instr.slice,hb,Cr hE,hs,Sem.run_pure]
theorem Xm {C:BF} {T:Nat->Option TI} (tk:BQ C.P T) {F:Fr} {M:List Ag} {a:Act} {w:World} {σ:Nat->Nat->Option St} {own:Nat->Option Nat} (R:AS C F M a w σ own) {t e eb:Nat} {ez:List AV} (htd:Ax T t= .slice e 1 eb ez) {B v off n tx ty d ty' :Nat} {pos:String} {af:Array Edge} {cs ys:List AV} (hb:Ah M B v=some cs) (hx:F tx= .tok B v 1 off n) (hxn:tx<C.n) (hyn:ty<C.n)
 {m:Nat} (hyc:De M (F ty)=some (m,ys)) (hyl:ys.length=m*1) (hyo:ys.all DS=true) (hle:off+n<=cs.length) (hn:0<n) (hm:0<m) {next:Act->World->Prop} {Q:Exit->Act->World->Prop}
 (hK:∀a' w',AS C (Bu F d (.int .i64 (min m n:Nat))) (M.set B (.live v (Bt cs off (ys.take (min m n))))) a' w' σ own->(∀t,t≠d->a'.tmps.getD t undef=a.tmps.getD t undef)->next a' w'):
 Oper.wpIn (FX C) 0 C.P {dst:=some d,op:= .call {callee:= .builtin .copy,args:= #[.tmp tx,.tmp ty],argTypes:= #[t,t]},type:=ty',pos:=pos,after:=af,guard:=none} a w next Q:=by
 have e1:=R.tmp tx hxn;rw[hx] at e1;obtain⟨w',hrun,R'⟩:=R.copy (ty:=ty') tk htd hb e1 (R.tmp ty hyn) hyc hyl hyo hle hn hm;refine tc (λ_ h=>by cases h) (v:= .int .i64 (min m n:Nat)) (w' :=w') ?_ (hK _ _ (R'.put (some d) (av:= .int .i64 (min m n:Nat)) ⟨rfl,λ_=>rfl⟩) λt ht=>Cc ht);have e2:∀t,a.eval (.tmp t)=a.tmps.getD t undef:=λ_=>rfl;simp only[execOp,resolve,invoke,builtin,e2,List.map_toArray,wj,xo,Sem.run_bind,hrun,Result.andThen_ok,Sem.run_pure]
theorem Xn {C:BF} (hrd:C.rd=none) {K:Act->World->Prop} {ops:Array Oper} {i d fuel:Nat} {listed:Array Bool} {F:Fr} {M:List Ag} {a:Act} {w:World} {σ:Nat->Nat->Option St} {own:Nat->Option Nat} {o:Oper} {v:Value} {av:AV} (R:AS C F M a w σ own) (ho:ops[i]?=some o) (hd:o.dst=some d) (hg:o.guard=none) (hs:Region.noSelect ops=true) (hf:Region.free .any ops listed i=true) (hr:(Region.ready .any ops listed).contains i=true)
 (hv:VR w C.sh σ av v (λ_=>0)) (hrun:∀w,(execOp a.eval o).run C.P w= .ok (.value v) w) (hab:∀w,o.about C.P w a.eval=none) (next:∀a',AS C (Bu F d av) M a' w σ own->wpAnyIn (FX C) 0 C.P .any ops (λe a w=>e= .normal/\K a w) fuel (listed.setIfInBounds i true) a' w):wpAnyIn (FX C) 0 C.P .any ops (λe a w=>e= .normal/\K a w) (fuel+1) listed a w:=by
 refine wpAnyIn_take (i:=i) (v:=v) (by simp[FX,hrd]) ho hs hf hr (λ_ _ _ h=>by cases h.1) ⟨.inl ⟨by simp[Region.wanted,hg],hrun⟩,hab⟩ ?_;rw[hd];exact next _ (R.put (some d) hv)
theorem Jl {C:BF} (hrd:C.rd=none) {K:Act->World->Prop} {ops:Array Oper} {i d s ty fuel:Nat} {pos:String} {af:Array Edge} {listed:Array Bool} {F:Fr} {M:List Ag} {a:Act} {w:World} {σ:Nat->Nat->Option St} {own:Nat->Option Nat} (R:AS C F M a w σ own) (ho:ops[i]?=some {dst:=some d,op:= .move (.tmp s),type:=ty,pos:=pos,after:=af,guard:=none}) (hs:Region.noSelect ops=true) (hf:Region.free .any ops listed i=true) (hr:(Region.ready .any ops listed).contains i=true) (hn:s<C.n)
 (next:∀a',AS C (Bu F d (F s)) M a' w σ own->wpAnyIn (FX C) 0 C.P .any ops (λe a w=>e= .normal/\K a w) fuel (listed.setIfInBounds i true) a' w):wpAnyIn (FX C) 0 C.P .any ops (λe a w=>e= .normal/\K a w) (fuel+1) listed a w:=
 Xn hrd R ho rfl rfl hs hf hr (R.tmp s hn) (λw=>by simp only[execOp];rfl) zL next
theorem QP {C:BF} {T:Nat->Option TI} (tk:BQ C.P T) (hrd:C.rd=none) {K:Act->World->Prop} {ops:Array Oper} {i d s ty t e es eb fuel B v n l h:Nat} {ez:List AV} {lo hi:Option (Nat×IntKind×Int)} {pos:String} {af:Array Edge} {listed:Array Bool} {F:Fr} {M:List Ag} {a:Act} {w:World} {σ:Nat->Nat->Option St} {own:Nat->Option Nat} (R:AS C F M a w σ own) (ho:ops[i]?=some {dst:=some d,op:= .slice t (.tmp s) (lo.map λx=> .tmp x.1) (hi.map λx=> .tmp x.1) none,type:=ty,pos:=pos,after:=af,guard:=none}) (hs:Region.noSelect ops=true) (hf:Region.free .any ops listed i=true) (hr:(Region.ready .any ops listed).contains i=true) (hn:s<C.n) (htd:Ax T t= .slice e es eb ez) (hF:F s= .tok B v es 0 n) (hb:(Ah M B v).isSome) (hlo:∀x,lo=some x->x.1<C.n/\F x.1= .int x.2.1 x.2.2) (hhi:∀x,hi=some x->x.1<C.n/\F x.1= .int x.2.1 x.2.2)
 (h1:Hh (hi.map λx=> .int x.2.1 x.2.2) n n=some h) (h2:Hh (lo.map λx=> .int x.2.1 x.2.2) 0 h=some l)
 (next:∀a',AS C (Bu F d (.tok B v es (l*es) (h-l))) M a' w σ own->wpAnyIn (FX C) 0 C.P .any ops (λe a w=>e= .normal/\K a w) fuel (listed.setIfInBounds i true) a' w):wpAnyIn (FX C) 0 C.P .any ops (λe a w=>e= .normal/\K a w) (fuel+1) listed a w:=by
 have hx:=R.tmp s hn;rw[hF] at hx;obtain⟨cs,hcs⟩:=Option.isSome_iff_exists.1 hb;obtain⟨_,fp,hB,_⟩:=Cv R.mem hcs;have hx2:=hx;simp only[VR] at hx2;obtain⟨_,⟨ad,c,hval⟩,st,hst,hnil,hloc⟩:=hx2;have hnc:n<=c:=by
  simp only[BR] at hB;rcases hB.2 with⟨h1,_,_⟩ | ⟨g,b,cur,e',fp',h1,_⟩
  .rw[h1] at hst;simp at hst;subst hst;have:=(hnil rfl).2.2;omega
  .rw[h1] at hst;simp at hst;subst hst;obtain⟨a2,c2,e2,_,e3,_⟩:=hloc _ _ _ rfl;rw[hval] at e2;cases e2;exact e3
 have el:(lo.map λx=>Operand.tmp x.1).map a.eval=(lo.map λx=>x.2).map λx=>Value.int x.1 x.2:=by
  cases lo with
  |none=>rfl
  |some x=>
   obtain⟨h3,h4⟩:=hlo x rfl;have:=R.tmp x.1 h3;rw[h4] at this;simp only[vI];exact congrArg some this.1
 have eh:(hi.map λx=>Operand.tmp x.1).map a.eval=(hi.map λx=>x.2).map λx=>Value.int x.1 x.2:=by
  cases hi with
  |none=>rfl
  |some x=>
   obtain⟨h3,h4⟩:=hhi x rfl;have:=R.tmp x.1 h3;rw[h4] at this;simp only[vI];exact congrArg some this.1
 have e1:a.eval (.tmp s)= .slice ad n c:=hval;have hall:=cn tk htd (a:=ad) (lo:=lo.map λx=>x.2) (hi:=hi.map λx=>x.2) hnc (by rw[Option.map_map];exact h1) (by rw[Option.map_map];exact h2);obtain⟨u,hu,hv⟩:=VZ R.mem tk (t:=t) (lo:=lo.map λx=>AV.int x.2.1 x.2.2) (hi:=hi.map λx=>AV.int x.2.1 x.2.2) (mx:=none) (vl:=(lo.map λx=>x.2).map λx=>Value.int x.1 x.2) (vh:=(hi.map λx=>x.2).map λx=>Value.int x.1 x.2) (vm:=none) hx (by
  intro y hy;cases lo with
  |none=>simp at hy
  |some x=>simp at hy;subst hy;exact⟨_,rfl,rfl,λ_=>rfl⟩) (by cases lo<;>simp) (by
  intro y hy;cases hi with
  |none=>simp at hy
  |some x=>simp at hy;subst hy;exact⟨_,rfl,rfl,λ_=>rfl⟩) (by cases hi<;>simp) zS zS (r:= .tok B v es (0+l*es) (h-l)) (by
  unfold LK;simp only[htd];rw[zP ⟨trivial,hb⟩];simp only[h1,h2])
 rw[hval] at hu;have h5:=hall w;rw[h5] at hu;cases hu;refine Xn hrd R ho rfl rfl hs hf hr (by simpa using hv) (λw=>?_) zL next
 simp only[execOp,e1,el,eh,Option.map_none,Sem.run_bind,hall,Result.andThen_ok,Sem.run_pure]
theorem fg {C:BF} {T:Nat->Option TI} (tk:BQ C.P T) {F:Fr} {M:List Ag} {a:Act} {w:World} {σ:Nat->Nat->Option St} {own:Nat->Option Nat} {o:Oper} {next:Act->World->Prop} {Q:Exit->Act->World->Prop} (R:AS C F M a w σ own) (hb:Bx C.n o=true) (hnd:∀c,o.op≠ .defer c) {r:AV} (hv:pv T M F o=some r)
 (h:∀a',AS C (AB F o.dst r) M a' w σ own->next a' w):o.wpIn (FX C) 0 C.P a w next Q:=by
 obtain⟨u,hu,hr⟩:=MT tk R hb hv;exact tc hnd hu (h _ (R.put _ hr))
theorem UB (a b:Int):∀(j k m:Nat),j<=m->Bt (Ab (uP k a++uP m b)) k (Ab (uP j a))=Ab (uP (k+j) a++uP (m-j) b)
 |0,k,m,_=>by simp[Bt,Ab]
 |j+1,k,m,h=>by
  obtain⟨m,rfl⟩:∃m',m=m' +1:=⟨m-1,zO⟩;have ih:=UB a b j (k+1) m zO;have e:(Ab (uP k a++uP (m+1) b)).set k (.int .i64 a)=Ab (uP (k+1) a++uP m b):=by
   rw[vO,List.replicate_succ',uZ];simp only[Ab,wo,wj];rw[vz _ _ zS];simp
  have e2:Ab (uP (j+1) a)= .int .i64 a::Ab (uP j a):=by simp[Ab,vO]
  rw[e2,Bt,e,ih,show k+1+j=k+(j+1) by omega,show m+1-(j+1)=m-j by omega]
theorem Y1 (n:Nat) (hn1:1<=n) (hn:n<1000):Ac pg 266 [.ro 1 [.int .i64 (-1)],.int .i64 n] [] (λr _=>r= .own 1 n (Ab (uP n (-1)))):=by
 refine tA (fn:=Tryz.f266) tk rfl rfl rfl (wC rfl) AK ?_;intro C hC hp hnC hrd hdf;have hp0:C.p<=0:=Nat.le_of_eq hp;have hn48:C.n=48:=hnC;show AW C _ _ _ (Fo tT [.tmp 4] 0 _);rw[Aq];refine tn tk hC hp0 (by rw[hn48];kernel_rfl) ?_;refine zs ?_;refine tn tk hC hp0 (by rw[hn48];kernel_rfl) ?_;refine y3 ?_;refine tn tk hC hp0 (by rw[hn48];kernel_rfl) ?_;refine AL (gJ n hn) ?_;refine tn tk hC hp0 (by rw[hn48];kernel_rfl) ?_;have z1:¬(9223372036854775807<(n:Int)):=zO;refine th z1 ?_;refine tn tk hC hp0 (by rw[hn48];kernel_rfl) ?_;refine GK ?_;intro K hK;simp -implicitDefEqProofs (disch:=omega);refine zk ?_;have hz:Bv n [AV.int .i64 0]=Ab (uP n 0):=by
  simp only[Bv,Ab];clear z1 hn1 hn
  induction n with
  |zero=>rfl
  |succ n ih=>simp[vO,ih]
 rw[hz];refine tC ?_;intro a w hr;refine wpIn_region_lit ?_;refine(ES (hC ▸ tk) (K:=λF' M' =>Wk 0 F' M' (fr [(7,.tok 0 0 1 0 n),(31,.tok 0 0 1 0 n),(32,.ro 1 [.int .i64 (-1)])]) [.live 0 (Ab (uP n 0))]) ?_ [_,_] 1 _ _ a w ?_ ?_ ?_ hr:wpListIn _ _ _ _ _ ([_,_]++[_,_]) a w);rotate_left
 .rw[hn48];kernel_rfl
 .rw[hn48];kernel_rfl
 .refine Dk (call:=Ad pg) (call' :=Cd C) (λf args M K K' hk hc=>(hc C hC).mono hk) (λ_ _ h=>h) _ _ _ _ ?_;simp -implicitDefEqProofs (maxSteps:=999999) (disch:=omega);exact Wk.fr zK
 clear hr a w;intro F' M' a w hwk hr;obtain⟨σ,own,R⟩:=hwk C hp0 a w hr;clear hr hwk;simp only[wpListIn];rw[zP (by simp[Region.wanted])];refine Xm (hC ▸ tk) R (t:=36) (e:=3) (eb:=8) (ez:=[.int .i64 0]) rfl (cs:=Ab (uP n 0)) (B:=0) (v:=0) (off:=0) (n:=n) (m:=1) (ys:=[.int .i64 (-1)]) rfl rfl zO zO rfl rfl rfl zS zO zO ?_;intro a' w' R' _;rw[zP (by simp[Region.wanted])];have e33:a'.eval (.tmp 33)= .int .i64 (min 1 n:Nat):=by
  have:=R'.tmp 33 zO;have h2:a'.tmps.getD 33 undef= .int .i64 (min 1 n:Nat):=by simpa[Bu,VR,fr] using this.1
  exact h2
 have hmin:min 1 n=1:=zO;rw[hmin] at R' e33;refine tc (λ_ h=>by cases h) (v:= .int .i64 (1:Nat)) (w' :=w') (by simp only[execOp,e33];rfl) (.inl ⟨_,_,?_,σ,own,R'.put (some 8) (av:= .int .i64 (1:Nat)) ⟨rfl,λ_=>rfl⟩⟩);have hset:[Ag.live 0 (Ab (uP n 0))].set 0 (.live 0 (Bt (Ab (uP n 0)) 0 (wL 1 [AV.int .i64 (-1)])))=[.live 0 (Ab (uP 1 (-1)++uP (n-1) 0))]:=by
  obtain⟨j,rfl⟩:∃j,n=j+1:=⟨n-1,zO⟩;simp[Ab,Bt,vO]
 rw[hset];clear R' e33 hset R;refine AW.weak (Wk.fr (S:=[(7,.tok 0 0 1 0 n),(8,.int .i64 (1:Nat))]) (by simp[AA,Bu]) C hp0) ?_;refine tC ?_;refine AW.block ?_;refine uc (λm F M=>∃k,m=n-k/\1<=k/\k<=n/\F=fr [(7,.tok 0 0 1 0 n),(8,.int .i64 k)]/\M=[.live 0 (Ab (uP k (-1)++uP (n-k) 0))]) (n-1) _ _ (Dj.refl _ _ _) ⟨1,rfl,zO,zO,rfl,rfl⟩ ?_;rintro m F M ⟨k,rfl,hk1,hkn,rfl,rfl⟩;refine tn tk hC hp0 (by rw[hn48];kernel_rfl) ?_;by_cases hlt:k<n;rotate_left
 .refine th hlt ?_;have ek:k=n:=zO;subst ek;refine tn tk hC hp0 (by rw[hn48];kernel_rfl) ?_;refine zs ?_;refine tK ?_;simp only[B6,C0,CM];refine CA (d:=0) ?_;simp -implicitDefEqProofs (maxSteps:=999999) (disch:=omega)
 refine th hlt ?_;refine AW.block ?_;generalize hF:Bu (Bu _ _ _) _ _=F1;have f7:F1 7= .tok 0 0 1 0 n:=by rw[<-hF];simp[Bu,fr]
 have f8:F1 8= .int .i64 k:=by rw[<-hF];simp[Bu,fr]
 clear hF;intro a w hr;refine wpIn_mono (Q:=λe a w=>e= .normal/\Cu C (fr [(7,.tok 0 0 1 0 n),(8,.int .i64 ((k+min k (n-k):Nat):Int))]) [.live 0 (Ab (uP (k+min k (n-k)) (-1)++uP (n-(k+min k (n-k))) 0))] a w) ?_ ?_;rotate_left
 .rintro e a w ⟨rfl,hr⟩;refine .inl ⟨_,_,?_,hr⟩;exact⟨n-(k+min k (n-k)),_,_,zO,Dj.refl _ _ _,k+min k (n-k),rfl,zO,zO,rfl,rfl⟩
 refine wpIn_region_any (hC ▸ Df) ?_;obtain⟨σ,own,R⟩:=hr;have R:=R.drew;show wpAnyIn _ _ _ _ _ _ 10 _ a w.drew;generalize w.drew=w at*;refine Jl hrd R (i:=0) rfl AK AK AK zO λa R=>?_;refine Jl hrd R (i:=1) rfl AK AK AK zO λa R=>?_;refine Jl hrd R (i:=2) rfl AK AK AK zO λa R=>?_;refine QP (hC ▸ tk) hrd R (i:=3) (lo:=some (40,.i64,k)) (hi:=none) rfl AK AK AK zO (t:=36) (e:=3) (es:=1) (eb:=8) (ez:=[.int .i64 0]) (n:=n) (h:=n) (l:=k) rfl (by simp[Bu,f7];exact⟨rfl,rfl⟩) rfl (by simp[Bu,f8];omega) zS rfl (by simp[Hh];omega) λa R=>?_;refine Jl hrd R (i:=4) rfl AK AK AK zO λa R=>?_;refine Jl hrd R (i:=5) rfl AK AK AK zO λa R=>?_;refine QP (hC ▸ tk) hrd R (i:=6) (lo:=none) (hi:=some (43,.i64,k)) rfl AK AK AK zO (t:=36) (e:=3) (es:=1) (eb:=8) (ez:=[.int .i64 0]) (n:=n) (h:=k) (l:=0) rfl (by simp[Bu,f7];exact⟨rfl,rfl⟩) rfl zS (by simp[Bu,f8];omega) (by simp[Hh];omega) rfl λa R=>?_;refine wpAnyIn_ready (rs:=[7]) AK zS (AllReadyIn.cons rfl (λK' hK=>?_) AllReadyIn.nil);rw[zP (by simp[Region.wanted])];refine Xm (hC ▸ tk) R (t:=36) (e:=3) (eb:=8) (ez:=[.int .i64 0]) rfl (cs:=Ab (uP k (-1)++uP (n-k) 0)) (B:=0) (v:=0) (off:=k) (n:=n-k) (m:=k) (ys:=Ab (uP k (-1))) rfl (by simp[Bu]) zO zO ?_ zS zS zS zO zO ?_
 .simp[Bu,De,Ah]
 intro a' w' R' _;refine hK _ _ ?_;refine wpAnyIn_ready (rs:=[8]) AK zS (AllReadyIn.cons rfl (λK' hK=>?_) AllReadyIn.nil);rw[zP (by simp[Region.wanted])];refine fg (hC ▸ tk) R' (by rw[hn48];kernel_rfl) (λ_ h=>by cases h) (r:= .int .i64 ((k+min k (n-k):Nat):Int)) (by simp(disch:=omega) [pv,Bu,f8]) λa R=>hK _ _ ?_;refine wpAnyIn_ready (rs:=[9]) AK zS (AllReadyIn.cons rfl (λK' hK=>?_) AllReadyIn.nil);rw[zP (by simp[Region.wanted])];refine fg (hC ▸ tk) R (by rw[hn48];kernel_rfl) (λ_ h=>by cases h) (r:= .int .i64 ((k+min k (n-k):Nat):Int)) (by simp(disch:=omega) [pv,Bu,f8,AB]) λa R=>hK _ _ ?_;refine wpAnyIn_done AK ⟨rfl,?_⟩ _;have hm:Bt (Ab (uP k (-1)++uP (n-k) 0)) k ((Ab (uP k (-1))).take (min k (n-k)))=Ab (uP (k+min k (n-k)) (-1)++uP (n-(k+min k (n-k))) 0):=by
  have e:(Ab (uP k (-1))).take (min k (n-k))=Ab (uP (min k (n-k)) (-1)):=by
   simp only[Ab,<-List.map_take,List.take_replicate];rw[Nat.min_eq_left zO]
  rw[e,UB _ _ _ _ _ zO,show n-k-min k (n-k)=n-(k+min k (n-k)) by omega]
 have hr:=Wk.fr (p:=0) (S:=[(7,.tok 0 0 1 0 n),(8,.int .i64 ((k+min k (n-k):Nat):Int))]) (by simp[AA,Bu,AB,f7]) C hp0 a _ ⟨σ,own,R⟩;simp only[vQ,hm] at hr;exact hr
theorem In:BK:=λn h1 h2=>Y1 n h1 h2
abbrev JU:List AV:=[.int .i64 0,.int .i64 0,.int .i64 0,.str ByteArray.empty,.int .i64 0,.int .i64 0,.bool false,.bool false]
theorem UC {cs:List AV} (h:cs.all DS=true) (i j:Nat):((cs.drop i).take j).all DS=true:=by
 rw[u1] at h |-;exact λx hx=>h x (wH (wh hx))
theorem Gb:∀(ys cs:List AV) (o:Nat),o+ys.length<=cs.length->Bt cs o ys=cs.take o++ys++cs.drop (o+ys.length)
 | [],cs,o,_=>by simp[Bt]
 |y::ys,cs,o,h=>by
  simp only[vA] at h;rw[Bt,Gb ys _ _ Ao,vA];have e:(cs.set o y).take (o+1)=cs.take o++[y]:=by
   rw[uV,List.take_set_of_le (vg _),List.getElem?_set_self zO];rfl
  rw[e,List.drop_set_of_lt zO];simp[Nat.add_assoc,Nat.add_comm 1]
theorem Y2 (cs:List AV) (u n i:Nat) (hi:i<n) (hn:n<1000000000000) (hl:cs.length=n*8) (hpl:cs.all DS=true) (htf:E0 cs=true):Ac pg 273 [.tok 0 u 8 0 n,.int .i64 i,.int .i64 ((i+1:Nat):Int)] [.live u cs] (λr M=>r= .own 8 (n-1) (cs.take (i*8)++cs.drop ((i+1)*8))/\M=[.dead]):=by
 refine tA (fn:=Tryz.f273) tk rfl rfl rfl (wC rfl) AK ?_;intro C hC hp hnC hrd hdf;have hp0:C.p<=1:=Nat.le_of_eq hp;have hn33:C.n=33:=hnC;show AW C _ _ _ (Fo tT [.tmp 6] 1 _);rw[A6];refine tn tk hC hp0 (by rw[hn33];kernel_rfl) ?_;refine zs ?_;refine tC ?_;intro a w hr;refine wpIn_region_lit ?_;refine(ES (hC ▸ tk) (K:=λF' M' =>Wk 1 F' M' (fr [(0,.tok 0 u 8 0 n),(1,.int .i64 i),(2,.int .i64 ((i+1:Nat):Int)),(8,.tok 0 u 8 0 n),(9,.int .i64 i),(10,.int .i64 ((i+1:Nat):Int)),(12,.int .i64 n)]) [.live u cs]) ?_ [_,_,_,_,_] 1 _ _ a w ?_ ?_ ?_ hr:wpListIn _ _ _ _ _ ([_,_,_,_,_]++[_]) a w);rotate_left
 .rw[hn33];kernel_rfl
 .rw[hn33];kernel_rfl
 .refine Dk (call:=Ad pg) (call' :=Cd C) (λf args M K K' hk hc=>(hc C hC).mono hk) (λ_ _ h=>h) _ _ _ _ ?_;simp -implicitDefEqProofs (maxSteps:=999999) (disch:=omega);exact Wk.fr zK
 clear hr a w;intro F' M' a w hwk hr;obtain⟨σ,own,R⟩:=hwk C hp0 a w hr;clear hr hwk;simp only[wpListIn];rw[zP (by simp[Region.wanted])];obtain⟨h8,b8',sz,c,hst,hv8,hnc,hcm,hsz⟩:=L5 R (t:=8) (B:=0) (u:=u) (s:=8) (off:=0) (n:=n) (cs:=cs) zO rfl (by simp[Ah]) zO;have e9:a.eval (.tmp 9)= .int .i64 i:=(R.tmp 9 zO).1;have e10:a.eval (.tmp 10)= .int .i64 ((i+1:Nat):Int):=(R.tmp 10 zO).1;have e12:a.eval (.tmp 12)= .int .i64 n:=(R.tmp 12 zO).1;have e8:a.eval (.tmp 8)=_:=hv8;obtain⟨v,hv⟩:=Ws (hC ▸ tk) (t:=22) (e:=61) (es:=8) (eb:=64) (ez:=JU) rfl (ad:=some ⟨h8,b8' +0,none⟩) (n:=n) (c:=c) (l:=i) (h:=i+1) (m:=n) zO zO hnc w;refine tc (λ_ h=>by cases h) (v:=v) (w' :=w) ?_ (.inl ⟨_,_,?_,σ,own,R.put (some 13) (av:= .any) zL⟩)
 .simp only[execOp,e8,e9,e10,e12,vI,Sem.run_bind];rw[hv];simp only[Result.andThen_ok,Sem.run_pure]
 refine AW.weak (Wk.fr (S:=[(0,.tok 0 u 8 0 n),(1,.int .i64 i),(2,.int .i64 ((i+1:Nat):Int))]) (by simp[AA,Bu]) C hp0) ?_;clear hv e8 e9 e10 e12 v hv8 hst R;refine tn tk hC hp0 (by rw[hn33];kernel_rfl) ?_;have z1:¬(i:Int)=((i+1:Nat):Int):=zO;refine th z1 ?_;refine tn tk hC hp0 (by rw[hn33];kernel_rfl) ?_;refine zs ?_;refine AW.weak (Wk.fr (S:=[(0,.tok 0 u 8 0 n),(1,.int .i64 i),(2,.int .i64 ((i+1:Nat):Int)),(7,.int .i64 n)]) (by simp[AA,Bu]) C hp0) ?_;clear hnc hcm hsz h8 b8' sz c own σ a w M' F';obtain⟨m,hm⟩:∃m,m=n-(i+1):=zX;have hys:((cs.drop ((i+1)*8)).take (m*8)).length=m*8:=Ao;have hcs:Bt cs (i*8) ((cs.drop ((i+1)*8)).take (m*8))=cs.take (i*8)++cs.drop ((i+1)*8)++cs.drop ((n-1)*8):=by
  rw[Gb _ _ _ (by rw[hys];omega),hys,show i*8+m*8=(n-1)*8 by omega,uM (l:=cs.drop ((i+1)*8)) Ao]
 intro a w hr;refine wpIn_seq (wpIn_mono (Q:=λe a w=>e= .normal/\∃F σ own h b sz c,F 0= .tok 0 u 8 0 (n-1)/\F 7= .int .i64 n/\AS C F [.live u (cs.take (i*8)++cs.drop ((i+1)*8)++cs.drop ((n-1)*8))] a w σ own/\σ 0 u=some (.loc h b sz)/\a.tmps.getD 0 undef= .slice (some ⟨h,b,none⟩) (n-1) c/\n<=c/\c<=maxLen/\b+c*8<=sz) ?_ ?_);rotate_left
 .rintro e a w ⟨rfl,F,σ,own,h0,b0,sz,c,f0,f7,R,hst,hv0,hnc,hcm,hsz⟩;obtain⟨cs2,hc2⟩:∃cs2,cs2=cs.take (i*8)++cs.drop ((i+1)*8)++cs.drop ((n-1)*8):=zX;have hl2:cs2.length=n*8:=by rw[hc2];simp;omega
  have ht2:cs2.take ((n-1)*8)=cs.take (i*8)++cs.drop ((i+1)*8):=by
   rw[hc2,List.take_left' Ao]
  have hq:E0 (cs2.take ((n-1)*8))=true:=by
   rw[ht2];unfold E0 at htf |-;rw[u1] at htf |-;intro x hx;rcases vd.1 hx with h|h
   .exact htf x (wh h)
   .exact htf x (wH h)
  rw[<-ht2];rw[<-hc2] at R;clear hc2 ht2 hcs hys hr;refine wpIn_seq (wpIn_region_lit ?_);simp only[wpListIn];have e7:a.tmps.getD 7 undef= .int .i64 n:=by have:=R.tmp 7 zO;rw[f7] at this;exact this.1
  have r0:=R.tmp 0 zO;rw[f0,hv0] at r0;rw[zP (by simp[Region.wanted])];refine GW R (λ_ h=>by cases h) rfl zO (v:= .slice (some ⟨h0,b0,none⟩) (n-1) c) (av:= .tok 0 u 8 0 (n-1)) r0 (by rw[<-hv0];rfl) λa1 R v1 k1=>?_;rw[zP (by simp[Region.wanted])];refine GW R (λ_ h=>by cases h) rfl zO (v:= .slice (some ⟨h0,b0,none⟩) (n-1) c) (av:= .tok 0 u 8 0 (n-1)) r0 (by rw[<-hv0,<-k1 0 zD];rfl) λa2 R v2 k2=>?_;rw[zP (by simp[Region.wanted])];have e28:a2.eval (.tmp 28)= .slice (some ⟨h0,b0,none⟩) (n-1) c:=v2;refine GW R (λ_ h=>by cases h) rfl zO (v:= .int .i64 ((n-1:Nat):Int)) (av:= .int .i64 ((n-1:Nat):Int)) ⟨rfl,λ_=>rfl⟩ ?_ λa3 R v3 k3=>?_
  .have hD:=(CH (P:=C.P) (hC ▸ tk:BQ C.P tT) (t:=22) (e:=61) (es:=8) (eb:=64) (ez:=JU) rfl).1;simp[execOp,resolve,invoke,builtin,e28,Builtin.len_,run_underlying hD,goInt]
  rw[zP (by simp[Region.wanted])];refine GW R (λ_ h=>by cases h) rfl zO (v:= .int .i64 n) (av:= .int .i64 n) ⟨rfl,λ_=>rfl⟩ (by rw[<-e7,<-k1 7 zD,<-k2 7 zD,<-k3 7 zD];rfl) λa4 R v4 k4=>?_;rw[zP (by simp[Region.wanted])];have e27:a4.eval (.tmp 27)= .slice (some ⟨h0,b0,none⟩) (n-1) c:=by
   show a4.tmps.getD 27 undef=_;rw[k4 _ zD,k3 _ zD,k2 _ zD,v1]
  have e29:a4.eval (.tmp 29)= .int .i64 ((n-1:Nat):Int):=by
   show a4.tmps.getD 29 undef=_;rw[k4 _ zD,v3]
  have e30:a4.eval (.tmp 30)= .int .i64 n:=v4;have hs31:=Vo (hC ▸ tk) (t:=22) (e:=61) (es:=8) (eb:=64) (ez:=JU) rfl (ad:=some ⟨h0,b0,none⟩) (n:=n-1) (c:=c) (lo:=some (n-1)) (hi:=some n) (l:=n-1) (h:=n) rfl rfl zO hnc w;have hne:¬c=n-1:=zO;simp only[vI,hne,if_false,show n-(n-1)=1 by omega] at hs31;refine GW R (λ_ h=>by cases h) rfl zO (v:= .slice (some (Addr.add ⟨h0,b0,none⟩ ((n-1)*8))) 1 (c-(n-1))) (av:= .any) zL ?_ λa5 R v5 k5=>?_
  .simp only[execOp,e27,e29,e30,vI,Option.map_none,Sem.run_bind];rw[hs31];simp only[Result.andThen_ok,Sem.run_pure]
  rw[show(some (Addr.add ⟨h0,b0,none⟩ ((n-1)*8)))=some ⟨h0,b0+(n-1)*8,none⟩ by simp[Addr.add]] at v5;rw[zP (by simp[Region.wanted])];refine Vp (hC ▸ tk) R (t:=22) (e:=61) (s:=8) (eb:=64) (ez:=JU) rfl (B:=0) (u:=u) (h:=h0) (b:=b0) (sz:=sz) (cs:=cs2) (off:=(n-1)*8) (n:=1) (by simp[Ah]) hst v5 zF zO zO λa w R=>?_;clear hs31 e27 e29 e30 e28 v1 v2 v3 v4 v5 k1 k2 k3 k4 k5 r0 e7 hv0 hst;have hl1:(Bv 1 JU).length=8:=rfl;rw[show([Ag.live u cs2].set 0 (.live u (Bt cs2 ((n-1)*8) (Bv 1 JU))))=[Ag.live u (Bt cs2 ((n-1)*8) (Bv 1 JU))] from rfl,Gb _ _ _ (by rw[hl1];omega)] at R;have ht3:cs2.take ((n-1)*8)=(cs2.take ((n-1)*8)++Bv 1 JU++cs2.drop ((n-1)*8+(Bv 1 JU).length)).take ((n-1)*8):=by
   rw[uZ,List.take_left' Ao]
  have hl3:(n-1)*8<=(cs2.take ((n-1)*8)++Bv 1 JU++cs2.drop ((n-1)*8+(Bv 1 JU).length)).length:=by
   simp only[u0,wy];omega
  generalize cs2.take ((n-1)*8)++Bv 1 JU++cs2.drop ((n-1)*8+(Bv 1 JU).length)=cs3 at ht3 hl3 R;rw[ht3] at hq |-;have hw:=Wk.fr (p:=1) (S:=[(0,.tok 0 u 8 0 (n-1))]) (by simp[AA,Bu,f0]) C hp0 a _ ⟨σ,own,R⟩;refine tn (Q:=Fo tT [.tmp 6] 1 _) tk hC hp0 (by rw[hn33];kernel_rfl) ?_ a w hw;refine zs ?_;refine tK ?_;simp only[B6,C0,CM];refine CA (d:=0) ?_;simp -implicitDefEqProofs (maxSteps:=999999) (disch:=omega) [hq]
 refine wpIn_region_any (hC ▸ Df) ?_;obtain⟨σ,own,R⟩:=hr;have R:=R.drew;show wpAnyIn _ _ _ _ _ _ 8 _ a w.drew;generalize w.drew=w at*;obtain⟨h0,b0,sz,c,hst,hv0,hnc,hcm,hsz⟩:=L5 R (t:=0) (B:=0) (u:=u) (s:=8) (off:=0) (n:=n) (cs:=cs) zO rfl (by simp[Ah]) zO;have e1:a.tmps.getD 1 undef= .int .i64 i:=(R.tmp 1 zO).1;have e2:a.tmps.getD 2 undef= .int .i64 ((i+1:Nat):Int):=(R.tmp 2 zO).1;simp only[Nat.add_zero] at hv0 hsz;refine FC hrd R (i:=0) rfl AK AK AK zO zO λa1 R v1 k1=>?_;rw[hv0] at v1;refine FC hrd R (i:=1) rfl AK AK AK zO zO λa2 R v2 k2=>?_;rw[k1 _ zD,e1] at v2;refine IG (hC ▸ tk) hrd R (i:=2) (lo:=none) (hi:=some (21,i)) (u:=u) (B:=0) (n:=n) (c:=c) (hp:=h0) (b:=b0) (sz:=sz) (h:=i) (l:=0) (es:=8) rfl AK AK AK zO (t:=22) rfl hst (by rw[k2 _ zD,v1]) hcm hsz zS (by rintro x ⟨⟩;exact v2) rfl rfl zO zO λa3 R v3 k3=>?_;refine FC hrd R (i:=3) rfl AK AK AK zO zO λa4 R v4 k4=>?_;rw[k3 _ zD,k2 _ zD,k1 _ zD,hv0] at v4;refine FC hrd R (i:=4) rfl AK AK AK zO zO λa5 R v5 k5=>?_;rw[k4 _ zD,k3 _ zD,k2 _ zD,k1 _ zD,e2] at v5;refine IG (hC ▸ tk) hrd R (i:=5) (lo:=some (24,i+1)) (hi:=none) (u:=u) (B:=0) (n:=n) (c:=c) (hp:=h0) (b:=b0) (sz:=sz) (h:=n) (l:=i+1) (es:=8) rfl AK AK AK zO (t:=22) rfl hst (by rw[k5 _ zD,v4]) hcm hsz (by rintro x ⟨⟩;exact v5) zS rfl rfl zO zO λa6 R v6 k6=>?_;rw[show(if c=0 then(some ⟨h0,b0,none⟩:Option Addr) else some ⟨h0,b0+0*8,none⟩)=some ⟨h0,b0,none⟩ by split<;>simp] at v3;have e22:a6.tmps.getD 22 undef= .slice (some ⟨h0,b0,none⟩) i c:=by
  have:a6.tmps.getD 22 undef= .slice (some ⟨h0,b0,none⟩) (i-0) (c-0):=by rw[k6 _ zD,k5 _ zD,k4 _ zD];exact v3
  exact this
 refine wpAnyIn_ready (rs:=[6]) AK zS (AllReadyIn.cons rfl (λK' hK=>?_) AllReadyIn.nil);rw[zP (by simp[Region.wanted])];refine ZL (hC ▸ tk) R (t:=22) (e:=61) (s:=8) (eb:=64) (ez:=JU) rfl (B:=0) (u:=u) (h:=h0) (b:=b0) (sz:=sz) (cs:=cs) (by simp[Ah]) hst e22 zO (m:=m) (ys:=(cs.drop ((i+1)*8)).take (m*8)) (n:=i) (c:=c) (by simp[Bu,De,Ah,hm]) hys (UC hpl _ _) zO zO hcm hsz zO λa7 w' R' v7=>hK _ _ ?_;rw[hcs,show i+m=n-1 by omega] at R';rw[show i+m=n-1 by omega] at v7;refine wpAnyIn_ready (rs:=[7]) AK zS (AllReadyIn.cons rfl (λK' hK=>?_) AllReadyIn.nil);rw[zP (by simp[Region.wanted])];refine GW R' (λ_ h=>by cases h) rfl zO (v:= .slice (some ⟨h0,b0,none⟩) (n-1) c) (av:= .tok 0 u 8 0 (n-1)) (L6 hst zO hcm zO zL) (by rw[<-v7];rfl) λa R v8 k8=>hK _ _ ?_;refine wpAnyIn_done AK ⟨rfl,?_⟩ _;exact⟨_,σ,own,h0,b0,sz,c,by simp[Bu],by simp[Bu,fr],R,hst,v8,hnc,hcm,hsz⟩
def Jm (s:An) (id:Int):Bool:=s.sQ.any λv=>decide (v.base=id)
def Dp (s:An) (id:Int):An×Int:=
 if AN (λv=>decide (v.id=id)) s.sQ<0 then(Av,3)
 else if id=At s.sQ\/pinned s id=true\/Jm s id=true then(Av,6)
 else({s with sQ:=s.sQ.eraseIdx (AN (λv=>decide (v.id=id)) s.sQ).toNat},0)
def qh (s:An) (id:Int):An×Int:=if A2 s then Dp s id else(Av,1)
theorem Y3 (v:Bn) (id:Int):Ac pg 272 ([.agg (As v)]++[.rptr [iN id]]) [] (λr _=>r= .bool (decide (v.base=id))):=by
 refine zE (fn:=Tryz.f272) [.tmp 3] ?_;simp only[List.cons_append,vU];rw[Aq];refine AX ?_;exact DM
theorem Pe:∀(l:List Bn) (k:Nat),k<l.length->(Aa As l).take (k*8)++(Aa As l).drop ((k+1)*8)=Aa As (l.eraseIdx k)
 | [],k,h=>by simp at h
 |v::l,0,_=>by simp[AG,As]
 |v::l,k+1,h=>by
  have ih:=Pe l k (by simpa using h);have hv:(As v).length=8:=rfl;have a1:(As v++Aa As l).take ((k+1)*8)=As v++(Aa As l).take (k*8):=by rw[show(k+1)*8=(As v).length+k*8 by omega,List.take_length_add_append]
  have a2:(As v++Aa As l).drop ((k+1+1)*8)=(Aa As l).drop ((k+1)*8):=by rw[show(k+1+1)*8=(As v).length+(k+1)*8 by omega,List.drop_length_add_append]
  rw[AG,List.eraseIdx_cons_succ,AG,<-ih,a1,a2,uZ]
theorem cp (hR:BK) (s:An) (id:Int) (hs:A0 s) (hx:BO s):Ac pg 235 [.agg (Aj false s),iN id] [] (λr _=>r= .tup [.agg (Aj true (Dp s id).1),iN (Dp s id).2]):=by
 have h1:=hs.1;have h2:=hs.2.1;refine zE (fn:=Tryz.f235) [.cell 4 25,.tmp 5] ?_;rw[Aq];refine Ig ?_;refine AL (HJ s id hs) ?_;obtain⟨q,hq⟩:∃q,q=AN (λv=>decide (v.id=id)) s.sQ:=zX;rw[<-hq];unfold Dp;rw[<-hq];refine zb ?_;by_cases c1:q<0
 .rw[zP c1];refine th c1 ?_;refine W.weak ((sX 2 2).trans (sX 2 3)) ?_;refine zr ?_;simp[Av]
 rw[zM c1];obtain⟨k,hk,rfl⟩:∃k:Nat,k<s.sQ.length/\q=(k:Int):=⟨q.toNat,by rw[hq] at c1 |-;exact IW zO,zO⟩;have c1' :¬(k:Int)<0:=c1;refine xO c1' ?_;have spB:=Q4 s.sQ 272 [.rptr [iN id]] (λv=>decide (v.base=id)) zO (λv _=>Y3 v id) zS zS;have hbd:(s.sQ.any λv=>decide (v.base=id))=Jm s id:=rfl;rw[hbd] at spB;have spP:=N1 s id hs;by_cases c2:id=At s.sQ
 .rw[zP (.inl c2)];refine CN ?_;intro K hK;refine s6 (EV s hs) (by simp) (by simp) ?_;refine x5 c2 ?_;refine W.weak ((sX 2 2).trans (sX 2 3)) ?_;refine zr ?_;simp[Av]
 by_cases c3:pinned s id=true
 .rw[zP (.inr (.inl c3))];rw[c3] at spP;refine CN ?_;intro K hK;refine s6 (EV s hs) (by simp) (by simp) ?_;refine AO c2 ?_;refine xW spP ?_;refine y2 ?_;refine W.weak ((sX 2 2).trans (sX 2 3)) ?_;refine zr ?_;simp[Av]
 by_cases c4:Jm s id=true
 .rw[zP (.inr (.inr c4))];rw[xl.2 c3] at spP;rw[c4] at spB;refine CN ?_;intro K hK;refine s6 (EV s hs) (by simp) (by simp) ?_;refine AO c2 ?_;refine CQ spP ?_;refine xW spB ?_;refine y2 ?_;refine W.weak ((sX 2 2).trans (sX 2 3)) ?_;refine zr ?_;simp[Av]
 rw[zM (by simp[c2,c3,c4])];rw[xl.2 c3] at spP;rw[xl.2 c4] at spB;refine CN ?_;intro K hK;refine s6 (EV s hs) (by simp) (by simp) ?_;refine AO c2 ?_;refine CQ spP ?_;refine xW spB ?_;refine xY ?_;intro K hK;refine tg (SW s hs hx) zS ?_;refine Am ?_;obtain⟨c,hc⟩:∃c:Nat,c=k+1:=zX;have e1:(k:Int)+1=(c:Int):=zO;refine BS e1 ?_;intro K hK;have spD:=Y2 (Aa As s.sQ) 0 s.sQ.length k hk zO (Bk (f:=As) zL _) (be _) zS;have hle:(s.sQ.eraseIdx k).length=s.sQ.length-1:=List.length_eraseIdx_of_lt hk;rw[Pe _ _ hk,<-hc,<-hle] at spD;clear hle;generalize hl' :s.sQ.eraseIdx k=l' at spD;refine sZ [3] spD zS zS zS zS ?_;rintro r M ⟨rfl,rfl⟩ _;refine Am ?_;refine Bd ?_;simp[hl']
theorem QQ (s:An) (id:Int):Jm s id=true↔∃i,∃h:i<s.sQ.length,s.sQ[i].base=id:=by
 unfold Jm;rw[xI];constructor
 .rintro⟨v,hv,h⟩;obtain⟨i,hi,rfl⟩:=vq.1 hv;exact⟨i,hi,by simpa using h⟩
 .rintro⟨i,hi,h⟩;exact⟨_,uQ hi,by simpa using h⟩
theorem Pf (s:An) (id:Int):pinned s id=true↔∃i,∃h:i<s.sR.length,s.sR[i].pin=id:=by
 unfold pinned;rw[xI];constructor
 .rintro⟨v,hv,h⟩;obtain⟨i,hi,rfl⟩:=vq.1 hv;exact⟨i,hi,by simpa using h⟩
 .rintro⟨i,hi,h⟩;exact⟨_,uQ hi,by simpa using h⟩
theorem MD {s:An} {id:Int} (h0:¬AN (λv=>decide (v.id=id)) s.sQ<0) (h:Jm s id=true\/pinned s id=true\/id=At s.sQ):Dp s id=(Av,6):=by
 unfold Dp;rw[zM h0,zP];rcases h with h|h|h
 .exact .inr (.inr h)
 .exact .inr (.inl h)
 .exact .inl h
theorem cr (s:An) (id:Int) (hs:A0 s) (hx:BO s):Ac pg 149 [.agg (Aj false s),iN id] [] (λr _=>r= .tup [.agg (Aj true (Dp s id).1),iN (Dp s id).2]):=by
 have h1:=hs.1;have h2:=hs.2.1;refine zE (fn:=Tryz.f149) [.cell 4 25,.tmp 5] ?_;rw[Aq];refine Cx ?_;refine AL (N3 s id hs) ?_;obtain⟨q,hq⟩:∃q,q=AN (λv=>decide (v.id=id)) s.sQ:=zX;rw[<-hq];by_cases c1:q<0
 .have e0:Dp s id=(Av,3):=by unfold Dp;rw[<-hq,zP c1]
  rw[e0];refine th c1 ?_;refine W.weak ((sX 1 2).trans (sX 1 3)) ?_;refine zr ?_;simp[Av]
 have hq0:=c1;rw[hq] at hq0;refine xL c1 ?_;refine s5 (λk:Nat=> [(1,iN id),(2,pt 0),(4,pt 1),(5,iN 0),(6,iN q)]) (λ_=> [lv (Aj false s),lv (Aj true Av)]) (λ_=>∀i (h:i<s.sQ.length),¬s.sQ[i].base=id) ?_ ?_
 .refine zb ?_;refine sV (λk:Nat=> [(1,iN id),(2,pt 0),(4,pt 1),(5,iN 0),(6,iN q),(7,iN k)]) (λ_=> [lv (Aj false s),lv (Aj true Av)]) (λk=>s.sQ.length-k) (λk=>k<=s.sQ.length/\∀i (h:i<s.sQ.length),i<k->¬s.sQ[i].base=id) 0 (Wk.fr zK) ⟨zO,λi _ h=>zO⟩ ?_;rintro k ⟨hk,hall⟩;by_cases c2:k<s.sQ.length
  .refine xL c2 ?_;by_cases c3:s.sQ[k].base=id
   .rw[MD hq0 (.inl ((QQ s id).2 ⟨k,c2,c3⟩))];refine th (an c2 c3) ?_;refine W.weak ((sX 1 2).trans (sX 1 3)) ?_;refine zr ?_;simp[Av]
   .refine xL (an c2 c3) ?_;refine⟨k+1,zO,⟨zO,λi hi h=>?_⟩,Wk.fr zK⟩;by_cases e:i=k
    .subst e;exact c3
    .exact hall i hi zO
  .have:k=s.sQ.length:=zO;subst this;refine th c2 ?_;exact⟨0,λi hi=>hall i hi hi,Wk.fr zK⟩
 rintro _ hb;refine zs ?_;refine s5 (λk:Nat=> [(1,iN id),(2,pt 0),(4,pt 1),(5,iN 0),(6,iN q)]) (λ_=> [lv (Aj false s),lv (Aj true Av)]) (λ_=>∀i (h:i<s.sR.length),¬s.sR[i].pin=id) ?_ ?_
 .refine zb ?_;refine sV (λk:Nat=> [(1,iN id),(2,pt 0),(4,pt 1),(5,iN 0),(6,iN q),(8,iN k)]) (λ_=> [lv (Aj false s),lv (Aj true Av)]) (λk=>s.sR.length-k) (λk=>k<=s.sR.length/\∀i (h:i<s.sR.length),i<k->¬s.sR[i].pin=id) 0 (Wk.fr zK) ⟨zO,λi _ h=>zO⟩ ?_;rintro k ⟨hk,hall⟩;by_cases c2:k<s.sR.length
  .refine xL c2 ?_;by_cases c3:s.sR[k].pin=id
   .rw[MD hq0 (.inr (.inl ((Pf s id).2 ⟨k,c2,c3⟩)))];refine th (an c2 c3) ?_;refine W.weak ((sX 1 2).trans (sX 1 3)) ?_;refine zr ?_;simp[Av]
   .refine xL (an c2 c3) ?_;refine⟨k+1,zO,⟨zO,λi hi h=>?_⟩,Wk.fr zK⟩;by_cases e:i=k
    .subst e;exact c3
    .exact hall i hi zO
  .have:k=s.sR.length:=zO;subst this;refine th c2 ?_;exact⟨0,λi hi=>hall i hi hi,Wk.fr zK⟩
 rintro _ hp;by_cases c4:id=At s.sQ
 .rw[MD hq0 (.inr (.inr c4))];refine z0 ?_;intro K hK;refine sW (HL s hs) (by simp) (by simp) ?_;refine x5 c4 ?_;refine W.weak ((sX 1 2).trans (sX 1 3)) ?_;refine zr ?_;simp[Av]
 have e0:Dp s id=({s with sQ:=s.sQ.eraseIdx q.toNat},0):=by
  unfold Dp;rw[<-hq,zM c1,zM];rintro(h|h|h)
  .exact c4 h
  .obtain⟨i,hi,h⟩:=(Pf s id).1 h;exact hp i hi h
  .obtain⟨i,hi,h⟩:=(QQ s id).1 h;exact hb i hi h
 rw[e0];obtain⟨k,hk,rfl⟩:∃k:Nat,k<s.sQ.length/\q=(k:Int):=⟨q.toNat,by rw[hq] at c1 |-;exact IW zO,zO⟩;refine z0 ?_;intro K hK;refine sW (HL s hs) (by simp) (by simp) ?_;refine xK c4 ?_;refine xY ?_;intro K hK;refine tg (Ga s hs hx) zS ?_;refine Am ?_;obtain⟨c,hc⟩:∃c:Nat,c=k+1:=zX;have e1:(k:Int)+1=(c:Int):=zO;have hmin:min k s.sQ.length=k:=zO;have spC:=Kt (s.sQ.take k) Ao;rw[wy,hmin] at spC;have hsl:((Aa As s.sQ).drop (c*8)).take ((s.sQ.length-c)*8)=Aa As (s.sQ.drop c):=by
  rw[II (f:=As) (s:=8) zL,uM];rw[Bk (f:=As) (s:=8) zL];simp
 refine Dy e1 ?_;intro K hK;refine⟨_,_,spC,(λh=>by cases h),.inl ⟨rfl,⟨[],by simp[By];omega⟩,?_⟩⟩;rintro r rfl;refine⟨zS,?_⟩;refine AO (an e1 hsl) ?_;refine⟨zO,zO,?_⟩;have hlen:k+(s.sQ.length-c)=(s.sQ.eraseIdx k).length:=by rw[List.length_eraseIdx_of_lt hk];omega
 have hcat:Aa As (s.sQ.take k)++Aa As (s.sQ.drop c)=Aa As (s.sQ.eraseIdx k):=by rw[<-BI,wS,hc]
 rw[hlen,hcat];refine zk ?_;exact DM
def Fl (s:An) (o:Obj) (p:Int):Option (List Obj):=
 if AN (λv=>decide (v.id=o.id)) s.sQ<0 then(if¬(0<=p/\p<=o.id-1)\/o.id<=At s.sQ then none else some (Ae s++[o]))
 else some ((Ae s).set (AN (λv=>decide (v.id=o.id)) s.sQ).toNat o)
def KC (s:An) (o:Obj) (p:Int):Prop:=∃l,Fl s o p=some l/\BJ l/\(∀i (h:i<l.length),(AT l l[i].id).2=0)/\∀x∈s.sR,AQ s l x
theorem TG {s:An} {o:Obj} {p:Int} (h:Fl s o p=none):¬KC s o p:=by rintro⟨l,hl,_⟩;rw[h] at hl;simp at hl
theorem PS (o:Obj):∀(l:List Obj) (k:Nat) (h:k<l.length),((((Aa Ar l).set (k*4) (iN o.id)).set (k*4+1) (iN o.base)).set (k*4+1+1) (.str o.data.data)).set (k*4+1+1+1) (iN o.data.n)=Aa Ar (l.set k o)
 | [],k,h=>by simp at h
 |x::l,0,_=>by simp[AG,Ar]
 |x::l,k+1,h=>by
  have ih:=PS o l k (by simpa using h);have hv:(Ar x).length=4:=rfl;have e:∀(F:List AV) (i:Nat) (z:AV),(Ar x++F).set (4+i) z=Ar x++F.set i z:=λF i z=>by rw[vz _ _ zO,hv,Nat.add_sub_cancel_left]
  rw[AG,List.set_cons_succ,AG,<-ih,show(k+1)*4=4+k*4 by omega];rw[e,show 4+k*4+1=4+(k*4+1) by omega,e,show 4+(k*4+1)+1=4+(k*4+1+1) by omega,e,show 4+(k*4+1+1)+1=4+(k*4+1+1+1) by omega,e]
def G0 (l:List (Int×Int)) (sS m:Int):Int:=match (BV (B0 l sS.toNat) 0 0).find? λx=>decide (m<=x.2) with|some x=>x.1|none=>-1
def CT (s:An) (o:Obj) (p:Int):List Bn×Nat:=if AN (λv=>decide (v.id=o.id)) s.sQ<0 then(s.sQ++[Fk o.id p],s.sQ.length) else(s.sQ,(AN (λv=>decide (v.id=o.id)) s.sQ).toNat)
def Fz (s:An) (o:Obj) (p:Int):An×Int:=
 if G0 (AD s) s.sS (C7 o.data)<0 then(Av,5)
 else({s with sQ:=Jk (D0 (CT s o p).1 (CT s o p).2 o) (CT s o p).2 (G0 (AD s) s.sS (C7 o.data))},0)
theorem Xo (s:An) (o:Obj) (p:Int) (hs:A0 s) (hx:BO s) (ho:o.data.data.size<1000000000) (hn:s.sQ.length<999999999) (hp:Cl (AD s) s.sS):Ac pg 147 [.agg (Aj false s),.agg (Ar o),iN p] [] (λr _=>r= .tup [.agg (Aj true (Fz s o p).1),iN (Fz s o p).2]):=by
 have h1:=hs.1;have h2:=hs.2.1;have spC:=Ga s hs hx;have spR:=Ux s hs;have spN:=Uq o.data ho;have spF:Ac pg 194 [.ro (AD s).length (Aa Al (AD s)),iN s.sS,iN (C7 o.data)] [] (λr _=>r=iN (G0 (AD s) s.sS (C7 o.data))):=ck (AD s) s.sS (C7 o.data) (by simp[AD];omega) hp;have spA:=N3 s o.id hs;unfold Fz;obtain⟨f,hf⟩:∃f,f=G0 (AD s) s.sS (C7 o.data):=zX;obtain⟨q,hq⟩:∃q,q=AN (λv=>decide (v.id=o.id)) s.sQ:=zX;rw[<-hf] at spF |-;rw[<-hq] at spA;refine zE (fn:=Tryz.f147) [.cell 6 25,.tmp 7] ?_;rw[A6];refine Ig ?_;refine z0 ?_;intro K hK;refine tg spC zS ?_;refine Am ?_;refine Wz spR spN spF ?_;by_cases c1:f<0
 .rw[zP c1];refine th c1 ?_;refine W.weak ((sX 2 2).trans (sX 2 3)) ?_;refine zr ?_;simp[Av]
 rw[zM c1];refine th c1 ?_;refine AL spA ?_;refine zs ?_;refine s5 (λx:Nat×List Bn×Nat=> [(2,iN p),(3,pt 0),(4,pt 1),(6,pt 2),(7,iN 0),(8,iN f),(9,iN x.2.2)]) (λx=> [lv [iN s.keep,iN s.sS,.tok 3 x.1 8 0 x.2.1.length,.tok 4 0 12 0 s.sR.length],lv (Ar o),lv [iN 0,iN 0,.own 8 0 [],.own 12 0 []],.live x.1 (Aa As x.2.1),lv (Aa (Af true) s.sR)]) (λx=>x.2=CT s o p/\x.2.2<x.2.1.length/\x.2.1.length<1000000000) ?_ ?_
 .by_cases c2:q<0
  .have eV:CT s o p=(s.sQ++[Fk o.id p],s.sQ.length):=by unfold CT;rw[<-hq,zP c2]
   rw[zT c2];refine zt ?_;refine z1 ?_;intro K hK;refine⟨zO,zO,?_⟩;refine xM ?_;exact⟨(1,s.sQ++[Fk o.id p],s.sQ.length),⟨eV.symm,zS,Ao⟩,sU (k:=5) zK (by simp[BI,AG,As,Fk]) zS zS zS zS⟩
  .have c2' :0<=q:=zO;obtain⟨k,hk,rfl⟩:∃k:Nat,k<s.sQ.length/\q=(k:Int):=⟨q.toNat,by rw[hq] at c2' |-;exact IW c2',zO⟩;have eV:CT s o p=(s.sQ,k):=by unfold CT;rw[<-hq,zM c2];rfl
   rw[zV c2];refine y2 ?_;exact⟨(0,s.sQ,k),⟨eV.symm,hk,h1⟩,sU (k:=5) zK zS zS zS zS zS⟩
 rintro⟨u,l,i⟩ ⟨eV,hil,hl⟩;simp only at eV hil hl;rw[<-eV];(repeat refine ta ?_);refine tj 0 [(45,57),(45,52),(48,57),(48,52),(53,57),(53,52),(48,59),(48,54)] rfl true Df AK λK hK=>?_;simp -implicitDefEqProofs (disch:=omega) [hil];refine⟨zO,zO,zO,?_⟩;(repeat refine⟨by first|assumption|omega,?_⟩);refine hK _ _ (by simp(disch:=omega)) ?_;clear hK K;rw[PP o l i hil,<-IX hil];obtain⟨l1,hl1⟩:∃l1,l1=D0 l i o:=zX;have len1:l1.length=l.length:=by rw[hl1,N7]
 rw[<-hl1];have hil1:i<l1.length:=zO;rw[SX f l1 i hil1,<-O4 hil1];refine Bd ?_;have tk2:wL l.length (Jk l1 i f)=Jk l1 i f:=uM (by rw[Kz];omega);simp[Kz,len1,tk2]
theorem ME (l m:List Bn) (h:l.map (λv=>v.gone)=m.map λv=>v.gone):DP l=DP m:=by
 have:=congrArg List.getLast? h;rw[xF,xF] at this;unfold DP;cases e1:l.getLast?<;>cases e2:m.getLast?<;>rw[e1,e2] at this<;>simp at this |-<;>exact this
theorem Ob {β:Type} (g:Bn->β) {l:List Bn} {i:Nat} {o:Obj} (hg:∀v:Bn,g {v with base:=o.base,data:=o.data}=g v):(D0 l i o).map g=l.map g:=by
 unfold D0;cases e:l[i]? with
 |none=>rfl
 |some v=>
  simp only;rw[wi,hg];refine wk λj=>?_;rw[wl];split
  .rename_i h;subst h;simp only[wB];split
   .rw[List.getElem?_map,e];rfl
   .rename_i h;rw[uR (by simpa using h)]
  .rfl
theorem Xp (s:An) (o:Obj) (p:Int) (h:A2 s):(Fq s o p=none/\Fl s o p=none)\/
 (Fq s o p=some (CT s o p)/\Fl s o p=some ((D0 (CT s o p).1 (CT s o p).2 o).map B2)/\(∀v∈D0 (CT s o p).1 (CT s o p).2 o,GX v)/\DP (D0 (CT s o p).1 (CT s o p).2 o)=false/\
   At s.sQ<=At (D0 (CT s o p).1 (CT s o p).2 o)/\∀v∈s.sQ,∃u∈D0 (CT s o p).1 (CT s o p).2 o,u.id=v.id):=by
 obtain⟨⟨⟨a1,a2,a3,a4,a5,a6,a7⟩,b,c,d⟩,e⟩:=h;have put_ok:∀(l:List Bn) (i:Nat),(∀v∈l,GX v)->∀v∈D0 l i o,GX v:=by
  intro l i hl v hv;unfold D0 at hv;split at hv
  .rename_i w hw;rcases vX hv with h|h
   .exact hl v h
   .subst h;exact hl w (vo hw)
  .exact hl v hv
 have put_id:∀(l:List Bn) (i:Nat),∀v∈l,∃u∈D0 l i o,u.id=v.id:=by
  intro l i v hv;have hm:=Ob (o:=o) (l:=l) (i:=i) (λv=>v.id) zL;have:v.id∈(D0 l i o).map λv=>v.id:=by rw[hm];exact vH.2 ⟨v,hv,rfl⟩
  obtain⟨u,hu,e⟩:=vH.1 this;exact⟨u,hu,e⟩
 by_cases c1:AN (λv=>decide (v.id=o.id)) s.sQ<0
 .by_cases c2:o.id<=At s.sQ\/p<0\/o.id<=p
  .refine .inl ⟨?_,?_⟩
   .unfold Fq;rw[zP c1,zP c2]
   .unfold Fl;rw[zP c1,zP zO]
  .have er:CT s o p=(s.sQ++[Fk o.id p],s.sQ.length):=by unfold CT;rw[zP c1]
   have ep:D0 (s.sQ++[Fk o.id p]) s.sQ.length o=s.sQ++[{Fk o.id p with base:=o.base,data:=o.data}]:=by
    rw[IX zS];rw[vz _ _ (vg _),wp];simp
   rw[er];refine .inr ⟨?_,?_,?_,?_,?_,?_⟩
   .unfold Fq;rw[zP c1,zM c2]
   .unfold Fl;rw[zP c1,zM zO,ep];simp[Ae,B2,Fk]
   .refine put_ok _ _ λv hv=>?_;rcases vd.1 hv with h|h
    .exact a5 v h
    .simp at h;subst h;exact⟨by simp[Fk];omega,by simp[Fk];omega,by simp[Fk]⟩
   .rw[ep];simp[DP,Fk]
   .rw[ep,O5];simp[Fk];omega
   .intro v hv;exact put_id _ _ v (List.mem_append_left _ hv)
 .have er:CT s o p=(s.sQ,(AN (λv=>decide (v.id=o.id)) s.sQ).toNat):=by unfold CT;rw[zM c1]
  rw[er];obtain⟨k,hk⟩:∃k,k=(AN (λv=>decide (v.id=o.id)) s.sQ).toNat:=zX;have hlt:k<s.sQ.length:=by rw[hk];exact IW zO
  have By:s.sQ[k].id=o.id:=by
   have:s.sQ.findIdx? (λv=>decide (v.id=o.id))=some k:=by
    unfold AN at hk c1;cases e:s.sQ.findIdx? (λv=>decide (v.id=o.id)) with
    |none=>rw[e] at c1;simp at c1
    |some j=>rw[e] at hk;simp at hk;rw[hk]
   simpa using (vN.1 this).2.1
  rw[<-hk];refine .inr ⟨?_,?_,put_ok _ _ a5,?_,?_,put_id _ _⟩
  .unfold Fq;rw[zM c1,hk]
  .unfold Fl;rw[zM c1,<-hk,IX hlt,wi];simp[Ae,B2,By]
  .rw[ME _ _ (Ob (λv=>v.gone) zL)];exact a6
  .rw[O1 _ _ (Ob (λv=>v.id) zL)];exact wM _
theorem S3 {s y:An} {l:List Obj} {x:B3} (hl:At s.sQ<=At y.sQ) (hi:∀v∈s.sQ,∃u∈y.sQ,u.id=v.id) (h:AQ s (Ae s) x):AQ y l x↔AQ s l x:=by
 unfold AQ at h |-;by_cases c:x.opn=false
 .simp only[zP c]
 .simp only[zM c] at h |-;obtain⟨h1,h2,_⟩:=h;refine⟨λ⟨_,_,k⟩=>⟨h1,h2,k⟩,λ⟨_,_,k⟩=>⟨?_,?_,k⟩⟩
  .refine h1.imp id λ⟨v,hv,e⟩=>?_;obtain⟨u,hu,e2⟩:=hi v hv;exact⟨u,hu,by rw[e2,e]⟩
  .split at h2
   .rw[zP (by assumption)];exact⟨h2.1,zO,h2.2.2⟩
   .rw[zM (by assumption)];exact h2
theorem QR {s:An} {n:Int} (h:Cl (AD s) s.sS) (hn:1<=n/\n<=100):((Eh (AD s) s.sS n).2=0↔¬G0 (AD s) s.sS n<0)/\(¬G0 (AD s) s.sS n<0->(Eh (AD s) s.sS n).1=G0 (AD s) s.sS n):=by
 unfold Eh G0;rw[zP ⟨h,hn⟩];cases e:(BV (B0 (AD s) s.sS.toNat) 0 0).find? λx=>decide (n<=x.2) with
 |none=>simp
 |some x=>
  have:=(Im _ _ _ (wM _) x (List.mem_of_find?_eq_some e)).2.1;simp;omega
theorem S4 (s:An) (o:Obj) (p:Int) (h:A2 s):(KC s o p->N8 s o p=Fz s o p)/\(¬KC s o p->N8 s o p=(Av,1)):=by
 have hb:=Xp s o p h;unfold N8;rw[zP h];obtain⟨⟨⟨a1,a2,a3,a4,a5,a6,a7⟩,b,c,d⟩,e⟩:=h;rcases hb with⟨h1,h2⟩ | ⟨h1,h2,h3,h4,h5,h6⟩
 .exact⟨λhm=>absurd hm (TG h2),λ_=>by unfold Du;rw[h1]⟩
 .unfold Du;rw[h1];simp only;obtain⟨l1,hl1⟩:∃l1,l1=D0 (CT s o p).1 (CT s o p).2 o:=zX;rw[<-hl1] at h2 h3 h4 h5 h6 |-;have key:KC s o p↔DI o.data/\EA {s with sQ:=l1}:=by
   have ho:o∈l1.map B2:=by
    have:Fl s o p=some (l1.map B2):=h2;unfold Fl at this;split at this
    .split at this
     .simp at this
     .simp at this;rw[<-this];simp
    .rename_i c1;simp at this;rw[<-this];have hlt:(AN (λv=>decide (v.id=o.id)) s.sQ).toNat<(Ae s).length:=by
      rw[show(Ae s).length=s.sQ.length by simp[Ae]];exact IW zO
     exact vq.2 ⟨_,by simpa using hlt,vZ _⟩
   constructor
   .rintro⟨m,hm,k1,k2,k3⟩;rw[h2] at hm;cases hm;refine⟨(k1.2.1 o ho).2.2.1,⟨a1,a2,a3,a4,h3,h4,k1⟩,b,λq hq=>?_,λx hx=>(S3 h5 h6 (d x hx)).2 (k3 x hx)⟩;obtain⟨i,hi,rfl⟩:=vq.1 hq;exact k2 i hi
   .rintro⟨_,⟨b1,b2,b3,b4,b5,b6,b7⟩,_,k2,k3⟩;exact⟨_,h2,b7,λi hi=>k2 _ (uQ hi),λx hx=>(S3 (l:=l1.map B2) h5 h6 (d x hx)).1 (k3 x hx)⟩
  refine⟨λhm=>?_,λhm=>by rw[zM (λg=>hm (key.2 g))]⟩;have hg:=key.1 hm;rw[zP hg];have hn:1<=C7 o.data/\C7 o.data<=100:=by
   obtain⟨b1,b2,b3,_⟩:=hg.1;unfold C7;omega
  obtain⟨r1,r2⟩:=QR e hn;unfold Fz;rw[<-hl1];by_cases c1:G0 (AD s) s.sS (C7 o.data)<0
  .rw[zM (λg=>(r1.1 g) c1),zP c1]
  .rw[zP (r1.2 c1),zM c1,r2 c1]
theorem MF {l:List Obj} (h:BJ l):1<=C8 l/\C8 l<=1048577:=by
 unfold C8;cases e:l.getLast? with
 |none=>simp
 |some o=>have:=h.2.1 o (List.mem_of_getLast? e);simp only;omega
theorem Io {l:List Obj} {g:Gr} (b:Int) (hg:AP g):(Ed l b g).data.size<=751/\DI (Ed l b g):=by
 unfold Ed;rw[Lp];split
 .have:=Ix hg;exact⟨zO,UA this⟩
 .have:=Iy (Da l b) hg;exact⟨zO,UA this⟩
theorem S5 {l:List Obj} {p:Int} {g:Gr} (hl:BJ l) (hg:AP g) (he:(BP l p g).2=0):(BP l p g).1.data.data.size<=751/\1<=(BP l p g).1.id/\(BP l p g).1.id<=1048576:=by
 have h1:=MF hl;unfold BP at he |-;by_cases c1:12<=l.length\/1048576<C8 l
 .rw[zP c1] at he;simp at he
 rw[zM c1] at he |-;by_cases c2:p=0
 .rw[zP c2];exact⟨(Io 0 hg).1,h1.1,by simp only;omega⟩
 rw[zM c2] at he |-;by_cases c3:(AT l p).2≠0
 .rw[zP c3] at he;exact absurd he c3
 rw[zM c3];split
 .exact⟨(Io _ hg).1,h1.1,by simp only;omega⟩
 .exact⟨(Io _ hg).1,h1.1,by simp only;omega⟩
theorem QS {s:An} (h:BJ (Ae s)):0<=At s.sQ/\At s.sQ<=1048576:=by
 unfold At;cases e:s.sQ.getLast? with
 |none=>simp
 |some v=>
  have:=h.2.1 (B2 v) (vH.2 ⟨v,List.mem_of_getLast? e,rfl⟩);simp only[B2] at this |-;omega
theorem GH:A0 Av/\BO Av:=⟨⟨by simp[Av],by simp[Av],by simp[Av]⟩,λx hx=>by simp[Av] at hx⟩
theorem ct {l:List Bn} {i:Nat} {a:Int} {v:Bn} (h:v∈Jk l i a):∃u∈l,v.data=u.data:=by
 unfold Jk at h;split at h
 .rename_i w hw;rcases vX h with h|h
  .exact⟨v,h,rfl⟩
  .subst h;exact⟨w,vo hw,rfl⟩
 .exact⟨v,h,rfl⟩
theorem Y4 {s:An} {o:Obj} {p:Int} (hs:A0 s) (hx:BO s) (ho:o.data.data.size<1000000000) (hn:s.sQ.length<999999999):A0 (Du s o p).1/\BO (Du s o p).1:=by
 unfold Du;split
 .exact GH
 .rename_i l i e;split
  .split
   .have hl:l.length<1000000000/\∀v∈l,v.data.data.size<1000000000:=by
     unfold Fq at e;split at e
     .split at e
      .simp at e
      .simp at e;rw[<-e.1];refine⟨Ao,λv hv=>?_⟩;rcases vd.1 hv with h|h
       .exact hs.2.2 v h
       .simp at h;subst h;simp[Fk]
     .simp at e;rw[<-e.1];exact⟨zO,hs.2.2⟩
    refine⟨⟨by simp only[Kz,N7];exact hl.1,hs.2.1,λv hv=>?_⟩,hx⟩;obtain⟨u,hu,e2⟩:=ct hv;rw[e2];exact SY hl.2 ho u hu
   .exact GH
  .exact GH
theorem Xq {s:An} {id:Int} (hs:A0 s) (hx:BO s):A0 (Dp s id).1/\BO (Dp s id).1:=by
 unfold Dp;split
 .exact GH
 .split
  .exact GH
  .refine⟨⟨?_,hs.2.1,λv hv=>hs.2.2 v (xi hv)⟩,hx⟩;have h1:=hs.1;have h2:=xB s.sQ (AN (λv=>decide (v.id=id)) s.sQ).toNat;simp only;omega
theorem Lq (l:List Obj):∀(k:Nat) (id:Int),A4 l k id=(A4 l (k+1) id).take k
 |0,_=>by simp[A4]
 |k+1,id=>by
  rw[A4,A4];by_cases h:id=0
  .simp[h]
  .rw[zM h,zM h];cases e:A5 l id with
   |none=>simp
   |some o=>simp only[wY];rw[Lq l k o.base]
theorem Pg {l:List Obj} {id:Int} {o:Obj} (h:A5 l id=some o) (h0:id≠0) (k:Nat):A4 l (k+1) id=o::A4 l k o.base:=by
 rw[A4,zM h0,h]
theorem ZV (l:List Obj) (k:Nat):A4 l k 0=[]:=by cases k<;>simp[A4]
theorem Ip {l:List Obj} {id:Int} {o:Obj} (h:A5 l id=some o) (h0:id≠0) (hb:o.base=0):AY l id=(1,0)/\AT l id=match Cs (AH o.data) with|some g=>(g,0) |none=>(Az,9):=by
 have e:∀k,A4 l (k+1) id=[o]:=λk=>by rw[Pg h h0,hb,ZV]
 have hd:AY l id=(1,0):=by unfold AY;rw[h];simp only[e];simp
 refine⟨hd,?_⟩;unfold AT;rw[hd,e,zM zS];simp only[DN,zP hb];cases Cs (AH o.data)<;>rfl
theorem FV {l:List Obj} {id:Int} {o:Obj} (h:A5 l id=some o) (h0:id≠0) (hh:BL l o.base):((AY l id).2=0↔(AY l o.base).2=0/\(AY l o.base).1<3)/\((AY l id).2=0->(AY l id).1=(AY l o.base).1+1):=by
 obtain⟨q,hq⟩:=C3.1 hh;have e3:(A4 l 3 o.base).length=min 3 (A4 l 4 o.base).length:=by rw[Lq l 3];simp
 unfold AY;rw[h,hq];simp only[Pg h h0 3,vA];by_cases c1:3<(A4 l 4 o.base).length
 .rw[zP c1,zP zO];simp
 .rw[zM c1];by_cases c2:3<(A4 l 3 o.base).length+1
  .rw[zP c2];simp;omega
  .rw[zM c2];simp;omega
theorem FW {l:List Obj} {id:Int} (h:(AT l id).2=0):(AY l id).2=0:=by
 unfold AT at h;by_cases c:(AY l id).2≠0
 .rw[zP c] at h;exact absurd h c
 .omega
theorem VH {l:List Obj} {id:Int} (h:(AY l id).2=0):BL l id:=by
 unfold AY at h;cases e:A5 l id with
 |none=>rw[e] at h;simp at h
 |some o=>exact C3.2 ⟨o,e⟩
theorem Ph {l:List Obj} {id:Int} {o:Obj} (h:A5 l id=some o) (h0:id≠0) (hb:o.base≠0) (hh:BL l o.base) (hd:(AY l id).2=0):AT l id=if (AT l o.base).2=0 then(match CF (AT l o.base).1 (AH o.data) with|some g=>(g,(0:Int)) |none=>(Az,(9:Int))) else(Az,(9:Int)):=by
 obtain⟨q,hq⟩:=C3.1 hh;have e3:(A4 l 3 o.base).length=min 3 (A4 l 4 o.base).length:=by rw[Lq l 3];simp
 have hd2:=((FV h h0 hh).1.1 hd);have hlen:(A4 l 4 o.base).length<3:=by
  have:=hd2.2;have h2:=hd2.1;unfold AY at this h2;rw[hq] at this h2;by_cases c:3<(A4 l 4 o.base).length
  .simp only[zP c] at h2;simp at h2
  .simp only[zM c] at this;omega
 have e4:A4 l 2 o.base=(A4 l 3 o.base).take 2:=Lq l 2 o.base;have e2:A4 l 2 o.base=A4 l 3 o.base:=by rw[e4,uM zO]
 have e5:AT l o.base=match DN Cs CF (A4 l 3 o.base) with|some g=>(g,0) |none=>(Az,9):=by unfold AT;rw[zM (λg=>g hd2.1)];cases DN Cs CF (A4 l 3 o.base)<;>rfl
 have e6:AT l id=match DN Cs CF (A4 l 3 id) with|some g=>(g,0) |none=>(Az,9):=by unfold AT;rw[zM (λg=>g hd)];cases DN Cs CF (A4 l 3 id)<;>rfl
 rw[e5,e6,Pg h h0 2,e2];simp only[DN,zM hb];cases DN Cs CF (A4 l 3 o.base) with
 |none=>rfl
 |some a=>rw[zP rfl]
theorem NJ {l:List Obj} {i:Nat} (hi:i<l.length) {id:Int} (h:l[i].id≠id):A5 (l.eraseIdx i) id=A5 l id:=by
 have e:l=l.take i++l[i]::l.drop (i+1):=by rw[<-uX hi,vJ]
 rw[wS]
 conv=>rhs;rw[e]
 unfold A5;rw[xm,xm,xD];simp[h]
theorem VI {α:Type} {l:List α} {i:Nat} (hi:i+1<l.length):(l.eraseIdx i).getLast?=l.getLast?:=by
 rw[wS];have e:l.drop (i+1)≠ []:=Ao;have e2:l=l.take (i+1)++l.drop (i+1):=(vJ _ _).symm
 conv=>rhs;rw[e2]
 rw[List.getLast?_append,List.getLast?_append];cases h:(l.drop (i+1)).getLast? with
 |none=>exact absurd (List.getLast?_eq_none_iff.1 h) e
 |some x=>rfl
theorem Nh {s:An} {id:Int} (h:¬AN (λv=>decide (v.id=id)) s.sQ<0):∃hk:(AN (λv=>decide (v.id=id)) s.sQ).toNat<s.sQ.length,s.sQ[(AN (λv=>decide (v.id=id)) s.sQ).toNat].id=id:=by
 cases e:s.sQ.findIdx? (λv=>decide (v.id=id)) with
 |none=>exact absurd (by unfold AN;rw[e];decide) h
 |some j=>
  obtain⟨hj,hp,_⟩:=vN.1 e;have hi:(AN (λv=>decide (v.id=id)) s.sQ).toNat=j:=by unfold AN;rw[e];simp
  exact⟨by rw[hi];exact hj,by simp only[hi];simpa using hp⟩
theorem Y5 {s:An} {id:Int} (h:A2 s) (he:(Dp s id).2=0):A2 (Dp s id).1/\∀i,i≠0->i∈(Dp s id).1.sQ.map (λv=>v.id)->AT (Ae (Dp s id).1) i=AT (Ae s) i:=by
 unfold Dp at he |-;by_cases c1:AN (λv=>decide (v.id=id)) s.sQ<0
 .rw[zP c1] at he;simp at he
 rw[zM c1] at he |-;by_cases c2:id=At s.sQ\/pinned s id=true\/Jm s id=true
 .rw[zP c2] at he;simp at he
 rw[zM c2];obtain⟨hk,By⟩:=Nh c1;obtain⟨k,hkd⟩:∃k,k=(AN (λv=>decide (v.id=id)) s.sQ).toNat:=zX;simp only[<-hkd] at hk By |-;have c3:id≠At s.sQ:=λg=>c2 (.inl g);have c4:∀x∈s.sR,x.pin≠id:=λx hx g=>c2 (.inr (.inl (xI.2 ⟨x,hx,by simpa using g⟩)));have c5:∀v∈s.sQ,v.base≠id:=λv hv g=>c2 (.inr (.inr (xI.2 ⟨v,hv,by simpa using g⟩)));obtain⟨⟨⟨a1,a2,a3,a4,a5,a6,a7⟩,b,c,d⟩,e⟩:=h;have hk1:k+1<s.sQ.length:=by
  rcases Nat.lt_or_ge (k+1) s.sQ.length with h|h
  .exact h
  .exfalso;apply c3;unfold At;have:s.sQ.getLast?=some s.sQ[k]:=by rw[vV,show s.sQ.length-1=k by omega,uT]
   rw[this];exact By.symm
 have hlast:=VI hk1;have hl:At (s.sQ.eraseIdx k)=At s.sQ:=by unfold At;rw[hlast]
 have hm:∀v∈s.sQ.eraseIdx k,v∈s.sQ:=λv hv=>xi hv;have hle:(s.sQ.eraseIdx k).length<=s.sQ.length:=xB ..;have eo:Ae {s with sQ:=s.sQ.eraseIdx k}=(Ae s).eraseIdx k:=by simp[Ae,wS,List.map_take,List.map_drop]
 have hko:k<(Ae s).length:=by simpa[Ae] using hk
 have hoi:(Ae s)[k].id=id:=by simpa[Ae,B2] using By
 have hheld:∀i,i≠id->BL (Ae s) i->BL ((Ae s).eraseIdx k) i:=λi hi hh=>by
  obtain⟨q,hq⟩:=C3.1 hh;exact C3.2 ⟨q,by rw[NJ hko (by rw[hoi];exact λg=>hi g.symm)];exact hq⟩
 have hof:∀i,i≠0->i≠id->BL (Ae s) i->AT ((Ae s).eraseIdx k) i=AT (Ae s) i:=λi h0 hi hh=>
  (QE (λj=>j≠id) (λj hj _=>(NJ hko (by rw[hoi];exact λg=>hj g.symm)).symm) (λj o hj _ ho=>by
    obtain⟨v,hv,rfl⟩:=vH.1 (EK ho).1;exact c5 v hv) hi h0).symm
 have hup:(s.sQ.map λv=>v.id).Pairwise (·<·):=by rw[<-HR,wZ];exact a7.2.2
 have hne:∀v∈s.sQ.eraseIdx k,v.id≠id:=λv hv g=>by
  obtain⟨j,hj,rfl⟩:=vq.1 hv;rw[List.getElem_eraseIdx] at g;have key:∀(j:Nat) (hj:j<s.sQ.length),s.sQ[j].id=id->j=k:=λj hj g=>by
   have hp:=vB.1 hup;rcases Nat.lt_trichotomy j k with h|h|h
   .have:=hp j k (by simpa using hj) (by simpa using hk) h;simp at this;omega
   .exact h
   .have:=hp k j (by simpa using hk) (by simpa using hj) h;simp at this;omega
  split at g
  .have:=key j zO g;omega
  .have:=key (j+1) (by rw[List.length_eraseIdx] at hj;split at hj<;>omega) g;omega
 have hids:∀i,i≠id->i∈s.sQ.map (λv=>v.id)->i∈(s.sQ.eraseIdx k).map λv=>v.id:=λi hi hmem=>by
  have:=hheld i hi ((Gx s i).2 hmem);rw[<-eo] at this;exact(Gx _ i).1 this
 refine⟨⟨⟨⟨a1,a2,a3,a4,λv hv=>a5 v (hm v hv),?_,?_⟩,b,?_,?_⟩,?_⟩,?_⟩
 .show DP (s.sQ.eraseIdx k)=false;unfold DP;rw[hlast];exact a6
 .rw[eo];refine⟨by have:=a7.1;have:=xB (Ae s) k;omega,λo ho=>?_,a7.2.2.sublist (List.eraseIdx_sublist _ _)⟩;have ho' :=xi ho;obtain⟨k1,k2,k3,k4,k5⟩:=a7.2.1 o ho';refine⟨k1,k2,k3,k4,k5.imp _root_.id λhh=>hheld _ ?_ hh⟩;obtain⟨v,hv,rfl⟩:=vH.1 ho';exact c5 v hv
 .rw[eo];intro o ho;have ho' :=xi ho;have hoid:o.id≠id:=by
   rw[<-eo] at ho;obtain⟨v,hv,rfl⟩:=vH.1 ho;exact hne v hv
  have:=(a7.2.1 o ho').1;rw[hof o.id zO hoid ⟨o,ho',rfl⟩];exact c o ho'
 .intro x hx;have hd:=d x hx;have hxp:=c4 x hx;rw[eo];unfold AQ at hd |-;by_cases co:x.opn=false
  .rw[zP co] at hd |-;exact hd
  rw[zM co] at hd |-;obtain⟨h1,h2,h3⟩:=hd;refine⟨?_,?_,?_⟩
  .refine h1.imp _root_.id λhh=>?_;have:=hids x.pin hxp ((Ky _ _).1 hh);exact(Ky _ _).2 this
  .show if x.on=true then 0<=x.frm/\x.frm<=At (s.sQ.eraseIdx k)/\AP x.sT else x.frm=0/\x.sT=Az
   rw[hl];exact h2
  .refine h3.imp _root_.id λ⟨g1,g2⟩=>?_;have hh:BL (Ae s) x.pin:=(Gx s x.pin).2 ((Ky _ _).1 (h1.resolve_left g1));rw[hof x.pin g1 hxp hh];exact⟨g1,g2⟩
 .obtain⟨e1,e2,e3,e4,e5⟩:=e;have ep:AD {s with sQ:=s.sQ.eraseIdx k}=(AD s).eraseIdx k:=by simp[AD,wS,List.map_take,List.map_drop]
  show Cl (AD {s with sQ:=s.sQ.eraseIdx k}) s.sS;rw[ep];exact⟨e1,e2,by have:=xB (AD s) k;omega,λx hx=>e4 x (xi hx),e5.sublist (List.eraseIdx_sublist _ _)⟩
 .intro i h0 hi;rw[eo];obtain⟨v,hv,rfl⟩:=vH.1 hi;exact hof _ h0 (hne v hv) ((Gx s _).2 (vH.2 ⟨v,hm v hv,rfl⟩))
theorem MG:∀(t:List Bool) (i a:Int),a<=i->((BV t i a).map λx=>x.2).sum=(i-a)+(t.count false:Nat)
 | [],i,a,h=>by
   simp only[BV];split
   .simp
   .simp;omega
 |true::t,i,a,h=>by
  have ih:=MG t (i+1) (i+1) (wM _);simp only[BV,wo,List.sum_append,ih];rw[List.count_cons_of_ne zS];split
  .simp
  .simp;omega
 |false::t,i,a,h=>by
  have ih:=MG t (i+1) a zO;simp only[BV,ih,List.count_cons_self];omega
theorem Lr:∀(t:List Bool) (i a:Int),a<=i->∀x∈BV t i a,∀j:Nat,x.1<=i+j->i+j<x.1+x.2->t[j]?=some false
 | [],i,a,h,x,hx,j,h1,h2=>by
   simp only[BV] at hx;split at hx
   .simp at hx;subst hx;simp at h1 h2;omega
   .simp at hx
 |true::t,i,a,h,x,hx,j,h1,h2=>by
  simp only[BV,vd] at hx;rcases hx with hx|hx
  .split at hx
   .simp at hx;subst hx;simp at h1 h2;omega
   .simp at hx
  .have hp:=Im t (i+1) (i+1) (wM _) x hx;cases j with
   |zero=>omega
   |succ j=>simpa using Lr t (i+1) (i+1) (wM _) x hx j zO zO
 |false::t,i,a,h,x,hx,j,h1,h2=>by
  simp only[BV] at hx;cases j with
  |zero=>rfl
  |succ j=>simpa using Lr t (i+1) a zO x hx j zO zO
theorem LE {l:List (Int×Int)} {n:Nat} {a:Int} (ha:0<=a):∀(k:Nat),(∀i:Int,a<=i->i<a+k->EW l i=false)->a+k<=n->(C1 l n a (a+k)).count false+k=(B0 l n).count false
 |0,_,_=>by simp[Mm]
 |k+1,hf,hn=>by
  have ih:=LE (l:=l) (n:=n) ha k (λi h1 h2=>hf i h1 zO) zO;obtain⟨i,hi⟩:∃i:Nat,(i:Int)=a+k:=⟨(a+k).toNat,zO⟩;have hin:i<n:=zO;have hs:=Ka l n i a zO hin;have hg:=NB (l:=l) (a:=a) hin;rw[hf i zO zO] at hg;rw[<-hi] at ih;have e:a+((k+1:Nat):Int)=(i:Int)+1:=zO;rw[e,<-hs];have hlen:i<(C1 l n a i).length:=by simpa using hin
  have hc:=List.count_set (a:=true) (b:=false) (l:=C1 l n a i) hlen;rw[hg] at hc;simp at hc;have hpos:0<(C1 l n a i).count false:=List.count_pos_iff.2 (by rw[<-hg];exact uQ _);omega
theorem NK {n:Nat}:∀(k:Nat) (l:List (Int×Int)),l.length=k->La l n->((B0 l n).count false:Int)=n-(l.map λx=>x.2).sum
 |0,l,hl,_=>by
  have:l=[]:=List.length_eq_zero_iff.1 hl;subst this;have:B0 [] n=uP n false:=List.ext_getElem zS λj _ _=>by simp[B0,EW]
  rw[this];simp
 |k+1,l,hl,hp=>by
  have hk:k<l.length:=zO;have e:l=l.take k++[l[k]]:=by
   have:=wP hk;rw[uM zO] at this;exact this
  obtain⟨m,hm⟩:∃m,m=l.take k:=zX;obtain⟨x,hx⟩:∃x,x=l[k]:=zX;rw[<-hm,<-hx] at e;have hml:m.length=k:=by rw[hm];simp;omega
  rw[e] at hp |-;obtain⟨p1,p2,p3⟩:=JL.1 hp;have ih:=NK k m hml p1;have hc:=LE (l:=m) (n:=n) (a:=x.1) p2.1 x.2.toNat (λi h1 h2=>p3 i h1 zO) zO;rw[show x.1+(x.2.toNat:Int)=x.1+x.2 by omega,J9] at hc;simp only[wo,List.sum_append,wj,xo,List.sum_cons,List.sum_nil];omega
theorem UD {l:List (Int×Int)} {n:Int} (h:Cl l n):Nd l n=(n-(l.map λx=>x.2).sum,0):=by
 obtain⟨h1,h2,h3,h4,h5⟩:=h;unfold Nd;rw[zP ⟨h1,h2,h3,h4,h5⟩,MG _ _ _ (wM _),NK l.length l rfl ⟨λx hx=>by have:=h4 x hx;omega,h5⟩];congr 1;omega
theorem QT {l:List (Int×Int)} {b n a:Int} (h:Eh l b n=(a,0)):1<=n/\0<=a/\a+n<=b/\∀i,a<=i->i<a+n->EW l i=false:=by
 unfold Eh at h;split at h
 .rename_i hp;split at h
  .rename_i x hx;simp at h;subst h;have hm:=List.mem_of_find?_eq_some hx;have hn:=List.find?_some hx;simp only[decide_eq_true_eq] at hn;have hps:=Im _ _ _ (wM _) x hm;simp at hps;have hb:=hp.1.1;refine⟨hp.2.1,zO,zO,λi h1 h2=>?_⟩;have:=Lr _ _ _ (wM _) x hm i.toNat zO zO;have hi:i.toNat<b.toNat:=zO;simp[B0,hi] at this;have e:i=max i 0:=zO;rw[e];exact this
  .simp at h
 .simp at h
theorem TH {l:List (Int×Int)} {b n a:Int} (h:Eh l b n=(a,0)) (hp:Cl l b) (hl:l.length<13):Cl (l++[(a,n)]) b/\(Nd (l++[(a,n)]) b).1=(Nd l b).1-n:=by
 obtain⟨h1,h2,h3,h4⟩:=QT h;have hq:Cl (l++[(a,n)]) b:=by
  obtain⟨p1,p2,p3,p4,p5⟩:=hp;have:=(JL (l:=l) (n:=b) (x:=(a,n))).2 ⟨⟨p4,p5⟩,⟨h2,h1,h3⟩,h4⟩;exact⟨p1,p2,Ao,this.1,this.2⟩
 refine⟨hq,?_⟩;rw[UD hq,UD hp];simp only[wo,List.sum_append,wj,xo,List.sum_cons,List.sum_nil];omega
theorem Xr {l:List Obj} (o:Obj) (hc:Nf l) {id:Int} (h:BL l id):AY (l++[o]) id=AY l id:=by
 unfold AY;rw[Mz o h,b9 o hc 4 (.inr h)]
theorem VJ {l:List Obj} {p:Int} {g:Gr} (hl:BJ l) (hg:AP g) (hf:¬BL l (C8 l)) (he:(BP l p g).2=0):
 AT (l++[(BP l p g).1]) (BP l p g).1.id=(g,0)/\(BP l p g).1.id=C8 l/\((BP l p g).1.base=0\/BL l (BP l p g).1.base)/\DI (BP l p g).1.data/\l.length<12/\C8 l<=1048576:=by
 have hn:=MF hl;have frame:∀o:Obj,o=⟨C8 l,0,Ed l 0 g⟩->AT (l++[o]) o.id=(g,0):=λo ho=>by
  have hfo:¬BL l o.id:=by rw[ho];exact hf
  have h:=(Ip (MA hfo) (by rw[ho];simp only;omega) (by rw[ho])).2;rw[h,ho];simp only[Ed,if_true];rw[IR,Pb hg]
 unfold BP at he |-;by_cases c1:12<=l.length\/1048576<C8 l
 .rw[zP c1] at he;simp at he
 rw[zM c1] at he |-;have hb:l.length<12/\C8 l<=1048576:=zO;by_cases c2:p=0
 .rw[zP c2];exact⟨frame _ rfl,rfl,.inl rfl,(Io 0 hg).2,hb⟩
 rw[zM c2] at he |-;by_cases c3:(AT l p).2≠0
 .rw[zP c3] at he;exact absurd he c3
 rw[zM c3];have h3:(AT l p).2=0:=zO;have hd:=FW h3;have hh:=VH hd;by_cases c4:(AY l p).1<3/\(BH (AT l p).1 g).length<(BG g).length
 .rw[zP c4];refine⟨?_,rfl,.inr hh,(Io p hg).2,hb⟩;obtain⟨o,ho⟩:∃o:Obj,o=⟨C8 l,p,Ed l p g⟩:=zX;rw[<-ho];have hfo:¬BL l o.id:=by rw[ho];exact hf
  have hob:o.base=p:=by rw[ho]
  have hoi:o.id≠0:=by rw[ho];simp only;omega
  have hh2:BL (l++[o]) o.base:=by
   obtain⟨q,hq,e⟩:=hh;exact⟨q,List.mem_append_left _ hq,by rw[hob];exact e⟩
  have hdo:(AY (l++[o]) o.id).2=0:=(FV (MA hfo) hoi hh2).1.2 (by rw[hob,Xr o hl.closed hh];exact⟨hd,c4.1⟩);rw[Ph (MA hfo) hoi (by rw[hob];exact c2) hh2 hdo,hob,PQ o hl.closed hh c2,zP h3];have e:o.data=Eb (BH (AT l p).1 g):=by rw[ho];simp only[Ed,zM c2]
  rw[e,IR,Pc (Da l p) hg]
 .rw[zM c4];exact⟨frame _ rfl,rfl,.inl rfl,(Io 0 hg).2,hb⟩
theorem QU {s:An}:C8 (Ae s)=At s.sQ+1:=by
 unfold C8 At Ae;rw[xF];cases s.sQ.getLast?<;>simp[B2]
theorem PT {s:An} (h:BJ (Ae s)):(s.sQ.map λv=>v.id).Pairwise (·<·):=by rw[<-HR,wZ];exact h.2.2
theorem Y6 {s:An} (h:BJ (Ae s)):¬BL (Ae s) (C8 (Ae s)):=by
 rw[Gx,QU];intro hm;obtain⟨u,hu,e⟩:=vH.1 hm;have:=MB (PT h) u hu;omega
theorem Y7 {s:An} {id:Int} (h:∀v∈s.sQ,v.id≠id):AN (λv=>decide (v.id=id)) s.sQ<0:=by
 unfold AN;have:s.sQ.findIdx? (λv=>decide (v.id=id))=none:=List.findIdx?_eq_none_iff.2 λv hv=>by simpa using h v hv
 rw[this];decide
def HS (s:An) (o:Obj) (p a:Int):An:={s with sQ:=s.sQ++[⟨o.id,p,o.base,o.data,a,false,false⟩]}
theorem MH {s:An} {g:Gr} (h:A2 s) (hg:AP g) (he:(BP (Ae s) (At s.sQ) g).2=0):
 Du s (BP (Ae s) (At s.sQ) g).1 (At s.sQ)=(Av,5)\/∃a,Du s (BP (Ae s) (At s.sQ) g).1 (At s.sQ)=(HS s (BP (Ae s) (At s.sQ) g).1 (At s.sQ) a,0)/\
  A2 (HS s (BP (Ae s) (At s.sQ) g).1 (At s.sQ) a)/\(Nd (AD (HS s (BP (Ae s) (At s.sQ) g).1 (At s.sQ) a)) s.sS).1=(Nd (AD s) s.sS).1-C7 (BP (Ae s) (At s.sQ) g).1.data:=by
 have hmy:=h.1.1.2.2.2.2.2.2;obtain⟨m1,m2,m3,m4,m5,m6⟩:=VJ hmy hg (Y6 hmy) he;obtain⟨o,ho⟩:∃o,o=(BP (Ae s) (At s.sQ) g).1:=zX;rw[<-ho] at m1 m2 m3 m4 |-;rw[QU] at m2 m6;have hli:=QS hmy;have hn:s.sQ.length<12:=by simpa[Ae] using m5
 have hi:AN (λv=>decide (v.id=o.id)) s.sQ<0:=Y7 λv hv=>by
  have:=MB (PT hmy) v hv;omega
 have hv:Fq s o (At s.sQ)=some (s.sQ++[Fk o.id (At s.sQ)],s.sQ.length):=by
  unfold Fq;rw[zP hi,zM zO]
 have ep:D0 (s.sQ++[Fk o.id (At s.sQ)]) s.sQ.length o=s.sQ++[⟨o.id,At s.sQ,o.base,o.data,0,false,false⟩]:=by
  rw[IX zS,vz _ _ (vg _),wp];simp[Fk]
 have ea:∀a,Jk (s.sQ++[⟨o.id,At s.sQ,o.base,o.data,0,false,false⟩]) s.sQ.length a=s.sQ++[⟨o.id,At s.sQ,o.base,o.data,a,false,false⟩]:=λa=>by
  rw[O4 zS,vz _ _ (vg _),wp];simp
 have hmost:∀a,EA (HS s o (At s.sQ) a):=λa=>
  YV (v:=⟨o.id,At s.sQ,o.base,o.data,a,false,false⟩) (o:=o) h.1 hn rfl (by cases o;rfl) rfl rfl ⟨h.1.1.2.2.1,h.1.1.2.2.2.1⟩ ⟨by simp only;omega,by simp only;omega,zS⟩ rfl ⟨zO,zO,zO⟩ m4 m3 (by rw[m1])
 unfold Du;rw[hv];simp only;rw[ep,zP ⟨m4,hmost 0⟩];by_cases c:(Eh (AD s) s.sS (C7 o.data)).2=0
 .rw[zP c];obtain⟨a,haf⟩:∃a,Eh (AD s) s.sS (C7 o.data)=(a,0):=⟨_,Prod.ext rfl c⟩;have hm:=TH haf h.2 (by simp[AD];omega);have e2:AD (HS s o (At s.sQ) a)=AD s++[(a,C7 o.data)]:=by simp[AD,HS]
  refine .inr ⟨a,?_,⟨hmost a,by rw[e2];exact hm.1⟩,by rw[e2];exact hm.2⟩;rw[haf,ea];rfl
 .rw[zM c];exact .inl rfl
theorem QV {l:List Obj} (hp:l.Pairwise λa b=>a.id<b.id) {i:Nat} (hi:i<l.length) {o:Obj} (ho:o.id=l[i].id) (j:Int):A5 (l.set i o) j=if j=o.id then some o else A5 l j:=by
 have e:l=l.take i++l[i]::l.drop (i+1):=by rw[<-uX hi,vJ]
 have e2:l.set i o=l.take i++o::l.drop (i+1):=by rw[List.set_eq_take_append_cons_drop,zP hi]
 have hn:∀q∈l.take i,q.id≠o.id:=λq hq g=>by
  obtain⟨k,hk,rfl⟩:=vq.1 hq;simp only[wy] at hk;have:=vB.1 hp k i zO hi zO;simp at g;omega
 by_cases h:j=o.id
 .rw[zP h,e2];unfold A5;have h1:(l.take i).find? (λq=>decide (q.id=j))=none:=wN.2 λq hq=>by simpa[h] using hn q hq
  rw[xm,h1,xD,zT h.symm];rfl
 .rw[zM h,e2]
  conv=>rhs;rw[e]
  unfold A5;rw[xm,xm,xD,xD,zV (λg=>h g.symm),zV (λg=>h (by rw[ho];exact g.symm))]
theorem S6 {l:List Obj} (hp:l.Pairwise λa b=>a.id<b.id) {i:Nat} (hi:i<l.length):A5 l l[i].id=some l[i]:=by
 have:=QV hp hi (o:=l[i]) rfl l[i].id
 rwa [List.set_getElem_self,zP rfl] at this
theorem Iq {l:List Obj} {j:Int} {o:Obj} (h:A5 l j=some o) (h0:j≠0) (hd:(AY l j).2=0):1<=(AY l j).1/\(AY l j).1<=3:=by
 unfold AY at hd |-;rw[h] at hd |-;simp only at hd |-;by_cases c:3<(A4 l 4 j).length
 .rw[zP c] at hd;simp at hd
 .rw[zM c];simp only;rw[Pg h h0 3] at c |-;simp at c |-;omega
theorem Ls {l:List Obj} (hl:BJ l) (hall:∀o∈l,(AT l o.id).2=0) (id:Int):∀(n:Nat) (j:Int),BL l j->0<=AN (λo:Obj=>decide (o.id=id)) (A4 l n j)->(AY l j).1=AN (λo:Obj=>decide (o.id=id)) (A4 l n j)+(AY l id).1
 |0,j,_,h=>by simp[A4,AN] at h
 |n+1,j,hj,h=>by
  obtain⟨o,ho⟩:=C3.1 hj;obtain⟨hm,hi⟩:=EK ho;have hpos:=(hl.2.1 o hm).1;have h0:j≠0:=zO;rw[Pg ho h0] at h |-;unfold AN at h |-;rw[List.findIdx?_cons] at h |-;by_cases c:o.id=id
  .rw[zT c];simp[<-c,hi]
  .rw[zV c] at h |-;simp only[Bool.false_eq_true,if_false] at h |-;by_cases hb:o.base=0
   .rw[hb,ZV] at h;simp at h
   .have hh:=(hl.closed o hm).resolve_left hb;have hd:=FW (hall o hm);rw[hi] at hd;have h2:=(FV ho h0 hh).2 hd;have ih:=Ls hl hall id n o.base hh;unfold AN at ih;cases e:(A4 l n o.base).findIdx? λo=>decide (o.id=id) with
    |none=>rw[e] at h;simp at h
    |some k=>
     rw[e] at ih;simp only[vI] at ih |-;have:=ih zO;omega
section
variable {l:List Obj} {i:Nat} {q:Obj}
theorem JV (hl:BJ l) (hall:∀o∈l,(AT l o.id).2=0) (hi:i<l.length) (hb:l[i].base≠0) (hq:A5 l l[i].base=some q):(AY l l[i].id).2=0/\(AY l l[i].id).1<=3/\(q.base=0->(AY l l[i].id).1=2)/\(q.base≠0->BL l q.base/\(AY l q.base).2=0/\1<=(AY l q.base).1/\(AY l l[i].id).1=(AY l q.base).1+2):=by
 have hm:=uQ hi;have hpos:=(hl.2.1 _ hm).1;obtain⟨qm,qi⟩:=EK hq;have qpos:=(hl.2.1 q qm).1;have hf:=S6 hl.2.2 hi;have hd:=FW (hall _ hm);have hdq:=FW (hall _ qm);have hp:=Iq hf zO hd;have h1:=(FV hf zO ⟨q,qm,qi⟩).2 hd;refine⟨hd,hp.2,λh=>?_,λh=>?_⟩
 .have:=(Ip hq zO h).1;rw[this] at h1;simpa using h1
 .have hh:=(hl.closed q qm).resolve_left h;rw[qi] at hdq;have h2:=(FV hq zO hh).2 hdq;obtain⟨r,hr⟩:=C3.1 hh;obtain⟨rm,ri⟩:=EK hr;have rpos:=(hl.2.1 r rm).1;have hdr:=FW (hall _ rm);rw[ri] at hdr;have:=Iq hr h hdr;exact⟨hh,hdr,this.1,zO⟩
theorem VK (hl:BJ l) (hall:∀o∈l,(AT l o.id).2=0) (hi:i<l.length) (hb:l[i].base≠0) (hq:A5 l l[i].base=some q) (n:Nat):(q.base≠0->AN (λo:Obj=>decide (o.id=l[i].id)) (A4 l n q.base)<0)/\∀o∈l,AN (λo:Obj=>decide (o.id=l[i].id)) (A4 l n o.id)+(if q.base=0 then 1 else(AY l q.base).1+1)<=3:=by
 obtain⟨d1,d2,d3,d4⟩:=JV hl hall hi hb hq;have hge:∀w:List Obj,-1<=AN (λo:Obj=>decide (o.id=l[i].id)) w:=λw=>by unfold AN;split<;>omega
 refine⟨λh=>?_,λo ho=>?_⟩
 .obtain⟨k1,k2,k3,k4⟩:=d4 h;rcases Int.lt_or_le (AN (λo:Obj=>decide (o.id=l[i].id)) (A4 l n q.base)) 0 with g|g
  .exact g
  .have:=Ls hl hall l[i].id n q.base k1 g;omega
 .have hpos:=(hl.2.1 o ho).1;have hd:=FW (hall o ho);obtain⟨o',ho'⟩:=C3.1 (show BL l o.id from ⟨o,ho,rfl⟩);have hp:=Iq ho' zO hd;have:=hge (A4 l n o.id);rcases Int.lt_or_le (AN (λo:Obj=>decide (o.id=l[i].id)) (A4 l n o.id)) 0 with g|g
  .split
   .omega
   .rename_i h;have:=d4 h;omega
  .have:=Ls hl hall l[i].id n o.id ⟨o,ho,rfl⟩ g;split
   .rename_i h;have:=d3 h;omega
   .rename_i h;have:=d4 h;omega
def Ex (l:List Obj) (o:Obj) (b:Int):Obj:=⟨o.id,b,Ed l b (AT l o.id).1⟩
theorem NL (hl:BJ l) (hall:∀o∈l,(AT l o.id).2=0) (hi:i<l.length) (hb:l[i].base≠0) (hq:A5 l l[i].base=some q):BJ (l.set i (Ex l l[i] q.base))/\∀j,BL l j->AT (l.set i (Ex l l[i] q.base)) j=AT l j:=by
 obtain⟨d1,d2,d3,d4⟩:=JV hl hall hi hb hq;have hm:=uQ hi;have hme:=hl.2.1 _ hm;have hf:=S6 hl.2.2 hi;obtain⟨o',ho'⟩:∃o',o' =Ex l l[i] q.base:=zX;have oi:o'.id=l[i].id:=by rw[ho'];rfl
 have ob:o'.base=q.base:=by rw[ho'];rfl
 have od:o'.data=Ed l q.base (AT l l[i].id).1:=by rw[ho'];rfl
 rw[<-ho'];obtain⟨x,hx⟩:∃x,x=l.set i o' :=zX;have hset:=QV hl.2.2 hi (o:=o') oi;rw[<-hx,oi] at hset;rw[<-hx];have hids:x.map (λo=>o.id)=l.map λo=>o.id:=by
  rw[hx,wi];refine wk λj=>?_;rw[wl];split
  .rename_i h;subst h;simp[hi,oi]
  .rfl
 have hheld:∀j,BL x j↔BL l j:=λj=>by
  have:∀m:List Obj,BL m j↔j∈m.map λo=>o.id:=λm=>by simp[BL]
  rw[this,this,hids]
 have key:∀(n:Nat) (j:Int),BL l j->(AY l j).1<=n->AT x j=AT l j/\(AY x j).2=0/\(AY x j).1<=(AY l j).1:=by
  intro n
  induction n with
  |zero=>
   intro j hj hn;obtain⟨p,hp⟩:=C3.1 hj;obtain⟨pm,pi⟩:=EK hp;have:=(hl.2.1 p pm).1;have hd:=FW (hall p pm);rw[pi] at hd;have:=Iq hp zO hd;omega
  |succ n ih=>
   intro j hj hn;obtain⟨p,hp⟩:=C3.1 hj;obtain⟨pm,pi⟩:=EK hp;have ppos:=(hl.2.1 p pm).1;have j0:j≠0:=zO;have hd:=FW (hall p pm);have hok:=hall p pm;rw[pi] at hd hok;have hs:=hset j;by_cases c:j=l[i].id
   .have hs:A5 x j=some o' :=by rw[hs,zP c]
    have hg:AT l j=((AT l l[i].id).1,0):=by rw[c];exact Prod.ext rfl (hall _ hm)
    by_cases hb0:q.base=0
    .obtain⟨e1,e2⟩:=Ip hs j0 (by rw[ob];exact hb0);rw[e1];refine⟨?_,rfl,by have:=Iq hp j0 hd;simp only;omega⟩;rw[e2,hg];rw[od];simp only[hb0,Ed,if_true];rw[IR,Pb (Da _ _)]
    .obtain⟨k1,k2,k3,k4⟩:=d4 hb0;rw[<-c] at k4;obtain⟨g1,g2,g3⟩:=ih q.base k1 zO;have hd3:(AY l j).1<=3:=by rw[c];exact d2
     have hhx:BL x o'.base:=by rw[ob];exact(hheld q.base).2 k1
     have hdb:=FV hs j0 hhx;have hdx:=hdb.1.2 (by rw[ob];exact⟨g2,zO⟩);have hdy:=hdb.2 hdx;rw[ob] at hdy;refine⟨?_,hdx,zO⟩;rw[Ph hs j0 (by rw[ob];exact hb0) hhx hdx,ob,od];have hqok:(AT l q.base).2=0:=by
      obtain⟨r,rm,ri⟩:=k1;rw[<-ri];exact hall r rm
     rw[g1,zP hqok,hg];simp only[Ed,zM hb0];rw[IR,Pc (Da _ _) (Da _ _)]
   .have hs:A5 x j=some p:=by rw[hs,zM c];exact hp
    by_cases hb0:p.base=0
    .obtain⟨e1,e2⟩:=Ip hs j0 hb0;obtain⟨e3,e4⟩:=Ip hp j0 hb0;rw[e1,e2,e3,e4];exact⟨rfl,rfl,wM _⟩
    .have hh:=(hl.closed p pm).resolve_left hb0;have hdl:=(FV hp j0 hh).2 hd;have hdl1:=(FV hp j0 hh).1.1 hd;obtain⟨g1,g2,g3⟩:=ih p.base hh zO;have hhx:=(hheld p.base).2 hh;have hdb:=FV hs j0 hhx;have hdx:=hdb.1.2 ⟨g2,zO⟩;have hdy:=hdb.2 hdx;refine⟨?_,hdx,zO⟩;rw[Ph hs j0 hb0 hhx hdx,Ph hp j0 hb0 hh hd,g1]
 refine⟨⟨by rw[hx];simp;exact hl.1,λo ho=>?_,?_⟩,λj hj=>(key (AY l j).1.toNat j hj zO).1⟩
 .rw[hx] at ho;have hcl:∀b,b=0\/BL l b->b=0\/∃r∈x,r.id=b:=λb h=>h.imp id λh=>(hheld b).2 h;rcases vX ho with h|h
  .obtain⟨k1,k2,k3,k4,k5⟩:=hl.2.1 o h;exact⟨k1,k2,k3,k4,hcl _ k5⟩
  .subst h;rw[oi,ob,od];refine⟨hme.1,hme.2.1,(Io _ (Da _ _)).2,?_,hcl _ ?_⟩
   .intro e;have hne:q.base≠0:=zO;have:=(d4 hne).2.2.2;rw[e] at this;omega
   .by_cases h:q.base=0
    .exact .inl h
    .exact .inr (d4 h).1
 .have:(l.map λo=>o.id).Pairwise (·<·):=wZ.2 hl.2.2;rw[<-hids] at this;exact wZ.1 this
end
def FA (l:List Obj) (b:Int):Int:=match A5 l b with|some q=>q.base|none=>0
def Di (s:An) (k id:Int):An×Int:=
 if¬(k=1\/k=2) then(Av,1) else if AN (λv=>decide (v.id=id)) s.sQ<0 then(Av,3) else if k=1 then Dp s id else
 match s.sQ[(AN (λv=>decide (v.id=id)) s.sQ).toNat]? with
 |none=>(Av,6)
 |some v=>if v.base=0 then(Av,6) else Fz s (Ex (Ae s) (B2 v) (FA (Ae s) v.base)) 0
def Er (s:An) (id:Int):Int×Int:=match s.sQ.find? λv=>decide (v.base=id) with|some v=>(2,v.id) |none=>(1,id)
def CU (s:An):Int×Int:=match (DG s false).find? λid=>decide ((Di s (Er s id).1 (Er s id).2).2=0) with|some id=>Er s id|none=>(0,0)
def CJ (s:An):Nat->List An
 |0=> []
 |n+1=>if (CU s).1=0 then [] else(Di s (CU s).1 (CU s).2).1::CJ (Di s (CU s).1 (CU s).2).1 n
theorem Xt {l:List (Int×Int)} {b n a:Int} {i:Nat} (h:Eh l b n=(a,0)) (hp:Cl l b):Cl (l.set i (a,n)) b:=by
 obtain⟨h1,h2,h3,h4⟩:=QT h;obtain⟨p1,p2,p3,p4,p5⟩:=hp;have hap:=(K9 (l:=l) (x:=(a,n)) (λy hy=>(p4 y hy).2.1) h1).2 ⟨p5,h4⟩;rw[List.pairwise_append] at hap;have hy:∀y∈l,apart y (a,n):=λy hy=>hap.2.2 y hy _ zS;have hsy:∀x y:Int×Int,apart x y->apart y x:=λx y h g=>h ⟨g.2,g.1⟩;refine⟨p1,p2,by simpa using p3,λx hx=>?_,vB.2 λj k hj hk hjk=>?_⟩
 .rcases vX hx with hx|hx
  .exact p4 x hx
  .subst hx;exact⟨h2,h1,h3⟩
 .simp only[List.length_set] at hj hk;rw[List.getElem_set,List.getElem_set];split
  .split
   .omega
   .exact hsy _ _ (hy _ (uQ hk))
  .split
   .exact hy _ (uQ hj)
   .exact vB.1 p5 j k hj hk hjk
theorem UE {s:An} (h:BJ (Ae s)) {i:Nat} (hi:i<s.sQ.length):AN (λv=>decide (v.id=s.sQ[i].id)) s.sQ=(i:Int):=by
 refine DY hi zS λj hj hlt=>?_;have:=vB.1 (PT h) j i (by simpa using hj) (by simpa using hi) hlt;simp at this |-;omega
theorem Oc {s:An} (h:A2 s) {i:Nat} (hi:i<s.sQ.length) (hb:s.sQ[i].base≠0):
 Du s (Ex (Ae s) (B2 s.sQ[i]) (FA (Ae s) s.sQ[i].base)) 0=Fz s (Ex (Ae s) (B2 s.sQ[i]) (FA (Ae s) s.sQ[i].base)) 0/\
 (Fz s (Ex (Ae s) (B2 s.sQ[i]) (FA (Ae s) s.sQ[i].base)) 0=(Av,5)\/∃y a,Fz s (Ex (Ae s) (B2 s.sQ[i]) (FA (Ae s) s.sQ[i].base)) 0=(y,0)/\A2 y/\
   y={s with sQ:=s.sQ.set i {s.sQ[i] with base:=FA (Ae s) s.sQ[i].base,data:=Ed (Ae s) (FA (Ae s) s.sQ[i].base) (AT (Ae s) s.sQ[i].id).1,at_:=a}}/\
   (∀j,AT (Ae y) j=AT (Ae s) j\/¬BL (Ae s) j)):=by
 have hmy:=h.1.1.2.2.2.2.2.2;have hall:=h.1.2.2.1;have hio:i<(Ae s).length:=by simpa[Ae] using hi
 have eo:(Ae s)[i]=B2 s.sQ[i]:=by simp[Ae]
 have hbo:(Ae s)[i].base≠0:=by rw[eo];exact hb
 obtain⟨q,hq⟩:=C3.1 ((hmy.closed _ (uQ hio)).resolve_left hbo);have hqb:FA (Ae s) s.sQ[i].base=q.base:=by
  rw[eo] at hq;unfold FA;have:A5 (Ae s) s.sQ[i].base=some q:=hq;rw[this]
 obtain⟨r1,r2⟩:=NL hmy hall hio hbo hq;rw[eo] at r1 r2;rw[hqb];obtain⟨o,ho⟩:∃o,o=Ex (Ae s) (B2 s.sQ[i]) q.base:=zX;rw[<-ho] at r1 r2 |-;have oi:o.id=s.sQ[i].id:=by rw[ho];rfl
 have hidx:AN (λv=>decide (v.id=o.id)) s.sQ=(i:Int):=by rw[oi];exact UE hmy hi
 have hheld:∀j,BL ((Ae s).set i o) j↔BL (Ae s) j:=λj=>by
  have e:((Ae s).set i o).map (λo=>o.id)=(Ae s).map λo=>o.id:=by
   rw[wi];refine wk λj=>?_;rw[wl];split
   .rename_i h;subst h;simp[hio,oi,eo,B2]
   .rfl
  have:∀m:List Obj,BL m j↔j∈m.map λo=>o.id:=λm=>by simp[BL]
  rw[this,this,e]
 have hml:KC s o 0:=by
  refine⟨(Ae s).set i o,by unfold Fl;rw[hidx,zM zO];simp,r1,λk hk=>?_,λx hx=>?_⟩
  .have hh:=(hheld ((Ae s).set i o)[k].id).1 ⟨_,uQ hk,rfl⟩;rw[r2 _ hh];obtain⟨p,pm,pi⟩:=hh;rw[<-pi];exact hall p pm
  .have hx2:=h.1.2.2.2 x hx;unfold AQ at hx2 |-;by_cases co:x.opn=false
   .rw[zP co] at hx2 |-;exact hx2
   rw[zM co] at hx2 |-;refine⟨hx2.1,hx2.2.1,hx2.2.2.imp id λ⟨g1,g2⟩=>⟨g1,?_⟩⟩;rw[r2 _ ((Gx s x.pin).2 ((Ky _ _).1 (hx2.1.resolve_left g1)))];exact g2
 have hlp:=(S4 s o 0 h).1 hml;have hls:N8 s o 0=Du s o 0:=by unfold N8;rw[zP h]
 rw[hls] at hlp;refine⟨hlp,?_⟩;have er:CT s o 0=(s.sQ,i):=by unfold CT;rw[hidx,zM zO];simp
 have elv:Fq s o 0=some (s.sQ,i):=by unfold Fq;rw[hidx,zM zO];simp
 have ep:D0 s.sQ i o=s.sQ.set i {s.sQ[i] with base:=o.base,data:=o.data}:=IX hi;have ea:∀a,Jk (D0 s.sQ i o) i a=s.sQ.set i {s.sQ[i] with base:=o.base,data:=o.data,at_:=a}:=λa=>by
  rw[ep,O4 (by simpa using hi)];simp
 by_cases c:G0 (AD s) s.sS (C7 o.data)<0
 .left;unfold Fz;rw[zP c]
 .right;have e1:Fz s o 0=({s with sQ:=s.sQ.set i {s.sQ[i] with base:=o.base,data:=o.data,at_:=G0 (AD s) s.sS (C7 o.data)}},0):=by
   unfold Fz;rw[zM c,er];simp only;rw[ea]
  rw[e1] at hlp |-;obtain⟨a,haf⟩:∃a,a=G0 (AD s) s.sS (C7 o.data):=zX;rw[<-haf] at hlp |-;have hmost:EA {s with sQ:=D0 s.sQ i o}/\DI o.data:=by
   unfold Du at hlp;rw[elv] at hlp;simp only at hlp;split at hlp
   .rename_i g;exact⟨g.2,g.1⟩
   .simp at hlp
  have hn:1<=C7 o.data/\C7 o.data<=100:=by
   obtain⟨b1,b2,b3,_⟩:=hmost.2;unfold C7;omega
  obtain⟨f1,f2⟩:=QR h.2 hn;have hfind:Eh (AD s) s.sS (C7 o.data)=(a,0):=Prod.ext (by rw[f2 c,haf]) (f1.2 c);have eobj:Ae {s with sQ:=s.sQ.set i {s.sQ[i] with base:=o.base,data:=o.data,at_:=a}}=(Ae s).set i o:=by
   unfold Ae;simp only[wi];congr 1;cases o;simp[B2] at oi |-;exact oi.symm
  refine⟨_,a,rfl,⟨?_,?_⟩,?_,?_⟩
  .refine Xh (s:={s with sQ:=D0 s.sQ i o}) hmost.1 ?_ ?_ ?_ rfl rfl ⟨h.1.1.2.2.1,h.1.1.2.2.2.1⟩
   .simp only[ep,wi];rfl
   .intro v hv;simp only[ep] at hv |-;rcases vX hv with g|g
    .obtain⟨k,hk,rfl⟩:=vq.1 g;by_cases e:i=k
     .subst e;exact⟨_,vq.2 ⟨i,by simpa using hi,vZ _⟩,rfl,rfl,rfl,rfl⟩
     .exact⟨_,vq.2 ⟨k,by simpa using hk,List.getElem_set_ne e _⟩,rfl,rfl,rfl,rfl⟩
    .subst g;exact⟨_,vq.2 ⟨i,by simpa using hi,vZ _⟩,rfl,rfl,rfl,rfl⟩
   .have:=hmost.1.1.2.2.2.2.2.1;rw[<-this,ep];refine ME _ _ ?_;simp only[wi]
  .have e2:AD {s with sQ:=s.sQ.set i {s.sQ[i] with base:=o.base,data:=o.data,at_:=a}}=(AD s).set i (a,C7 o.data):=by simp[AD,wi]
   rw[e2];exact Xt hfind h.2
  .rw[ho];rfl
  .intro j;rw[eobj];by_cases hh:BL (Ae s) j
   .exact .inl (r2 j hh)
   .exact .inr hh
theorem S7 {s:An} {k id:Int} (h:A2 s) (he:(Di s k id).2=0):A2 (Di s k id).1/\(Di s k id).1.sR=s.sR/\(Di s k id).1.sS=s.sS/\(Di s k id).1.keep=s.keep/\
 (∀j,j∈(Di s k id).1.sQ.map (λv=>v.id)->j∈s.sQ.map λv=>v.id)/\∀j,j≠0->j∈(Di s k id).1.sQ.map (λv=>v.id)->AT (Ae (Di s k id).1) j=AT (Ae s) j:=by
 unfold Di at he |-;by_cases c1:¬(k=1\/k=2)
 .rw[zP c1] at he;simp at he
 rw[zM c1] at he |-;by_cases c2:AN (λv=>decide (v.id=id)) s.sQ<0
 .rw[zP c2] at he;simp at he
 rw[zM c2] at he |-;by_cases c3:k=1
 .rw[zP c3] at he |-;obtain⟨t1,t2⟩:=Y5 h he;refine⟨t1,?_⟩;have e:Dp s id=({s with sQ:=s.sQ.eraseIdx (AN (λv=>decide (v.id=id)) s.sQ).toNat},0):=by
   unfold Dp at he |-;rw[zM c2] at he |-;split
   .rename_i g;rw[zP g] at he;simp at he
   .rfl
  refine⟨by rw[e],by rw[e],by rw[e],λj hj=>?_,t2⟩;rw[e] at hj;obtain⟨v,hv,rfl⟩:=vH.1 hj;exact vH.2 ⟨v,xi hv,rfl⟩
 rw[zM c3] at he |-;obtain⟨hk,By⟩:=Nh c2;rw[uT hk] at he |-;simp only at he |-;by_cases c4:s.sQ[(AN (λv=>decide (v.id=id)) s.sQ).toNat].base=0
 .rw[zP c4] at he;simp at he
 rw[zM c4] at he |-;obtain⟨_,r| ⟨y,a,r1,r2,r3,r4⟩⟩:=Oc h hk c4
 .rw[r] at he;simp at he
 .rw[r1];simp only;have hids:y.sQ.map (λv=>v.id)=s.sQ.map λv=>v.id:=by
   rw[r3];simp only[wi];refine wk λj=>?_;rw[wl];split
   .rename_i h;subst h;simp[hk]
   .rfl
  refine⟨r2,by rw[r3],by rw[r3],by rw[r3],λj hj=>by rw[<-hids];exact hj,λj _ hj=>?_⟩;rcases r4 j with g|g
  .exact g
  .exact absurd ((Gx s j).2 (by rw[<-hids];exact hj)) g
theorem MI {s:An} (h:(CU s).1≠0):(Di s (CU s).1 (CU s).2).2=0:=by
 unfold CU at h |-;cases e:(DG s false).find? λid=>decide ((Di s (Er s id).1 (Er s id).2).2=0) with
 |none=>rw[e] at h;simp at h
 |some id=>simpa using List.find?_some e
theorem Xu:∀(n:Nat) (s:An),A2 s->∀y∈CJ s n,A2 y/\y.sR=s.sR
 |0,s,_,y,hy=>by simp[CJ] at hy
 |n+1,s,h,y,hy=>by
  rw[CJ] at hy;split at hy
  .simp at hy
  .rename_i c;have ha:=S7 h (MI c);rw[vL] at hy;rcases hy with rfl|hy
   .exact⟨ha.1,ha.2.1⟩
   .have:=Xu n _ ha.1 y hy;exact⟨this.1,by rw[this.2,ha.2.1]⟩
theorem UF:∀(n:Nat) (s:An),(CJ s n).length<=n
 |0,_=>by simp[CJ]
 |n+1,s=>by
  rw[CJ];split
  .simp
  .have:=UF n (Di s (CU s).1 (CU s).2).1;simp;omega
def qj (l:List (Int×Int)) (i:Int):Nat:=l.countP λx=>decide (i<=x.1)
theorem gQ (xs:List Bool) (u:Nat) (v:Int) (ref l:List Int) (hx:xs.length<100000) (hv:0<=v/\v<=16) (hr:ref.length<=16) (hl:AU l):Ac pg 276 [.tok 0 u 1 0 xs.length,iN v,.ro ref.length (Ab ref),.ro l.length (Ab l)] [.live u (Bm xs)] (λr M=>r= .own 1 (xs++Do v ref l).length (Bm (xs++Do v ref l))/\M=[.dead]):=by
 have hll:=Bw hl;have hbl:=IP ref l;have hbd:=JT ref l;have hom:=IQ (ref:=ref) hl;have hbits:Do v ref l=AM ((sS ref l).length+1)++EG (sS ref l) true++A9 v (Bz ref l):=rfl;rw[hbits];clear hbits;have spC:=SM ref l zO zO;obtain⟨bl,hb⟩:∃bl,bl=sS ref l:=zX;obtain⟨rest,hrest⟩:∃rest,rest=Bz ref l:=zX;rw[<-hb,<-hrest] at spC |-;rw[<-hb] at hbl;rw[<-hrest] at hom;have hbd' :∀(j:Nat) (h:j<bl.length),0<=bl[j]/\bl[j]<=16/\(0<j->1<=bl[j]):=λj h=>by
  subst hb;have:=hbd j h;omega
 have hg0:=Ec (bl.length+1) zO;refine zE (fn:=Tryz.f276) [.tmp 8] ?_;rw[I3];refine zs ?_;refine AL spC ?_;refine z0 ?_;intro K hK;refine sZ [0] (E2 xs u (bl.length+1) zO zO zO) zS zS zS zS ?_;rintro r M ⟨rfl,rfl⟩ _;refine yw ?_;refine sV (λz:Nat×List Bool=> [(0,.tok 3 0 1 0 z.2.length),(1,iN v),(9,.tok 1 0 1 0 bl.length),(10,.tok 2 0 1 0 rest.length),(11,iN (z.1:Nat))]) (λz=> [.dead,lv (Ab bl),lv (Ab rest),lv (Bm z.2)]) (λz=>bl.length-z.1) (λz=>z.1<=bl.length/\z.2=xs++(AM (bl.length+1)++EG (bl.take z.1) true)/\z.2.length<=xs.length+81*(z.1+1)) (0,xs++AM (bl.length+1)) (Wk.fr zK) ⟨zS,by simp[EG],Ao⟩ ?_;rintro⟨i,B⟩ ⟨hi,hB,hBl⟩;simp only at hi hB hBl;by_cases c1:i<bl.length;rotate_left
 .have hi' :i=bl.length:=zO;subst hi';rw[uW] at hB;refine th c1 ?_;refine z0 ?_;intro K hK;refine sZ [3] (SL B 0 v rest zO hv hom) zS zS zS zS ?_;rintro r M ⟨rfl,rfl⟩ _;refine xU ?_;rw[uM zS,hB];simp;omega
 have hto:=Ln bl i true c1;have hb3:=hbd' i c1;refine xL c1 ?_;refine Dx ?_;intro K hK;simp -implicitDefEqProofs (disch:=omega) [c1];refine zk ?_;by_cases h0:i=0
 .subst h0;obtain⟨c,hc⟩:=uS (show 0<=bl[0]+1 by omega);have hcl:=Ec c zO;refine y2 ?_;refine zg hc ?_;refine z0 ?_;intro K hK;refine sZ [3] (E2 B 0 c zO zO zO) zS zS zS zS ?_;rintro r M ⟨rfl,rfl⟩ _;refine ye ?_;refine⟨(0+1,B++AM c),by simp only;omega,⟨by simp only;omega,?_,Ao⟩,?_⟩
  .simp only[hto,and_self,if_true,hc,vE];rw[hB];simp
  .simp only[u0];exact tw (k:=3) (j:=4) zF zS zO zS zK zS zS zS
 .obtain⟨c,hc⟩:=uS hb3.1;have hcl:=Ec c zO;refine th h0 ?_;refine BS hc ?_;intro K hK;refine sZ [3] (E2 B 0 c zO zO zO) zS zS zS zS ?_;rintro r M ⟨rfl,rfl⟩ _;refine ye ?_;refine⟨(i+1,B++AM c),by simp only;omega,⟨by simp only;omega,?_,Ao⟩,?_⟩
  .simp only[hto,h0,false_and,if_false,hc,vE];rw[hB];simp
  .simp only[u0];exact tw (k:=3) (j:=4) zF zS zO zS zK zS zS zS
theorem UG (g:Gr) (hg:AP g):Ac pg 237 [.agg (A1 false g)] [] (λr _=>∃ats:List Int,r= .tup [.own 1 (BG g).length (Bm (BG g)),.own 1 ats.length (Ab ats)]):=by
 obtain⟨n,hn⟩:=uS hg.1;have hn16:n<=16:=by have:=hg.2.1;omega
 have hout:g.out.length=n:=by have:=hg.2.2.1;omega
 obtain⟨c,hc⟩:∃c:Nat,c=n+1:=zX;have hg0:=KA (n:=c) zO;have en:(n:Int)+1=(c:Int):=zO;have sp0:=Sz c zO zO;have hfb:BG g=AM c++CX A9 0 g.out:=by unfold BG;rw[hn,vE,hc]
 refine zE (fn:=Tryz.f237) [.tmp 2,.tmp 3] ?_;rw[AC];refine AX ?_;rw[hn];refine BS en ?_;intro K hK;refine tY sp0 (by simp[Qb]) zS ?_;refine x4 ?_;refine W.weak ((Wk.nil (t:=5) (s:=1) zS).trans (Wk.move (j:=1) (t:=4) (u:=0) (s:=1) (off:=0) (n:=(AM c).length) (xs:=Bm (AM c)) (S:=[(1,pt 0),(5,.tok 2 0 1 0 0),(6,iN 0)]) rfl zS zS zK)) ?_;refine zb ?_;refine sV (λz:Nat×List Bool×List Int=> [(4,.tok 3 0 1 0 z.2.1.length),(1,pt 0),(5,.tok 2 z.1 1 0 z.1),(6,iN z.1)]) (λz=> [lv [iN n,.ro g.out.length (Ak false g.out)],.dead,.live z.1 (Ab z.2.2),lv (Bm z.2.1)]) (λz=>n-z.1) (λz=>z.1<=n/\z.2.1=AM c++CX A9 0 (g.out.take z.1)/\z.2.1.length<=9+166*z.1/\z.2.2.length=z.1) (0,AM c,[]) (sU (k:=4) zK zS zS zS zS zS) ⟨zS,by simp[CX],Ao,rfl⟩ ?_;rintro⟨i,B,ats⟩ ⟨hi,hB,hBl,hal⟩;simp only at hi hB hBl hal;by_cases c1:i<n;rotate_left
 .have hi' :i=n:=zO;subst hi';rw[uM zO] at hB;rw[<-hfb] at hB;subst hB;refine x3 c1 ?_;refine⟨ats,?_⟩;rw[hal,uM zO];simp
 have hlt:i<g.out.length:=zO;have hml:=(hg.2.2.2.1 _ (uQ hlt)).1;have hto:=IN A9 hlt;have hrl:=Hr (v:=(i:Int)) ⟨zO,zO⟩ hml;refine xL c1 ?_;refine z1 ?_;intro K hK;refine⟨hal,zO,zO,?_⟩;refine zk ?_;refine Dx ?_;intro K hK;simp -implicitDefEqProofs (disch:=omega) [hlt];refine sZ [3] (SL B 0 i g.out[i] zO ⟨zO,zO⟩ hml) zS zS zS zS ?_;rintro r M ⟨rfl,rfl⟩ _;refine ye ?_;refine⟨(i+1,B++A9 i g.out[i],ats++[(B.length:Int)]),by simp only;omega,⟨by simp only;omega,?_,by simp;omega,by simp;exact hal⟩,?_⟩
 .simp only[hto];rw[hB];simp
 .simp only[u0];refine Wk.trans (tw (k:=3) (j:=5) (t:=4) (v:=0) (s:=1) (off:=0) (n:=B.length+(A9 i g.out[i]).length) (S:=[(1,pt 0),(5,.tok 2 (i+1) 1 0 (i+1)),(6,iN ((i+1:Nat):Int))]) zF zS zO zS zK zS zS zS) ?_;exact sU (k:=4) zK (by simp[B5,Ab]) zS zS zS zS
theorem UH (a g:Gr) (ha:AP a) (hg:AP g):Ac pg 238 [.agg (A1 false a),.agg (A1 false g)] [] (λr _=>r= .own 1 (BH a g).length (Bm (BH a g))):=by
 obtain⟨n,hn⟩:=uS hg.1;have hn16:n<=16:=by have:=hg.2.1;omega
 have hout:g.out.length=n:=by have:=hg.2.2.1;omega
 obtain⟨c,hc⟩:∃c:Nat,c=n+1:=zX;have hg0:=KA (n:=c) zO;have en:(n:Int)+1=(c:Int):=zO;have sp0:=Sz c zO zO;have hfb:BH a g=AM c++CX (λv l=>Do v (AF a v) l) 0 g.out:=by unfold BH;rw[hn,vE,hc]
 obtain⟨an,han⟩:=uS ha.1;have haout:a.out.length=an:=by have:=ha.2.2.1;omega
 refine zE (fn:=Tryz.f238) [.tmp 4] ?_;rw[Aq];refine Cx ?_;rw[hn];refine BS en ?_;intro K hK;refine tY sp0 (by simp[Qb]) zS ?_;refine yw ?_;refine sV (λz:Nat×List Bool=> [(5,.tok 2 0 1 0 z.2.length),(2,pt 0),(3,pt 1),(6,iN z.1)]) (λz=> [lv [iN a.n,.ro a.out.length (Ak false a.out)],lv [iN n,.ro g.out.length (Ak false g.out)],lv (Bm z.2)]) (λz=>n-z.1) (λz=>z.1<=n/\z.2=AM c++CX (λv l=>Do v (AF a v) l) 0 (g.out.take z.1)/\z.2.length<=9+330*z.1) (0,AM c) (sU (k:=3) zK zS zS zS zS zS) ⟨zS,by simp[CX],Ao⟩ ?_;rintro⟨i,B⟩ ⟨hi,hB,hBl⟩;simp only at hi hB hBl;by_cases c1:i<n;rotate_left
 .have hi' :i=n:=zO;subst hi';rw[uM zO] at hB;rw[<-hfb] at hB;subst hB;refine zg c1 ?_;exact Kp
 have hlt:i<g.out.length:=zO;have hml:=(hg.2.2.2.1 _ (uQ hlt)).1;have hto:=IN (λv l=>Do v (AF a v) l) hlt;have hbl:=Dc ha (i:Int);have hrl:=Lo (v:=(i:Int)) (ref:=AF a i) ⟨zO,zO⟩ hbl hml;have spW:=gQ B 0 i (AF a i) g.out[i] zO ⟨zO,zO⟩ hbl hml;refine xL c1 ?_;by_cases c2:i<an
 .have hlt2:i<a.out.length:=zO;have hba:AF a i=a.out[i]:=by simp[AF,vf,uT hlt2]
  have spB:=SP a i hlt2 zO;rw[hba] at spW hrl hto;(repeat refine ta ?_);refine tO 0 10 rfl true Df AK λK hK=>?_;simp -implicitDefEqProofs (disch:=omega) [hlt];refine tu spB zS ?_;simp only[Et];simp -implicitDefEqProofs (disch:=omega) [hlt];refine sZ [2] spW zS zS zS zS ?_;rintro r M ⟨rfl,rfl⟩ _;simp -implicitDefEqProofs (maxSteps:=999999) (disch:=omega);refine xM ?_;refine⟨(i+1,B++Do i a.out[i] g.out[i]),by simp only;omega,⟨by simp only;omega,?_,Ao⟩,?_⟩
  .simp only[hto];rw[hB];simp
  .simp only[u0];exact tw (k:=2) (j:=3) zF zS zO zS zK zS zS zS
 .have hba:AF a i=[]:=by simp[AF,vf,uR (show a.out.length<=i by omega)]
  have spB:=SQ a i zO;rw[hba] at spW hrl hto;(repeat refine ta ?_);refine tO 0 10 rfl true Df AK λK hK=>?_;simp -implicitDefEqProofs (disch:=omega) [hlt];refine tu spB zS ?_;simp only[Et];simp -implicitDefEqProofs (disch:=omega) [hlt];refine sZ [2] spW zS zS zS zS ?_;rintro r M ⟨rfl,rfl⟩ _;simp -implicitDefEqProofs (maxSteps:=999999) (disch:=omega);refine xM ?_;refine⟨(i+1,B++Do i [] g.out[i]),by simp only;omega,⟨by simp only;omega,?_,Ao⟩,?_⟩
  .simp only[hto];rw[hB];simp
  .simp only[u0];exact tw (k:=2) (j:=4) zF zS zO zS zK zS zS zS
section
variable (xs ys:List Nat) (M:List Ag) (k:Nat)
@[simp] theorem mQ (i:Nat):(CW xs)[i]?=(xs[i]?).map ID:=by simp[CW,ID]
@[simp] theorem mR:CW []=[]:=rfl
@[simp] theorem kB:(CW xs).take k=CW (xs.take k):=by simp[CW,ID,List.map_take]
@[simp] theorem nL:E0 (CW xs)=true:=by simp[CW,ID,E0,-LZ]
@[simp] theorem nM:D5 k (CW xs)=true:=by induction xs<;>simp_all[CW,ID]
@[simp] theorem mS:C6 (CW xs)=true:=by induction xs<;>simp_all[CW,ID]
@[simp] theorem nN:(CW xs).all TU=true:=by simp[CW,ID,TU]
theorem Y8 (n:Nat):Bv n [.int .u8 0]=CW (uP n 0):=by
 unfold Bv CW
 induction n with
 |zero=>rfl
 |succ n ih=>simp[vO,ID]
end
theorem Ni {a x r:Nat} (h:2^r∣a) (hx:x<2^r) (ha:a+x<256):Dq .or (.int .u8 (a:Int)) (.int .u8 (x:Int))=some (.int .u8 ((a+x:Nat):Int)):=
 (We _ _ _).trans (congrArg (λz:Int=>some (AV.int .u8 z)) (nJ h hx ha))
theorem fh (l:List Bool) (hl:l.length<100000):Ac pg 239 [.ro l.length (Bm l)] [] (λr _=>r= .agg (Dd (Eb l))):=by
 obtain⟨m,hm⟩:∃m,m=(l.length+7)/8:=zX;have hq:((l.length:Int)+7)/8=(m:Int):=zO;refine zE (fn:=Tryz.f239) [.cell 2 59] ?_;rw[AC];refine AX ?_;refine GQ hq ?_;intro K hK;refine⟨zO,zO,?_⟩;rw[Y8];refine xM ?_;refine zb ?_;refine sV (λi:Nat=> [(0,.ro l.length (Bm l)),(2,pt 0),(3,.tok 1 0 1 0 m),(4,iN i)]) (λi=> [lv [.str ByteArray.empty,iN 0],lv (CW (Fn m (l.take i)))]) (λi=>l.length-i) (λi=>i<=l.length) 0 (sU (k:=2) zK (by simp[gP]) zS zS zS zS) zS ?_;intro i hi;by_cases c1:i<l.length;rotate_left
 .have:i=l.length:=zO;subst this;rw[uW];refine th c1 ?_;have tkm:wL m (Fn m l)=Fn m l:=uM zS;refine xQ tkm ?_;simp[Eb,pk,<-hm]
 obtain⟨q,hq'⟩:∃q,q=i/8:=zX;obtain⟨r,hr⟩:∃r,r=i%8:=zX;obtain⟨s,hs⟩:∃s,s=7-r:=zX;have e1:(i:Int)/8=(q:Int):=zO;have e2:(i:Int)%8=(r:Int):=zO;have e3:(7:Int)-(r:Int)=(s:Int):=zO;have hqm:q<m:=zO;have hlt:(l.take i).length=i:=Ao;have hsn:=S1 m (l.take i) l[i] (by rw[hlt];omega);have hdv:=Uz m (l.take i) q hqm (by rw[hlt,hq']);have hto:l.take (i+1)=l.take i++[l[i]]:=by rw[uV];simp[c1]
 rw[<-hto] at hsn;obtain⟨P,hP⟩:∃P,P=Fn m (l.take i):=zX;have hPl:P.length=m:=by rw[hP,Uy]
 have hqP:q<P.length:=zO;simp only[hlt,<-hP,<-hq',<-hr] at hsn hdv;rw[<-hP];have hPlt:P[q]<256:=by subst hP;exact S0 hqm
 have hu:P[q]?=some P[q]:=uT hqP;refine xL c1 ?_;cases hb:l[i]
 .have ew:IntKind.wrap .u8 0=0:=zD;have eo:Dq .or (.int .u8 (P[q]:Int)) (.int .u8 0)=some (.int .u8 (P[q]:Int)):=Ni (x:=0) hdv (xq zO) zO;rw[hb] at hsn;refine E1 ?_;intro K hK;simp -implicitDefEqProofs (disch:=omega) [c1,e1,e2,e3,hqm,hu,hb,ID,b8,ew,eo];refine⟨zO,?_⟩;refine zk ?_;have hs2:P.set q P[q]=Fn m (l.take (i+1)):=by rw[hsn];simp
  rw[Ng,hs2];refine zs ?_;exact⟨i+1,zO,zO,Wk.fr zK⟩
 .obtain⟨z,hz⟩:∃z:Nat,z=2^s:=zX;have hz1:(2:Int)^s=(z:Int):=by rw[hz];simp
  have hzl:z<2^(8-r):=by rw[hz];exact Nat.pow_lt_pow_right zO zO
  have hz8:z<=128:=by rw[hz];exact wI zO (show s<=7 by omega)
  have hsum:P[q]+z<256:=by
   have h1:P[q]<=256-2^(8-r):=by
    obtain⟨c,hc⟩:=hdv;have hb2:2^(8-r)*2^r=256:=by rw[<-Nat.pow_add,show 8-r+r=8 by omega]
    have hlt2:2^(8-r)*c<2^(8-r)*2^r:=by rw[<-hc,hb2];exact hPlt
    have:=Nat.lt_of_mul_lt_mul_left hlt2;have h3:2^(8-r)*(c+1)<=2^(8-r)*2^r:=Nat.mul_le_mul_left _ this;rw[Nat.mul_add] at h3;omega
   have:2^(8-r)<=256:=wI zO (show 8-r<=8 by omega);omega
  obtain⟨y,hy⟩:∃y,y=P[q]+z:=zX;have ew:IntKind.wrap .u8 (z:Int)=(z:Int):=PR ⟨z,zO⟩;have eo:Dq .or (.int .u8 (P[q]:Int)) (.int .u8 (z:Int))=some (.int .u8 (y:Int)):=by rw[hy];exact Ni hdv hzl hsum
  have hyn:P[q]+l[i].toNat*2^(7-r)=y:=by rw[hb,hy,hz,hs];simp
  rw[hyn] at hsn;refine E1 ?_;intro K hK;simp -implicitDefEqProofs (disch:=omega) [c1,e1,e2,e3,hqm,hu,hb,ID,b8,hz1,ew,eo];refine⟨zO,?_⟩;refine zk ?_;rw[Ng,<-hsn];refine zs ?_;exact⟨i+1,zO,zO,Wk.fr zK⟩
theorem Xv (a g:Gr) (ha:AP a) (hg:AP g):Ac pg 192 [.agg (A1 false a),.agg (A1 false g)] [] (λr _=>r= .bool (decide ((BH a g).length<(BG g).length))):=by
 have spF:=UG g hg;have spD:=UH a g ha hg;refine zE (fn:=Tryz.f192) [.tmp 4] ?_;rw[Aq];refine Cx ?_;refine z0 ?_;intro K hK;refine tr spF zS ?_;rintro r ⟨ats,rfl⟩;refine⟨zS,?_⟩;refine Am ?_;refine AL spD ?_;exact zR
theorem VL (l:List Obj) (base:Int) (g:Gr) (hl:DZ l) (hm:BJ l) (hg:AP g):Ac pg 193 [.ro l.length (Aa Ar l),iN base,.agg (A1 false g)] [] (λr _=>r= .agg (Dd (Ed l base g))):=by
 have spF:=UG g hg;have spR:=FE l base hl hm;have spD:=UH (AT l base).1 g (Da l base) hg;have spP:=fh (if base=0 then BG g else BH (AT l base).1 g) (by
  split
  .have:=Ix hg;omega
  .have:=Iy (Da l base) hg;omega)
 obtain⟨p,hp⟩:∃p,p=Ed l base g:=zX;have hpe:Eb (if base=0 then BG g else BH (AT l base).1 g)=p:=by rw[hp,Ed]
 rw[hpe] at spP;rw[<-hp];refine zE (fn:=Tryz.f193) [.cell 6 59] ?_;rw[A6];refine Cx ?_;by_cases c:base=0
 .rw[zP c] at spP;refine yl c ?_;intro K hK;refine tr spF zS ?_;rintro r ⟨ats,rfl⟩;refine⟨zS,?_⟩;refine Am ?_;refine AL spP ?_;exact zR
 .rw[zM c] at spP;refine th c ?_;refine EU spR ?_;refine Hm spD spP ?_;exact zR
theorem fi (l:List Obj) (parent:Int) (g:Gr) (hl:DZ l) (hl2:l.length<1000000000) (hm:BJ l) (hg:AP g):Ac pg 146 [.ro l.length (Aa Ar l),iN parent,.agg (A1 false g)] [] (λr _=>r= .tup [.agg (Ar (BP l parent g).1),iN (BP l parent g).2]):=by
 have spR:=FE l parent hl hm;have spD:=PN l parent hl hm;have spS:=Xv (AT l parent).1 g (Da l parent) hg;have spB0:=VL l 0 g hl hm hg;have spB1:=VL l parent g hl hm hg;obtain⟨id,By⟩:∃id,id=C8 l:=zX;have hid0:-1000000000000<id/\id<1000000000000:=by
  rw[By,C8];cases e:l.getLast? with
  |none=>simp
  |some o=>
   have:=hm.2.1 o (List.mem_of_getLast? e);simp only;omega
 refine zE (fn:=Tryz.f146) [.cell 6 127,.tmp 7] ?_;rw[A6];refine Cx ?_;refine yt ?_;refine s5 (λ_:Unit=> [(0,.ro l.length (Aa Ar l)),(1,iN parent),(5,pt 0),(6,pt 1),(8,iN id)]) (λ_=> [lv (A1 false g),lv [iN 0,iN 0,.str ByteArray.empty,iN 0]]) (λ_=>True) ?_ ?_
 .by_cases c:0<l.length
  .obtain⟨k,hk⟩:∃k,l.length=k+1:=⟨l.length-1,zO⟩;have hkl:k<l.length:=zO;have em:(l.length:Int)-1=(k:Int):=zO;have hlast:id=l[k].id+1:=by
    rw[By,C8,vV,show l.length-1=k by omega,uT hkl]
   have hidk:=hm.2.1 _ (uQ hkl);rw[zT c];refine zt ?_;refine zg (an em hkl) ?_;exact⟨(),trivial,Wk.fr (by simp[AA,hlast])⟩
  .have hnil:l=[]:=vr zO;have hlast:id=1:=by rw[By,C8,hnil];rfl
   rw[zV c];refine y2 ?_;exact⟨(),trivial,Wk.fr (by simp[AA,hlast])⟩
 rintro _ _;by_cases c1:12<=l.length
 .refine xS c1 ?_;simp[BP,c1,GZ]
 by_cases c2:1048576<id
 .refine xS (an c1 c2) ?_;simp[BP,<-By,c2,GZ]
 have c12:¬(12<=l.length\/1048576<C8 l):=by rw[<-By];omega
 refine th (an c1 c2) ?_;refine AX ?_;by_cases c3:parent=0
 .have eM:BP l parent g=(⟨id,0,Ed l 0 g⟩,0):=by rw[BP,zM c12,zP c3,By]
  rw[eM];obtain⟨bp,hbp⟩:∃bp,bp=Ed l 0 g:=zX;rw[<-hbp] at spB0 |-;refine th c3 ?_;refine AL spB0 ?_;exact DM
 obtain⟨a,ha⟩:∃a,a=(AT l parent).1:=zX;obtain⟨e,he⟩:∃e,e=(AT l parent).2:=zX;rw[<-ha] at spS;rw[<-ha,<-he] at spR;by_cases c4:e=0;rotate_left
 .have eM:BP l parent g=(GZ,e):=by rw[BP,zM c12,zM c3,<-he,zP c4]
  rw[eM];refine xP c3 ?_;refine EU spR ?_;refine xS c4 ?_;simp[GZ]
 obtain⟨dp,hdp⟩:∃dp,dp=(AY l parent).1:=zX;obtain⟨de,hde⟩:∃de,de=(AY l parent).2:=zX;rw[<-hdp,<-hde] at spD;have eM:BP l parent g=if dp<3/\(BH a g).length<(BG g).length then(⟨id,parent,Ed l parent g⟩,0) else(⟨id,0,Ed l 0 g⟩,0):=by
  rw[BP,zM c12,zM c3,<-he,zM (λh=>h c4),<-hdp,<-ha,<-By]
 rw[eM];obtain⟨b0,hb0⟩:∃b,b=Ed l 0 g:=zX;obtain⟨b1,hb1⟩:∃b,b=Ed l parent g:=zX;rw[<-hb0] at spB0 |-;rw[<-hb1] at spB1 |-;refine xP c3 ?_;refine EU spR ?_;refine th c4 ?_;refine AL spD ?_;by_cases c5:dp<3;rotate_left
 .rw[zM (λh=>c5 h.1)];refine th c5 ?_;refine AL spB0 ?_;exact DM
 by_cases c6:(BH a g).length<(BG g).length
 .rw[zP ⟨c5,c6⟩];rw[zT c6] at spS;refine GL c5 spS ?_;refine y2 ?_;refine AL spB1 ?_;exact DM
 .rw[zM (λh=>c6 h.2)];rw[zV c6] at spS;refine GL c5 spS ?_;refine y2 ?_;refine AL spB0 ?_;exact DM
def C4 (l:List Bool):List AV:=[.own 1 (pk l).length (CW (pk l)),iN l.length]
@[simp] theorem kC (l:List Bool):(C4 l).length=2:=rfl
@[simp] theorem mT (l:List Bool):E0 (C4 l)=true:=by simp[C4]
@[simp] theorem mU (k:Nat) (l:List Bool):D5 k (C4 l)=true:=by simp[C4]
@[simp] theorem kE (l:List Bool):C6 (C4 l)=true:=by simp[C4]
theorem Pi (l:List Bool):(pk l).length=(l.length+7)/8:=by simp[pk]
theorem S8 (l:List Bool) (v w:Nat) (hl:l.length<100000000) (hw:w<=60) (hv:v<1099511627776):Ac pg 287 [pt 0,iN v,iN w] [lv (C4 l)] (λr M=>r= .tup []/\M=[lv (C4 (l++Bq v w))]):=by
 refine zE (fn:=Tryz.f287) [] ?_;rw[A6];refine zs ?_;rw[show C4 l=C4 (l++(Bq v w).take 0) by simp];refine zb ?_;refine sV (λk:Nat=> [(0,pt 0),(1,iN v),(6,iN ((w:Int)-1-k))]) (λk=> [lv (C4 (l++(Bq v w).take k))]) (λk=>w-k) (λk=>k<=w) 0 (Wk.fr zK) zS ?_;intro k hk;by_cases hlt:k<w;rotate_left
 .have hk' :k=w:=zO;subst hk';have e:((k:Int)-1-k)=-1:=zO;have e2:(Bq v k).take k=Bq v k:=uM zS;rw[e,e2];refine y3 ?_;(try simp only[BN,Cn,CB,CC,if_true]);refine Fw (d:=0) ?_;simp -implicitDefEqProofs (disch:=omega)
 obtain⟨i,hi⟩:∃i:Nat,(w:Int)-1-k=i:=⟨w-1-k,zO⟩;have hmin:min i 64=i:=zO;obtain⟨x,hx⟩:∃x,x=l++(Bq v w).take k:=zX;obtain⟨n,hn⟩:∃n,n=x.length:=zX;have hnl:n<=l.length+60:=by rw[hn,hx];simp;omega
 obtain⟨q,hq⟩:∃q,q=n/8:=zX;obtain⟨r,hr⟩:∃r,r=n%8:=zX;obtain⟨s,hs⟩:∃s,s=7-r:=zX;have e1:(n:Int)/8=(q:Int):=zO;have e2:(n:Int)%8=(r:Int):=zO;have e3:(7:Int)-(r:Int)=(s:Int):=zO;obtain⟨Q,hQd⟩:∃Q,Q=v/2^i:=zX;have hQ:(v:Int)/2^i=(Q:Int):=by rw[hQd,Int.natCast_ediv,Int.natCast_pow];rfl
 have hQv:Q<=v:=by rw[hQd];exact Nat.div_le_self _ _
 have hand:=K0 (Q:Int) zO zO;obtain⟨b,hb⟩:∃b,b=decide (Q%2=1):=zX;have hto:l++(Bq v w).take (k+1)=x++[b]:=by
  rw[hx,uZ,uV,uT (by simpa using hlt)];have:(Bq v w)[k]'(by simpa using hlt)=b:=by
   simp only[Bq,wE,wW];rw[hb,hQd,show w-1-k=i by omega]
  rw[this];rfl
 rw[hi,<-hx];have hcr:C4 x=[.own 1 (pk x).length (CW (pk x)),iN n]:=by rw[hn];rfl
 rw[hcr];refine y4 ?_;have hpl:=Pi x;refine W.weak (te (B:=0) (v:=0) (j:=0) (s:=1) (n:=(pk x).length) (xs:=CW (pk x)) zF zF) ?_;refine zw ?_;refine s5 (λb:Bool=> [(0,pt 0),(1,iN v),(6,iN i),(18,.bool b)]) (λ_=> [lv [.tok 1 0 1 0 (pk x).length,iN n],lv (CW (pk x))]) (λb=>b=true↔r=0) ?_ ?_
 .refine zg e2 ?_;exact⟨decide (r=0),zS,Wk.fr zK⟩
 rintro b0 hb0;refine zw ?_;refine s5 (λu:Nat=> [(0,pt 0),(1,iN v),(6,iN i)]) (λu=> [lv [.tok 1 u 1 0 (q+1),iN n],.live u (CW (Fn (q+1) x))]) (λ_=>True) ?_ ?_
 .cases b0
  .have c:¬r=0:=λh=>by have:=hb0.2 h;simp at this
   have em:(pk x).length=q+1:=zO;have ep:pk x=Fn (q+1) x:=by rw[pk,show(x.length+7)/8=q+1 by omega]
   rw[em,ep];refine y2 ?_;exact⟨0,trivial,Wk.fr zK⟩
  .have c:r=0:=hb0.1 rfl;have em:(pk x).length=q:=zO;have ep:CW (pk x)++[AV.int .u8 0]=CW (Fn (q+1) x):=by
    rw[YX zO];simp only[CW,wo,wj,xo];rw[pk,show(x.length+7)/8=q by omega];rfl
   refine zt ?_;refine z1 ?_;intro K hK;refine⟨zO,zO,?_⟩;refine zk ?_;rw[ep,em];exact⟨1,trivial,sU (k:=2) zK zS zS zS zS zS⟩
 rintro u _;have hsn:=S1 (q+1) x b zO;have hdv:=Uz (q+1) x q zO zO;obtain⟨P,hP⟩:∃P,P=Fn (q+1) x:=zX;have hPl:P.length=q+1:=by rw[hP,Uy]
 have hqP:q<P.length:=zO;simp only[<-hn,<-hP,<-hq,<-hr] at hsn;rw[<-hn,<-hr] at hdv;simp only[<-hP] at hdv;rw[<-hP];have hPlt:P[q]<256:=by subst hP;exact S0 zO
 have hu:P[q]?=some P[q]:=uT hqP;have hpk:Fn (q+1) (x++[b])=pk (x++[b]):=by rw[pk];congr 1;simp;omega
 have hend:[AV.own 1 (q+1) (CW (pk (x++[b]))),AV.int .i64 ((n:Int)+1)]=C4 (x++[b]):=by
  unfold C4;rw[Pi];simp;omega
 have hpl2:(pk (x++[b])).length=q+1:=by rw[Pi];simp;omega
 have htk:wL (q+1) (pk (x++[b]))=pk (x++[b]):=uM zO;have hqq:q<q+1:=zO;by_cases hbq:Q%2=1
 .obtain⟨z,hz⟩:∃z:Nat,z=2^s:=zX;have hz1:(2:Int)^s=(z:Int):=by rw[hz];simp
  have hzl:z<2^(8-r):=by rw[hz];exact Nat.pow_lt_pow_right zO zO
  have hz8:z<=128:=by rw[hz];exact wI zO (show s<=7 by omega)
  have hsum:P[q]+z<256:=by
   have h1:P[q]<=256-2^(8-r):=by
    obtain⟨c,hc⟩:=hdv;have hb2:2^(8-r)*2^r=256:=by rw[<-Nat.pow_add,show 8-r+r=8 by omega]
    have hlt2:2^(8-r)*c<2^(8-r)*2^r:=by rw[<-hc,hb2];exact hPlt
    have:=Nat.lt_of_mul_lt_mul_left hlt2;have h3:2^(8-r)*(c+1)<=2^(8-r)*2^r:=Nat.mul_le_mul_left _ this;rw[Nat.mul_add] at h3;omega
   have:2^(8-r)<=256:=wI zO (show 8-r<=8 by omega);omega
  obtain⟨y,hy⟩:∃y,y=P[q]+z:=zX;have ew:IntKind.wrap .u8 (z:Int)=(z:Int):=PR ⟨z,zO⟩;have hw8:IntKind.u8.wrap ((Q:Int)%2)=1:=by rw[show(Q:Int)%2=1 by omega];rfl
  have eo:Dq .or (.int .u8 (P[q]:Int)) (.int .u8 (z:Int))=some (.int .u8 (y:Int)):=by rw[hy];exact Ni hdv hzl hsum
  have hyn:P[q]+b.toNat*2^(7-r)=y:=by rw[hb,zT hbq,hy,hz,hs];simp
  rw[hyn,hpk] at hsn;refine E1 ?_;intro K hK;simp -implicitDefEqProofs (disch:=omega) [hmin,hQ,hand,hw8,e1,e2,e3,hqq,hqP,hPl,hu,ID,hz1,ew,eo];refine⟨zO,?_⟩;refine zk ?_;rw[Ng,<-hsn];refine zs ?_;refine W.weak (sY (B:=0) (v:=0) (j:=0) (T:=1) (u:=u) (s:=1) (off:=0) (n:=q+1) (xs:=CW (pk (x++[b]))) zF (by simp[Ah]) (by simp[hpl2]) (by simp[hpl2]) (by simp[hpl2]) (by simp[hpl2])) ?_;refine zs ?_;exact⟨k+1,by omega,by omega,sU (k:=1) (by simp[AA];omega) (by simp[hto,<-hend,htk]) (by simp) (by simp) (by simp) (by simp)⟩
 .have hw8:IntKind.u8.wrap ((Q:Int)%2)=0:=by rw[show(Q:Int)%2=0 by omega];rfl
  have ew:IntKind.wrap .u8 0=0:=zD;have eo:Dq .or (.int .u8 (P[q]:Int)) (.int .u8 0)=some (.int .u8 (P[q]:Int)):=Ni (x:=0) hdv (xq zO) zO;have hyn:P[q]+b.toNat*2^(7-r)=P[q]:=by rw[hb,zV hbq];simp
  rw[hyn,hpk] at hsn;refine E1 ?_;intro K hK;simp -implicitDefEqProofs (disch:=omega) [hmin,hQ,hand,hw8,e1,e2,e3,hqq,hqP,hPl,hu,ID,ew,eo];refine⟨zO,?_⟩;refine zk ?_;rw[Ng,<-hsn];refine zs ?_;refine W.weak (sY (B:=0) (v:=0) (j:=0) (T:=1) (u:=u) (s:=1) (off:=0) (n:=q+1) (xs:=CW (pk (x++[b]))) zF (by simp[Ah]) (by simp[hpl2]) (by simp[hpl2]) (by simp[hpl2]) (by simp[hpl2])) ?_;refine zs ?_;exact⟨k+1,by omega,by omega,sU (k:=1) (by simp[AA];omega) (by simp[hto,<-hend,htk]) (by simp) (by simp) (by simp) (by simp)⟩
theorem Y9 (f:Nat):Lib.bitLenAux f 0=0:=by cases f<;>simp[Lib.bitLenAux]
theorem Pj:∀(f x:Nat),x<2^f->x≠0->Lib.bitLenAux f x=vR x+1
 |0,x,h,h0=>by simp at h;omega
 |f+1,x,h,h0=>by
  rw[Lib.bitLenAux,zM h0];by_cases h2:x/2=0
  .have:x=1:=zO;subst this;rw[h2,Y9];decide
  .rw[Pj f (x/2) (by rw[w8] at h;omega) h2];obtain⟨a,b⟩:=JG (n:=x/2) zO;rw[Mf (n:=x) (q:=vR (x/2)+1) (by rw[w8];omega) (by rw[w8];omega)];omega
theorem fj (n:Nat) (h:1<=n) (h2:n<1099511627776):Ac pg 288 [iN n] [] (λr _=>r=iN (vR n)):=by
 have hlg:=(Nat.log2_lt (n:=n) (k:=40) zO).2 zO;have hb:=Ql n zO;rw[show Lib.bitLen n=vR n+1 from Pj 64 n (Nat.lt_trans h2 zD) zO] at hb;have w1:IntKind.u64.wrap (n:Int)=(n:Int):=by unfold IntKind.wrap;simp;omega
 refine zE (fn:=Tryz.f288) [.tmp 2] ?_;rw[AC];refine zs ?_;refine GL w1 hb ?_;exact zR
theorem Xw (n:Int) (h:-1000000<=n/\n<=1000000):Ac pg 299 [iN n] [] (λr _=>r=iN (CR n)):=by
 refine zE (fn:=Tryz.f299) [.tmp 2] ?_;rw[AC];refine y2 ?_;refine zc ?_ ?_<;>intro h
 .refine Bd ?_;simp[CR];omega
 .refine AJ ?_;simp[CR];omega
theorem Gy (l:List Bool) (n:Nat) (hl:l.length<10000000) (h1:1<=n) (h2:n<1099511627776):Ac pg 258 [pt 0,iN 2,iN n] [lv (C4 l)] (λr M=>r= .tup []/\M=[lv (C4 (l++AM n))]):=by
 have hlg:=(Nat.log2_lt (n:=n) (k:=40) zO).2 zO;have spL:=fj n h1 h2;obtain⟨g,hg⟩:∃g,g=vR n:=zX;have e:l++AM n=(l++Bq 0 g)++Bq n (g+1):=by rw[hg];simp[AM]
 rw[e];rw[<-hg] at spL hlg;obtain⟨g1,hg1⟩:∃g1,g1=g+1:=zX;have hgi:(g:Int)+1=(g1:Int):=zO;rw[<-hg1];refine zE (fn:=Tryz.f258) [] ?_;rw[A6];refine y6 ?_;refine z0 ?_;intro K hK;refine zj spL ?_;refine sZ [0] (S8 l 0 g zO zO zO) zS zS zS zS ?_;rintro r M ⟨rfl,rfl⟩ _;refine Am ?_;refine z0 ?_;intro K hK;refine sW spL (by simp) (by simp) ?_;refine AO hgi ?_;refine sZ [0] (S8 (l++Bq 0 g) n g1 Ao zO zO) zS zS zS zS ?_;rintro r M ⟨rfl,rfl⟩ _;refine Am ?_;(try simp only[BN,Cn,CB,CC,if_true]);refine Fw (d:=0) ?_;simp -implicitDefEqProofs (disch:=omega)
theorem fm (xs:List Bool) (v:Int) (l:List Int) (hx:xs.length<1000000) (hv:0<=v/\v<=16) (hl:AU l):Ac pg 300 [pt 0,iN v,.ro l.length (Ab l)] [lv (C4 xs)] (λr M=>r= .tup []/\M=[lv (C4 (xs++Dz v l))]):=by
 have hll:=Bw hl;have hg0:=Ec (l.length+1) zO;obtain⟨m,hm⟩:∃m,m=l.length+1:=zX;have hn1:(l.length:Int)+1=(m:Int):=zO;rw[<-hm] at hg0;refine zE (fn:=Tryz.f300) [] ?_;rw[A6];refine BS hn1 ?_;intro K hK;refine sZ [0] (Gy xs m zO zO zO) zS zS zS zS ?_;rintro r M ⟨rfl,rfl⟩ _;refine yw ?_;refine sV (λz:Nat×List Bool=> [(0,pt 0),(1,iN v),(2,.ro l.length (Ab l)),(13,.ro l.length (Ab l)),(14,iN l.length),(15,iN (z.1:Nat))]) (λz=> [lv (C4 z.2)]) (λz=>l.length-z.1) (λz=>z.1<=l.length/\z.2=xs++(AM m++Dg v (l.take z.1) true 0)/\z.2.length<=xs.length+81*(z.1+1)) (0,xs++AM m) (Wk.fr zK) ⟨zS,by simp[Dg],Ao⟩ ?_;rintro⟨i,B⟩ ⟨hi,hB,hBl⟩;simp only at hi hB hBl;by_cases hlt:i<l.length;rotate_left
 .have hi' :i=l.length:=zO;subst hi';rw[uW] at hB;refine y3 ?_;(try simp only[BN,Cn,CB,CC,if_true]);refine Fw (d:=0) ?_;simp -implicitDefEqProofs (disch:=omega);rw[hB,hm];simp[Dz]
 have hto:=Lf v l i true 0 hlt;have hbd:=hl.1 _ (uQ hlt);refine xL hlt ?_;by_cases h0:i=0
 .subst h0;have hz:=Eg (l[0]-v);have hz2:CR (l[0]-v)<=100:=by unfold CR;split<;>omega
  obtain⟨c,hc⟩:=uS (show 0<=CR (l[0]-v)+1 by omega);have hcl:=Ec c zO;refine Dx ?_;intro K hK;simp -implicitDefEqProofs (disch:=omega) [hlt];refine zk ?_;refine xY ?_;intro K hK;refine sW (Xw (l[0]-v) (by omega)) (by simp) (by simp) ?_;refine AO hc ?_;refine sZ [0] (Gy B c zO zO zO) zS zS zS zS ?_;rintro r M ⟨rfl,rfl⟩ _;refine ye ?_;refine⟨(1,B++AM c),by simp only;omega,⟨by simp only;omega,?_,Ao⟩,Wk.fr zK⟩;simp only[hto,if_true,hc,vE];rw[hB];simp[Dg]
 .have hup:=vB.1 hl.2 (i-1) i zO hlt zO;have hbd2:=hl.1 _ (uQ (show i-1<l.length by omega));obtain⟨c,hc⟩:=uS (show 0<=l[i]-l[i-1] by omega);have hcl:=Ec c zO;obtain⟨j,hj⟩:∃j,j=i-1:=zX;have hi1:(i:Int)-1=(j:Int):=zO;have hlt2:j<l.length:=zO;simp only[<-hj] at hc hup hbd2;refine Dx ?_;intro K hK;simp -implicitDefEqProofs (disch:=omega) [hlt];refine zk ?_;refine xO h0 ?_;refine BS (an hi1 (an hlt2 hc)) ?_;intro K hK;refine sZ [0] (Gy B c zO zO zO) zS zS zS zS ?_;rintro r M ⟨rfl,rfl⟩ _;refine ye ?_;refine⟨(i+1,B++AM c),by simp only;omega,⟨by simp only;omega,?_,Ao⟩,Wk.fr zK⟩;simp only[<-hj] at hto;simp only[hto,zM h0,hc,vE];rw[hB];simp
theorem UI (xs:List Bool) (v:Int) (l:List Int) (hx:xs.length<100000) (hv:0<=v/\v<=16) (hl:AU l):Ac pg 286 [pt 0,iN v,.ro l.length (Ab l)] [lv (C4 xs)] (λr M=>r= .tup []/\M=[lv (C4 (xs++A9 v l))]):=by
 have hll:=Bw hl;have spS:=Ug l zO (λx hx=>by have:=hl.1 x hx;omega);obtain⟨p1,p2,p3,p4⟩:=FD l.length l true 0 (vg _) hl.2 (.inl rfl);have pin:=Jh l.length l (vg _);have hbits:A9 v l=AM ((Ay l).1.length+1)++C2 v (Ay l).1 true 0++Dz v (Ay l).2:=rfl;rw[hbits];clear hbits;obtain⟨rs,hrs⟩:∃rs,rs=(Ay l).1:=zX;obtain⟨rest,hrest⟩:∃rest,rest=(Ay l).2:=zX;simp only[Qj] at spS;rw[<-hrs,<-hrest] at spS |-;rw[<-hrs] at p1 p2 pin;rw[<-hrest] at p3 p4;have hpos:=M9 rs true 0 p1;have hrm:AU rest:=⟨λx hx=>hl.1 x (p4 x hx),p3⟩;have hrl:=Bw hrm;have hbnd:∀(i:Nat) (h:i<rs.length),0<=rs[i].1/\rs[i].1<16/\rs[i].2<=16:=λi h=>by
  have:=pin _ (uQ h);have h2:=hl.1 _ this.1;omega
 obtain⟨m,hm⟩:∃m,m=rs.length+1:=zX;have hn1:(rs.length:Int)+1=(m:Int):=zO;have hg0:=Ec m zO;rw[<-hm];refine zE (fn:=Tryz.f286) [] ?_;rw[A6];refine AL spS ?_;refine BS hn1 ?_;intro K hK;refine sZ [0] (Gy xs m zO zO zO) zS zS zS zS ?_;rintro r M ⟨rfl,rfl⟩ _;refine Am ?_;refine xV ?_;refine sV (λz:Nat×List Bool×Int=> [(0,pt 0),(1,iN v),(7,.tok 2 0 1 0 rest.length),(8,iN z.2.2),(21,.tok 1 0 2 0 rs.length),(22,iN rs.length),(23,iN (z.1:Nat))]) (λz=> [lv (C4 z.2.1),lv (Aa Al rs),lv (Ab rest)]) (λz=>rs.length-z.1) (λz=>z.1<=rs.length/\z.2.1=xs++(AM m++C2 v (rs.take z.1) true 0)/\z.2.1.length<=xs.length+162*(z.1+1)/\∀h:z.1-1<rs.length,0<z.1->z.2.2=rs[z.1-1].1+rs[z.1-1].2) (0,xs++AM m,0) (Wk.fr zK) ⟨zS,by simp[C2],Ao,zS⟩ ?_;rintro⟨i,B,E⟩ ⟨hi,hB,hBl,hE⟩;simp only at hi hB hBl hE |-;by_cases hlt:i<rs.length;rotate_left
 .have hi' :i=rs.length:=zO;subst hi';rw[uW] at hB;refine y3 ?_;refine z0 ?_;intro K hK;refine sZ [0] (fm B v rest zO hv hrm) zS zS zS zS ?_;rintro r M ⟨rfl,rfl⟩ _;refine Am ?_;(try simp only[BN,Cn,CB,CC,if_true]);refine Fw (d:=0) ?_;simp -implicitDefEqProofs (disch:=omega);rw[hB];simp
 have hto:=Lj v rs i true 0 hlt;have hb:=hbnd i hlt;have hp:=hpos i hlt;have ca:(Aa Al rs)[i*2]?=some (iN rs[i].1):=Au (f:=Al) (s:=2) zL hlt (i:=0) zO;have cl:(Aa Al rs)[i*2+1]?=some (iN rs[i].2):=Au (f:=Al) (s:=2) zL hlt (i:=1) zO;obtain⟨d,hd⟩:=uS (show 0<=rs[i].2-3+1 by omega);have hdl:=Ec d zO;refine xL hlt ?_;refine GQ (an hlt (an ca cl)) ?_;intro K hK;refine zk ?_;have key:∃c:Nat,(if i=0 then CR (rs[i].1-v)+1 else rs[i].1-E)=(c:Int)/\1<=c/\c<1000:=by
  by_cases h0:i=0
  .have hz:=Eg (rs[i].1-v);have hz2:CR (rs[i].1-v)<=100:=by unfold CR;split<;>omega
   rw[zP h0];exact⟨(CR (rs[i].1-v)+1).toNat,zO,zO,zO⟩
  .have hp2:=hp.2 zO;have hE2:=hE zO zO;have hb2:=hbnd (i-1) zO;have hp3:=hpos (i-1) zO;rw[zM h0];exact⟨(rs[i].1-E).toNat,zO,zO,zO⟩
 obtain⟨c,hc,hc1,hc2⟩:=key;have hcl:=Ec c zO;refine zs ?_;refine s5 (λ_:Unit=> [(0,pt 0),(1,iN v),(7,.tok 2 0 1 0 rest.length),(10,pt 3),(21,.tok 1 0 2 0 rs.length),(22,iN rs.length),(23,iN i)]) (λ_=> [lv (C4 (B++AM c)),lv (Aa Al rs),lv (Ab rest),lv [iN rs[i].1,iN rs[i].2]]) (λ_=>True) ?_ ?_
 .refine zc ?_ ?_<;>intro h
  .rw[zP h] at hc;refine z0 ?_;intro K hK;refine sW (Xw (rs[i].1-v) (by omega)) (by simp) (by simp) ?_;refine AO hc ?_;refine sZ [0] (Gy B c zO zO zO) zS zS zS zS ?_;rintro r M ⟨rfl,rfl⟩ _;refine Am ?_;exact⟨(),trivial,Wk.fr zK⟩
  .rw[zM h] at hc;refine BS hc ?_;intro K hK;refine sZ [0] (Gy B c zO zO zO) zS zS zS zS ?_;rintro r M ⟨rfl,rfl⟩ _;refine Am ?_;exact⟨(),trivial,Wk.fr zK⟩
 rintro _ _;refine BS hd ?_;intro K hK;refine sZ [0] (Gy (B++AM c) d Ao zO zO) zS zS zS zS ?_;rintro r M ⟨rfl,rfl⟩ _;refine x4 ?_;refine⟨(i+1,(B++AM c)++AM d,rs[i].1+rs[i].2),by simp only;omega,⟨by simp only;omega,?_,Ao,λ_ _=>zS⟩,sU (k:=3) zK zS zS zS zS zS⟩;have hc' :(if i=0 then(if true=true then CR (rs[i].1-v)+1 else rs[i].1-0) else rs[i].1-(rs[i-1].1+rs[i-1].2))=(c:Int):=by
  rw[<-hc];by_cases h0:i=0
  .simp[h0]
  .rw[zM h0,zM h0,hE zO zO]
 rw[hto,hc',hd,hB];simp
theorem cu (xs:List Bool) (v:Int) (ref l:List Int) (hx:xs.length<90000) (hv:0<=v/\v<=16) (hr:ref.length<=16) (hl:AU l):Ac pg 259 [pt 0,iN v,.ro ref.length (Ab ref),.ro l.length (Ab l)] [lv (C4 xs)] (λr M=>r= .tup []/\M=[lv (C4 (xs++Do v ref l))]):=by
 have hll:=Bw hl;have hbl:=IP ref l;have hbd:=JT ref l;have hom:=IQ (ref:=ref) hl;have hbits:Do v ref l=AM ((sS ref l).length+1)++EG (sS ref l) true++A9 v (Bz ref l):=rfl;rw[hbits];clear hbits;have spC:=Si ref l zO zO;simp only[WC] at spC;obtain⟨bl,hb⟩:∃bl,bl=sS ref l:=zX;obtain⟨rest,hrest⟩:∃rest,rest=Bz ref l:=zX;rw[<-hb,<-hrest] at spC |-;rw[<-hb] at hbl;rw[<-hrest] at hom;have hbd' :∀(j:Nat) (h:j<bl.length),0<=bl[j]/\bl[j]<=16/\(0<j->1<=bl[j]):=λj h=>by
  subst hb;have:=hbd j h;omega
 obtain⟨m,hm⟩:∃m,m=bl.length+1:=zX;have hn1:(bl.length:Int)+1=(m:Int):=zO;have hg0:=Ec m zO;rw[<-hm];refine zE (fn:=Tryz.f259) [] ?_;rw[I3];refine AL spC ?_;refine BS hn1 ?_;intro K hK;refine sZ [0] (Gy xs m zO zO zO) zS zS zS zS ?_;rintro r M ⟨rfl,rfl⟩ _;refine yw ?_;refine sV (λz:Nat×List Bool=> [(0,pt 0),(1,iN v),(9,.tok 2 0 1 0 rest.length),(23,.tok 1 0 1 0 bl.length),(24,iN bl.length),(25,iN (z.1:Nat))]) (λz=> [lv (C4 z.2),lv (Ab bl),lv (Ab rest)]) (λz=>bl.length-z.1) (λz=>z.1<=bl.length/\z.2=xs++(AM m++EG (bl.take z.1) true)/\z.2.length<=xs.length+81*(z.1+1)) (0,xs++AM m) (Wk.fr zK) ⟨zS,by simp[EG],Ao⟩ ?_;rintro⟨i,B⟩ ⟨hi,hB,hBl⟩;simp only at hi hB hBl |-;by_cases hlt:i<bl.length;rotate_left
 .have hi' :i=bl.length:=zO;subst hi';rw[uW] at hB;refine y3 ?_;refine z0 ?_;intro K hK;refine sZ [0] (UI B v rest zO hv hom) zS zS zS zS ?_;rintro r M ⟨rfl,rfl⟩ _;refine Am ?_;(try simp only[BN,Cn,CB,CC,if_true]);refine Fw (d:=0) ?_;simp -implicitDefEqProofs (disch:=omega);rw[hB];simp
 have hto:=Ln bl i true hlt;have hb3:=hbd' i hlt;refine xL hlt ?_;refine Dx ?_;intro K hK;simp -implicitDefEqProofs (disch:=omega) [hlt];refine zk ?_;have key:∃c:Nat,(if i=0 then bl[i]+1 else bl[i])=(c:Int)/\1<=c/\c<1000:=by
  by_cases h0:i=0
  .rw[zP h0];exact⟨(bl[i]+1).toNat,zO,zO,zO⟩
  .have:=hb3.2.2 zO;rw[zM h0];exact⟨(bl[i]).toNat,zO,zO,zO⟩
 obtain⟨c,hc,hc1,hc2⟩:=key;have hcl:=Ec c zO;refine zs ?_;refine s5 (λ_:Unit=> [(0,pt 0),(1,iN v),(9,.tok 2 0 1 0 rest.length),(11,iN c),(23,.tok 1 0 1 0 bl.length),(24,iN bl.length),(25,iN i)]) (λ_=> [lv (C4 B),lv (Ab bl),lv (Ab rest)]) (λ_=>True) ?_ ?_
 .refine zc ?_ ?_<;>intro h
  .rw[zP h] at hc;refine zg hc ?_;exact⟨(),trivial,Wk.fr zK⟩
  .rw[zM h] at hc;refine W.skip ?_;exact⟨(),trivial,Wk.fr (by simp[AA,hc])⟩
 rintro _ _;refine z0 ?_;intro K hK;refine sZ [0] (Gy B c zO zO zO) zS zS zS zS ?_;rintro r M ⟨rfl,rfl⟩ _;refine ye ?_;refine⟨(i+1,B++AM c),by simp only;omega,⟨by simp only;omega,?_,Ao⟩,Wk.fr zK⟩;have hc' :(if i=0/\true=true then bl[i]+1 else bl[i])=(c:Int):=by
  rw[<-hc];by_cases h0:i=0<;>simp[h0]
 rw[hto,hc',hB];simp
theorem QW (l:List Bool) (hl:l.length<=6000):Ac pg 257 [pt 0] [lv (C4 l)] (λr M=>r= .tup [.agg (Dd (Eb l)),iN 0]/\M=[lv (C4 l)]):=by
 have hcr:C4 l=[.own 1 (pk l).length (CW (pk l)),iN l.length]:=rfl;have hpk:Eb l=⟨E5 (CW (pk l)),l.length⟩:=rfl;have hpl:=Pi l;have hgt:¬(6000:Int)<(l.length:Int):=zO;refine zE (fn:=Tryz.f257) [.cell 2 59,.tmp 3] ?_;rw[AC];refine AX ?_;rw[hcr];refine W.weak (te (B:=0) (v:=0) (j:=0) (s:=1) (n:=(pk l).length) (xs:=CW (pk l)) zF zF) ?_;refine th hgt ?_;have tkm:wL (pk l).length (pk l)=pk l:=uM zO;refine zh tkm ?_;refine W.weak (sY (B:=0) (v:=0) (j:=0) (T:=2) (u:=0) (s:=1) (off:=0) (n:=(pk l).length) (xs:=CW (pk l)) zF (by simp[Ah]) zS zS zS zS) ?_;refine zr ?_;rw[hpk]
 first|done|simp[tkm]
theorem Xx (l:List Bool) (hl:l.length<1000000):Ac pg 285 [pt 0] [lv (C4 l)] (λr M=>r=iN l.length/\M=[lv (C4 l)]):=by
 have hcr:C4 l=[.own 1 (pk l).length (CW (pk l)),iN l.length]:=rfl;refine zE (fn:=Tryz.f285) [.tmp 2] ?_;rw[AC];refine zs ?_;rw[hcr];exact DM
end Go.Abs
