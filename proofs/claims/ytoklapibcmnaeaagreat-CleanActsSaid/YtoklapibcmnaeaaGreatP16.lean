/- What is written is read again: bits as bytes, lists, graphs. No program. -/
import Derived.Test.YtoklapibcmnaeaaGreatP15
set_option linter.unusedVariables false
set_option linter.unusedSimpArgs false
namespace Go.Abs
theorem Pi:∀(ns:List Nat) (r:ByteArray),((Bv ns).foldl (fun r c=>r.push (JP c)) r).data.toList=r.data.toList++ns.map UInt8.ofNat
 | [],r=>by simp[Bv]
 |n::ns,r=>by
  have:=Pi ns (r.push (UInt8.ofNat n))
  simp only[Bv,List.map_cons,List.foldl_cons] at this ⊢
  have e:JP (Fp n)=UInt8.ofNat n:=by simp[Fp,JP]
  rw[e,this];simp[ByteArray.push]
theorem L9 (ns:List Nat):(DZ (Bv ns)).data.toList=ns.map UInt8.ofNat:=by
 have:=Pi ns ByteArray.empty
 unfold DZ
 rw[this];rfl
theorem Ma (ns:List Nat):(DZ (Bv ns)).size=ns.length:=by
 have e:(DZ (Bv ns)).size=(DZ (Bv ns)).data.toList.length:=(Array.length_toList).symm
 rw[e,L9,List.length_map]
theorem RL (ns:List Nat) (i:Nat) (h:i<ns.length) (hb:ns[i]<256):C6 (DZ (Bv ns)) i=ns[i]:=by
 have hs:=Ma ns
 unfold C6
 rw[dif_pos (by omega)]
 have h1:(DZ (Bv ns)).data.toList[i]?=some (UInt8.ofNat ns[i]):=by rw[L9];simp[h]
 have h2:(DZ (Bv ns)).data.toList[i]?=some (DZ (Bv ns))[i]:=by
  have:i<(DZ (Bv ns)).data.size:=by have:(DZ (Bv ns)).size=(DZ (Bv ns)).data.size:=rfl;omega
  rw[Array.getElem?_toList,Array.getElem?_eq_getElem this];rfl
 rw[h1] at h2
 have h3:(DZ (Bv ns))[i]=UInt8.ofNat ns[i]:=by simpa using h2.symm
 rw[h3]
 simp[UInt8.toNat_ofNat'];omega
theorem Tj (k:Nat):BG (List.replicate k false)=0:=by
 induction k with
 |zero=>rfl
 |succ k ih=>rw[List.replicate_succ,Ff,ih];simp
theorem Tk {c:List Bool} (h:c.length≤8) {j:Nat} (hj:j<8):decide (EW c/2^(7-j)%2=1)=c.getD j false:=by
 have e:EW c=BG (c++List.replicate (8-c.length) false):=by rw[PX,Tj];simp[EW]
 have hl:(c++List.replicate (8-c.length) false).length=8:=by simp;omega
 have hb:=Iq (c++List.replicate (8-c.length) false)
 rw[hl] at hb
 have h1:(A6 (EW c) 8)[j]?=(c++List.replicate (8-c.length) false)[j]?:=by rw[e,hb]
 have h2:(A6 (EW c) 8)[j]?=some (decide (EW c/2^(7-j)%2=1)):=by simp[A6,hj]
 rw[h2] at h1
 rw[List.getD_eq_getElem?_getD]
 by_cases hc:j<c.length
 .rw[List.getElem?_append_left hc] at h1;rw[←h1];rfl
 .rw[List.getElem?_append_right (by omega)] at h1
  have:(List.replicate (8-c.length) false)[j-c.length]?=some false:=by rw[List.getElem?_replicate,if_pos (by omega)]
  rw[this] at h1
  rw[List.getElem?_eq_none (by omega)];simpa using h1
theorem NG (l:List Bool) (i:Nat) (h:i/8<(l.length+7)/8):EI (DI l).data i=l.getD i false:=by
 have hk:i/8<(pk l).length:=by simpa[pk] using h
 have hlt:(pk l)[i/8]<256:=Pg h
 unfold EI DI
 rw[RL (pk l) (i/8) hk hlt]
 simp only[pk,Eg,List.getElem_map,List.getElem_range]
 have:=Tk (c:=(l.drop (8*(i/8))).take 8) (by simp;omega) (j:=i%8) (Nat.mod_lt _ (by omega))
 rw[this]
 simp only[List.getD_eq_getElem?_getD,List.getElem?_take,List.getElem?_drop]
 rw[if_pos (Nat.mod_lt _ (by omega)),Nat.div_add_mod]
@[simp] theorem Xe (l:List Bool):(DI l).n=l.length:=rfl
theorem I9 (l:List Bool):(DI l).data.size=(l.length+7)/8:=by simp[DI,Ma,pk]
theorem Mb (l:List Bool):Aw (DI l)=l:=by
 unfold Aw
 refine List.ext_getElem (by simp) fun i h1 h2=>?_
 simp only[List.getElem_map,List.getElem_range]
 rw[NG _ _ (by omega),List.getD_eq_getElem?_getD,List.getElem?_eq_getElem h2];rfl
theorem Q5 {l:List Bool} (h:l.length≤6000):Dc (DI l):=by
 refine⟨by simp,by simp;omega,by rw[I9,Xe];omega,fun i hi hn=>?_⟩
 rw[I9] at hi
 rw[NG _ _ (by omega),List.getD_eq_getElem?_getD,List.getElem?_eq_none (by simpa using hn)];rfl
def On (bs:List Bool) (p:Nat) (x:List Bool):Prop:=∃s,bs.drop p=x++s
theorem On.app {bs:List Bool} {p:Nat} {x y:List Bool} (h:On bs p (x++y)):On bs p x∧On bs (p+x.length) y:=by
 obtain⟨s,h⟩:=h
 refine⟨⟨y++s,by rw[h,List.append_assoc]⟩,s,?_⟩
 rw[←List.drop_drop,h,List.append_assoc,List.drop_left]
theorem On.code {bs:List Bool} {p n:Nat} (h:On bs p (AC n)) (h1:1≤n) (h2:n≤1073741824):A0 bs p=some (n,p+(AC n).length):=by
 obtain⟨s,h⟩:=h
 have hl:=D6 n
 have hp:p≤bs.length:=by
  have:=congrArg List.length h
  simp at this;omega
 have:=QC (l:=bs) (pre:=bs.take p) (suf:=s) h1 h2 (by rw[List.append_assoc,←h,List.take_append_drop])
 rwa [List.length_take_of_le hp] at this
theorem NH {bs:List Bool} {v:Int} (hv:0≤v∧v≤16):∀(l:List Int) (f:Bool) (p:Nat) (e:Int),(∀x∈l,0≤x∧x<16)→MY l f e→(f=true→e=v)→(f=false→0≤e)→On bs p (Cu v l f e)→Cg bs l.length f p e=some (l,p+(Cu v l f e).length)
 | [],f,p,e,_,_,_,_,_=>by simp[Cg,Cu]
 |x::l,f,p,e,hx,hp,h1,h2,ho=>by
  rw[Cu] at ho ⊢
  obtain⟨o1,o2⟩:=ho.app
  have hx0:=hx x (by simp)
  have hn:1≤(if f=true then Ca (x-v)+1 else x-e).toNat∧(if f=true then Ca (x-v)+1 else x-e).toNat≤1073741824:=by
   cases f
   .have:=hp.1;simp at this ⊢;have:=h2 rfl;omega
   .have:=Dp (x-v)
    simp only[if_true]
    have:Ca (x-v)≤100:=by unfold Ca;split<;>omega
    omega
  have hy:e+(if f=true then CK (((if f=true then Ca (x-v)+1 else x-e).toNat:Int)-1) else((if f=true then Ca (x-v)+1 else x-e).toNat:Int))=x:=by
   cases f
   .have:=hp.1;simp at this ⊢;omega
   .have z:=Dp (x-v)
    simp only[if_true]
    rw[show((Ca (x-v)+1).toNat:Int)-1=Ca (x-v) by omega,K0,h1 rfl];omega
  rw[List.length_cons]
  simp only[Cg]
  rw[o1.code hn.1 hn.2]
  simp only
  rw[hy,if_pos hx0,NH hv l false _ x (fun y hy=>hx y (by simp[hy])) hp.2 (by simp) (fun _=>hx0.1) o2]
  simp;omega
theorem NI {bs:List Bool} {v:Int} (hv:0≤v∧v≤16):∀(l:List (Int×Int)) (f:Bool) (p:Nat) (e:Int),(∀x∈l,0≤x.1∧x.1<16∧x.2≤16)→GX l f e→(f=true→e=v)→(f=false→0≤e)→On bs p (Ck v l f e)→CH bs l.length f p e=some (l,p+(Ck v l f e).length)
 | [],f,p,e,_,_,_,_,_=>by simp[CH,Ck]
 | (x,k)::l,f,p,e,hx,hp,h1,h2,ho=>by
   rw[Ck,List.append_assoc] at ho
   rw[Ck]
   obtain⟨o1,o2⟩:=ho.app
   obtain⟨o2,o3⟩:=o2.app
   have hx0:=hx (x,k) (by simp)
   simp only[GX] at hx0 hp
   have hn:1≤(if f=true then Ca (x-v)+1 else x-e).toNat∧(if f=true then Ca (x-v)+1 else x-e).toNat≤1073741824:=by
    cases f
    .have:=hp.1;simp at this ⊢;have:=h2 rfl;omega
    .have:=Dp (x-v)
     simp only[if_true]
     have:Ca (x-v)≤100:=by unfold Ca;split<;>omega
     omega
   have hy:e+(if f=true then CK (((if f=true then Ca (x-v)+1 else x-e).toNat:Int)-1) else((if f=true then Ca (x-v)+1 else x-e).toNat:Int))=x:=by
    cases f
    .have:=hp.1;simp at this ⊢;omega
    .have z:=Dp (x-v)
     simp only[if_true]
     rw[show((Ca (x-v)+1).toNat:Int)-1=Ca (x-v) by omega,K0,h1 rfl];omega
   rw[List.length_cons]
   simp only[CH]
   rw[o1.code hn.1 hn.2]
   simp only
   rw[o2.code (by omega) (by omega)]
   simp only
   rw[hy,show((k-3+1).toNat:Int)-1+3=k by omega,NI hv l false _ (x+k) (fun y hy=>hx y (by simp[hy])) hp.2.2 (by simp) (fun _=>by omega) o3]
   simp;omega
theorem Tl {bs:List Bool} {v:Int} {l:List Int} {p:Nat} (hv:0≤v∧v≤16) (hl:AL l) (h:On bs p (CQ v l)):DL bs p v=some (l,p+(CQ v l).length):=by
 unfold CQ at h ⊢
 obtain⟨o1,o2⟩:=h.app
 have:=Br hl
 unfold DL
 rw[o1.code (by omega) (by omega)]
 simp only
 rw[QS v l 0 v] at o2 ⊢
 rw[if_pos (by omega),Nat.add_sub_cancel,NH hv l true _ v hl.1 (KJ l true v hl.2 (.inl rfl)) (fun _=>rfl) (by simp) o2]
 simp;omega
theorem Lx:∀(l:List Int) (x:Int) (y:Int),y∈(x::l).take (AY (x::l))↔x≤y∧y<x+(AY (x::l):Nat)
 | [],x,y=>by simp[AY];omega
 |z::t,x,y=>by
  simp only[AY]
  split
  .rename_i e
   subst e
   have:=Lx t (x+1) y
   rw[List.take_succ_cons,List.mem_cons,this];omega
  .simp;omega
theorem Ld (a n:Int) (r:List (Int×Int)) (i:Int):Bt ((a,n)::r) i=true↔(a≤i∧i<a+n)∨Bt r i=true:=by simp[Bt]
theorem NJ:∀(n:Nat) (l:List Int),l.length≤n→l.Pairwise (·<·)→(∀y,y∈l↔y∈(Ao l).2∨Bt (Ao l).1 y=true)∧∀y∈(Ao l).2,Bt (Ao l).1 y=false
 |_,[],_,_=>by simp[Ao,Bt]
 |0,x::l,h,_=>by simp at h
 |n+1,x::l,h,hp=>by
  have h1:=EJ x l
  have h2:=Fb (x::l)
  have h3:((x::l).drop (AY (x::l))).length=(x::l).length-AY (x::l):=by simp
  have hd:=hp.sublist (List.drop_sublist (AY (x::l)) (x::l))
  have hn:=Gy l x hp
  obtain⟨i1,i2⟩:=NJ n ((x::l).drop (AY (x::l))) (by omega) hd
  have ht:=Lx l x
  have hm:∀y,y∈x::l↔y∈(x::l).take (AY (x::l))∨y∈(x::l).drop (AY (x::l)):=fun y=>by
   rw[←List.mem_append,List.take_append_drop]
  have hr:∀y,Bt (Ao ((x::l).drop (AY (x::l)))).1 y=true→x+(AY (x::l):Nat)<y:=fun y hy=>hn y ((i1 y).2 (.inr hy))
  rw[Ao]
  split
  .refine⟨fun y=>?_,fun y hy=>?_⟩
   .rw[hm y,ht y,i1 y,Ld]
    simp only
    constructor
    .rintro(h|h|h)
     .exact .inr (.inl h)
     .exact .inl h
     .exact .inr (.inr h)
    .rintro(h|h|h)
     .exact .inr (.inl h)
     .exact .inl h
     .exact .inr (.inr h)
   .have a1:=hn y ((i1 y).2 (.inl hy))
    have a2:=i2 y hy
    rw[Bool.eq_false_iff] at a2 ⊢
    intro c
    rw[Ld] at c
    rcases c with c|c
    .omega
    .exact a2 c
  .refine⟨fun y=>?_,fun y hy=>?_⟩
   .rw[hm y,i1 y,List.mem_append]
    simp only
    rw[or_assoc]
   .simp only at hy ⊢
    rw[List.mem_append] at hy
    rcases hy with hy|hy
    .rw[Bool.eq_false_iff]
     intro c
     have a1:=hr y c
     have a2:=(ht y).1 hy
     omega
    .exact i2 y hy
theorem Ly:∀(n:Nat) (l:List Int) (e:Int),l.length≤n→AL l→(∀x∈l,e<x)→DF (Ao l).1 e
 |_,[],_,_,_,_=>by simp[Ao,DF]
 |0,x::l,_,h,_,_=>by simp at h
 |n+1,x::l,e,h,hl,he=>by
  have h1:=EJ x l
  have h2:=Fb (x::l)
  have h3:((x::l).drop (AY (x::l))).length=(x::l).length-AY (x::l):=by simp
  have hd:AL ((x::l).drop (AY (x::l))):=⟨fun y hy=>hl.1 y (List.mem_of_mem_drop hy),hl.2.sublist (List.drop_sublist _ _)⟩
  have hn:=Gy l x hl.2
  have ht:=(Lx l x (x+(AY (x::l):Nat)-1)).2 (by omega)
  have hx:=hl.1 x (by simp)
  have hx2:=hl.1 _ (List.mem_of_mem_take ht)
  have hxe:=he x (by simp)
  rw[Ao]
  split
  .exact⟨hx.1,hx.2,by omega,by omega,hxe,Ly n _ _ (by omega) hd hn⟩
  .exact Ly n _ _ (by omega) hd fun y hy=>by have:=hn y hy;omega
theorem Qq {l:List Int} (hl:AL l):EO (Ao l).1 (Ao l).2=some l:=by
 have hle:=Nat.le_refl l.length
 obtain⟨W,w1,w2,w3,w4,w5⟩:=Gz (Ao l).1 (-1) (Ly l.length l (-1) hle hl fun x hx=>by have:=(hl.1 x hx).1;omega)
 obtain⟨m1,m2⟩:=NJ l.length l hle hl.2
 obtain⟨_,_,p3,p4⟩:=Ev l.length l true 0 hle hl.2 (.inl rfl)
 have hr:AL (Ao l).2:=⟨fun x hx=>hl.1 x (p4 x hx),p3⟩
 have hs:AL (B5 ((Ao l).2++W)):=by
  rw[Hm]
  refine⟨fun x hx=>?_,?_⟩
  .rcases List.mem_append.1 hx with h|h
   .exact hr.1 x h
   .exact w5 x h
  .rw[List.nodup_append]
   refine⟨E2 p3,E2 w2,fun a ha b hb e=>?_⟩
   subst e
   have c1:=m2 a ha
   have c2:=(w4 a).1 hb
   rw[c1] at c2;simp at c2
 have he:B5 ((Ao l).2++W)=l:=Iv _ _ hs.2 hl.2 fun x=>by
  rw[FK,List.mem_append,w4 x,m1 x]
 unfold EO
 rw[w1]
 simp only
 rw[he,if_pos ⟨hr,hl⟩]
theorem NK {bs:List Bool} {v:Int} {l:List Int} {p:Nat} (hv:0≤v∧v≤16) (hl:AL l) (h:On bs p (AT v l)):Dj bs p v=some (l,p+(AT v l).length):=by
 have hle:=Nat.le_refl l.length
 have hll:=Br hl
 obtain⟨p1,p2,p3,p4⟩:=Ev l.length l true v hle hl.2 (.inl rfl)
 have pin:=Ho l.length l hle
 unfold AT at h ⊢
 rw[List.append_assoc] at h
 obtain⟨o1,o2⟩:=h.app
 obtain⟨o2,o3⟩:=o2.app
 rw[QT v _ 0 v] at o2 o3 ⊢
 unfold Dj
 rw[o1.code (by omega) (by omega)]
 simp only
 rw[if_pos (by omega),Nat.add_sub_cancel,NI hv (Ao l).1 true _ v (fun q hq=>by
  have h1:=pin q hq
  have h2:=hl.1 _ h1.1
  omega) p1 (fun _=>rfl) (by simp) o2]
 simp only
 rw[Tl hv ⟨fun x hx=>hl.1 x (p4 x hx),p3⟩ o3]
 simp only
 rw[Qq hl]
 simp;omega
theorem Im (l:List Int):∀(ref pre:List Int) (i:Bool) (n:Nat),pre.length=n→Bh ((A1 l ref i n).map fun n=>((n:Nat):Int)) (pre++ref) i=some ((if i=true then pre else [])++ref.filter fun x=>l.contains x)
 | [],pre,i,n,h=>by simp[A1,Bh]
 |x::ref,pre,i,n,h=>by
  simp only[A1]
  split
  .rename_i e
   have:=Im l ref (pre++[x]) i (n+1) (by simp[h])
   rw[List.append_assoc,List.singleton_append] at this
   rw[this]
   cases i
   .simp[List.filter_cons];intro c;simp[c] at e
   .simp[List.filter_cons];simp at e;simp[e]
  .rename_i e
   have:=Im l ref [x] (!i) 1 rfl
   rw[List.singleton_append] at this
   simp only[List.map_cons,Bh]
   rw[if_neg (by simp[h];omega),Int.toNat_natCast,←h,List.drop_left,this,List.take_left]
   simp only[Option.some.injEq]
   cases i
   .simp at e;simp[List.filter_cons,e]
   .simp at e;simp[List.filter_cons,e]
theorem Tm {ref l:List Int} (hr:AL ref) (hl:AL l):CI ref (blocks ref l) (Bf ref l)=some l:=by
 have hc:=Im l ref [] true 0 rfl
 simp only[List.nil_append,if_true] at hc
 have he:B5 (Bf ref l++ref.filter fun x=>l.contains x)=l:=by
  refine Iv _ _ ((ON _).2 ?_) hl.2 fun x=>?_
  .rw[List.nodup_append]
   refine⟨(E2 hl.2).filter _,(E2 hr.2).filter _,fun a ha b hb e=>?_⟩
   subst e
   simp[Bf] at ha hb
   exact ha.2 hb.1
  .rw[FK,List.mem_append]
   simp[Bf]
   by_cases h:x∈l<;>by_cases h2:x∈ref<;>simp[h,h2]
 unfold CI blocks
 rw[hc]
 simp only
 rw[he,if_pos ⟨hl,rfl,rfl⟩]
theorem NL {bs:List Bool}:∀(l:List Int) (f:Bool) (p:Nat),(∀(j:Nat) (h:j<l.length),0≤l[j]∧l[j]≤100∧(f=true→j=0∨1≤l[j])∧(f=false→1≤l[j]))→On bs p (DJ l f)→Cv bs l.length f p=some (l,p+(DJ l f).length)
 | [],f,p,_,_=>by simp[Cv,DJ]
 |x::l,f,p,hx,ho=>by
  rw[DJ] at ho ⊢
  obtain⟨o1,o2⟩:=ho.app
  have hx0:=hx 0 (by simp)
  simp at hx0
  have hn:1≤(if f=true then x+1 else x).toNat∧(if f=true then x+1 else x).toNat≤1073741824:=by
   cases f
   .have:=hx0.2.2 rfl;simp;omega
   .simp;omega
  rw[List.length_cons]
  simp only[Cv]
  rw[o1.code hn.1 hn.2]
  simp only
  rw[NL l false _ (fun j hj=>by
   have:=hx (j+1) (by simpa using hj)
   simp at this
   refine⟨this.1,this.2.1,by simp,fun _=>?_⟩
   cases f
   .exact this.2.2.2 rfl
   .exact this.2.2.1 rfl) o2]
  cases f
  .have:=hx0.2.2 rfl
   simp;omega
  .simp;omega
theorem Qr {bs:List Bool} {v:Int} {ref l:List Int} {p:Nat} (hv:0≤v∧v≤16) (hr:AL ref) (hl:AL l) (h:On bs p (CD v ref l)):CU bs p v ref=some (l,p+(CD v ref l).length):=by
 have hrl:=Br hr
 have hb:=G5 ref l
 unfold CD at h ⊢
 rw[List.append_assoc] at h
 obtain⟨o1,o2⟩:=h.app
 obtain⟨o2,o3⟩:=o2.app
 unfold CU
 rw[o1.code (by omega) (by omega)]
 simp only
 rw[if_pos (by omega),Nat.add_sub_cancel,NL (blocks ref l) true _ (fun j hj=>by
  have:=HX ref l j hj
  refine⟨this.1,by omega,fun _=>?_,by simp⟩
  rcases Nat.eq_zero_or_pos j with h|h
  .exact .inl h
  .exact .inr (this.2.2 h)) o2]
 simp only
 rw[NK hv (G6 hl) o3]
 simp only
 rw[Tm hr hl]
 simp;omega
theorem Mc {bs:List Bool} {rd:Rd} {f:Int→List Int→List Bool}:∀(ls:List (List Int)) (v:Int) (p:Nat),(∀(i:Nat) (h:i<ls.length) (q:Nat),On bs q (f (v+i) ls[i])→rd q (v+i)=some (ls[i],q+(f (v+i) ls[i]).length))→On bs p (Cc f v ls)→Bi rd ls.length v p=some (ls,p+(Cc f v ls).length)
 | [],v,p,_,_=>by simp[Bi,Cc]
 |l::ls,v,p,h,ho=>by
  rw[Cc] at ho ⊢
  obtain⟨o1,o2⟩:=ho.app
  have h0:=h 0 (by simp) p
  simp at h0
  rw[List.length_cons]
  simp only[Bi]
  rw[h0 o1]
  simp only
  rw[Mc ls (v+1) _ (fun i hi q=>by
   have:=h (i+1) (by simpa using hi) q
   simp only[List.getElem_cons_succ] at this
   rw[show v+1+(i:Int)=v+((i+1:Nat):Int) by omega];exact this) o2]
  simp;omega
theorem Md {g:Gr} {rd:Rd} {f:Int→List Int→List Bool} (hg:A3 g) (h:∀(i:Nat) (h:i<g.out.length) (q:Nat),On (AC (g.n.toNat+1)++Cc f 0 g.out) q (f i g.out[i])→rd q i=some (g.out[i],q+(f i g.out[i]).length)):CZ (AC (g.n.toNat+1)++Cc f 0 g.out) rd=some g:=by
 have h1:=hg.1
 have h2:=hg.2.1
 have h3:=hg.2.2.1
 have ho:On (AC (g.n.toNat+1)++Cc f 0 g.out) 0 (AC (g.n.toNat+1)++Cc f 0 g.out):=⟨[],by simp⟩
 obtain⟨o1,o2⟩:=ho.app
 unfold CZ
 rw[o1.code (by omega) (by omega)]
 simp only
 have hl:=Mc (rd:=rd) (f:=f) g.out 0 _ (fun i hi q hq=>by
  have:=h i hi q
  simp only[Int.zero_add] at hq ⊢
  exact this hq) o2
 rw[if_pos (by omega),Nat.add_sub_cancel,show g.n.toNat=g.out.length by omega] at*
 rw[hl]
 simp only
 have e:(((g.out.length+1:Nat):Int)-1)=g.n:=by omega
 rw[e,if_pos ⟨by simp,hg⟩]
theorem RM {g:Gr} (hg:A3 g):BN (BW g)=some g:=by
 have h2:=hg.2.1
 have h3:=hg.2.2.1
 unfold BN BW
 exact Md hg fun i hi q ho=>NK ⟨by omega,by omega⟩ (hg.2.2.2.1 _ (List.getElem_mem hi)).1 ho
theorem RN {a g:Gr} (ha:A3 a) (hg:A3 g):BX a (B3 a g)=some g:=by
 have h2:=hg.2.1
 have h3:=hg.2.2.1
 unfold BX B3
 exact Md (f:=fun v l=>CD v (AF a v) l) hg fun i hi q ho=>Qr ⟨by omega,by omega⟩ (HS ha _) (hg.2.2.2.1 _ (List.getElem_mem hi)).1 ho
end Go.Abs
namespace Go.Abs
theorem J7 (l m:List Bg) (h:l.map (fun v=>v.gone)=m.map fun v=>v.gone):Dm l=Dm m:=by
 have:=congrArg List.getLast? h
 rw[List.getLast?_map,List.getLast?_map] at this
 unfold Dm
 cases e1:l.getLast?<;>cases e2:m.getLast?<;>rw[e1,e2] at this<;>simp at this ⊢<;>exact this
theorem Lz {β:Type} (g:Bg→β) {l:List Bg} {i:Nat} {o:Obj} (hg:∀v:Bg,g {v with base:=o.base,data:=o.data}=g v):(Dg l i o).map g=l.map g:=by
 unfold Dg
 cases e:l[i]? with
 |none=>rfl
 |some v=>
  simp only
  rw[List.map_set,hg]
  refine List.ext_getElem? fun j=>?_
  rw[List.getElem?_set]
  split
  .rename_i h;subst h
   simp only[List.length_map]
   split
   .rw[List.getElem?_map,e];rfl
   .rename_i h;rw[List.getElem?_eq_none (by simpa using h)]
  .rfl
theorem Tn (s:Ax) (o:Obj) (p:Int) (h:A5 s):(EV s o p=none∧D9 s o p=none)∨
 (EV s o p=some (B8 s o p)∧D9 s o p=some ((Dg (B8 s o p).1 (B8 s o p).2 o).map BQ)∧(∀v∈Dg (B8 s o p).1 (B8 s o p).2 o,F9 v)∧Dm (Dg (B8 s o p).1 (B8 s o p).2 o)=false∧
   A7 s.vers≤A7 (Dg (B8 s o p).1 (B8 s o p).2 o)∧∀v∈s.vers,∃u∈Dg (B8 s o p).1 (B8 s o p).2 o,u.id=v.id):=by
 obtain⟨⟨⟨a1,a2,a3,a4,a5,a6,a7⟩,b,c,d⟩,e⟩:=h
 have put_ok:∀(l:List Bg) (i:Nat),(∀v∈l,F9 v)→∀v∈Dg l i o,F9 v:=by
  intro l i hl v hv
  unfold Dg at hv
  split at hv
  .rename_i w hw
   rcases List.mem_or_eq_of_mem_set hv with h|h
   .exact hl v h
   .subst h
    exact hl w (List.mem_of_getElem? hw)
  .exact hl v hv
 have put_id:∀(l:List Bg) (i:Nat),∀v∈l,∃u∈Dg l i o,u.id=v.id:=by
  intro l i v hv
  have hm:=Lz (o:=o) (l:=l) (i:=i) (fun v=>v.id) (fun _=>rfl)
  have:v.id∈(Dg l i o).map fun v=>v.id:=by rw[hm];exact List.mem_map.2 ⟨v,hv,rfl⟩
  obtain⟨u,hu,e⟩:=List.mem_map.1 this
  exact⟨u,hu,e⟩
 by_cases c1:AG (fun v=>decide (v.id=o.id)) s.vers<0
 .by_cases c2:o.id≤A7 s.vers∨p<0∨o.id≤p
  .refine .inl ⟨?_,?_⟩
   .unfold EV;rw[if_pos c1,if_pos c2]
   .unfold D9;rw[if_pos c1,if_pos (by omega)]
  .have er:B8 s o p=(s.vers++[EU o.id p],s.vers.length):=by unfold B8;rw[if_pos c1]
   have ep:Dg (s.vers++[EU o.id p]) s.vers.length o=s.vers++[{EU o.id p with base:=o.base,data:=o.data}]:=by
    rw[Iy (by simp)]
    rw[List.set_append_right _ _ (Nat.le_refl _),Nat.sub_self];simp
   rw[er]
   refine .inr ⟨?_,?_,?_,?_,?_,?_⟩
   .unfold EV;rw[if_pos c1,if_neg c2]
   .unfold D9;rw[if_pos c1,if_neg (by omega),ep];simp[Aj,BQ,EU]
   .refine put_ok _ _ fun v hv=>?_
    rcases List.mem_append.1 hv with h|h
    .exact a5 v h
    .simp at h;subst h
     exact⟨by simp[EU];omega,by simp[EU];omega,by simp[EU]⟩
   .rw[ep];simp[Dm,EU]
   .rw[ep,RI];simp[EU];omega
   .intro v hv
    exact put_id _ _ v (List.mem_append_left _ hv)
 .have er:B8 s o p=(s.vers,(AG (fun v=>decide (v.id=o.id)) s.vers).toNat):=by unfold B8;rw[if_neg c1]
  rw[er]
  obtain⟨k,hk⟩:∃k,k=(AG (fun v=>decide (v.id=o.id)) s.vers).toNat:=⟨_,rfl⟩
  have hlt:k<s.vers.length:=by rw[hk];exact Hd (by omega)
  have Bm:s.vers[k].id=o.id:=by
   have:s.vers.findIdx? (fun v=>decide (v.id=o.id))=some k:=by
    unfold AG at hk c1
    cases e:s.vers.findIdx? (fun v=>decide (v.id=o.id)) with
    |none=>rw[e] at c1;simp at c1
    |some j=>rw[e] at hk;simp at hk;rw[hk]
   simpa using (List.findIdx?_eq_some_iff_getElem.1 this).2.1
  rw[←hk]
  refine .inr ⟨?_,?_,put_ok _ _ a5,?_,?_,put_id _ _⟩
  .unfold EV;rw[if_neg c1,hk]
  .unfold D9
   rw[if_neg c1,←hk,Iy hlt,List.map_set]
   simp[Aj,BQ,Bm]
  .rw[J7 _ _ (Lz (fun v=>v.gone) (fun _=>rfl))];exact a6
  .rw[L3 _ _ (Lz (fun v=>v.id) (fun _=>rfl))];exact Int.le_refl _
theorem Pj {s y:Ax} {l:List Obj} {x:CG} (hl:A7 s.vers≤A7 y.vers) (hi:∀v∈s.vers,∃u∈y.vers,u.id=v.id) (h:AI s (Aj s) x):AI y l x↔AI s l x:=by
 unfold AI at h ⊢
 by_cases c:x.opn=false
 .simp only[if_pos c]
 .simp only[if_neg c] at h ⊢
  obtain⟨h1,h2,_⟩:=h
  refine⟨fun⟨_,_,k⟩=>⟨h1,h2,k⟩,fun⟨_,_,k⟩=>⟨?_,?_,k⟩⟩
  .refine h1.imp id fun⟨v,hv,e⟩=>?_
   obtain⟨u,hu,e2⟩:=hi v hv
   exact⟨u,hu,by rw[e2,e]⟩
  .split at h2
   .rw[if_pos (by assumption)];exact⟨h2.1,by omega,h2.2.2⟩
   .rw[if_neg (by assumption)];exact h2
theorem NM {s:Ax} {n:Int} (h:Cl (AB s) s.blocks) (hn:1≤n∧n≤100):((DV (AB s) s.blocks n).2=0↔¬FA (AB s) s.blocks n<0)∧(¬FA (AB s) s.blocks n<0→(DV (AB s) s.blocks n).1=FA (AB s) s.blocks n):=by
 unfold DV FA
 rw[if_pos ⟨h,hn⟩]
 cases e:(Bx (BI (AB s) s.blocks.toNat) 0 0).find? fun x=>decide (n≤x.2) with
 |none=>simp
 |some x=>
  have:=(GL _ _ _ (Int.le_refl _) x (List.mem_of_find?_eq_some e)).2.1
  simp;omega
theorem U0 (s:Ax) (o:Obj) (p:Int) (h:A5 s):(J3 s o p→Pc s o p=EM s o p)∧(¬J3 s o p→Pc s o p=(AD,1)):=by
 have hb:=Tn s o p h
 unfold Pc
 rw[if_pos h]
 obtain⟨⟨⟨a1,a2,a3,a4,a5,a6,a7⟩,b,c,d⟩,e⟩:=h
 rcases hb with⟨h1,h2⟩ | ⟨h1,h2,h3,h4,h5,h6⟩
 .exact⟨fun hm=>absurd hm (Qp h2),fun _=>by unfold Eh;rw[h1]⟩
 .unfold Eh
  rw[h1]
  simp only
  obtain⟨l1,hl1⟩:∃l1,l1=Dg (B8 s o p).1 (B8 s o p).2 o:=⟨_,rfl⟩
  rw[←hl1] at h2 h3 h4 h5 h6 ⊢
  have key:J3 s o p↔Dc o.data∧Et {s with vers:=l1}:=by
   have ho:o∈l1.map BQ:=by
    have:D9 s o p=some (l1.map BQ):=h2
    unfold D9 at this
    split at this
    .split at this
     .simp at this
     .simp at this;rw[←this];simp
    .rename_i c1
     simp at this;rw[←this]
     have hlt:(AG (fun v=>decide (v.id=o.id)) s.vers).toNat<(Aj s).length:=by
      rw[show(Aj s).length=s.vers.length by simp[Aj]];exact Hd (by omega)
     exact List.mem_iff_getElem.2 ⟨_,by simpa using hlt,List.getElem_set_self _⟩
   constructor
   .rintro⟨m,hm,k1,k2,k3⟩
    rw[h2] at hm
    cases hm
    refine⟨(k1.2.1 o ho).2.2.1,⟨a1,a2,a3,a4,h3,h4,k1⟩,b,fun q hq=>?_,fun x hx=>(Pj h5 h6 (d x hx)).2 (k3 x hx)⟩
    obtain⟨i,hi,rfl⟩:=List.mem_iff_getElem.1 hq
    exact k2 i hi
   .rintro⟨_,⟨b1,b2,b3,b4,b5,b6,b7⟩,_,k2,k3⟩
    exact⟨_,h2,b7,fun i hi=>k2 _ (List.getElem_mem hi),fun x hx=>(Pj (l:=l1.map BQ) h5 h6 (d x hx)).1 (k3 x hx)⟩
  refine⟨fun hm=>?_,fun hm=>by rw[if_neg (fun g=>hm (key.2 g))]⟩
  have hg:=key.1 hm
  rw[if_pos hg]
  have hn:1≤CO o.data∧CO o.data≤100:=by
   obtain⟨b1,b2,b3,_⟩:=hg.1
   unfold CO;omega
  obtain⟨r1,r2⟩:=NM e hn
  unfold EM
  rw[←hl1]
  by_cases c1:FA (AB s) s.blocks (CO o.data)<0
  .rw[if_neg (fun g=>(r1.1 g) c1),if_pos c1]
  .rw[if_pos (r1.2 c1),if_neg c1,r2 c1]
end Go.Abs
namespace Go.Abs
theorem To {l:List Obj} {g:Gr} (b:Int) (hg:A3 g):(Fx l b g).data.size≤751∧Dc (Fx l b g):=by
 unfold Fx
 rw[I9]
 split
 .have:=GY hg;exact⟨by omega,Q5 this⟩
 .have:=GZ (Dd l b) hg;exact⟨by omega,Q5 this⟩
theorem Ek:AS AD∧Bk AD:=⟨⟨by simp[AD],by simp[AD],by simp[AD]⟩,fun x hx=>by simp[AD] at hx⟩
theorem Xf {l:List Bg} {i:Nat} {a:Int} {v:Bg} (h:v∈HV l i a):∃u∈l,v.data=u.data:=by
 unfold HV at h
 split at h
 .rename_i w hw
  rcases List.mem_or_eq_of_mem_set h with h|h
  .exact⟨v,h,rfl⟩
  .subst h;exact⟨w,List.mem_of_getElem? hw,rfl⟩
 .exact⟨v,h,rfl⟩
theorem U1 {s:Ax} {o:Obj} {p:Int} (hs:AS s) (hx:Bk s) (ho:o.data.data.size<1000000000) (hn:s.vers.length<999999999):AS (Eh s o p).1∧Bk (Eh s o p).1:=by
 unfold Eh
 split
 .exact Ek
 .rename_i l i e
  split
  .split
   .have hl:l.length<1000000000∧∀v∈l,v.data.data.size<1000000000:=by
     unfold EV at e
     split at e
     .split at e
      .simp at e
      .simp at e
       rw[←e.1]
       refine⟨by simp;omega,fun v hv=>?_⟩
       rcases List.mem_append.1 hv with h|h
       .exact hs.2.2 v h
       .simp at h;subst h;simp[EU]
     .simp at e
      rw[←e.1]
      exact⟨by omega,hs.2.2⟩
    refine⟨⟨by simp only[Iz,Lw];exact hl.1,hs.2.1,fun v hv=>?_⟩,hx⟩
    obtain⟨u,hu,e2⟩:=Xf hv
    rw[e2]
    exact Pb hl.2 ho u hu
   .exact Ek
  .exact Ek
theorem Tp {s:Ax} {id:Int} (hs:AS s) (hx:Bk s):AS (CC s id).1∧Bk (CC s id).1:=by
 unfold CC
 split
 .exact Ek
 .split
  .exact Ek
  .refine⟨⟨?_,hs.2.1,fun v hv=>hs.2.2 v (List.mem_of_mem_eraseIdx hv)⟩,hx⟩
   have h1:=hs.1
   have h2:=List.length_eraseIdx_le s.vers (AG (fun v=>decide (v.id=id)) s.vers).toNat
   simp only;omega
end Go.Abs
set_option maxRecDepth 100000
namespace Go.Abs
open Go.Proofs
def ku (o:Obj):Prop:=o.data.data.size<1000000000∧Wf o.id
end Go.Abs
namespace Go.Abs
theorem Ja (l:List Obj):∀(k:Nat) (id:Int),AN l k id=(AN l (k+1) id).take k
 |0,_=>by simp[AN]
 |k+1,id=>by
  rw[AN,AN]
  by_cases h:id=0
  .simp[h]
  .rw[if_neg h,if_neg h]
   cases e:AX l id with
   |none=>simp
   |some o=>simp only[List.take_succ_cons];rw[Ja l k o.base]
theorem Mf {l:List Obj} {id:Int} {o:Obj} (h:AX l id=some o) (h0:id≠0) (k:Nat):AN l (k+1) id=o::AN l k o.base:=by
 rw[AN,if_neg h0,h]
theorem Wh (l:List Obj) (k:Nat):AN l k 0=[]:=by cases k<;>simp[AN]
theorem HY {l:List Obj} {id:Int} {o:Obj} (h:AX l id=some o) (h0:id≠0) (hb:o.base=0):AQ l id=(1,0)∧AP l id=match BN (Aw o.data) with|some g=>(g,0) |none=>(AO,9):=by
 have e:∀k,AN l (k+1) id=[o]:=fun k=>by rw[Mf h h0,hb,Wh]
 have hd:AQ l id=(1,0):=by unfold AQ;rw[h];simp only[e];simp
 refine⟨hd,?_⟩
 unfold AP
 rw[hd,e,if_neg (by simp)]
 simp only[C3,if_pos hb]
 cases BN (Aw o.data)<;>rfl
theorem E6 {l:List Obj} {id:Int} {o:Obj} (h:AX l id=some o) (h0:id≠0) (hh:Cz l o.base):((AQ l id).2=0↔(AQ l o.base).2=0∧(AQ l o.base).1<3)∧((AQ l id).2=0→(AQ l id).1=(AQ l o.base).1+1):=by
 obtain⟨q,hq⟩:=CL.1 hh
 have e3:(AN l 3 o.base).length=min 3 (AN l 4 o.base).length:=by rw[Ja l 3];simp
 unfold AQ
 rw[h,hq]
 simp only[Mf h h0 3,List.length_cons]
 by_cases c1:3<(AN l 4 o.base).length
 .rw[if_pos c1,if_pos (by omega)];simp
 .rw[if_neg c1]
  by_cases c2:3<(AN l 3 o.base).length+1
  .rw[if_pos c2];simp;omega
  .rw[if_neg c2];simp;omega
theorem E7 {l:List Obj} {id:Int} (h:(AP l id).2=0):(AQ l id).2=0:=by
 unfold AP at h
 by_cases c:(AQ l id).2≠0
 .rw[if_pos c] at h;exact absurd h c
 .omega
theorem Pk {l:List Obj} {id:Int} {o:Obj} (h:AX l id=some o) (h0:id≠0) (hb:o.base≠0) (hh:Cz l o.base) (hd:(AQ l id).2=0):AP l id=if (AP l o.base).2=0 then(match BX (AP l o.base).1 (Aw o.data) with|some g=>(g,(0:Int)) |none=>(AO,(9:Int))) else(AO,(9:Int)):=by
 obtain⟨q,hq⟩:=CL.1 hh
 have e3:(AN l 3 o.base).length=min 3 (AN l 4 o.base).length:=by rw[Ja l 3];simp
 have hd2:=((E6 h h0 hh).1.1 hd)
 have hlen:(AN l 4 o.base).length<3:=by
  have:=hd2.2
  have h2:=hd2.1
  unfold AQ at this h2
  rw[hq] at this h2
  by_cases c:3<(AN l 4 o.base).length
  .simp only[if_pos c] at h2;simp at h2
  .simp only[if_neg c] at this;omega
 have e4:AN l 2 o.base=(AN l 3 o.base).take 2:=Ja l 2 o.base
 have e2:AN l 2 o.base=AN l 3 o.base:=by rw[e4,List.take_of_length_le (by omega)]
 have e5:AP l o.base=match C3 BN BX (AN l 3 o.base) with|some g=>(g,0) |none=>(AO,9):=by unfold AP;rw[if_neg (fun g=>g hd2.1)];cases C3 BN BX (AN l 3 o.base)<;>rfl
 have e6:AP l id=match C3 BN BX (AN l 3 id) with|some g=>(g,0) |none=>(AO,9):=by unfold AP;rw[if_neg (fun g=>g hd)];cases C3 BN BX (AN l 3 id)<;>rfl
 rw[e5,e6,Mf h h0 2,e2]
 simp only[C3,if_neg hb]
 cases C3 BN BX (AN l 3 o.base) with
 |none=>rfl
 |some a=>rw[if_pos rfl]
theorem Le {l:List Obj} {i:Nat} (hi:i<l.length) {id:Int} (h:l[i].id≠id):AX (l.eraseIdx i) id=AX l id:=by
 have e:l=l.take i++l[i]::l.drop (i+1):=by rw[←List.drop_eq_getElem_cons hi,List.take_append_drop]
 rw[List.eraseIdx_eq_take_drop_succ]
 conv=>rhs;rw[e]
 unfold AX
 rw[List.find?_append,List.find?_append,List.find?_cons]
 simp[h]
theorem RO {α:Type} {l:List α} {i:Nat} (hi:i+1<l.length):(l.eraseIdx i).getLast?=l.getLast?:=by
 rw[List.eraseIdx_eq_take_drop_succ]
 have e:l.drop (i+1)≠ []:=by simp;omega
 have e2:l=l.take (i+1)++l.drop (i+1):=(List.take_append_drop _ _).symm
 conv=>rhs;rw[e2]
 rw[List.getLast?_append,List.getLast?_append]
 cases h:(l.drop (i+1)).getLast? with
 |none=>exact absurd (List.getLast?_eq_none_iff.1 h) e
 |some x=>rfl
theorem KS {s:Ax} {id:Int} (h:¬AG (fun v=>decide (v.id=id)) s.vers<0):∃hk:(AG (fun v=>decide (v.id=id)) s.vers).toNat<s.vers.length,s.vers[(AG (fun v=>decide (v.id=id)) s.vers).toNat].id=id:=by
 cases e:s.vers.findIdx? (fun v=>decide (v.id=id)) with
 |none=>exact absurd (by unfold AG;rw[e];decide) h
 |some j=>
  obtain⟨hj,hp,_⟩:=List.findIdx?_eq_some_iff_getElem.1 e
  have hi:(AG (fun v=>decide (v.id=id)) s.vers).toNat=j:=by unfold AG;rw[e];simp
  exact⟨by rw[hi];exact hj,by simp only[hi];simpa using hp⟩
theorem U2 {s:Ax} {id:Int} (h:A5 s) (he:(CC s id).2=0):A5 (CC s id).1∧∀i,i≠0→i∈(CC s id).1.vers.map (fun v=>v.id)→AP (Aj (CC s id).1) i=AP (Aj s) i:=by
 unfold CC at he ⊢
 by_cases c1:AG (fun v=>decide (v.id=id)) s.vers<0
 .rw[if_pos c1] at he;simp at he
 rw[if_neg c1] at he ⊢
 by_cases c2:id=A7 s.vers∨pinned s id=true∨Hu s id=true
 .rw[if_pos c2] at he;simp at he
 rw[if_neg c2]
 obtain⟨hk,Bm⟩:=KS c1
 obtain⟨k,hkd⟩:∃k,k=(AG (fun v=>decide (v.id=id)) s.vers).toNat:=⟨_,rfl⟩
 simp only[←hkd] at hk Bm ⊢
 have c3:id≠A7 s.vers:=fun g=>c2 (.inl g)
 have c4:∀x∈s.sess,x.pin≠id:=fun x hx g=>c2 (.inr (.inl (List.any_eq_true.2 ⟨x,hx,by simpa using g⟩)))
 have c5:∀v∈s.vers,v.base≠id:=fun v hv g=>c2 (.inr (.inr (List.any_eq_true.2 ⟨v,hv,by simpa using g⟩)))
 obtain⟨⟨⟨a1,a2,a3,a4,a5,a6,a7⟩,b,c,d⟩,e⟩:=h
 have hk1:k+1<s.vers.length:=by
  rcases Nat.lt_or_ge (k+1) s.vers.length with h|h
  .exact h
  .exfalso;apply c3
   unfold A7
   have:s.vers.getLast?=some s.vers[k]:=by rw[List.getLast?_eq_getElem?,show s.vers.length-1=k by omega,List.getElem?_eq_getElem]
   rw[this];exact Bm.symm
 have hlast:=RO hk1
 have hl:A7 (s.vers.eraseIdx k)=A7 s.vers:=by unfold A7;rw[hlast]
 have hm:∀v∈s.vers.eraseIdx k,v∈s.vers:=fun v hv=>List.mem_of_mem_eraseIdx hv
 have hle:(s.vers.eraseIdx k).length≤s.vers.length:=List.length_eraseIdx_le ..
 have eo:Aj {s with vers:=s.vers.eraseIdx k}=(Aj s).eraseIdx k:=by simp[Aj,List.eraseIdx_eq_take_drop_succ,List.map_take,List.map_drop]
 have hko:k<(Aj s).length:=by simpa[Aj] using hk
 have hoi:(Aj s)[k].id=id:=by simpa[Aj,BQ] using Bm
 have hheld:∀i,i≠id→Cz (Aj s) i→Cz ((Aj s).eraseIdx k) i:=fun i hi hh=>by
  obtain⟨q,hq⟩:=CL.1 hh
  exact CL.2 ⟨q,by rw[Le hko (by rw[hoi];exact fun g=>hi g.symm)];exact hq⟩
 have hof:∀i,i≠0→i≠id→Cz (Aj s) i→AP ((Aj s).eraseIdx k) i=AP (Aj s) i:=fun i h0 hi hh=>
  (Th (fun j=>j≠id) (fun j hj _=>(Le hko (by rw[hoi];exact fun g=>hj g.symm)).symm) (fun j o hj _ ho=>by
    obtain⟨v,hv,rfl⟩:=List.mem_map.1 (Ex ho).1
    exact c5 v hv) hi h0).symm
 have hup:(s.vers.map fun v=>v.id).Pairwise (·<·):=by rw[←Hv,List.pairwise_map];exact a7.2.2
 have hne:∀v∈s.vers.eraseIdx k,v.id≠id:=fun v hv g=>by
  obtain⟨j,hj,rfl⟩:=List.mem_iff_getElem.1 hv
  rw[List.getElem_eraseIdx] at g
  have key:∀(j:Nat) (hj:j<s.vers.length),s.vers[j].id=id→j=k:=fun j hj g=>by
   have hp:=List.pairwise_iff_getElem.1 hup
   rcases Nat.lt_trichotomy j k with h|h|h
   .have:=hp j k (by simpa using hj) (by simpa using hk) h;simp at this;omega
   .exact h
   .have:=hp k j (by simpa using hk) (by simpa using hj) h;simp at this;omega
  split at g
  .have:=key j (by omega) g;omega
  .have:=key (j+1) (by rw[List.length_eraseIdx] at hj;split at hj<;>omega) g;omega
 have hids:∀i,i≠id→i∈s.vers.map (fun v=>v.id)→i∈(s.vers.eraseIdx k).map fun v=>v.id:=fun i hi hmem=>by
  have:=hheld i hi ((Gl s i).2 hmem)
  rw[←eo] at this
  exact(Gl _ i).1 this
 refine⟨⟨⟨⟨a1,a2,a3,a4,fun v hv=>a5 v (hm v hv),?_,?_⟩,b,?_,?_⟩,?_⟩,?_⟩
 .show Dm (s.vers.eraseIdx k)=false
  unfold Dm;rw[hlast];exact a6
 .rw[eo]
  refine⟨by have:=a7.1;have:=List.length_eraseIdx_le (Aj s) k;omega,fun o ho=>?_,a7.2.2.sublist (List.eraseIdx_sublist _ _)⟩
  have ho' :=List.mem_of_mem_eraseIdx ho
  obtain⟨k1,k2,k3,k4,k5⟩:=a7.2.1 o ho'
  refine⟨k1,k2,k3,k4,k5.imp _root_.id fun hh=>hheld _ ?_ hh⟩
  obtain⟨v,hv,rfl⟩:=List.mem_map.1 ho'
  exact c5 v hv
 .rw[eo]
  intro o ho
  have ho' :=List.mem_of_mem_eraseIdx ho
  have hoid:o.id≠id:=by
   rw[←eo] at ho
   obtain⟨v,hv,rfl⟩:=List.mem_map.1 ho
   exact hne v hv
  have:=(a7.2.1 o ho').1
  rw[hof o.id (by omega) hoid ⟨o,ho',rfl⟩]
  exact c o ho'
 .intro x hx
  have hd:=d x hx
  have hxp:=c4 x hx
  rw[eo]
  unfold AI at hd ⊢
  by_cases co:x.opn=false
  .rw[if_pos co] at hd ⊢;exact hd
  rw[if_neg co] at hd ⊢
  obtain⟨h1,h2,h3⟩:=hd
  refine⟨?_,?_,?_⟩
  .refine h1.imp _root_.id fun hh=>?_
   have:=hids x.pin hxp ((Ix _ _).1 hh)
   exact(Ix _ _).2 this
  .show if x.on=true then 0≤x.frm∧x.frm≤A7 (s.vers.eraseIdx k)∧A3 x.stage else x.frm=0∧x.stage=AO
   rw[hl];exact h2
  .refine h3.imp _root_.id fun⟨g1,g2⟩=>?_
   have hh:Cz (Aj s) x.pin:=(Gl s x.pin).2 ((Ix _ _).1 (h1.resolve_left g1))
   rw[hof x.pin g1 hxp hh];exact⟨g1,g2⟩
 .obtain⟨e1,e2,e3,e4,e5⟩:=e
  have ep:AB {s with vers:=s.vers.eraseIdx k}=(AB s).eraseIdx k:=by simp[AB,List.eraseIdx_eq_take_drop_succ,List.map_take,List.map_drop]
  show Cl (AB {s with vers:=s.vers.eraseIdx k}) s.blocks
  rw[ep]
  exact⟨e1,e2,by have:=List.length_eraseIdx_le (AB s) k;omega,fun x hx=>e4 x (List.mem_of_mem_eraseIdx hx),e5.sublist (List.eraseIdx_sublist _ _)⟩
 .intro i h0 hi
  rw[eo]
  obtain⟨v,hv,rfl⟩:=List.mem_map.1 hi
  exact hof _ h0 (hne v hv) ((Gl s _).2 (List.mem_map.2 ⟨v,hm v hv,rfl⟩))
end Go.Abs
namespace Go.Abs
theorem Jb:∀(t:List Bool) (i a:Int),a≤i→∀x∈Bx t i a,∀j:Nat,x.1≤i+j→i+j<x.1+x.2→t[j]?=some false
 | [],i,a,h,x,hx,j,h1,h2=>by
   simp only[Bx] at hx
   split at hx
   .simp at hx;subst hx;simp at h1 h2;omega
   .simp at hx
 |true::t,i,a,h,x,hx,j,h1,h2=>by
  simp only[Bx,List.mem_append] at hx
  rcases hx with hx|hx
  .split at hx
   .simp at hx;subst hx;simp at h1 h2;omega
   .simp at hx
  .have hp:=GL t (i+1) (i+1) (Int.le_refl _) x hx
   cases j with
   |zero=>omega
   |succ j=>simpa using Jb t (i+1) (i+1) (Int.le_refl _) x hx j (by omega) (by omega)
 |false::t,i,a,h,x,hx,j,h1,h2=>by
  simp only[Bx] at hx
  cases j with
  |zero=>rfl
  |succ j=>simpa using Jb t (i+1) a (by omega) x hx j (by omega) (by omega)
theorem Tq {l:List (Int×Int)} {b n a:Int} (h:DV l b n=(a,0)):1≤n∧0≤a∧a+n≤b∧∀i,a≤i→i<a+n→Eu l i=false:=by
 unfold DV at h
 split at h
 .rename_i hp
  split at h
  .rename_i x hx
   simp at h;subst h
   have hm:=List.mem_of_find?_eq_some hx
   have hn:=List.find?_some hx
   simp only[decide_eq_true_eq] at hn
   have hps:=GL _ _ _ (Int.le_refl _) x hm
   simp at hps
   have hb:=hp.1.1
   refine⟨hp.2.1,by omega,by omega,fun i h1 h2=>?_⟩
   have:=Jb _ _ _ (Int.le_refl _) x hm i.toNat (by omega) (by omega)
   have hi:i.toNat<b.toNat:=by omega
   simp[BI,hi] at this
   have e:i=max i 0:=by omega
   rw[e];exact this
  .simp at h
 .simp at h
theorem Xg {s:Ax} (h:Cf (Aj s)):(s.vers.map fun v=>v.id).Pairwise (·<·):=by rw[←Hv,List.pairwise_map];exact h.2.2
def eZ (s:Ax) (o:Obj) (p a:Int):Ax:={s with vers:=s.vers++[⟨o.id,p,o.base,o.data,a,false,false⟩]}
end Go.Abs
namespace Go.Abs
theorem NN {l:List Obj} (hp:l.Pairwise fun a b=>a.id<b.id) {i:Nat} (hi:i<l.length) {o:Obj} (ho:o.id=l[i].id) (j:Int):AX (l.set i o) j=if j=o.id then some o else AX l j:=by
 have e:l=l.take i++l[i]::l.drop (i+1):=by rw[←List.drop_eq_getElem_cons hi,List.take_append_drop]
 have e2:l.set i o=l.take i++o::l.drop (i+1):=by rw[List.set_eq_take_append_cons_drop,if_pos hi]
 have hn:∀q∈l.take i,q.id≠o.id:=fun q hq g=>by
  obtain⟨k,hk,rfl⟩:=List.mem_iff_getElem.1 hq
  simp only[List.length_take] at hk
  have:=List.pairwise_iff_getElem.1 hp k i (by omega) hi (by omega)
  simp at g;omega
 by_cases h:j=o.id
 .rw[if_pos h,e2]
  unfold AX
  have h1:(l.take i).find? (fun q=>decide (q.id=j))=none:=List.find?_eq_none.2 fun q hq=>by simpa[h] using hn q hq
  rw[List.find?_append,h1,List.find?_cons,decide_eq_true h.symm];rfl
 .rw[if_neg h,e2]
  conv=>rhs;rw[e]
  unfold AX
  rw[List.find?_append,List.find?_append,List.find?_cons,List.find?_cons,decide_eq_false (fun g=>h g.symm),decide_eq_false (fun g=>h (by rw[ho];exact g.symm))]
theorem Pl {l:List Obj} (hp:l.Pairwise fun a b=>a.id<b.id) {i:Nat} (hi:i<l.length):AX l l[i].id=some l[i]:=by
 have:=NN hp hi (o:=l[i]) rfl l[i].id
 rwa [List.set_getElem_self,if_pos rfl] at this
theorem GM {l:List Obj} {j:Int} {o:Obj} (h:AX l j=some o) (h0:j≠0) (hd:(AQ l j).2=0):1≤(AQ l j).1∧(AQ l j).1≤3:=by
 unfold AQ at hd ⊢
 rw[h] at hd ⊢
 simp only at hd ⊢
 by_cases c:3<(AN l 4 j).length
 .rw[if_pos c] at hd;simp at hd
 .rw[if_neg c]
  simp only
  rw[Mf h h0 3] at c ⊢
  simp at c ⊢;omega
theorem Jc {l:List Obj} (hl:Cf l) (hall:∀o∈l,(AP l o.id).2=0) (id:Int):∀(n:Nat) (j:Int),Cz l j→0≤AG (fun o:Obj=>decide (o.id=id)) (AN l n j)→(AQ l j).1=AG (fun o:Obj=>decide (o.id=id)) (AN l n j)+(AQ l id).1
 |0,j,_,h=>by simp[AN,AG] at h
 |n+1,j,hj,h=>by
  obtain⟨o,ho⟩:=CL.1 hj
  obtain⟨hm,hi⟩:=Ex ho
  have hpos:=(hl.2.1 o hm).1
  have h0:j≠0:=by omega
  rw[Mf ho h0] at h ⊢
  unfold AG at h ⊢
  rw[List.findIdx?_cons] at h ⊢
  by_cases c:o.id=id
  .rw[decide_eq_true c];simp[←c,hi]
  .rw[decide_eq_false c] at h ⊢
   simp only[Bool.false_eq_true,if_false] at h ⊢
   by_cases hb:o.base=0
   .rw[hb,Wh] at h;simp at h
   .have hh:=(hl.closed o hm).resolve_left hb
    have hd:=E7 (hall o hm)
    rw[hi] at hd
    have h2:=(E6 ho h0 hh).2 hd
    have ih:=Jc hl hall id n o.base hh
    unfold AG at ih
    cases e:(AN l n o.base).findIdx? fun o=>decide (o.id=id) with
    |none=>rw[e] at h;simp at h
    |some k=>
     rw[e] at ih
     simp only[Option.map_some] at ih ⊢
     have:=ih (by omega)
     omega
section
variable {l:List Obj} {i:Nat} {q:Obj}
theorem HZ (hl:Cf l) (hall:∀o∈l,(AP l o.id).2=0) (hi:i<l.length) (hb:l[i].base≠0) (hq:AX l l[i].base=some q):(AQ l l[i].id).2=0∧(AQ l l[i].id).1≤3∧(q.base=0→(AQ l l[i].id).1=2)∧(q.base≠0→Cz l q.base∧(AQ l q.base).2=0∧1≤(AQ l q.base).1∧(AQ l l[i].id).1=(AQ l q.base).1+2):=by
 have hm:=List.getElem_mem hi
 have hpos:=(hl.2.1 _ hm).1
 obtain⟨qm,qi⟩:=Ex hq
 have qpos:=(hl.2.1 q qm).1
 have hf:=Pl hl.2.2 hi
 have hd:=E7 (hall _ hm)
 have hdq:=E7 (hall _ qm)
 have hp:=GM hf (by omega) hd
 have h1:=(E6 hf (by omega) ⟨q,qm,qi⟩).2 hd
 refine⟨hd,hp.2,fun h=>?_,fun h=>?_⟩
 .have:=(HY hq (by omega) h).1
  rw[this] at h1;simpa using h1
 .have hh:=(hl.closed q qm).resolve_left h
  rw[qi] at hdq
  have h2:=(E6 hq (by omega) hh).2 hdq
  obtain⟨r,hr⟩:=CL.1 hh
  obtain⟨rm,ri⟩:=Ex hr
  have rpos:=(hl.2.1 r rm).1
  have hdr:=E7 (hall _ rm)
  rw[ri] at hdr
  have:=GM hr h hdr
  exact⟨hh,hdr,this.1,by omega⟩
theorem RP (hl:Cf l) (hall:∀o∈l,(AP l o.id).2=0) (hi:i<l.length) (hb:l[i].base≠0) (hq:AX l l[i].base=some q) (n:Nat):(q.base≠0→AG (fun o:Obj=>decide (o.id=l[i].id)) (AN l n q.base)<0)∧∀o∈l,AG (fun o:Obj=>decide (o.id=l[i].id)) (AN l n o.id)+(if q.base=0 then 1 else(AQ l q.base).1+1)≤3:=by
 obtain⟨d1,d2,d3,d4⟩:=HZ hl hall hi hb hq
 have hge:∀w:List Obj,-1≤AG (fun o:Obj=>decide (o.id=l[i].id)) w:=fun w=>by unfold AG;split<;>omega
 refine⟨fun h=>?_,fun o ho=>?_⟩
 .obtain⟨k1,k2,k3,k4⟩:=d4 h
  rcases Int.lt_or_le (AG (fun o:Obj=>decide (o.id=l[i].id)) (AN l n q.base)) 0 with g|g
  .exact g
  .have:=Jc hl hall l[i].id n q.base k1 g;omega
 .have hpos:=(hl.2.1 o ho).1
  have hd:=E7 (hall o ho)
  obtain⟨o',ho'⟩:=CL.1 (show Cz l o.id from ⟨o,ho,rfl⟩)
  have hp:=GM ho' (by omega) hd
  have:=hge (AN l n o.id)
  rcases Int.lt_or_le (AG (fun o:Obj=>decide (o.id=l[i].id)) (AN l n o.id)) 0 with g|g
  .split
   .omega
   .rename_i h;have:=d4 h;omega
  .have:=Jc hl hall l[i].id n o.id ⟨o,ho,rfl⟩ g
   split
   .rename_i h;have:=d3 h;omega
   .rename_i h;have:=d4 h;omega
def Dz (l:List Obj) (o:Obj) (b:Int):Obj:=⟨o.id,b,Fx l b (AP l o.id).1⟩
theorem Lf (hl:Cf l) (hall:∀o∈l,(AP l o.id).2=0) (hi:i<l.length) (hb:l[i].base≠0) (hq:AX l l[i].base=some q):Cf (l.set i (Dz l l[i] q.base))∧∀j,Cz l j→AP (l.set i (Dz l l[i] q.base)) j=AP l j:=by
 obtain⟨d1,d2,d3,d4⟩:=HZ hl hall hi hb hq
 have hm:=List.getElem_mem hi
 have hme:=hl.2.1 _ hm
 have hf:=Pl hl.2.2 hi
 obtain⟨o',ho'⟩:∃o',o' =Dz l l[i] q.base:=⟨_,rfl⟩
 have oi:o'.id=l[i].id:=by rw[ho'];rfl
 have ob:o'.base=q.base:=by rw[ho'];rfl
 have od:o'.data=Fx l q.base (AP l l[i].id).1:=by rw[ho'];rfl
 rw[←ho']
 obtain⟨x,hx⟩:∃x,x=l.set i o' :=⟨_,rfl⟩
 have hset:=NN hl.2.2 hi (o:=o') oi
 rw[←hx,oi] at hset
 rw[←hx]
 have hids:x.map (fun o=>o.id)=l.map fun o=>o.id:=by
  rw[hx,List.map_set]
  refine List.ext_getElem? fun j=>?_
  rw[List.getElem?_set]
  split
  .rename_i h;subst h;simp[hi,oi]
  .rfl
 have hheld:∀j,Cz x j↔Cz l j:=fun j=>by
  have:∀m:List Obj,Cz m j↔j∈m.map fun o=>o.id:=fun m=>by simp[Cz]
  rw[this,this,hids]
 have key:∀(n:Nat) (j:Int),Cz l j→(AQ l j).1≤n→AP x j=AP l j∧(AQ x j).2=0∧(AQ x j).1≤(AQ l j).1:=by
  intro n
  induction n with
  |zero=>
   intro j hj hn
   obtain⟨p,hp⟩:=CL.1 hj
   obtain⟨pm,pi⟩:=Ex hp
   have:=(hl.2.1 p pm).1
   have hd:=E7 (hall p pm)
   rw[pi] at hd
   have:=GM hp (by omega) hd
   omega
  |succ n ih=>
   intro j hj hn
   obtain⟨p,hp⟩:=CL.1 hj
   obtain⟨pm,pi⟩:=Ex hp
   have ppos:=(hl.2.1 p pm).1
   have j0:j≠0:=by omega
   have hd:=E7 (hall p pm)
   have hok:=hall p pm
   rw[pi] at hd hok
   have hs:=hset j
   by_cases c:j=l[i].id
   .have hs:AX x j=some o' :=by rw[hs,if_pos c]
    have hg:AP l j=((AP l l[i].id).1,0):=by rw[c];exact Prod.ext rfl (hall _ hm)
    by_cases hb0:q.base=0
    .obtain⟨e1,e2⟩:=HY hs j0 (by rw[ob];exact hb0)
     rw[e1]
     refine⟨?_,rfl,by have:=GM hp j0 hd;simp only;omega⟩
     rw[e2,hg]
     rw[od]
     simp only[hb0,Fx,if_true]
     rw[Mb,RM (Dd _ _)]
    .obtain⟨k1,k2,k3,k4⟩:=d4 hb0
     rw[←c] at k4
     obtain⟨g1,g2,g3⟩:=ih q.base k1 (by omega)
     have hd3:(AQ l j).1≤3:=by rw[c];exact d2
     have hhx:Cz x o'.base:=by rw[ob];exact(hheld q.base).2 k1
     have hdb:=E6 hs j0 hhx
     have hdx:=hdb.1.2 (by rw[ob];exact⟨g2,by omega⟩)
     have hdy:=hdb.2 hdx
     rw[ob] at hdy
     refine⟨?_,hdx,by omega⟩
     rw[Pk hs j0 (by rw[ob];exact hb0) hhx hdx,ob,od]
     have hqok:(AP l q.base).2=0:=by
      obtain⟨r,rm,ri⟩:=k1
      rw[←ri];exact hall r rm
     rw[g1,if_pos hqok,hg]
     simp only[Fx,if_neg hb0]
     rw[Mb,RN (Dd _ _) (Dd _ _)]
   .have hs:AX x j=some p:=by rw[hs,if_neg c];exact hp
    by_cases hb0:p.base=0
    .obtain⟨e1,e2⟩:=HY hs j0 hb0
     obtain⟨e3,e4⟩:=HY hp j0 hb0
     rw[e1,e2,e3,e4]
     exact⟨rfl,rfl,Int.le_refl _⟩
    .have hh:=(hl.closed p pm).resolve_left hb0
     have hdl:=(E6 hp j0 hh).2 hd
     have hdl1:=(E6 hp j0 hh).1.1 hd
     obtain⟨g1,g2,g3⟩:=ih p.base hh (by omega)
     have hhx:=(hheld p.base).2 hh
     have hdb:=E6 hs j0 hhx
     have hdx:=hdb.1.2 ⟨g2,by omega⟩
     have hdy:=hdb.2 hdx
     refine⟨?_,hdx,by omega⟩
     rw[Pk hs j0 hb0 hhx hdx,Pk hp j0 hb0 hh hd,g1]
 refine⟨⟨by rw[hx];simp;exact hl.1,fun o ho=>?_,?_⟩,fun j hj=>(key (AQ l j).1.toNat j hj (by omega)).1⟩
 .rw[hx] at ho
  have hcl:∀b,b=0∨Cz l b→b=0∨∃r∈x,r.id=b:=fun b h=>h.imp id fun h=>(hheld b).2 h
  rcases List.mem_or_eq_of_mem_set ho with h|h
  .obtain⟨k1,k2,k3,k4,k5⟩:=hl.2.1 o h
   exact⟨k1,k2,k3,k4,hcl _ k5⟩
  .subst h
   rw[oi,ob,od]
   refine⟨hme.1,hme.2.1,(To _ (Dd _ _)).2,?_,hcl _ ?_⟩
   .intro e
    have hne:q.base≠0:=by omega
    have:=(d4 hne).2.2.2
    rw[e] at this;omega
   .by_cases h:q.base=0
    .exact .inl h
    .exact .inr (d4 h).1
 .have:(l.map fun o=>o.id).Pairwise (·<·):=List.pairwise_map.2 hl.2.2
  rw[←hids] at this
  exact List.pairwise_map.1 this
end
end Go.Abs
namespace Go.Abs
def El (l:List Obj) (b:Int):Int:=match AX l b with|some q=>q.base|none=>0
def B1 (s:Ax) (k id:Int):Ax×Int:=
 if¬(k=1∨k=2) then(AD,1) else if AG (fun v=>decide (v.id=id)) s.vers<0 then(AD,3) else if k=1 then CC s id else
 match s.vers[(AG (fun v=>decide (v.id=id)) s.vers).toNat]? with
 |none=>(AD,6)
 |some v=>if v.base=0 then(AD,6) else EM s (Dz (Aj s) (BQ v) (El (Aj s) v.base)) 0
def Dt (s:Ax) (id:Int):Int×Int:=match s.vers.find? fun v=>decide (v.base=id) with|some v=>(2,v.id) |none=>(1,id)
def Bl (s:Ax):Int×Int:=match (C7 s false).find? fun id=>decide ((B1 s (Dt s id).1 (Dt s id).2).2=0) with|some id=>Dt s id|none=>(0,0)
def BF (s:Ax):Nat→List Ax
 |0=> []
 |n+1=>if (Bl s).1=0 then [] else(B1 s (Bl s).1 (Bl s).2).1::BF (B1 s (Bl s).1 (Bl s).2).1 n
theorem Tr {l:List (Int×Int)} {b n a:Int} {i:Nat} (h:DV l b n=(a,0)) (hp:Cl l b):Cl (l.set i (a,n)) b:=by
 obtain⟨h1,h2,h3,h4⟩:=Tq h
 obtain⟨p1,p2,p3,p4,p5⟩:=hp
 have hap:=(JA (l:=l) (x:=(a,n)) (fun y hy=>(p4 y hy).2.1) h1).2 ⟨p5,h4⟩
 rw[List.pairwise_append] at hap
 have hy:∀y∈l,apart y (a,n):=fun y hy=>hap.2.2 y hy _ (by simp)
 have hsy:∀x y:Int×Int,apart x y→apart y x:=fun x y h g=>h ⟨g.2,g.1⟩
 refine⟨p1,p2,by simpa using p3,fun x hx=>?_,List.pairwise_iff_getElem.2 fun j k hj hk hjk=>?_⟩
 .rcases List.mem_or_eq_of_mem_set hx with hx|hx
  .exact p4 x hx
  .subst hx;exact⟨h2,h1,h3⟩
 .simp only[List.length_set] at hj hk
  rw[List.getElem_set,List.getElem_set]
  split
  .split
   .omega
   .exact hsy _ _ (hy _ (List.getElem_mem hk))
  .split
   .exact hy _ (List.getElem_mem hj)
   .exact List.pairwise_iff_getElem.1 p5 j k hj hk hjk
theorem Xh {s:Ax} (h:Cf (Aj s)) {i:Nat} (hi:i<s.vers.length):AG (fun v=>decide (v.id=s.vers[i].id)) s.vers=(i:Int):=by
 refine DB hi (by simp) fun j hj hlt=>?_
 have:=List.pairwise_iff_getElem.1 (Xg h) j i (by simpa using hj) (by simpa using hi) hlt
 simp at this ⊢;omega
theorem LA {s:Ax} (h:A5 s) {i:Nat} (hi:i<s.vers.length) (hb:s.vers[i].base≠0):
 Eh s (Dz (Aj s) (BQ s.vers[i]) (El (Aj s) s.vers[i].base)) 0=EM s (Dz (Aj s) (BQ s.vers[i]) (El (Aj s) s.vers[i].base)) 0∧
 (EM s (Dz (Aj s) (BQ s.vers[i]) (El (Aj s) s.vers[i].base)) 0=(AD,5)∨∃y a,EM s (Dz (Aj s) (BQ s.vers[i]) (El (Aj s) s.vers[i].base)) 0=(y,0)∧A5 y∧
   y={s with vers:=s.vers.set i {s.vers[i] with base:=El (Aj s) s.vers[i].base,data:=Fx (Aj s) (El (Aj s) s.vers[i].base) (AP (Aj s) s.vers[i].id).1,at_:=a}}∧
   (∀j,AP (Aj y) j=AP (Aj s) j∨¬Cz (Aj s) j)):=by
 have hmy:=h.1.1.2.2.2.2.2.2
 have hall:=h.1.2.2.1
 have hio:i<(Aj s).length:=by simpa[Aj] using hi
 have eo:(Aj s)[i]=BQ s.vers[i]:=by simp[Aj]
 have hbo:(Aj s)[i].base≠0:=by rw[eo];exact hb
 obtain⟨q,hq⟩:=CL.1 ((hmy.closed _ (List.getElem_mem hio)).resolve_left hbo)
 have hqb:El (Aj s) s.vers[i].base=q.base:=by
  rw[eo] at hq;unfold El
  have:AX (Aj s) s.vers[i].base=some q:=hq
  rw[this]
 obtain⟨r1,r2⟩:=Lf hmy hall hio hbo hq
 rw[eo] at r1 r2
 rw[hqb]
 obtain⟨o,ho⟩:∃o,o=Dz (Aj s) (BQ s.vers[i]) q.base:=⟨_,rfl⟩
 rw[←ho] at r1 r2 ⊢
 have oi:o.id=s.vers[i].id:=by rw[ho];rfl
 have hidx:AG (fun v=>decide (v.id=o.id)) s.vers=(i:Int):=by rw[oi];exact Xh hmy hi
 have hheld:∀j,Cz ((Aj s).set i o) j↔Cz (Aj s) j:=fun j=>by
  have e:((Aj s).set i o).map (fun o=>o.id)=(Aj s).map fun o=>o.id:=by
   rw[List.map_set]
   refine List.ext_getElem? fun j=>?_
   rw[List.getElem?_set]
   split
   .rename_i h;subst h;simp[hio,oi,eo,BQ]
   .rfl
  have:∀m:List Obj,Cz m j↔j∈m.map fun o=>o.id:=fun m=>by simp[Cz]
  rw[this,this,e]
 have hml:J3 s o 0:=by
  refine⟨(Aj s).set i o,by unfold D9;rw[hidx,if_neg (by omega)];simp,r1,fun k hk=>?_,fun x hx=>?_⟩
  .have hh:=(hheld ((Aj s).set i o)[k].id).1 ⟨_,List.getElem_mem hk,rfl⟩
   rw[r2 _ hh]
   obtain⟨p,pm,pi⟩:=hh
   rw[←pi];exact hall p pm
  .have hx2:=h.1.2.2.2 x hx
   unfold AI at hx2 ⊢
   by_cases co:x.opn=false
   .rw[if_pos co] at hx2 ⊢;exact hx2
   rw[if_neg co] at hx2 ⊢
   refine⟨hx2.1,hx2.2.1,hx2.2.2.imp id fun⟨g1,g2⟩=>⟨g1,?_⟩⟩
   rw[r2 _ ((Gl s x.pin).2 ((Ix _ _).1 (hx2.1.resolve_left g1)))];exact g2
 have hlp:=(U0 s o 0 h).1 hml
 have hls:Pc s o 0=Eh s o 0:=by unfold Pc;rw[if_pos h]
 rw[hls] at hlp
 refine⟨hlp,?_⟩
 have er:B8 s o 0=(s.vers,i):=by unfold B8;rw[hidx,if_neg (by omega)];simp
 have elv:EV s o 0=some (s.vers,i):=by unfold EV;rw[hidx,if_neg (by omega)];simp
 have ep:Dg s.vers i o=s.vers.set i {s.vers[i] with base:=o.base,data:=o.data}:=Iy hi
 have ea:∀a,HV (Dg s.vers i o) i a=s.vers.set i {s.vers[i] with base:=o.base,data:=o.data,at_:=a}:=fun a=>by
  rw[ep,Pa (by simpa using hi)];simp
 by_cases c:FA (AB s) s.blocks (CO o.data)<0
 .left;unfold EM;rw[if_pos c]
 .right
  have e1:EM s o 0=({s with vers:=s.vers.set i {s.vers[i] with base:=o.base,data:=o.data,at_:=FA (AB s) s.blocks (CO o.data)}},0):=by
   unfold EM;rw[if_neg c,er];simp only;rw[ea]
  rw[e1] at hlp ⊢
  obtain⟨a,haf⟩:∃a,a=FA (AB s) s.blocks (CO o.data):=⟨_,rfl⟩
  rw[←haf] at hlp ⊢
  have hmost:Et {s with vers:=Dg s.vers i o}∧Dc o.data:=by
   unfold Eh at hlp
   rw[elv] at hlp
   simp only at hlp
   split at hlp
   .rename_i g;exact⟨g.2,g.1⟩
   .simp at hlp
  have hn:1≤CO o.data∧CO o.data≤100:=by
   obtain⟨b1,b2,b3,_⟩:=hmost.2
   unfold CO;omega
  obtain⟨f1,f2⟩:=NM h.2 hn
  have hfind:DV (AB s) s.blocks (CO o.data)=(a,0):=Prod.ext (by rw[f2 c,haf]) (f1.2 c)
  have eobj:Aj {s with vers:=s.vers.set i {s.vers[i] with base:=o.base,data:=o.data,at_:=a}}=(Aj s).set i o:=by
   unfold Aj
   simp only[List.map_set]
   congr 1
   cases o;simp[BQ] at oi ⊢;exact oi.symm
  refine⟨_,a,rfl,⟨?_,?_⟩,?_,?_⟩
  .refine Ti (s:={s with vers:=Dg s.vers i o}) hmost.1 ?_ ?_ ?_ rfl rfl ⟨h.1.1.2.2.1,h.1.1.2.2.2.1⟩
   .simp only[ep,List.map_set];rfl
   .intro v hv
    simp only[ep] at hv ⊢
    rcases List.mem_or_eq_of_mem_set hv with g|g
    .obtain⟨k,hk,rfl⟩:=List.mem_iff_getElem.1 g
     by_cases e:i=k
     .subst e
      exact⟨_,List.mem_iff_getElem.2 ⟨i,by simpa using hi,List.getElem_set_self _⟩,rfl,rfl,rfl,rfl⟩
     .exact⟨_,List.mem_iff_getElem.2 ⟨k,by simpa using hk,List.getElem_set_ne e _⟩,rfl,rfl,rfl,rfl⟩
    .subst g
     exact⟨_,List.mem_iff_getElem.2 ⟨i,by simpa using hi,List.getElem_set_self _⟩,rfl,rfl,rfl,rfl⟩
   .have:=hmost.1.1.2.2.2.2.2.1
    rw[←this,ep]
    refine J7 _ _ ?_
    simp only[List.map_set]
  .have e2:AB {s with vers:=s.vers.set i {s.vers[i] with base:=o.base,data:=o.data,at_:=a}}=(AB s).set i (a,CO o.data):=by simp[AB,List.map_set]
   rw[e2]
   exact Tr hfind h.2
  .rw[ho];rfl
  .intro j
   rw[eobj]
   by_cases hh:Cz (Aj s) j
   .exact .inl (r2 j hh)
   .exact .inr hh
theorem Pm {s:Ax} {k id:Int} (h:A5 s) (he:(B1 s k id).2=0):A5 (B1 s k id).1∧(B1 s k id).1.sess=s.sess∧(B1 s k id).1.blocks=s.blocks∧(B1 s k id).1.keep=s.keep∧
 (∀j,j∈(B1 s k id).1.vers.map (fun v=>v.id)→j∈s.vers.map fun v=>v.id)∧∀j,j≠0→j∈(B1 s k id).1.vers.map (fun v=>v.id)→AP (Aj (B1 s k id).1) j=AP (Aj s) j:=by
 unfold B1 at he ⊢
 by_cases c1:¬(k=1∨k=2)
 .rw[if_pos c1] at he;simp at he
 rw[if_neg c1] at he ⊢
 by_cases c2:AG (fun v=>decide (v.id=id)) s.vers<0
 .rw[if_pos c2] at he;simp at he
 rw[if_neg c2] at he ⊢
 by_cases c3:k=1
 .rw[if_pos c3] at he ⊢
  obtain⟨t1,t2⟩:=U2 h he
  refine⟨t1,?_⟩
  have e:CC s id=({s with vers:=s.vers.eraseIdx (AG (fun v=>decide (v.id=id)) s.vers).toNat},0):=by
   unfold CC at he ⊢
   rw[if_neg c2] at he ⊢
   split
   .rename_i g;rw[if_pos g] at he;simp at he
   .rfl
  refine⟨by rw[e],by rw[e],by rw[e],fun j hj=>?_,t2⟩
  rw[e] at hj
  obtain⟨v,hv,rfl⟩:=List.mem_map.1 hj
  exact List.mem_map.2 ⟨v,List.mem_of_mem_eraseIdx hv,rfl⟩
 rw[if_neg c3] at he ⊢
 obtain⟨hk,Bm⟩:=KS c2
 rw[List.getElem?_eq_getElem hk] at he ⊢
 simp only at he ⊢
 by_cases c4:s.vers[(AG (fun v=>decide (v.id=id)) s.vers).toNat].base=0
 .rw[if_pos c4] at he;simp at he
 rw[if_neg c4] at he ⊢
 obtain⟨_,r| ⟨y,a,r1,r2,r3,r4⟩⟩:=LA h hk c4
 .rw[r] at he;simp at he
 .rw[r1]
  simp only
  have hids:y.vers.map (fun v=>v.id)=s.vers.map fun v=>v.id:=by
   rw[r3]
   simp only[List.map_set]
   refine List.ext_getElem? fun j=>?_
   rw[List.getElem?_set]
   split
   .rename_i h;subst h;simp[hk]
   .rfl
  refine⟨r2,by rw[r3],by rw[r3],by rw[r3],fun j hj=>by rw[←hids];exact hj,fun j _ hj=>?_⟩
  rcases r4 j with g|g
  .exact g
  .exact absurd ((Gl s j).2 (by rw[←hids];exact hj)) g
theorem J8 {s:Ax} (h:(Bl s).1≠0):(B1 s (Bl s).1 (Bl s).2).2=0:=by
 unfold Bl at h ⊢
 cases e:(C7 s false).find? fun id=>decide ((B1 s (Dt s id).1 (Dt s id).2).2=0) with
 |none=>rw[e] at h;simp at h
 |some id=>simpa using List.find?_some e
theorem Q6:∀(n:Nat) (s:Ax),(BF s n).length≤n
 |0,_=>by simp[BF]
 |n+1,s=>by
  rw[BF]
  split
  .simp
  .have:=Q6 n (B1 s (Bl s).1 (Bl s).2).1
   simp;omega
end Go.Abs
namespace Go.Abs
def KT (xs ys:List Obj):Prop:=xs.map (fun o=>(o.id,o.base))=ys.map fun o=>(o.id,o.base)
theorem Mg {xs ys:List Obj} (h:KT xs ys) (j:Int):(AX xs j).map (fun o=>(o.id,o.base))=(AX ys j).map fun o=>(o.id,o.base):=by
 have e:∀l:List Obj,(AX l j).map (fun o=>(o.id,o.base))=(l.map fun o=>(o.id,o.base)).find? fun q=>decide (q.1=j):=fun l=>by
  unfold AX
  rw[List.find?_map];rfl
 rw[e,e,h]
theorem NO {xs ys:List Obj} (h:KT xs ys):∀(k:Nat) (j:Int),(AN xs k j).length=(AN ys k j).length
 |0,_=>rfl
 |k+1,j=>by
  rw[AN,AN]
  by_cases h0:j=0
  .simp[h0]
  .rw[if_neg h0,if_neg h0]
   have hf:=Mg h j
   cases e1:AX xs j with
   |none=>rw[e1] at hf;cases e2:AX ys j with
    |none=>rfl
    |some b=>rw[e2] at hf;simp at hf
   |some a=>
    rw[e1] at hf
    cases e2:AX ys j with
    |none=>rw[e2] at hf;simp at hf
    |some b=>
     rw[e2] at hf
     simp at hf
     simp only[List.length_cons]
     rw[hf.2,NO h k b.base]
theorem RQ {xs ys:List Obj} (h:KT xs ys) (j:Int):AQ xs j=AQ ys j:=by
 have hf:=Mg h j
 unfold AQ
 rw[NO h 4 j]
 cases e1:AX xs j<;>cases e2:AX ys j<;>rw[e1,e2] at hf<;>simp at hf<;>rfl
section
variable {l:List Obj} {i:Nat} {q:Obj}
theorem Qs (hl:Cf l) (hall:∀o∈l,(AP l o.id).2=0) (hi:i<l.length) (hb:l[i].base≠0) (hq:AX l l[i].base=some q):Cf (l.set i ⟨l[i].id,q.base,l[i].data⟩)∧∀o∈l,(AQ (l.set i ⟨l[i].id,q.base,l[i].data⟩) o.id).2=0:=by
 obtain⟨r1,r2⟩:=Lf hl hall hi hb hq
 have hs:KT (l.set i ⟨l[i].id,q.base,l[i].data⟩) (l.set i (Dz l l[i] q.base)):=by unfold KT;simp[List.map_set,Dz]
 have hsb:=hs
 unfold KT at hs
 have hids:∀b,(∃r∈l.set i (Dz l l[i] q.base),r.id=b)→∃r∈l.set i ⟨l[i].id,q.base,l[i].data⟩,r.id=b:=fun b ⟨r,hr,e⟩=>by
  have:(r.id,r.base)∈(l.set i (Dz l l[i] q.base)).map fun o=>(o.id,o.base):=List.mem_map.2 ⟨r,hr,rfl⟩
  rw[←hs] at this
  obtain⟨r',hr',e'⟩:=List.mem_map.1 this
  simp at e'
  exact⟨r',hr',by rw[e'.1];exact e⟩
 refine⟨⟨by simp;exact hl.1,fun o ho=>?_,?_⟩,fun o ho=>?_⟩
 .have h2:(o.id,o.base)∈(l.set i (Dz l l[i] q.base)).map fun o=>(o.id,o.base):=by rw[←hs];exact List.mem_map.2 ⟨o,ho,rfl⟩
  obtain⟨r,hr,e⟩:=List.mem_map.1 h2
  simp at e
  obtain⟨k1,k2,k3,k4,k5⟩:=r1.2.1 r hr
  rw[e.1] at k1 k2 k4
  rw[e.2] at k4 k5
  refine⟨k1,k2,?_,k4,k5.imp id (hids _)⟩
  rcases List.mem_or_eq_of_mem_set ho with h|h
  .exact(hl.2.1 o h).2.2.1
  .subst h;exact(hl.2.1 _ (List.getElem_mem hi)).2.2.1
 .have h1:((l.set i (Dz l l[i] q.base)).map fun o=>(o.id,o.base)).Pairwise fun a b=>a.1<b.1:=List.pairwise_map.2 r1.2.2
  rw[←hs] at h1
  rw[List.pairwise_map] at h1
  exact h1
 .rw[RQ hsb]
  exact E7 (by rw[r2 _ ⟨o,ho,rfl⟩];exact hall o ho)
end
end Go.Abs
