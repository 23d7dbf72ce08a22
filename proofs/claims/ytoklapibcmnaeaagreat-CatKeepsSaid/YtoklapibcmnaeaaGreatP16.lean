/- What is written is read again: bits as bytes, lists, graphs. No program. -/
import Derived.Test.YtoklapibcmnaeaaGreatP15
set_option linter.unusedVariables false
set_option linter.unusedSimpArgs false
namespace Go.Abs
theorem NU:∀(ns:List Nat) (r:ByteArray),((BY ns).foldl (fun r c=>r.push (IZ c)) r).data.toList=r.data.toList++ns.map UInt8.ofNat
 | [],r=>by simp[BY]
 |n::ns,r=>by
  have:=NU ns (r.push (UInt8.ofNat n))
  simp only[BY,List.map_cons,List.foldl_cons] at this ⊢
  have e:IZ (Fj n)=UInt8.ofNat n:=by simp[Fj,IZ]
  rw[e,this];simp[ByteArray.push]
theorem Lc (ns:List Nat):(DR (BY ns)).data.toList=ns.map UInt8.ofNat:=by
 have:=NU ns ByteArray.empty
 unfold DR
 rw[this];rfl
theorem Ld (ns:List Nat):(DR (BY ns)).size=ns.length:=by
 have e:(DR (BY ns)).size=(DR (BY ns)).data.toList.length:=(Array.length_toList).symm
 rw[e,Lc,List.length_map]
theorem Qf (ns:List Nat) (i:Nat) (h:i<ns.length) (hb:ns[i]<256):CP (DR (BY ns)) i=ns[i]:=by
 have hs:=Ld ns
 unfold CP
 rw[dif_pos (by omega)]
 have h1:(DR (BY ns)).data.toList[i]?=some (UInt8.ofNat ns[i]):=by rw[Lc];simp[h]
 have h2:(DR (BY ns)).data.toList[i]?=some (DR (BY ns))[i]:=by
  have:i<(DR (BY ns)).data.size:=by have:(DR (BY ns)).size=(DR (BY ns)).data.size:=rfl;omega
  rw[Array.getElem?_toList,Array.getElem?_eq_getElem this];rfl
 rw[h1] at h2
 have h3:(DR (BY ns))[i]=UInt8.ofNat ns[i]:=by simpa using h2.symm
 rw[h3]
 simp[UInt8.toNat_ofNat'];omega
theorem RH (k:Nat):Bt (List.replicate k false)=0:=by
 induction k with
 |zero=>rfl
 |succ k ih=>rw[List.replicate_succ,EK,ih];simp
theorem RI {c:List Bool} (h:c.length≤8) {j:Nat} (hj:j<8):decide (Eu c/2^(7-j)%2=1)=c.getD j false:=by
 have e:Eu c=Bt (c++List.replicate (8-c.length) false):=by rw[Oq,RH];simp[Eu]
 have hl:(c++List.replicate (8-c.length) false).length=8:=by simp;omega
 have hb:=HD (c++List.replicate (8-c.length) false)
 rw[hl] at hb
 have h1:(Bn (Eu c) 8)[j]?=(c++List.replicate (8-c.length) false)[j]?:=by rw[e,hb]
 have h2:(Bn (Eu c) 8)[j]?=some (decide (Eu c/2^(7-j)%2=1)):=by simp[Bn,hj]
 rw[h2] at h1
 rw[List.getD_eq_getElem?_getD]
 by_cases hc:j<c.length
 .rw[List.getElem?_append_left hc] at h1;rw[←h1];rfl
 .rw[List.getElem?_append_right (by omega)] at h1
  have:(List.replicate (8-c.length) false)[j-c.length]?=some false:=by rw[List.getElem?_replicate,if_pos (by omega)]
  rw[this] at h1
  rw[List.getElem?_eq_none (by omega)];simpa using h1
theorem Ms (l:List Bool) (i:Nat) (h:i/8<(l.length+7)/8):Eg (E4 l).data i=l.getD i false:=by
 have hk:i/8<(pk l).length:=by simpa[pk] using h
 have hlt:(pk l)[i/8]<256:=RF h
 unfold Eg E4
 rw[Qf (pk l) (i/8) hk hlt]
 simp only[pk,Ft,List.getElem_map,List.getElem_range]
 have:=RI (c:=(l.drop (8*(i/8))).take 8) (by simp;omega) (j:=i%8) (Nat.mod_lt _ (by omega))
 rw[this]
 simp only[List.getD_eq_getElem?_getD,List.getElem?_take,List.getElem?_drop]
 rw[if_pos (Nat.mod_lt _ (by omega)),Nat.div_add_mod]
@[simp] theorem Vm (l:List Bool):(E4 l).n=l.length:=rfl
theorem Ii (l:List Bool):(E4 l).data.size=(l.length+7)/8:=by simp[E4,Ld,pk]
theorem Le (l:List Bool):Ao (E4 l)=l:=by
 unfold Ao
 refine List.ext_getElem (by simp) fun i h1 h2=>?_
 simp only[List.getElem_map,List.getElem_range]
 rw[Ms _ _ (by omega),List.getD_eq_getElem?_getD,List.getElem?_eq_getElem h2];rfl
theorem PE {l:List Bool} (h:l.length≤6000):CT (E4 l):=by
 refine⟨by simp,by simp;omega,by rw[Ii,Vm];omega,fun i hi hn=>?_⟩
 rw[Ii] at hi
 rw[Ms _ _ (by omega),List.getD_eq_getElem?_getD,List.getElem?_eq_none (by simpa using hn)];rfl
def On (bs:List Bool) (p:Nat) (x:List Bool):Prop:=∃s,bs.drop p=x++s
theorem On.app {bs:List Bool} {p:Nat} {x y:List Bool} (h:On bs p (x++y)):On bs p x∧On bs (p+x.length) y:=by
 obtain⟨s,h⟩:=h
 refine⟨⟨y++s,by rw[h,List.append_assoc]⟩,s,?_⟩
 rw[←List.drop_drop,h,List.append_assoc,List.drop_left]
theorem On.code {bs:List Bool} {p n:Nat} (h:On bs p (AD n)) (h1:1≤n) (h2:n≤1073741824):AP bs p=some (n,p+(AD n).length):=by
 obtain⟨s,h⟩:=h
 have hl:=DG n
 have hp:p≤bs.length:=by
  have:=congrArg List.length h
  simp at this;omega
 have:=O6 (l:=bs) (pre:=bs.take p) (suf:=s) h1 h2 (by rw[List.append_assoc,←h,List.take_append_drop])
 rwa [List.length_take_of_le hp] at this
theorem Mt {bs:List Bool} {v:Int} (hv:0≤v∧v≤16):∀(l:List Int) (f:Bool) (p:Nat) (e:Int),(∀x∈l,0≤x∧x<16)→LP l f e→(f=true→e=v)→(f=false→0≤e)→On bs p (CF v l f e)→B1 bs l.length f p e=some (l,p+(CF v l f e).length)
 | [],f,p,e,_,_,_,_,_=>by simp[B1,CF]
 |x::l,f,p,e,hx,hp,h1,h2,ho=>by
  rw[CF] at ho ⊢
  obtain⟨o1,o2⟩:=ho.app
  have hx0:=hx x (by simp)
  have hn:1≤(if f=true then CE (x-v)+1 else x-e).toNat∧(if f=true then CE (x-v)+1 else x-e).toNat≤1073741824:=by
   cases f
   .have:=hp.1;simp at this ⊢;have:=h2 rfl;omega
   .have:=DH (x-v)
    simp only[if_true]
    have:CE (x-v)≤100:=by unfold CE;split<;>omega
    omega
  have hy:e+(if f=true then Ct (((if f=true then CE (x-v)+1 else x-e).toNat:Int)-1) else((if f=true then CE (x-v)+1 else x-e).toNat:Int))=x:=by
   cases f
   .have:=hp.1;simp at this ⊢;omega
   .have z:=DH (x-v)
    simp only[if_true]
    rw[show((CE (x-v)+1).toNat:Int)-1=CE (x-v) by omega,J1,h1 rfl];omega
  rw[List.length_cons]
  simp only[B1]
  rw[o1.code hn.1 hn.2]
  simp only
  rw[hy,if_pos hx0,Mt hv l false _ x (fun y hy=>hx y (by simp[hy])) hp.2 (by simp) (fun _=>hx0.1) o2]
  simp;omega
theorem Mu {bs:List Bool} {v:Int} (hv:0≤v∧v≤16):∀(l:List (Int×Int)) (f:Bool) (p:Nat) (e:Int),(∀x∈l,0≤x.1∧x.1<16∧x.2≤16)→Gv l f e→(f=true→e=v)→(f=false→0≤e)→On bs p (Cl v l f e)→Cq bs l.length f p e=some (l,p+(Cl v l f e).length)
 | [],f,p,e,_,_,_,_,_=>by simp[Cq,Cl]
 | (x,k)::l,f,p,e,hx,hp,h1,h2,ho=>by
   rw[Cl,List.append_assoc] at ho
   rw[Cl]
   obtain⟨o1,o2⟩:=ho.app
   obtain⟨o2,o3⟩:=o2.app
   have hx0:=hx (x,k) (by simp)
   simp only[Gv] at hx0 hp
   have hn:1≤(if f=true then CE (x-v)+1 else x-e).toNat∧(if f=true then CE (x-v)+1 else x-e).toNat≤1073741824:=by
    cases f
    .have:=hp.1;simp at this ⊢;have:=h2 rfl;omega
    .have:=DH (x-v)
     simp only[if_true]
     have:CE (x-v)≤100:=by unfold CE;split<;>omega
     omega
   have hy:e+(if f=true then Ct (((if f=true then CE (x-v)+1 else x-e).toNat:Int)-1) else((if f=true then CE (x-v)+1 else x-e).toNat:Int))=x:=by
    cases f
    .have:=hp.1;simp at this ⊢;omega
    .have z:=DH (x-v)
     simp only[if_true]
     rw[show((CE (x-v)+1).toNat:Int)-1=CE (x-v) by omega,J1,h1 rfl];omega
   rw[List.length_cons]
   simp only[Cq]
   rw[o1.code hn.1 hn.2]
   simp only
   rw[o2.code (by omega) (by omega)]
   simp only
   rw[hy,show((k-3+1).toNat:Int)-1+3=k by omega,Mu hv l false _ (x+k) (fun y hy=>hx y (by simp[hy])) hp.2.2 (by simp) (fun _=>by omega) o3]
   simp;omega
theorem RJ {bs:List Bool} {v:Int} {l:List Int} {p:Nat} (hv:0≤v∧v≤16) (hl:AH l) (h:On bs p (C3 v l)):Do bs p v=some (l,p+(C3 v l).length):=by
 unfold C3 at h ⊢
 obtain⟨o1,o2⟩:=h.app
 have:=BA hl
 unfold Do
 rw[o1.code (by omega) (by omega)]
 simp only
 rw[Pk v l 0 v] at o2 ⊢
 rw[if_pos (by omega),Nat.add_sub_cancel,Mt hv l true _ v hl.1 (JR l true v hl.2 (.inl rfl)) (fun _=>rfl) (by simp) o2]
 simp;omega
theorem Kx:∀(l:List Int) (x:Int) (y:Int),y∈(x::l).take (AM (x::l))↔x≤y∧y<x+(AM (x::l):Nat)
 | [],x,y=>by simp[AM];omega
 |z::t,x,y=>by
  simp only[AM]
  split
  .rename_i e
   subst e
   have:=Kx t (x+1) y
   rw[List.take_succ_cons,List.mem_cons,this];omega
  .simp;omega
theorem Kd (a n:Int) (r:List (Int×Int)) (i:Int):Bj ((a,n)::r) i=true↔(a≤i∧i<a+n)∨Bj r i=true:=by simp[Bj]
theorem Mv:∀(n:Nat) (l:List Int),l.length≤n→l.Pairwise (·<·)→(∀y,y∈l↔y∈(Am l).2∨Bj (Am l).1 y=true)∧∀y∈(Am l).2,Bj (Am l).1 y=false
 |_,[],_,_=>by simp[Am,Bj]
 |0,x::l,h,_=>by simp at h
 |n+1,x::l,h,hp=>by
  have h1:=Eh x l
  have h2:=EH (x::l)
  have h3:((x::l).drop (AM (x::l))).length=(x::l).length-AM (x::l):=by simp
  have hd:=hp.sublist (List.drop_sublist (AM (x::l)) (x::l))
  have hn:=FY l x hp
  obtain⟨i1,i2⟩:=Mv n ((x::l).drop (AM (x::l))) (by omega) hd
  have ht:=Kx l x
  have hm:∀y,y∈x::l↔y∈(x::l).take (AM (x::l))∨y∈(x::l).drop (AM (x::l)):=fun y=>by
   rw[←List.mem_append,List.take_append_drop]
  have hr:∀y,Bj (Am ((x::l).drop (AM (x::l)))).1 y=true→x+(AM (x::l):Nat)<y:=fun y hy=>hn y ((i1 y).2 (.inr hy))
  rw[Am]
  split
  .refine⟨fun y=>?_,fun y hy=>?_⟩
   .rw[hm y,ht y,i1 y,Kd]
    simp only
    constructor
    .rintro(h|h|h)
     .exact .inr (.inl h)
     .exact .inl h
     .exact .inr (.inr h)
    .rintro(h|h|h)
     .exact .inr (.inl h)
     .exact .inl h
     .exact .inr (.inr h)
   .have a1:=hn y ((i1 y).2 (.inl hy))
    have a2:=i2 y hy
    rw[Bool.eq_false_iff] at a2 ⊢
    intro c
    rw[Kd] at c
    rcases c with c|c
    .omega
    .exact a2 c
  .refine⟨fun y=>?_,fun y hy=>?_⟩
   .rw[hm y,i1 y,List.mem_append]
    simp only
    rw[or_assoc]
   .simp only at hy ⊢
    rw[List.mem_append] at hy
    rcases hy with hy|hy
    .rw[Bool.eq_false_iff]
     intro c
     have a1:=hr y c
     have a2:=(ht y).1 hy
     omega
    .exact i2 y hy
theorem Ky:∀(n:Nat) (l:List Int) (e:Int),l.length≤n→AH l→(∀x∈l,e<x)→Dm (Am l).1 e
 |_,[],_,_,_,_=>by simp[Am,Dm]
 |0,x::l,_,h,_,_=>by simp at h
 |n+1,x::l,e,h,hl,he=>by
  have h1:=Eh x l
  have h2:=EH (x::l)
  have h3:((x::l).drop (AM (x::l))).length=(x::l).length-AM (x::l):=by simp
  have hd:AH ((x::l).drop (AM (x::l))):=⟨fun y hy=>hl.1 y (List.mem_of_mem_drop hy),hl.2.sublist (List.drop_sublist _ _)⟩
  have hn:=FY l x hl.2
  have ht:=(Kx l x (x+(AM (x::l):Nat)-1)).2 (by omega)
  have hx:=hl.1 x (by simp)
  have hx2:=hl.1 _ (List.mem_of_mem_take ht)
  have hxe:=he x (by simp)
  rw[Am]
  split
  .exact⟨hx.1,hx.2,by omega,by omega,hxe,Ky n _ _ (by omega) hd hn⟩
  .exact Ky n _ _ (by omega) hd fun y hy=>by have:=hn y hy;omega
theorem OV {l:List Int} (hl:AH l):Em (Am l).1 (Am l).2=some l:=by
 have hle:=Nat.le_refl l.length
 obtain⟨W,w1,w2,w3,w4,w5⟩:=FZ (Am l).1 (-1) (Ky l.length l (-1) hle hl fun x hx=>by have:=(hl.1 x hx).1;omega)
 obtain⟨m1,m2⟩:=Mv l.length l hle hl.2
 obtain⟨_,_,p3,p4⟩:=Ex l.length l true 0 hle hl.2 (.inl rfl)
 have hr:AH (Am l).2:=⟨fun x hx=>hl.1 x (p4 x hx),p3⟩
 have hs:AH (BQ ((Am l).2++W)):=by
  rw[GM]
  refine⟨fun x hx=>?_,?_⟩
  .rcases List.mem_append.1 hx with h|h
   .exact hr.1 x h
   .exact w5 x h
  .rw[List.nodup_append]
   refine⟨Ey p3,Ey w2,fun a ha b hb e=>?_⟩
   subst e
   have c1:=m2 a ha
   have c2:=(w4 a).1 hb
   rw[c1] at c2;simp at c2
 have he:BQ ((Am l).2++W)=l:=HH _ _ hs.2 hl.2 fun x=>by
  rw[Ff,List.mem_append,w4 x,m1 x]
 unfold Em
 rw[w1]
 simp only
 rw[he,if_pos ⟨hr,hl⟩]
theorem Mw {bs:List Bool} {v:Int} {l:List Int} {p:Nat} (hv:0≤v∧v≤16) (hl:AH l) (h:On bs p (AZ v l)):CZ bs p v=some (l,p+(AZ v l).length):=by
 have hle:=Nat.le_refl l.length
 have hll:=BA hl
 obtain⟨p1,p2,p3,p4⟩:=Ex l.length l true v hle hl.2 (.inl rfl)
 have pin:=H8 l.length l hle
 unfold AZ at h ⊢
 rw[List.append_assoc] at h
 obtain⟨o1,o2⟩:=h.app
 obtain⟨o2,o3⟩:=o2.app
 rw[Pl v _ 0 v] at o2 o3 ⊢
 unfold CZ
 rw[o1.code (by omega) (by omega)]
 simp only
 rw[if_pos (by omega),Nat.add_sub_cancel,Mu hv (Am l).1 true _ v (fun q hq=>by
  have h1:=pin q hq
  have h2:=hl.1 _ h1.1
  omega) p1 (fun _=>rfl) (by simp) o2]
 simp only
 rw[RJ hv ⟨fun x hx=>hl.1 x (p4 x hx),p3⟩ o3]
 simp only
 rw[OV hl]
 simp;omega
theorem Hz (l:List Int):∀(ref pre:List Int) (i:Bool) (n:Nat),pre.length=n→A6 ((AQ l ref i n).map fun n=>((n:Nat):Int)) (pre++ref) i=some ((if i=true then pre else [])++ref.filter fun x=>l.contains x)
 | [],pre,i,n,h=>by simp[AQ,A6]
 |x::ref,pre,i,n,h=>by
  simp only[AQ]
  split
  .rename_i e
   have:=Hz l ref (pre++[x]) i (n+1) (by simp[h])
   rw[List.append_assoc,List.singleton_append] at this
   rw[this]
   cases i
   .simp[List.filter_cons];intro c;simp[c] at e
   .simp[List.filter_cons];simp at e;simp[e]
  .rename_i e
   have:=Hz l ref [x] (!i) 1 rfl
   rw[List.singleton_append] at this
   simp only[List.map_cons,A6]
   rw[if_neg (by simp[h];omega),Int.toNat_natCast,←h,List.drop_left,this,List.take_left]
   simp only[Option.some.injEq]
   cases i
   .simp at e;simp[List.filter_cons,e]
   .simp at e;simp[List.filter_cons,e]
theorem RK {ref l:List Int} (hr:AH ref) (hl:AH l):Cr ref (blocks ref l) (A9 ref l)=some l:=by
 have hc:=Hz l ref [] true 0 rfl
 simp only[List.nil_append,if_true] at hc
 have he:BQ (A9 ref l++ref.filter fun x=>l.contains x)=l:=by
  refine HH _ _ ((Nw _).2 ?_) hl.2 fun x=>?_
  .rw[List.nodup_append]
   refine⟨(Ey hl.2).filter _,(Ey hr.2).filter _,fun a ha b hb e=>?_⟩
   subst e
   simp[A9] at ha hb
   exact ha.2 hb.1
  .rw[Ff,List.mem_append]
   simp[A9]
   by_cases h:x∈l<;>by_cases h2:x∈ref<;>simp[h,h2]
 unfold Cr blocks
 rw[hc]
 simp only
 rw[he,if_pos ⟨hl,rfl,rfl⟩]
theorem My {bs:List Bool}:∀(l:List Int) (f:Bool) (p:Nat),(∀(j:Nat) (h:j<l.length),0≤l[j]∧l[j]≤100∧(f=true→j=0∨1≤l[j])∧(f=false→1≤l[j]))→On bs p (DT l f)→Cf bs l.length f p=some (l,p+(DT l f).length)
 | [],f,p,_,_=>by simp[Cf,DT]
 |x::l,f,p,hx,ho=>by
  rw[DT] at ho ⊢
  obtain⟨o1,o2⟩:=ho.app
  have hx0:=hx 0 (by simp)
  simp at hx0
  have hn:1≤(if f=true then x+1 else x).toNat∧(if f=true then x+1 else x).toNat≤1073741824:=by
   cases f
   .have:=hx0.2.2 rfl;simp;omega
   .simp;omega
  rw[List.length_cons]
  simp only[Cf]
  rw[o1.code hn.1 hn.2]
  simp only
  rw[My l false _ (fun j hj=>by
   have:=hx (j+1) (by simpa using hj)
   simp at this
   refine⟨this.1,this.2.1,by simp,fun _=>?_⟩
   cases f
   .exact this.2.2.2 rfl
   .exact this.2.2.1 rfl) o2]
  cases f
  .have:=hx0.2.2 rfl
   simp;omega
  .simp;omega
theorem OW {bs:List Bool} {v:Int} {ref l:List Int} {p:Nat} (hv:0≤v∧v≤16) (hr:AH ref) (hl:AH l) (h:On bs p (Dk v ref l)):CI bs p v ref=some (l,p+(Dk v ref l).length):=by
 have hrl:=BA hr
 have hb:=Ig ref l
 unfold Dk at h ⊢
 rw[List.append_assoc] at h
 obtain⟨o1,o2⟩:=h.app
 obtain⟨o2,o3⟩:=o2.app
 unfold CI
 rw[o1.code (by omega) (by omega)]
 simp only
 rw[if_pos (by omega),Nat.add_sub_cancel,My (blocks ref l) true _ (fun j hj=>by
  have:=Ji ref l j hj
  refine⟨this.1,by omega,fun _=>?_,by simp⟩
  rcases Nat.eq_zero_or_pos j with h|h
  .exact .inl h
  .exact .inr (this.2.2 h)) o2]
 simp only
 rw[Mw hv (Ih hl) o3]
 simp only
 rw[RK hr hl]
 simp;omega
theorem Lf {bs:List Bool} {rd:Rd} {f:Int→List Int→List Bool}:∀(ls:List (List Int)) (v:Int) (p:Nat),(∀(i:Nat) (h:i<ls.length) (q:Nat),On bs q (f (v+i) ls[i])→rd q (v+i)=some (ls[i],q+(f (v+i) ls[i]).length))→On bs p (CB f v ls)→A7 rd ls.length v p=some (ls,p+(CB f v ls).length)
 | [],v,p,_,_=>by simp[A7,CB]
 |l::ls,v,p,h,ho=>by
  rw[CB] at ho ⊢
  obtain⟨o1,o2⟩:=ho.app
  have h0:=h 0 (by simp) p
  simp at h0
  rw[List.length_cons]
  simp only[A7]
  rw[h0 o1]
  simp only
  rw[Lf ls (v+1) _ (fun i hi q=>by
   have:=h (i+1) (by simpa using hi) q
   simp only[List.getElem_cons_succ] at this
   rw[show v+1+(i:Int)=v+((i+1:Nat):Int) by omega];exact this) o2]
  simp;omega
theorem Lg {g:Gr} {rd:Rd} {f:Int→List Int→List Bool} (hg:AS g) (h:∀(i:Nat) (h:i<g.out.length) (q:Nat),On (AD (g.n.toNat+1)++CB f 0 g.out) q (f i g.out[i])→rd q i=some (g.out[i],q+(f i g.out[i]).length)):CL (AD (g.n.toNat+1)++CB f 0 g.out) rd=some g:=by
 have h1:=hg.1
 have h2:=hg.2.1
 have h3:=hg.2.2.1
 have ho:On (AD (g.n.toNat+1)++CB f 0 g.out) 0 (AD (g.n.toNat+1)++CB f 0 g.out):=⟨[],by simp⟩
 obtain⟨o1,o2⟩:=ho.app
 unfold CL
 rw[o1.code (by omega) (by omega)]
 simp only
 have hl:=Lf (rd:=rd) (f:=f) g.out 0 _ (fun i hi q hq=>by
  have:=h i hi q
  simp only[Int.zero_add] at hq ⊢
  exact this hq) o2
 rw[if_pos (by omega),Nat.add_sub_cancel,show g.n.toNat=g.out.length by omega] at*
 rw[hl]
 simp only
 have e:(((g.out.length+1:Nat):Int)-1)=g.n:=by omega
 rw[e,if_pos ⟨by simp,hg⟩]
theorem Qg {g:Gr} (hg:AS g):BD (Ca g)=some g:=by
 have h2:=hg.2.1
 have h3:=hg.2.2.1
 unfold BD Ca
 exact Lg hg fun i hi q ho=>Mw ⟨by omega,by omega⟩ (hg.2.2.2.1 _ (List.getElem_mem hi)).1 ho
theorem Qh {a g:Gr} (ha:AS a) (hg:AS g):BH a (B0 a g)=some g:=by
 have h2:=hg.2.1
 have h3:=hg.2.2.1
 unfold BH B0
 exact Lg (f:=fun v l=>Dk v (Ay a v) l) hg fun i hi q ho=>OW ⟨by omega,by omega⟩ (G7 ha _) (hg.2.2.2.1 _ (List.getElem_mem hi)).1 ho
end Go.Abs
namespace Go.Abs
end Go.Abs
namespace Go.Abs
theorem Mz {l:List Obj} (h:Ci l):1≤Cn l∧Cn l≤1048577:=by
 unfold Cn
 cases e:l.getLast? with
 |none=>simp
 |some o=>have:=h.2.1 o (List.mem_of_getLast? e);simp only;omega
theorem HM {l:List Obj} {g:Gr} (b:Int) (hg:AS g):(Fu l b g).data.size≤751∧CT (Fu l b g):=by
 unfold Fu
 rw[Ii]
 split
 .have:=IL hg;exact⟨by omega,PE this⟩
 .have:=IM (Eo l b) hg;exact⟨by omega,PE this⟩
theorem Tm {l:List Obj} {p:Int} {g:Gr} (hl:Ci l) (hg:AS g) (he:(BO l p g).2=0):(BO l p g).1.data.data.size≤751∧1≤(BO l p g).1.id∧(BO l p g).1.id≤1048576:=by
 have h1:=Mz hl
 unfold BO at he ⊢
 by_cases c1:12≤l.length∨1048576<Cn l
 .rw[if_pos c1] at he;simp at he
 rw[if_neg c1] at he ⊢
 by_cases c2:p=0
 .rw[if_pos c2];exact⟨(HM 0 hg).1,h1.1,by simp only;omega⟩
 rw[if_neg c2] at he ⊢
 by_cases c3:(AX l p).2≠0
 .rw[if_pos c3] at he;exact absurd he c3
 rw[if_neg c3]
 split
 .exact⟨(HM _ hg).1,h1.1,by simp only;omega⟩
 .exact⟨(HM _ hg).1,h1.1,by simp only;omega⟩
theorem MA {s:AB} (h:Ci (Al s)):0≤As s.vers∧As s.vers≤1048576:=by
 unfold As
 cases e:s.vers.getLast? with
 |none=>simp
 |some v=>
  have:=h.2.1 (Ev v) (List.mem_map.2 ⟨v,List.mem_of_getLast? e,rfl⟩)
  simp only[Ev] at this ⊢;omega
theorem FN:A4 Bg∧B7 Bg:=⟨⟨by simp[Bg],by simp[Bg],by simp[Bg]⟩,fun x hx=>by simp[Bg] at hx⟩
theorem Vn {l:List Bi} {i:Nat} {a:Int} {v:Bi} (h:v∈IK l i a):∃u∈l,v.data=u.data:=by
 unfold IK at h
 split at h
 .rename_i w hw
  rcases List.mem_or_eq_of_mem_set h with h|h
  .exact⟨v,h,rfl⟩
  .subst h;exact⟨w,List.mem_of_getElem? hw,rfl⟩
 .exact⟨v,h,rfl⟩
theorem Tn {s:AB} {o:Obj} {p:Int} (hs:A4 s) (hx:B7 s) (ho:o.data.data.size<1000000000) (hn:s.vers.length<999999999):A4 (Ec s o p).1∧B7 (Ec s o p).1:=by
 unfold Ec
 split
 .exact FN
 .rename_i l i e
  split
  .split
   .have hl:l.length<1000000000∧∀v∈l,v.data.data.size<1000000000:=by
     unfold GB at e
     split at e
     .split at e
      .simp at e
      .simp at e
       rw[←e.1]
       refine⟨by simp;omega,fun v hv=>?_⟩
       rcases List.mem_append.1 hv with h|h
       .exact hs.2.2 v h
       .simp at h;subst h;simp[Id]
     .simp at e
      rw[←e.1]
      exact⟨by omega,hs.2.2⟩
    refine⟨⟨by simp only[LU,NR];exact hl.1,hs.2.1,fun v hv=>?_⟩,hx⟩
    obtain⟨u,hu,e2⟩:=Vn hv
    rw[e2]
    exact NS hl.2 ho u hu
   .exact FN
  .exact FN
theorem Vo {s:AB} {o:Obj} {p:Int} (hs:A4 s) (hx:B7 s) (ho:o.data.data.size<1000000000) (hn:s.vers.length<999999999):A4 (Ie s o p).1∧B7 (Ie s o p).1:=by
 unfold Ie
 split
 .exact Tn hs hx ho hn
 .exact FN
theorem RL {s:AB} {id:Int} (hs:A4 s) (hx:B7 s):A4 (DY s id).1∧B7 (DY s id).1:=by
 unfold DY
 split
 .exact FN
 .split
  .exact FN
  .refine⟨⟨?_,hs.2.1,fun v hv=>hs.2.2 v (List.mem_of_mem_eraseIdx hv)⟩,hx⟩
   have h1:=hs.1
   have h2:=List.length_eraseIdx_le s.vers (Ba (fun v=>decide (v.id=id)) s.vers).toNat
   simp only;omega
theorem To {s:AB} {id:Int} (hs:A4 s) (hx:B7 s):A4 (F9 s id).1∧B7 (F9 s id).1:=by
 unfold F9
 split
 .exact RL hs hx
 .exact FN
end Go.Abs
set_option maxRecDepth 100000
namespace Go.Abs
open Go.Proofs
def hZ (o:Obj):Prop:=o.data.data.size<1000000000∧Uw o.id
end Go.Abs
namespace Go.Abs
theorem Ij (l:List Obj):∀(k:Nat) (id:Int),AT l k id=(AT l (k+1) id).take k
 |0,_=>by simp[AT]
 |k+1,id=>by
  rw[AT,AT]
  by_cases h:id=0
  .simp[h]
  .rw[if_neg h,if_neg h]
   cases e:Bf l id with
   |none=>simp
   |some o=>simp only[List.take_succ_cons];rw[Ij l k o.base]
theorem Qi {l:List Obj} {id:Int} {o:Obj} (h:Bf l id=some o) (h0:id≠0) (k:Nat):AT l (k+1) id=o::AT l k o.base:=by
 rw[AT,if_neg h0,h]
theorem Yz (l:List Obj) (k:Nat):AT l k 0=[]:=by cases k<;>simp[AT]
theorem RM {l:List Obj} {id:Int} {o:Obj} (h:Bf l id=some o) (h0:id≠0) (hb:o.base=0):Bb l id=(1,0)∧AX l id=match BD (Ao o.data) with|some g=>(g,0) |none=>(AF,9):=by
 have e:∀k,AT l (k+1) id=[o]:=fun k=>by rw[Qi h h0,hb,Yz]
 have hd:Bb l id=(1,0):=by unfold Bb;rw[h];simp only[e];simp
 refine⟨hd,?_⟩
 unfold AX
 rw[hd,e,if_neg (by simp)]
 simp only[CO,if_pos hb]
 cases BD (Ao o.data)<;>rfl
theorem NV {l:List Obj} {id:Int} {o:Obj} (h:Bf l id=some o) (h0:id≠0) (hh:Ck l o.base):((Bb l id).2=0↔(Bb l o.base).2=0∧(Bb l o.base).1<3)∧((Bb l id).2=0→(Bb l id).1=(Bb l o.base).1+1):=by
 obtain⟨q,hq⟩:=EP.1 hh
 have e3:(AT l 3 o.base).length=min 3 (AT l 4 o.base).length:=by rw[Ij l 3];simp
 unfold Bb
 rw[h,hq]
 simp only[Qi h h0 3,List.length_cons]
 by_cases c1:3<(AT l 4 o.base).length
 .rw[if_pos c1,if_pos (by omega)];simp
 .rw[if_neg c1]
  by_cases c2:3<(AT l 3 o.base).length+1
  .rw[if_pos c2];simp;omega
  .rw[if_neg c2];simp;omega
theorem Tp {l:List Obj} {id:Int} (h:(AX l id).2=0):(Bb l id).2=0:=by
 unfold AX at h
 by_cases c:(Bb l id).2≠0
 .rw[if_pos c] at h;exact absurd h c
 .omega
theorem Qj {l:List Obj} {id:Int} (h:(Bb l id).2=0):Ck l id:=by
 unfold Bb at h
 cases e:Bf l id with
 |none=>rw[e] at h;simp at h
 |some o=>exact EP.2 ⟨o,e⟩
theorem Xx {l:List Obj} {id:Int} {o:Obj} (h:Bf l id=some o) (h0:id≠0) (hb:o.base≠0) (hh:Ck l o.base) (hd:(Bb l id).2=0):AX l id=if (AX l o.base).2=0 then(match BH (AX l o.base).1 (Ao o.data) with|some g=>(g,(0:Int)) |none=>(AF,(9:Int))) else(AF,(9:Int)):=by
 obtain⟨q,hq⟩:=EP.1 hh
 have e3:(AT l 3 o.base).length=min 3 (AT l 4 o.base).length:=by rw[Ij l 3];simp
 have hd2:=((NV h h0 hh).1.1 hd)
 have hlen:(AT l 4 o.base).length<3:=by
  have:=hd2.2
  have h2:=hd2.1
  unfold Bb at this h2
  rw[hq] at this h2
  by_cases c:3<(AT l 4 o.base).length
  .simp only[if_pos c] at h2;simp at h2
  .simp only[if_neg c] at this;omega
 have e4:AT l 2 o.base=(AT l 3 o.base).take 2:=Ij l 2 o.base
 have e2:AT l 2 o.base=AT l 3 o.base:=by rw[e4,List.take_of_length_le (by omega)]
 have e5:AX l o.base=match CO BD BH (AT l 3 o.base) with|some g=>(g,0) |none=>(AF,9):=by unfold AX;rw[if_neg (fun g=>g hd2.1)];cases CO BD BH (AT l 3 o.base)<;>rfl
 have e6:AX l id=match CO BD BH (AT l 3 id) with|some g=>(g,0) |none=>(AF,9):=by unfold AX;rw[if_neg (fun g=>g hd)];cases CO BD BH (AT l 3 id)<;>rfl
 rw[e5,e6,Qi h h0 2,e2]
 simp only[CO,if_neg hb]
 cases CO BD BH (AT l 3 o.base) with
 |none=>rfl
 |some a=>rw[if_pos rfl]
theorem Ke {l:List Obj} {i:Nat} (hi:i<l.length) {id:Int} (h:l[i].id≠id):Bf (l.eraseIdx i) id=Bf l id:=by
 have e:l=l.take i++l[i]::l.drop (i+1):=by rw[←List.drop_eq_getElem_cons hi,List.take_append_drop]
 rw[List.eraseIdx_eq_take_drop_succ]
 conv=>rhs;rw[e]
 unfold Bf
 rw[List.find?_append,List.find?_append,List.find?_cons]
 simp[h]
theorem Qk {α:Type} {l:List α} {i:Nat} (hi:i+1<l.length):(l.eraseIdx i).getLast?=l.getLast?:=by
 rw[List.eraseIdx_eq_take_drop_succ]
 have e:l.drop (i+1)≠ []:=by simp;omega
 have e2:l=l.take (i+1)++l.drop (i+1):=(List.take_append_drop _ _).symm
 conv=>rhs;rw[e2]
 rw[List.getLast?_append,List.getLast?_append]
 cases h:(l.drop (i+1)).getLast? with
 |none=>exact absurd (List.getLast?_eq_none_iff.1 h) e
 |some x=>rfl
theorem Vp {s:AB} {id:Int} (h:¬Ba (fun v=>decide (v.id=id)) s.vers<0):∃hk:(Ba (fun v=>decide (v.id=id)) s.vers).toNat<s.vers.length,s.vers[(Ba (fun v=>decide (v.id=id)) s.vers).toNat].id=id:=by
 cases e:s.vers.findIdx? (fun v=>decide (v.id=id)) with
 |none=>exact absurd (by unfold Ba;rw[e];decide) h
 |some j=>
  obtain⟨hj,hp,_⟩:=List.findIdx?_eq_some_iff_getElem.1 e
  have hi:(Ba (fun v=>decide (v.id=id)) s.vers).toNat=j:=by unfold Ba;rw[e];simp
  exact⟨by rw[hi];exact hj,by simp only[hi];simpa using hp⟩
theorem Tq {s:AB} {id:Int} (h:Bl s) (he:(DY s id).2=0):Bl (DY s id).1∧∀i,i≠0→i∈(DY s id).1.vers.map (fun v=>v.id)→AX (Al (DY s id).1) i=AX (Al s) i:=by
 unfold DY at he ⊢
 by_cases c1:Ba (fun v=>decide (v.id=id)) s.vers<0
 .rw[if_pos c1] at he;simp at he
 rw[if_neg c1] at he ⊢
 by_cases c2:id=As s.vers∨pinned s id=true∨K6 s id=true
 .rw[if_pos c2] at he;simp at he
 rw[if_neg c2]
 obtain⟨hk,BM⟩:=Vp c1
 obtain⟨k,hkd⟩:∃k,k=(Ba (fun v=>decide (v.id=id)) s.vers).toNat:=⟨_,rfl⟩
 simp only[←hkd] at hk BM ⊢
 have c3:id≠As s.vers:=fun g=>c2 (.inl g)
 have c4:∀x∈s.sess,x.pin≠id:=fun x hx g=>c2 (.inr (.inl (List.any_eq_true.2 ⟨x,hx,by simpa using g⟩)))
 have c5:∀v∈s.vers,v.base≠id:=fun v hv g=>c2 (.inr (.inr (List.any_eq_true.2 ⟨v,hv,by simpa using g⟩)))
 obtain⟨⟨⟨a1,a2,a3,a4,a5,a6,a7⟩,b,c,d⟩,e⟩:=h
 have hk1:k+1<s.vers.length:=by
  rcases Nat.lt_or_ge (k+1) s.vers.length with h|h
  .exact h
  .exfalso;apply c3
   unfold As
   have:s.vers.getLast?=some s.vers[k]:=by rw[List.getLast?_eq_getElem?,show s.vers.length-1=k by omega,List.getElem?_eq_getElem]
   rw[this];exact BM.symm
 have hlast:=Qk hk1
 have hl:As (s.vers.eraseIdx k)=As s.vers:=by unfold As;rw[hlast]
 have hm:∀v∈s.vers.eraseIdx k,v∈s.vers:=fun v hv=>List.mem_of_mem_eraseIdx hv
 have hle:(s.vers.eraseIdx k).length≤s.vers.length:=List.length_eraseIdx_le ..
 have eo:Al {s with vers:=s.vers.eraseIdx k}=(Al s).eraseIdx k:=by simp[Al,List.eraseIdx_eq_take_drop_succ,List.map_take,List.map_drop]
 have hko:k<(Al s).length:=by simpa[Al] using hk
 have hoi:(Al s)[k].id=id:=by simpa[Al,Ev] using BM
 have hheld:∀i,i≠id→Ck (Al s) i→Ck ((Al s).eraseIdx k) i:=fun i hi hh=>by
  obtain⟨q,hq⟩:=EP.1 hh
  exact EP.2 ⟨q,by rw[Ke hko (by rw[hoi];exact fun g=>hi g.symm)];exact hq⟩
 have hof:∀i,i≠0→i≠id→Ck (Al s) i→AX ((Al s).eraseIdx k) i=AX (Al s) i:=fun i h0 hi hh=>
  (Mn (fun j=>j≠id) (fun j hj _=>(Ke hko (by rw[hoi];exact fun g=>hj g.symm)).symm) (fun j o hj _ ho=>by
    obtain⟨v,hv,rfl⟩:=List.mem_map.1 (Hb ho).1
    exact c5 v hv) hi h0).symm
 have hup:(s.vers.map fun v=>v.id).Pairwise (·<·):=by rw[←If,List.pairwise_map];exact a7.2.2
 have hne:∀v∈s.vers.eraseIdx k,v.id≠id:=fun v hv g=>by
  obtain⟨j,hj,rfl⟩:=List.mem_iff_getElem.1 hv
  rw[List.getElem_eraseIdx] at g
  have key:∀(j:Nat) (hj:j<s.vers.length),s.vers[j].id=id→j=k:=fun j hj g=>by
   have hp:=List.pairwise_iff_getElem.1 hup
   rcases Nat.lt_trichotomy j k with h|h|h
   .have:=hp j k (by simpa using hj) (by simpa using hk) h;simp at this;omega
   .exact h
   .have:=hp k j (by simpa using hk) (by simpa using hj) h;simp at this;omega
  split at g
  .have:=key j (by omega) g;omega
  .have:=key (j+1) (by rw[List.length_eraseIdx] at hj;split at hj<;>omega) g;omega
 have hids:∀i,i≠id→i∈s.vers.map (fun v=>v.id)→i∈(s.vers.eraseIdx k).map fun v=>v.id:=fun i hi hmem=>by
  have:=hheld i hi ((FM s i).2 hmem)
  rw[←eo] at this
  exact(FM _ i).1 this
 refine⟨⟨⟨⟨a1,a2,a3,a4,fun v hv=>a5 v (hm v hv),?_,?_⟩,b,?_,?_⟩,?_⟩,?_⟩
 .show Ej (s.vers.eraseIdx k)=false
  unfold Ej;rw[hlast];exact a6
 .rw[eo]
  refine⟨by have:=a7.1;have:=List.length_eraseIdx_le (Al s) k;omega,fun o ho=>?_,a7.2.2.sublist (List.eraseIdx_sublist _ _)⟩
  have ho' :=List.mem_of_mem_eraseIdx ho
  obtain⟨k1,k2,k3,k4,k5⟩:=a7.2.1 o ho'
  refine⟨k1,k2,k3,k4,k5.imp _root_.id fun hh=>hheld _ ?_ hh⟩
  obtain⟨v,hv,rfl⟩:=List.mem_map.1 ho'
  exact c5 v hv
 .rw[eo]
  intro o ho
  have ho' :=List.mem_of_mem_eraseIdx ho
  have hoid:o.id≠id:=by
   rw[←eo] at ho
   obtain⟨v,hv,rfl⟩:=List.mem_map.1 ho
   exact hne v hv
  have:=(a7.2.1 o ho').1
  rw[hof o.id (by omega) hoid ⟨o,ho',rfl⟩]
  exact c o ho'
 .intro x hx
  have hd:=d x hx
  have hxp:=c4 x hx
  rw[eo]
  unfold AE at hd ⊢
  by_cases co:x.opn=false
  .rw[if_pos co] at hd ⊢;exact hd
  rw[if_neg co] at hd ⊢
  obtain⟨h1,h2,h3⟩:=hd
  refine⟨?_,?_,?_⟩
  .refine h1.imp _root_.id fun hh=>?_
   have:=hids x.pin hxp ((Jb _ _).1 hh)
   exact(Jb _ _).2 this
  .show if x.on=true then 0≤x.frm∧x.frm≤As (s.vers.eraseIdx k)∧AS x.stage else x.frm=0∧x.stage=AF
   rw[hl];exact h2
  .refine h3.imp _root_.id fun⟨g1,g2⟩=>?_
   have hh:Ck (Al s) x.pin:=(FM s x.pin).2 ((Jb _ _).1 (h1.resolve_left g1))
   rw[hof x.pin g1 hxp hh];exact⟨g1,g2⟩
 .obtain⟨e1,e2,e3,e4,e5⟩:=e
  have ep:Av {s with vers:=s.vers.eraseIdx k}=(Av s).eraseIdx k:=by simp[Av,List.eraseIdx_eq_take_drop_succ,List.map_take,List.map_drop]
  show B6 (Av {s with vers:=s.vers.eraseIdx k}) s.blocks
  rw[ep]
  exact⟨e1,e2,by have:=List.length_eraseIdx_le (Av s) k;omega,fun x hx=>e4 x (List.mem_of_mem_eraseIdx hx),e5.sublist (List.eraseIdx_sublist _ _)⟩
 .intro i h0 hi
  rw[eo]
  obtain⟨v,hv,rfl⟩:=List.mem_map.1 hi
  exact hof _ h0 (hne v hv) ((FM s _).2 (List.mem_map.2 ⟨v,hm v hv,rfl⟩))
end Go.Abs
namespace Go.Abs
theorem Jk:∀(t:List Bool) (i a:Int),a≤i→((By t i a).map fun x=>x.2).sum=(i-a)+(t.count false:Nat)
 | [],i,a,h=>by
   simp only[By]
   split
   .simp
   .simp;omega
 |true::t,i,a,h=>by
  have ih:=Jk t (i+1) (i+1) (Int.le_refl _)
  simp only[By,List.map_append,List.sum_append,ih]
  rw[List.count_cons_of_ne (by simp)]
  split
  .simp
  .simp;omega
 |false::t,i,a,h=>by
  have ih:=Jk t (i+1) a (by omega)
  simp only[By,ih,List.count_cons_self]
  omega
theorem Ik:∀(t:List Bool) (i a:Int),a≤i→∀x∈By t i a,∀j:Nat,x.1≤i+j→i+j<x.1+x.2→t[j]?=some false
 | [],i,a,h,x,hx,j,h1,h2=>by
   simp only[By] at hx
   split at hx
   .simp at hx;subst hx;simp at h1 h2;omega
   .simp at hx
 |true::t,i,a,h,x,hx,j,h1,h2=>by
  simp only[By,List.mem_append] at hx
  rcases hx with hx|hx
  .split at hx
   .simp at hx;subst hx;simp at h1 h2;omega
   .simp at hx
  .have hp:=Gk t (i+1) (i+1) (Int.le_refl _) x hx
   cases j with
   |zero=>omega
   |succ j=>simpa using Ik t (i+1) (i+1) (Int.le_refl _) x hx j (by omega) (by omega)
 |false::t,i,a,h,x,hx,j,h1,h2=>by
  simp only[By] at hx
  cases j with
  |zero=>rfl
  |succ j=>simpa using Ik t (i+1) a (by omega) x hx j (by omega) (by omega)
theorem IN {l:List (Int×Int)} {n:Nat} {a:Int} (ha:0≤a):∀(k:Nat),(∀i:Int,a≤i→i<a+k→DJ l i=false)→a+k≤n→(Cj l n a (a+k)).count false+k=(Bx l n).count false
 |0,_,_=>by simp[Nd]
 |k+1,hf,hn=>by
  have ih:=IN (l:=l) (n:=n) ha k (fun i h1 h2=>hf i h1 (by omega)) (by omega)
  obtain⟨i,hi⟩:∃i:Nat,(i:Int)=a+k:=⟨(a+k).toNat,by omega⟩
  have hin:i<n:=by omega
  have hs:=Kn l n i a (by omega) hin
  have hg:=Kl (l:=l) (a:=a) hin
  rw[hf i (by omega) (by omega)] at hg
  rw[←hi] at ih
  have e:a+((k+1:Nat):Int)=(i:Int)+1:=by omega
  rw[e,←hs]
  have hlen:i<(Cj l n a i).length:=by simpa using hin
  have hc:=List.count_set (a:=true) (b:=false) (l:=Cj l n a i) hlen
  rw[hg] at hc
  simp at hc
  have hpos:0<(Cj l n a i).count false:=List.count_pos_iff.2 (by rw[←hg];exact List.getElem_mem _)
  omega
theorem HA {n:Nat}:∀(k:Nat) (l:List (Int×Int)),l.length=k→IG l n→((Bx l n).count false:Int)=n-(l.map fun x=>x.2).sum
 |0,l,hl,_=>by
  have:l=[]:=List.length_eq_zero_iff.1 hl
  subst this
  have:Bx [] n=List.replicate n false:=List.ext_getElem (by simp) fun j _ _=>by simp[Bx,DJ]
  rw[this];simp
 |k+1,l,hl,hp=>by
  have hk:k<l.length:=by omega
  have e:l=l.take k++[l[k]]:=by
   have:=List.take_succ_eq_append_getElem hk
   rw[List.take_of_length_le (by omega)] at this;exact this
  obtain⟨m,hm⟩:∃m,m=l.take k:=⟨_,rfl⟩
  obtain⟨x,hx⟩:∃x,x=l[k]:=⟨_,rfl⟩
  rw[←hm,←hx] at e
  have hml:m.length=k:=by rw[hm];simp;omega
  rw[e] at hp ⊢
  obtain⟨p1,p2,p3⟩:=Hq.1 hp
  have ih:=HA k m hml p1
  have hc:=IN (l:=m) (n:=n) (a:=x.1) p2.1 x.2.toNat (fun i h1 h2=>p3 i h1 (by omega)) (by omega)
  rw[show x.1+(x.2.toNat:Int)=x.1+x.2 by omega,Km] at hc
  simp only[List.map_append,List.sum_append,List.map_cons,List.map_nil,List.sum_cons,List.sum_nil]
  omega
theorem LX {l:List (Int×Int)} {n:Int} (h:B6 l n):Dz l n=(n-(l.map fun x=>x.2).sum,0):=by
 obtain⟨h1,h2,h3,h4,h5⟩:=h
 unfold Dz
 rw[if_pos ⟨h1,h2,h3,h4,h5⟩,Jk _ _ _ (Int.le_refl _),HA l.length l rfl ⟨fun x hx=>by have:=h4 x hx;omega,h5⟩]
 congr 1;omega
theorem Vq {l:List (Int×Int)} {n:Int} (h:B6 l n):0≤(Dz l n).1∧(Dz l n).1≤n:=by
 rw[LX h]
 obtain⟨h1,h2,h3,h4,h5⟩:=h
 have hc:=HA (n:=n.toNat) l.length l rfl ⟨fun x hx=>by have:=h4 x hx;omega,h5⟩
 have hl:=List.count_le_length (a:=false) (l:=Bx l n.toNat)
 simp at hl
 simp only
 omega
theorem RN {l:List (Int×Int)} {b n a:Int} (h:DS l b n=(a,0)):1≤n∧0≤a∧a+n≤b∧∀i,a≤i→i<a+n→DJ l i=false:=by
 unfold DS at h
 split at h
 .rename_i hp
  split at h
  .rename_i x hx
   simp at h;subst h
   have hm:=List.mem_of_find?_eq_some hx
   have hn:=List.find?_some hx
   simp only[decide_eq_true_eq] at hn
   have hps:=Gk _ _ _ (Int.le_refl _) x hm
   simp at hps
   have hb:=hp.1.1
   refine⟨hp.2.1,by omega,by omega,fun i h1 h2=>?_⟩
   have:=Ik _ _ _ (Int.le_refl _) x hm i.toNat (by omega) (by omega)
   have hi:i.toNat<b.toNat:=by omega
   simp[Bx,hi] at this
   have e:i=max i 0:=by omega
   rw[e];exact this
  .simp at h
 .simp at h
theorem OX {l:List (Int×Int)} {b n a:Int} (h:DS l b n=(a,0)) (hp:B6 l b) (hl:l.length<13):B6 (l++[(a,n)]) b∧(Dz (l++[(a,n)]) b).1=(Dz l b).1-n:=by
 obtain⟨h1,h2,h3,h4⟩:=RN h
 have hq:B6 (l++[(a,n)]) b:=by
  obtain⟨p1,p2,p3,p4,p5⟩:=hp
  have:=(Hq (l:=l) (n:=b) (x:=(a,n))).2 ⟨⟨p4,p5⟩,⟨h2,h1,h3⟩,h4⟩
  exact⟨p1,p2,by simp;omega,this.1,this.2⟩
 refine⟨hq,?_⟩
 rw[LX hq,LX hp]
 simp only[List.map_append,List.sum_append,List.map_cons,List.map_nil,List.sum_cons,List.sum_nil]
 omega
theorem RO {l:List Obj} (o:Obj) (hc:JU l) {id:Int} (h:Ck l id):Bb (l++[o]) id=Bb l id:=by
 unfold Bb
 rw[Je o h,Vj o hc 4 (.inr h)]
theorem Ql {l:List Obj} {p:Int} {g:Gr} (hl:Ci l) (hg:AS g) (hf:¬Ck l (Cn l)) (he:(BO l p g).2=0):
 AX (l++[(BO l p g).1]) (BO l p g).1.id=(g,0)∧(BO l p g).1.id=Cn l∧((BO l p g).1.base=0∨Ck l (BO l p g).1.base)∧CT (BO l p g).1.data∧l.length<12∧Cn l≤1048576:=by
 have hn:=Mz hl
 have frame:∀o:Obj,o=⟨Cn l,0,Fu l 0 g⟩→AX (l++[o]) o.id=(g,0):=fun o ho=>by
  have hfo:¬Ck l o.id:=by rw[ho];exact hf
  have h:=(RM (Jf hfo) (by rw[ho];simp only;omega) (by rw[ho])).2
  rw[h,ho]
  simp only[Fu,if_true]
  rw[Le,Qg hg]
 unfold BO at he ⊢
 by_cases c1:12≤l.length∨1048576<Cn l
 .rw[if_pos c1] at he;simp at he
 rw[if_neg c1] at he ⊢
 have hb:l.length<12∧Cn l≤1048576:=by omega
 by_cases c2:p=0
 .rw[if_pos c2];exact⟨frame _ rfl,rfl,.inl rfl,(HM 0 hg).2,hb⟩
 rw[if_neg c2] at he ⊢
 by_cases c3:(AX l p).2≠0
 .rw[if_pos c3] at he;exact absurd he c3
 rw[if_neg c3]
 have h3:(AX l p).2=0:=by omega
 have hd:=Tp h3
 have hh:=Qj hd
 by_cases c4:(Bb l p).1<3∧(B0 (AX l p).1 g).length<(Ca g).length
 .rw[if_pos c4]
  refine⟨?_,rfl,.inr hh,(HM p hg).2,hb⟩
  obtain⟨o,ho⟩:∃o:Obj,o=⟨Cn l,p,Fu l p g⟩:=⟨_,rfl⟩
  rw[←ho]
  have hfo:¬Ck l o.id:=by rw[ho];exact hf
  have hob:o.base=p:=by rw[ho]
  have hoi:o.id≠0:=by rw[ho];simp only;omega
  have hh2:Ck (l++[o]) o.base:=by
   obtain⟨q,hq,e⟩:=hh
   exact⟨q,List.mem_append_left _ hq,by rw[hob];exact e⟩
  have hdo:(Bb (l++[o]) o.id).2=0:=(NV (Jf hfo) hoi hh2).1.2 (by rw[hob,RO o hl.closed hh];exact⟨hd,c4.1⟩)
  rw[Xx (Jf hfo) hoi (by rw[hob];exact c2) hh2 hdo,hob,LW o hl.closed hh c2,if_pos h3]
  have e:o.data=E4 (B0 (AX l p).1 g):=by rw[ho];simp only[Fu,if_neg c2]
  rw[e,Le,Qh (Eo l p) hg]
 .rw[if_neg c4];exact⟨frame _ rfl,rfl,.inl rfl,(HM 0 hg).2,hb⟩
theorem MB {s:AB}:Cn (Al s)=As s.vers+1:=by
 unfold Cn As Al
 rw[List.getLast?_map]
 cases s.vers.getLast?<;>simp[Ev]
theorem PF {s:AB} (h:Ci (Al s)):(s.vers.map fun v=>v.id).Pairwise (·<·):=by rw[←If,List.pairwise_map];exact h.2.2
theorem Tr {s:AB} (h:Ci (Al s)):¬Ck (Al s) (Cn (Al s)):=by
 rw[FM,MB]
 intro hm
 obtain⟨u,hu,e⟩:=List.mem_map.1 hm
 have:=Jg (PF h) u hu
 omega
theorem Tt {s:AB} {id:Int} (h:∀v∈s.vers,v.id≠id):Ba (fun v=>decide (v.id=id)) s.vers<0:=by
 unfold Ba
 have:s.vers.findIdx? (fun v=>decide (v.id=id))=none:=List.findIdx?_eq_none_iff.2 fun v hv=>by simpa using h v hv
 rw[this];decide
def FO (s:AB) (o:Obj) (p a:Int):AB:={s with vers:=s.vers++[⟨o.id,p,o.base,o.data,a,false,false⟩]}
theorem RP {s:AB} {g:Gr} (h:Bl s) (hg:AS g) (he:(BO (Al s) (As s.vers) g).2=0):
 Ec s (BO (Al s) (As s.vers) g).1 (As s.vers)=(Bg,5)∨∃a,Ec s (BO (Al s) (As s.vers) g).1 (As s.vers)=(FO s (BO (Al s) (As s.vers) g).1 (As s.vers) a,0)∧
  Bl (FO s (BO (Al s) (As s.vers) g).1 (As s.vers) a)∧(Dz (Av (FO s (BO (Al s) (As s.vers) g).1 (As s.vers) a)) s.blocks).1=(Dz (Av s) s.blocks).1-Di (BO (Al s) (As s.vers) g).1.data:=by
 have hmy:=h.1.1.2.2.2.2.2.2
 obtain⟨m1,m2,m3,m4,m5,m6⟩:=Ql hmy hg (Tr hmy) he
 obtain⟨o,ho⟩:∃o,o=(BO (Al s) (As s.vers) g).1:=⟨_,rfl⟩
 rw[←ho] at m1 m2 m3 m4 ⊢
 rw[MB] at m2 m6
 have hli:=MA hmy
 have hn:s.vers.length<12:=by simpa[Al] using m5
 have hi:Ba (fun v=>decide (v.id=o.id)) s.vers<0:=Tt fun v hv=>by
  have:=Jg (PF hmy) v hv
  omega
 have hv:GB s o (As s.vers)=some (s.vers++[Id o.id (As s.vers)],s.vers.length):=by
  unfold GB;rw[if_pos hi,if_neg (by omega)]
 have ep:GP (s.vers++[Id o.id (As s.vers)]) s.vers.length o=s.vers++[⟨o.id,As s.vers,o.base,o.data,0,false,false⟩]:=by
  rw[Pw (by simp),List.set_append_right _ _ (Nat.le_refl _),Nat.sub_self];simp[Id]
 have ea:∀a,IK (s.vers++[⟨o.id,As s.vers,o.base,o.data,0,false,false⟩]) s.vers.length a=s.vers++[⟨o.id,As s.vers,o.base,o.data,a,false,false⟩]:=fun a=>by
  rw[RA (by simp),List.set_append_right _ _ (Nat.le_refl _),Nat.sub_self];simp
 have hmost:∀a,En (FO s o (As s.vers) a):=fun a=>
  Ti (v:=⟨o.id,As s.vers,o.base,o.data,a,false,false⟩) (o:=o) h.1 hn rfl (by cases o;rfl) rfl rfl ⟨h.1.1.2.2.1,h.1.1.2.2.2.1⟩ ⟨by simp only;omega,by simp only;omega,by simp⟩ rfl ⟨by omega,by omega,by omega⟩ m4 m3 (by rw[m1])
 unfold Ec
 rw[hv]
 simp only
 rw[ep,if_pos ⟨m4,hmost 0⟩]
 by_cases c:(DS (Av s) s.blocks (Di o.data)).2=0
 .rw[if_pos c]
  obtain⟨a,haf⟩:∃a,DS (Av s) s.blocks (Di o.data)=(a,0):=⟨_,Prod.ext rfl c⟩
  have hm:=OX haf h.2 (by simp[Av];omega)
  have e2:Av (FO s o (As s.vers) a)=Av s++[(a,Di o.data)]:=by simp[Av,FO]
  refine .inr ⟨a,?_,⟨hmost a,by rw[e2];exact hm.1⟩,by rw[e2];exact hm.2⟩
  rw[haf,ea];rfl
 .rw[if_neg c];exact .inl rfl
theorem Tu (s:AB):(BW s true).length+(BW s false).length=s.vers.length:=by
 unfold BW Df
 simp only[List.length_map]
 have:∀l:List Bi,(l.filter fun v=>ES s v==true).length+(l.filter fun v=>ES s v==false).length=l.length:=fun l=>by
  induction l with
  |nil=>rfl
  |cons v l ih=>cases hk:ES s v<;>simp[List.filter_cons,hk] at ih ⊢<;>omega
 exact this _
theorem MC {s:AB} (h:Bl s) (h0:As s.vers≠0):∃v∈s.vers,v.id=As s.vers∧s.vers.getLast?=some v∧v.gone=false:=by
 have hg:=h.1.1.2.2.2.2.2.1
 unfold As Ej at*
 cases e:s.vers.getLast? with
 |none=>rw[e] at h0;simp at h0
 |some v=>rw[e] at hg;exact⟨v,List.mem_of_getLast? e,rfl,rfl,hg⟩
theorem RQ {s:AB} (h:Bl s) (h0:As s.vers≠0):As s.vers∈Cg s.vers:=by
 obtain⟨v,hv,e,_,hg⟩:=MC h h0
 rw[←e];exact(S4 _ _).2 ⟨v,hv,hg,rfl⟩
theorem RS {s:AB} (h:Bl s) (h0:As s.vers≠0):As s.vers∈BW s true:=by
 obtain⟨v,hv,e,hl,hg⟩:=MC h h0
 rw[K5]
 refine⟨v,hv,?_,e⟩
 have hk:=h.1.1.1
 have hs:(Cg s.vers).getLast?=some v.id:=by
  obtain⟨ys,e2⟩:=List.getLast?_eq_some_iff.1 hl
  rw[e2,Cg,List.filter_append,List.map_append]
  simp[hg]
 have hm:v.id∈J3 s:=by
  unfold J3
  have hne:0<(Cg s.vers).length:=by
   cases hq:Cg s.vers with
   |nil=>rw[hq] at hs;simp at hs
   |cons _ _=>simp
  rw[List.getLast?_eq_getElem?] at hs
  exact List.mem_of_getElem? (i:=(Cg s.vers).length-1-(max 0 (((Cg s.vers).length:Int)-s.keep)).toNat) (by
   rw[List.getElem?_drop,←hs];congr 1;omega)
 unfold ES
 have:(J3 s).contains v.id=true:=by simpa using hm
 rw[this];simp
theorem PG (s:AB) (i:Int):i∈BW s false↔∃v∈s.vers,ES s v=false∧v.id=i:=by
 simp[BW,Df,and_assoc]
theorem Tv {s:AB} (h:Bl s) {i:Int} (hi:i∈BW s false):¬i∈BW s true:=by
 rw[PG] at hi
 rw[K5]
 obtain⟨v,hv,k1,e1⟩:=hi
 rintro⟨u,hu,k2,e2⟩
 obtain⟨a,ha,rfl⟩:=List.mem_iff_getElem.1 hv
 obtain⟨b,hb,rfl⟩:=List.mem_iff_getElem.1 hu
 have:=U8 h ha hb (by rw[e1,e2])
 subst this
 rw[k1] at k2;simp at k2
end Go.Abs
set_option maxRecDepth 100000
namespace Go.Abs
open Go.Proofs
set_option maxHeartbeats 8000000 in
theorem Qm (hR:Bv) (S:List AB) (L:List (List Obj)) (G:List Gr) (na nn:Nat) (h0:S.length<Be) (hS:∀s∈S,Kw s) (h1:G.length<Be) (h2:∀g∈G,Ja g) (h3:na<Be) (h4:nn<Be) (h5:L.length<Be) (h6:∀l∈L,l.length<Be∧∀o∈l,FK o):Aa pg 7 [.agg (LS S L G na nn)] [] (fun r _=>r= .bool true):=by
 have spH:=U7 S L G na nn h0 hS h1 h2 h3 h4 h5 (fun l hl=>⟨(h6 l hl).1,fun o ho=>((h6 l hl).2 o ho).1⟩)
 have spW:=Rp hR
 simp only[LS,Ic,Ib,List.cons_append,List.nil_append] at spH ⊢
 obtain⟨ask,hask⟩:∃ask:List AV,ask=[.ro S.length (Af (AA false) S),.ro L.length (C6 L),.ro G.length (Af (AU false) G),.ro na [],.ro nn []]:=⟨_,rfl⟩
 refine Aa.start (fn:=Tryz.f7) [.tmp 2] tk rfl rfl rfl (by kernel_rfl) (Nat.le_of_ble_eq_true rfl) rfl (by kernel_rfl) ?_
 rw[Au]
 refine z1 ?_;intro K hK;refine zk ?_;clear hK K
 refine z0 ?_;intro K hK
 refine Ab.bor spH (by simp) ?_
 rintro r ⟨b,rfl,hb⟩
 refine⟨by simp,?_⟩
 cases b
 rotate_left
 .refine zx ?_
  refine zk ?_;clear hK K
  refine zt ?_
  refine zs ?_
  exact zR
 obtain⟨⟨hS1,hS2⟩,⟨hL1,hL2⟩,hG1,hG2⟩:=hb rfl
 refine zx ?_
 refine zk ?_;clear hK K
 refine zn ?_
 refine W.skip ?_
 refine zs ?_
 (repeat refine W.seq ?_);refine W.block (W.loopS (fun i:Nat=> [(1,.ptr 0 0 0),(3,.int .i64 i)]) (fun _=> [.live 0 [.ro S.length (Af (AA false) S),.ro L.length (C6 L),.ro G.length (Af (AU false) G),.ro na [],.ro nn []]]) (fun i=>S.length-i) (fun i=>i≤S.length) 0 (Wk.fr (by simp[Ad])) (by simp) ?_)
 intro i hi
 by_cases c:i<S.length∧i<4
 rotate_left
 . (repeat refine W.seq ?_);refine W.midS (fun _:Unit=> [(35,.bool false)]) (fun _=> []) (fun _=>True) ?_ ?_
   .by_cases d1:i<S.length
    .have d2:¬(i:Int)<4:=by omega
     refine Ae (an d1 d2) ?_;intro K hK
     refine zk ?_;clear hK K
     exact⟨(),trivial,Wk.cutM (k:=0) (by simp[Ad]) (by simp) (by simp) (by simp) (by simp) (by simp)⟩
    .refine Ae d1 ?_;intro K hK
     refine zk ?_;clear hK K
     exact⟨(),trivial,Wk.cutM (k:=0) (by simp[Ad]) (by simp) (by simp) (by simp) (by simp) (by simp)⟩
   rintro _ _
   refine zn ?_
   refine W.exit ?_
   refine z0 ?_;intro K hK
   refine Ab.eq spW (by simp) (by simp) ?_
   refine zx ?_
   refine zk ?_;clear hK K
   exact zR
 obtain⟨d1,d2⟩:=c
 have d2' :(i:Int)<4:=by omega
 have k0:(Af (AA false) S)[i*4]?=some (.int .i64 S[i].keep):=BU (f:=AA false) (s:=4) (fun _=>rfl) d1 (i:=0) (by omega)
 have k1:(Af (AA false) S)[i*4+1]?=some (.int .i64 S[i].blocks):=BU (f:=AA false) (s:=4) (fun _=>rfl) d1 (i:=1) (by omega)
 have k2:(Af (AA false) S)[i*4+1+1]?=some (.ro S[i].vers.length (Af AN S[i].vers)):=BU (f:=AA false) (s:=4) (fun _=>rfl) d1 (i:=2) (by omega)
 have k3:(Af (AA false) S)[i*4+1+1+1]?=some (.ro S[i].sess.length (Af (AI false) S[i].sess)):=BU (f:=AA false) (s:=4) (fun _=>rfl) d1 (i:=3) (by omega)
 obtain⟨hsi,hsx⟩:=S5 (hS2 _ (List.getElem_mem d1))
 have hsm:=hS2 _ (List.getElem_mem d1)
 obtain⟨s,hsd⟩:∃s,s=S[i]:=⟨_,rfl⟩
 rw[←hsd] at k0 k1 k2 k3 hsi hsx hsm
 have hvl:=hsm.1
 have spS:=Kv s hsi hsx
 refine Ae (an d1 d2') ?_;intro K hK
 refine zk ?_;clear hK K
 refine zt ?_
 refine W.skip ?_
 refine zb ?_
 refine Lz (an d1 (an k0 (an k1 (an k2 k3)))) ?_;intro K hK
 refine zk ?_;clear hK K
 by_cases hok:Bl s
 rotate_left
 .rw[decide_eq_false hok] at spS
  refine z0 ?_;intro K hK
  refine Ab.eq spS (by simp) (by simp) ?_
  refine zx ?_
  refine zk ?_;clear hK K
  refine zt ?_
  refine W.exit ?_
  refine zs ?_
  exact⟨i+1,by omega,by omega,Wk.cutM (k:=1) (by simp[Ad]) (by simp) (by simp) (by simp) (by simp) (by simp)⟩
 rw[decide_eq_true hok] at spS
 have sp1:=Pp hR s hsi hsx
 have sp2:=Xc hR s hsi hsx
 have sp3:=Yv hR s hsi hsx
 have sp4:=Yl hR s hsi hsx
 have sp5:=Px hR s hsi hsx
 simp only[if_pos hok] at sp1 sp2 sp3 sp4 sp5
 have n0:=EO 0
 have hKL:=Tu s
 have hKO:=fun i=>Tv hok (i:=i)
 have hKH:=RS hok
 have hSH:=RQ hok
 have lnS:(Cg s.vers).length≤s.vers.length:=JN ..
 have hof:=fun id (h:id∈BW s false)=>(PG s id).1 h
 have hmy:=hok.1.1.2.2.2.2.2.2
 have hli:=MA hmy
 have hmk:=fun g hg he=>RP (g:=g) hok hg he
 have hmd:=fun g hg he=>Tm (l:=Al s) (p:=As s.vers) (g:=g) hmy hg he
 obtain⟨hd,hhd⟩:∃hd,hd=As s.vers:=⟨_,rfl⟩
 obtain⟨kp,hkp⟩:∃kp,kp=BW s true:=⟨_,rfl⟩
 obtain⟨od,hod⟩:∃od,od=BW s false:=⟨_,rfl⟩
 obtain⟨se,hse⟩:∃se,se=Cg s.vers:=⟨_,rfl⟩
 obtain⟨fr,hfr⟩:∃fr,fr=(Dz (Av s) s.blocks).1:=⟨_,rfl⟩
 rw[←hhd] at sp1 hKH hSH hli hmk hmd
 rw[←hkp] at sp2 hKL hKH hKO
 rw[←hod] at sp3 hKL hKO hof
 rw[←hse] at sp4 hSH lnS
 rw[←hfr] at sp5 hmk
 have hKL2:(kp.length:Int)+(od.length:Int)=(s.vers.length:Int):=by omega
 have bkp:kp.length<4611686018427387904:=by omega
 have bse:se.length<4611686018427387904:=by omega
 refine z0 ?_;intro K hK
 refine Ab.eq spS (by simp) (by simp) ?_
 refine zx ?_
 refine zk ?_;clear hK K
 refine zn ?_
 refine W.skip ?_
 refine z0 ?_;intro K hK
 refine Ab.eq sp1 (by simp) (by simp) ?_
 refine zx ?_
 refine zk ?_;clear hK K
 refine z0 ?_;intro K hK
 refine Ab.eq sp2 (by simp) (by simp) ?_
 refine zx ?_
 refine zk ?_;clear hK K
 refine z0 ?_;intro K hK
 refine Ab.eq sp3 (by simp) (by simp) ?_
 refine zx ?_
 refine zk ?_;clear hK K
 refine z0 ?_;intro K hK
 refine Ab.eq sp4 (by simp) (by simp) ?_
 refine zx ?_
 refine zk ?_;clear hK K
 (repeat refine W.seq ?_);refine W.midS (fun _:Unit=> [(1,.ptr 0 0 0),(3,.int .i64 i),(4,.ptr 1 0 0),(5,.int .i64 hd),(7,.tok 2 0 1 0 kp.length),(9,.tok 3 0 1 0 od.length),(104,.bool false)]) (fun _=> [.live 0 [.ro S.length (Af (AA false) S),.ro L.length (C6 L),.ro G.length (Af (AU false) G),.ro na [],.ro nn []],.live 0 [.int .i64 s.keep,.int .i64 s.blocks,.ro s.vers.length (Af AN s.vers),.ro s.sess.length (Af (AI false) s.sess)],.live 0 (Ac kp),.live 0 (Ac od),.live 0 (Ac se)]) (fun _=>True) ?_ ?_
 .by_cases c:hd=0
  .refine z0 ?_;intro K hK
   refine Ab.eq n0 (by simp) (by simp) ?_
   refine zx ?_
   refine Ab.eq n0 (by simp) (by simp) ?_
   refine zx ?_
   refine Ab.eq n0 (by simp) (by simp) ?_
   refine zx ?_
   refine Ab.eq n0 (by simp) (by simp) ?_
   refine AR (an hKL2 c) ?_
   refine zk ?_;clear hK K
   exact⟨(),trivial,Wk.fr (by simp[Ad,c])⟩
  .have ix1:0≤Ba (fun y=>decide (y=hd)) kp:=(FH kp hd).2 (by simpa using hKH c)
   have ix2:0≤Ba (fun y=>decide (y=hd)) se:=(FH se hd).2 (by simpa using hSH c)
   refine z0 ?_;intro K hK
   refine Ab.eq n0 (by simp) (by simp) ?_
   refine zx ?_
   refine Ab.eq n0 (by simp) (by simp) ?_
   refine zx ?_
   refine Ab.eq n0 (by simp) (by simp) ?_
   refine zx ?_
   refine Ab.eq n0 (by simp) (by simp) ?_
   refine AR (an hKL2 c) ?_
   refine Ab.eq (Ma kp hd bkp) (by simp) (by simp) ?_
   refine AR ix1 ?_
   refine Ab.eq (Ma se hd bse) (by simp) (by simp) ?_
   refine AR ix2 ?_
   refine zk ?_;clear hK K
   exact⟨(),trivial,Wk.fr (by simp[Ad])⟩
 rintro _ _
 refine zn ?_
 refine W.skip ?_
 refine zs ?_
 refine W.midS (fun _:Unit=> [(1,.ptr 0 0 0),(3,.int .i64 i),(4,.ptr 1 0 0),(5,.int .i64 hd),(7,.tok 2 0 1 0 kp.length),(9,.tok 3 0 1 0 od.length)]) (fun _=> [.live 0 [.ro S.length (Af (AA false) S),.ro L.length (C6 L),.ro G.length (Af (AU false) G),.ro na [],.ro nn []],.live 0 [.int .i64 s.keep,.int .i64 s.blocks,.ro s.vers.length (Af AN s.vers),.ro s.sess.length (Af (AI false) s.sess)],.live 0 (Ac kp),.live 0 (Ac od),.live 0 (Ac se)]) (fun _=>True) ?_ ?_
 . (repeat refine W.seq ?_);refine W.block (W.loopS (fun k:Nat=> [(1,.ptr 0 0 0),(3,.int .i64 i),(4,.ptr 1 0 0),(5,.int .i64 hd),(7,.tok 2 0 1 0 kp.length),(9,.tok 3 0 1 0 od.length),(13,.int .i64 k)]) (fun _=> [.live 0 [.ro S.length (Af (AA false) S),.ro L.length (C6 L),.ro G.length (Af (AU false) G),.ro na [],.ro nn []],.live 0 [.int .i64 s.keep,.int .i64 s.blocks,.ro s.vers.length (Af AN s.vers),.ro s.sess.length (Af (AI false) s.sess)],.live 0 (Ac kp),.live 0 (Ac od),.live 0 (Ac se)]) (fun k=>od.length-k) (fun k=>k≤od.length) 0 (Wk.fr (by simp[Ad])) (by simp) ?_)
   intro k hk
   by_cases e1:k<od.length
   rotate_left
   .refine Ae e1 ?_;intro K hK
    refine zk ?_;clear hK K
    refine zn ?_
    refine W.exit ?_
    exact⟨(),trivial,Wk.fr (by simp[Ad])⟩
   obtain⟨id,BM⟩:∃id,id=od[k]:=⟨_,rfl⟩
   have hidm:id∈od:=by rw[BM];exact List.getElem_mem e1
   have g1:(Ac od)[k]?=some (.int .i64 id):=by rw[BM];simp[e1,Ac]
   have ix:¬0≤Ba (fun y=>decide (y=id)) kp:=fun h=>hKO id hidm (by simpa using (FH kp id).1 h)
   have spT:=Xt hR s id hsi hsx
   have hyin:=To (id:=id) hsi hsx
   have hyt:F9 s id=DY s id:=by unfold F9;rw[if_pos hok]
   have htk:=Tq (id:=id) hok
   rw[←hyt] at htk
   obtain⟨y,hy⟩:∃y,y=(F9 s id).1:=⟨_,rfl⟩
   obtain⟨e,he⟩:∃e,e=(F9 s id).2:=⟨_,rfl⟩
   rw[←hy,←he] at spT htk
   rw[←hy] at hyin
   have spY:=Kv y hyin.1 hyin.2
   refine Ae e1 ?_;intro K hK
   refine zk ?_;clear hK K
   refine zt ?_
   refine W.skip ?_
   refine zb ?_
   refine Ae (an e1 g1) ?_;intro K hK
   refine Ab.eq (Ma kp id bkp) (by simp) (by simp) ?_
   refine AR ix ?_
   refine zk ?_;clear hK K
   refine zn ?_
   refine W.skip ?_
   (repeat refine W.seq ?_);refine W.regd 1 rfl true Ce (by kernel_rfl) fun K hK=>?_;simp -implicitDefEqProofs (maxSteps:=999999) (disch:=omega) [e1,g1]
   refine Ah.eq spT (by simp) (by simp) ?_
   refine AR (an e1 g1) ?_
   refine zk ?_;clear hK K
   by_cases c:e=0
   .rw[decide_eq_true (htk c).1] at spY
    refine Ae c ?_;intro K hK
    refine Ab.eq (EO 0) (by simp) (by simp) ?_
    refine zx ?_
    refine Ab.eq spY (by simp) (by simp) ?_
    refine zx ?_
    refine zk ?_;clear hK K
    refine zn ?_
    refine W.skip ?_
    refine zs ?_
    exact⟨k+1,by omega,by omega,Wk.cutM (k:=5) (by simp[Ad]) (by simp) (by simp) (by simp) (by simp) (by simp)⟩
   .refine z0 ?_;intro K hK
    refine Ab.eq (EO e) (by simp) (by simp) ?_
    refine AR c ?_
    refine zk ?_;clear hK K
    refine zn ?_
    refine W.skip ?_
    refine zs ?_
    exact⟨k+1,by omega,by omega,Wk.cutM (k:=5) (by simp[Ad]) (by simp) (by simp) (by simp) (by simp) (by simp)⟩
 rintro _ _
 refine z0 ?_;intro K hK
 refine Ab.eq sp5 (by simp) (by simp) ?_
 refine zx ?_
 refine zk ?_;clear hK K
 refine z0 ?_;intro K hK
 refine Ab.eq n0 (by simp) (by simp) ?_
 refine zx ?_
 refine zk ?_;clear hK K
 refine zn ?_
 refine W.skip ?_
 refine zs ?_
 (repeat refine W.seq ?_);refine W.block (W.loopS (fun q:Nat=> [(1,.ptr 0 0 0),(3,.int .i64 i),(4,.ptr 1 0 0),(5,.int .i64 hd),(16,.int .i64 fr),(18,.int .i64 q)]) (fun _=> [.live 0 [.ro S.length (Af (AA false) S),.ro L.length (C6 L),.ro G.length (Af (AU false) G),.ro na [],.ro nn []],.live 0 [.int .i64 s.keep,.int .i64 s.blocks,.ro s.vers.length (Af AN s.vers),.ro s.sess.length (Af (AI false) s.sess)]]) (fun q=>G.length-q) (fun q=>q≤G.length) 0 (Wk.cutM (k:=2) (by simp[Ad]) (by simp) (by simp) (by simp) (by simp) (by simp)) (by simp) ?_)
 intro q hq
 by_cases c:q<G.length∧q<2
 rotate_left
 . (repeat refine W.seq ?_);refine W.midS (fun _:Unit=> [(1,.ptr 0 0 0),(3,.int .i64 i),(153,.bool false)]) (fun _=> [.live 0 [.ro S.length (Af (AA false) S),.ro L.length (C6 L),.ro G.length (Af (AU false) G),.ro na [],.ro nn []]]) (fun _=>True) ?_ ?_
   .by_cases e1:q<G.length
    .have e2:¬(q:Int)<2:=by omega
     refine Ae (an e1 e2) ?_;intro K hK
     refine zk ?_;clear hK K
     exact⟨(),trivial,Wk.cutM (k:=1) (by simp[Ad]) (by simp) (by simp) (by simp) (by simp) (by simp)⟩
    .refine Ae e1 ?_;intro K hK
     refine zk ?_;clear hK K
     exact⟨(),trivial,Wk.cutM (k:=1) (by simp[Ad]) (by simp) (by simp) (by simp) (by simp) (by simp)⟩
   rintro _ _
   refine zn ?_
   refine W.exit ?_
   refine zs ?_
   exact⟨i+1,by omega,by omega,Wk.fr (by simp[Ad])⟩
 obtain⟨e1,e2⟩:=c
 have e2' :(q:Int)<2:=by omega
 have hsg:=hG2 _ (List.getElem_mem e1)
 have hgi:EX G[q]:=⟨by have:=hsg.1;omega,fun l hl=>by have:=hsg.2 l hl;omega⟩
 have g0:(Af (AU false) G)[q*2]?=some (.int .i64 G[q].n):=BU (f:=AU false) (s:=2) (fun _=>rfl) e1 (i:=0) (by omega)
 have g1:(Af (AU false) G)[q*2+1]?=some (.ro G[q].out.length (AC false G[q].out)):=BU (f:=AU false) (s:=2) (fun _=>rfl) e1 (i:=1) (by omega)
 obtain⟨g,hgd⟩:∃g,g=G[q]:=⟨_,rfl⟩
 rw[←hgd] at g0 g1 hsg hgi
 have spG:=HK g hgi
 refine Ae (an e1 e2') ?_;intro K hK
 refine zk ?_;clear hK K
 refine zt ?_
 refine W.skip ?_
 refine zb ?_
 by_cases hg:AS g
 rotate_left
 .rw[decide_eq_false hg] at spG
  refine Ae (an e1 (an g0 g1)) ?_;intro K hK
  refine Ab.eq spG (by simp) (by simp) ?_
  refine zx ?_
  refine zk ?_;clear hK K
  refine zt ?_
  refine W.exit ?_
  refine zs ?_
  exact⟨q+1,by omega,by omega,Wk.fr (by simp[Ad])⟩
 rw[decide_eq_true hg] at spG
 refine Ae (an e1 (an g0 g1)) ?_;intro K hK
 refine Ab.eq spG (by simp) (by simp) ?_
 refine zx ?_
 refine zk ?_;clear hK K
 refine zn ?_
 refine W.skip ?_
 have spO:=Ps s hsi
 have hob:=hsi.objs
 have hmk:=hmk g hg
 have hmd:=hmd g hg
 obtain⟨l,hl⟩:∃l,l=Al s:=⟨_,rfl⟩
 rw[←hl] at spO hob hmy hmk hmd
 have spM:=Xw l hd g hob (by have:=hmy.1;omega) hmy hg
 obtain⟨o,ho⟩:∃o,o=(BO l hd g).1:=⟨_,rfl⟩
 obtain⟨e,he⟩:∃e,e=(BO l hd g).2:=⟨_,rfl⟩
 rw[←ho,←he] at spM hmk hmd
 (repeat refine W.seq ?_);refine W.regd 1 rfl true Ce (by kernel_rfl) fun K hK=>?_;simp -implicitDefEqProofs (maxSteps:=999999) (disch:=omega) [e1,g0,g1]
 refine Ah.eq spO (by simp) (by simp) ?_
 refine AR (an e1 (an g0 g1)) ?_
 refine Ah.eq spM (by simp) (by simp) ?_
 refine zx ?_
 refine zk ?_;clear hK K
 by_cases he0:e=0
 rotate_left
 .refine Ae he0 ?_;intro K hK
  refine zk ?_;clear hK K
  refine zt ?_
  refine W.exit ?_
  refine zs ?_
  exact⟨q+1,by omega,by omega,Wk.cutM (k:=2) (by simp[Ad]) (by simp) (by simp) (by simp) (by simp) (by simp)⟩
 refine Ae he0 ?_;intro K hK
 refine zk ?_;clear hK K
 refine zn ?_
 refine W.skip ?_
 have hods:o.data.data.size<1000000000:=by have:=(hmd he0).1;omega
 have spY:=Yu hR s o hd hsi hsx hods (by omega)
 have hyin:=Vo (p:=hd) hsi hsx hods (by omega)
 have hys:Ie s o hd=Ec s o hd:=by unfold Ie;rw[if_pos hok]
 rw[hys] at spY hyin
 have hnd:=PZ o.data hods
 rcases hmk he0 with hm| ⟨a,hm,hyok,hfree⟩
 .rw[hm] at spY
  refine z1 ?_;intro K hK
  refine Ab.eq spY (by simp) (by simp) ?_
  refine zx ?_
  refine zk ?_;clear hK K
  refine z0 ?_;intro K hK
  refine Ab.eq (EO 5) (by simp) (by simp) ?_
  refine zx ?_
  refine zk ?_;clear hK K
  refine zt ?_
  refine W.exit ?_
  refine zs ?_
  exact⟨q+1,by omega,by omega,Wk.cutM (k:=2) (by simp[Ad]) (by simp) (by simp) (by simp) (by simp) (by simp)⟩
 rw[hm] at spY hyin
 obtain⟨y,hy⟩:∃y,y=FO s o hd a:=⟨_,rfl⟩
 have hyb:y.blocks=s.blocks:=by rw[hy];rfl
 simp only[←hy] at spY hyin hyok hfree
 have spF:=Px hR y hyin.1 hyin.2
 have spZ:=Kv y hyin.1 hyin.2
 rw[decide_eq_true hyok] at spZ
 simp only[if_pos hyok,hyb,hfree] at spF
 have hbd:-1000000000000<fr∧fr<1000000000000∧-1000000000000<Di o.data∧Di o.data<1000000000000:=by
  have h1:=Vq hok.2
  rw[←hfr] at h1
  have h2:=hok.2.2.1
  have h3:=(hmd he0).1
  unfold Di
  omega
 refine z1 ?_;intro K hK
 refine Ab.eq spY (by simp) (by simp) ?_
 refine zx ?_
 refine zk ?_;clear hK K
 refine z0 ?_;intro K hK
 refine Ab.eq (EO 0) (by simp) (by simp) ?_
 refine zx ?_
 refine zk ?_;clear hK K
 refine zn ?_
 refine W.skip ?_
 refine z0 ?_;intro K hK
 refine Ab.eq spF (by simp) (by simp) ?_
 refine zx ?_
 refine zk ?_;clear hK K
 refine z0 ?_;intro K hK
 refine Ab.eq (EO 0) (by simp) (by simp) ?_
 refine zx ?_
 refine Ab.eq (EO 0) (by simp) (by simp) ?_
 refine zx ?_
 refine Ab.eq spZ (by simp) (by simp) ?_
 refine zx ?_
 refine Ab.eq hnd (by simp) (by simp) ?_
 refine zx ?_
 refine zk ?_;clear hK K
 refine zn ?_
 refine W.skip ?_
 refine zs ?_
 exact⟨q+1,by omega,by omega,Wk.cutM (k:=2) (by simp[Ad]) (by simp) (by simp) (by simp) (by simp) (by simp)⟩
end Go.Abs
set_option maxRecDepth 100000
namespace Go.Abs
open Go.Proofs Go.ChangeShapes Go.WideShapes Go.ChangeAt Go.RowKit
def Jl (P:Program) (fn:Func) (s:ChangeSpec) (c:OpenClaim):Bool:=
 c.wf (OpenSpec.ofChange s)&&laidOutB P&&mapsRowed P&&
 fn.params.all (fun t=>P.readableRec t)&&namedTie P c.named s.vars&&
 (c.stops==[])&&(P.stops==[])&&(c.knobs==[])&&(P.stopKnobs==[])&&
 (c.maps==(fn.params.toList++s.plain.varTypes P).any (fun t=>P.mapsRec t))&&(c.ifaces==(fn.params.toList++s.plain.varTypes P).any (fun t=>P.ifacesRec t))&&(c.mapsOut==P.mapsAmong fn.resultTypes.toList)&&
 (c.loops==(fn.params.toList++s.plain.varTypes P).any (fun t=>P.loopsFrom t))&&(c.wideKeys==(fn.params.toList++s.plain.varTypes P++fn.resultTypes.toList).any (fun t=>P.wideKeysFrom t))&&
 s.vars.all (fun t=>P.varReadable t)&&fn.resultTypes.all (fun t=>P.readableRec t&&decide (t<P.types.size))&&(c.ifacesOut==fn.resultTypes.toList.any (fun t=>P.ifacesRec t))&&(c.loopsOut==fn.resultTypes.toList.any (fun t=>P.loopsFrom t))&&(c.plainKeys==P.plainKeys)&&c.shortTexts.isNone&&(c.kinds==(if c.domain.isEmpty then [] else fn.params.toList.map fun t=>match P.underlying t with|some (.int k)=>some k|_=>none))&&(c.pinned==c.pinnedBy)&&
 (c.veiled==(fn.params.toList++s.plain.varTypes P++fn.resultTypes.toList).any (fun t=>P.veiledRec t))&&c.veiledFits P fn.params.toList (fn.params.toList++s.plain.varTypes P++fn.resultTypes.toList)
theorem RT {P:Program} {f:FuncId} {fn:Func} {s:ChangeSpec} {c:OpenClaim} (h1:(c.inPlace==P.inPlace f)=true) (h2:(c.unfollowed==P.unfollowed f)=true) (h3:(c.recurses==P.recurses f)=true) (h4:(c.named==P.varsNamed f)=true)
 (h5:P.stopsHeard=true) (h6:P.mayEnter=true) (h7:(c.lifted==P.liftsFinal)=true) (h8:(P.make==some c.make)=true) (h:Jl P fn s c=true):joinedFacts P f fn s c=true:=by
 simp only[Jl,Bool.and_eq_true] at h
 obtain⟨⟨⟨⟨⟨⟨⟨⟨⟨⟨⟨⟨⟨⟨⟨⟨⟨⟨⟨⟨⟨⟨⟨k1,k2⟩,k3⟩,k4⟩,k5⟩,k6⟩,k7⟩,k8⟩,k9⟩,k10⟩,k11⟩,k12⟩,k13⟩,k14⟩,k15⟩,k16⟩,k17⟩,k18⟩,k19⟩,k20⟩,k21⟩,k22⟩,k23⟩,k24⟩:=h
 simp only[joinedFacts,Bool.and_eq_true]
 exact⟨⟨⟨⟨⟨⟨⟨⟨⟨⟨⟨⟨⟨⟨⟨⟨⟨⟨⟨⟨⟨⟨⟨⟨⟨⟨⟨⟨⟨⟨⟨k1,k2⟩,k3⟩,k4⟩,k5⟩,k6⟩,k7⟩,k8⟩,k9⟩,h1⟩,h2⟩,h3⟩,h4⟩,k10⟩,k11⟩,k12⟩,k13⟩,k14⟩,k15⟩,k16⟩,k17⟩,k18⟩,k19⟩,k20⟩,h5⟩,h6⟩,h7⟩,h8⟩,k21⟩,k22⟩,k23⟩,k24⟩
end Go.Abs
