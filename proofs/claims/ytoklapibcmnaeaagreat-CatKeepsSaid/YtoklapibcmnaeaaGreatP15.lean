/- References: a state with an object laid. -/
import Derived.Test.YtoklapibcmnaeaaGreatP14
set_option linter.unusedVariables false
set_option linter.unusedSimpArgs false
set_option maxRecDepth 100000
namespace Go.Abs
open Go.Proofs
def Uy (l:List (Int×Int)) (blocks m:Int):Int:=match (By (Bx l blocks.toNat) 0 0).find? fun x=>decide (m≤x.2) with|some x=>x.1|none=>-1
def NT (s:AB) (o:Obj) (p:Int):List Bi×Nat:=if Ba (fun v=>decide (v.id=o.id)) s.vers<0 then(s.vers++[Id o.id p],s.vers.length) else(s.vers,(Ba (fun v=>decide (v.id=o.id)) s.vers).toNat)
def dS (s:AB) (o:Obj) (p:Int):AB×Int:=
 if Uy (Av s) s.blocks (Di o.data)<0 then(Bg,5)
 else({s with vers:=IK (GP (NT s o p).1 (NT s o p).2 o) (NT s o p).2 (Uy (Av s) s.blocks (Di o.data))},0)
end Go.Abs
set_option maxRecDepth 100000
namespace Go.Abs
open Go.Proofs
def ai:Bi:=⟨-9,0,0,⟨ByteArray.empty,0⟩,0,false,false⟩
def aj:CR:=⟨false,-9,false,0,⟨0,[]⟩,⟨0,0,0,false,[],[]⟩⟩
def jH (k:Nat) (l:List Bi):List Bi:=List.replicate k ai++l.drop k
def jI (k:Nat) (l:List CR):List CR:=List.replicate k aj++l.drop k
end Go.Abs
set_option maxRecDepth 100000
namespace Go.Abs
open Go.Proofs
def gZ (b k:Int):AB×Int:=if (1≤b∧b≤100)∧(1≤k∧k≤8) then(B4 b k,0) else(Bg,1)
end Go.Abs
namespace Go.Abs
def JT:List Bi→Int→List Bi
 | [],_=> []
 |v::t,a=>{v with at_:=a}::JT t (a+Di v.data)
def Yw:List Bi→Int
 | []=>0
 |v::t=>Di v.data+Yw t
@[simp] theorem RE:∀(l:List Bi) (a:Int),(JT l a).length=l.length
  | [],a=>rfl
  |v::t,a=>by simp[JT,RE t]
def g9 (l:List Bi) (a:Int):List (Int×Int):=(JT l a).map fun v=>(v.at_,Di v.data)
end Go.Abs
namespace Go.Abs
theorem Ha {l m:List Obj} (P:Int→Prop) (h:∀id,P id→id≠0→Bf l id=Bf m id) (hb:∀id o,P id→id≠0→Bf l id=some o→P o.base):∀(k:Nat) (id:Int),P id→AT l k id=AT m k id
 |0,_,_=>rfl
 |k+1,id,hp=>by
  simp only[AT]
  by_cases h0:id=0
  .simp[h0]
  .rw[if_neg h0,if_neg h0,←h id hp h0]
   cases e:Bf l id with
   |none=>rfl
   |some o=>simp only;rw[Ha P h hb k o.base (hb id o hp h0 e)]
theorem Mn {l m:List Obj} (P:Int→Prop) (h:∀id,P id→id≠0→Bf l id=Bf m id) (hb:∀id o,P id→id≠0→Bf l id=some o→P o.base) {id:Int} (hp:P id) (h0:id≠0):AX l id=AX m id:=by
 unfold AX Bb
 rw[Ha P h hb 4 id hp,Ha P h hb 3 id hp,h id hp h0]
def Ck (l:List Obj) (id:Int):Prop:=∃q∈l,q.id=id
theorem Hb {l:List Obj} {id:Int} {o:Obj} (h:Bf l id=some o):o∈l∧o.id=id:=⟨List.mem_of_find?_eq_some h,by simpa using List.find?_some h⟩
theorem EP {l:List Obj} {id:Int}:Ck l id↔∃o,Bf l id=some o:=by
 constructor
 .rintro⟨q,hq,e⟩
  cases h:Bf l id with
  |none=>have:=List.find?_eq_none.1 h q hq;simp[e] at this
  |some o=>exact⟨o,rfl⟩
 .rintro⟨o,h⟩
  exact⟨o,Hb h⟩
theorem Je {l:List Obj} {id:Int} (o:Obj) (h:Ck l id):Bf (l++[o]) id=Bf l id:=by
 obtain⟨q,hq⟩:=EP.1 h
 unfold Bf at hq ⊢
 rw[List.find?_append,hq];rfl
theorem Jf {l:List Obj} {o:Obj} (h:¬Ck l o.id):Bf (l++[o]) o.id=some o:=by
 have:l.find? (fun q=>decide (q.id=o.id))=none:=List.find?_eq_none.2 fun q hq=>by simpa using fun e=>h ⟨q,hq,e⟩
 unfold Bf
 rw[List.find?_append,this];simp
def JU (l:List Obj):Prop:=∀o∈l,o.base=0∨Ck l o.base
theorem Ci.closed {l:List Obj} (h:Ci l):JU l:=fun o ho=>(h.2.1 o ho).2.2.2.2
theorem Vj {l:List Obj} (o:Obj) (hc:JU l) (k:Nat) {id:Int} (h:id=0∨Ck l id):AT (l++[o]) k id=AT l k id:=
 (Ha (fun id=>id=0∨Ck l id) (fun id hp h0=>(Je o (hp.resolve_left h0)).symm) (fun id q hp h0 e=>hc q (Hb e).1) k id h).symm
theorem LW {l:List Obj} (o:Obj) (hc:JU l) {id:Int} (h:Ck l id) (h0:id≠0):AX (l++[o]) id=AX l id:=
 (Mn (fun id=>id=0∨Ck l id) (fun id hp h0=>(Je o (hp.resolve_left h0)).symm) (fun id q hp h0 e=>hc q (Hb e).1) (.inr h) h0).symm
theorem Th {s y:AB} {x:CR} (hi:∀id,id∈s.vers.map (fun v=>v.id)→id∈y.vers.map fun v=>v.id) (hl:As s.vers≤As y.vers)
 (hg:∀id,id≠0→id∈s.vers.map (fun v=>v.id)→AX (Al y) id=AX (Al s) id) (h:AE s (Al s) x):AE y (Al y) x:=by
 unfold AE at h ⊢
 split at h
 .rw[if_pos (by assumption)];exact h
 .rename_i ho
  rw[if_neg ho]
  obtain⟨h1,h2,h3⟩:=h
  rw[Jb] at h1
  rw[Jb]
  refine⟨h1.imp id (hi _),?_,?_⟩
  .split at h2
   .rw[if_pos (by assumption)];exact⟨h2.1,by omega,h2.2.2⟩
   .rw[if_neg (by assumption)];exact h2
  .rcases h3 with h3| ⟨h3,h4,h5⟩
   .exact .inl h3
   .rw[hg _ h3 (h1.resolve_left h3)];exact .inr ⟨h3,h4,h5⟩
theorem If (s:AB):(Al s).map (fun o=>o.id)=s.vers.map fun v=>v.id:=by simp[Al,Ev]
theorem FM (s:AB) (id:Int):Ck (Al s) id↔id∈s.vers.map fun v=>v.id:=by
 rw[←If];simp[Ck]
theorem Qc (l:List Bi) (v:Bi):As (l++[v])=v.id:=by simp[As]
theorem Jg {l:List Bi} (h:(l.map fun v=>v.id).Pairwise (·<·)):∀v∈l,v.id≤As l:=by
 intro v hv
 obtain⟨i,hi,rfl⟩:=List.mem_iff_getElem.1 hv
 have hl:As l=l[l.length-1].id:=by unfold As;rw[List.getLast?_eq_getElem?,List.getElem?_eq_getElem (by omega)]
 rw[hl]
 by_cases e:i=l.length-1
 .subst e;exact Int.le_refl _
 .have:=List.pairwise_iff_getElem.1 h i (l.length-1) (by simpa using hi) (by simp;omega) (by omega)
  simp at this;omega
theorem Ti {s y:AB} {o:Obj} {v:Bi} (h:En s) (hn:s.vers.length<12) (hv:y.vers=s.vers++[v]) (hvo:Ev v=o) (hs:y.sess=s.sess) (hk:y.keep=s.keep) (hb:1≤y.blocks∧y.blocks≤100)
 (hp:GG v) (hg:v.gone=false) (hi:As s.vers<o.id∧1≤o.id∧o.id≤1048576) (hd:CT o.data) (ho:o.base=0∨Ck (Al s) o.base) (hr:(AX (Al s++[o]) o.id).2=0):En y:=by
 obtain⟨⟨a1,a2,a3,a4,a5,a6,a7⟩,b,c,d⟩:=h
 have ey:Al y=Al s++[o]:=by simp[Al,hv,←hvo]
 have up:(s.vers.map fun v=>v.id).Pairwise (·<·):=by
  rw[←If,List.pairwise_map];exact a7.2.2
 have lt:∀q∈Al s,q.id<o.id:=fun q hq=>by
  obtain⟨u,hu,rfl⟩:=List.mem_map.1 hq
  have:=Jg up u hu
  show u.id<o.id
  omega
 have hnh:¬Ck (Al s) o.id:=fun⟨q,hq,e⟩=>by have:=lt q hq;omega
 have hvi:v.id=o.id:=by rw[←hvo];rfl
 have pos:∀id,Ck (Al s) id→id≠0:=fun id ⟨q,hq,e⟩=>by have:=(a7.2.1 q hq).1;omega
 refine⟨⟨by omega,by omega,hb.1,hb.2,?_,?_,?_⟩,by rw[hs];exact b,?_,?_⟩
 .intro u hu
  rw[hv,List.mem_append] at hu
  rcases hu with hu|hu
  .exact a5 u hu
  .simp at hu;subst hu;exact hp
 .rw[hv];simp[Ej,hg]
 .rw[ey]
  refine⟨by simp[Al];omega,fun q hq=>?_,?_⟩
  .rw[List.mem_append] at hq
   rcases hq with hq|hq
   .obtain⟨k1,k2,k3,k4,k5⟩:=a7.2.1 q hq
    exact⟨k1,k2,k3,k4,k5.imp id fun⟨x,hx,e⟩=>⟨x,List.mem_append_left _ hx,e⟩⟩
   .simp at hq;subst hq
    refine⟨hi.2.1,hi.2.2,hd,fun e=>?_,ho.imp id fun⟨x,hx,e⟩=>⟨x,List.mem_append_left _ hx,e⟩⟩
    rcases ho with h0|h0
    .omega
    .rw[e] at h0;exact hnh h0
  .rw[List.pairwise_append]
   exact⟨a7.2.2,by simp,fun q hq x hx=>by simp at hx;subst hx;exact lt q hq⟩
 .rw[ey]
  intro q hq
  rw[List.mem_append] at hq
  rcases hq with hq|hq
  .have hh:Ck (Al s) q.id:=⟨q,hq,rfl⟩
   rw[LW o a7.closed hh (pos _ hh)];exact c q hq
  .simp at hq;subst hq;exact hr
 .rw[hs]
  intro x hx
  refine Th (fun id h=>by rw[hv];simp at h ⊢;exact .inl h) (by rw[hv,Qc,hvi];omega) (fun id h0 h=>?_) (d x hx)
  rw[ey,LW o a7.closed ((FM s id).2 h) h0]
def dT (s:AB) (n:Int):AB:={s with blocks:=n,vers:=JT s.vers 0}
def hG (s:AB) (v:Bi):Obj:=⟨As s.vers+1,v.base,v.data⟩
def hO (l:List Bi) (k:Nat):List Bi:=JT (l.take k) 0++l.drop k
end Go.Abs
namespace Go.Abs
def Eu (c:List Bool):Nat:=Bt c*2^(8-c.length)
def Ft (m:Nat) (l:List Bool):List Nat:=(List.range m).map fun k=>Eu ((l.drop (8*k)).take 8)
def pk (l:List Bool):List Nat:=Ft ((l.length+7)/8) l
def Fj (n:Nat):AV:= .int .u8 (n:Int)
def BY (ns:List Nat):List AV:=ns.map Fj
def E4 (l:List Bool):C0:=⟨DR (BY (pk l)),l.length⟩
@[simp] theorem Vk (m:Nat) (l:List Bool):(Ft m l).length=m:=by simp[Ft]
@[simp] theorem bT (ns:List Nat):(BY ns).length=ns.length:=by simp[BY]
theorem Pz (ns:List Nat) (i n:Nat):(BY ns).set i (.int .u8 (n:Int))=BY (ns.set i n):=by simp[BY,Fj]
theorem Tj {c:List Bool} (h:c.length≤8):Eu c<256:=by
 have h1:=FV c
 have h2:2^c.length*2^(8-c.length)=256:=by rw[←Nat.pow_add,show c.length+(8-c.length)=8 by omega]
 unfold Eu
 have h3:0<2^(8-c.length):=Nat.pow_pos (by omega)
 exact Nat.lt_of_lt_of_eq (Nat.mul_lt_mul_of_pos_right h1 h3) h2
theorem Qd (c:List Bool) (b:Bool) (h:c.length<8):Eu (c++[b])=Eu c+b.toNat*2^(7-c.length):=by
 have e:8-c.length=(7-c.length)+1:=by omega
 unfold Eu
 rw[MR,List.length_append,List.length_singleton,e,show 8-(c.length+1)=7-c.length by omega,Nat.pow_succ,Nat.add_mul]
 congr 1
 rw[Nat.mul_comm 2,Nat.mul_assoc,Nat.mul_comm 2]
theorem Yx (m:Nat):Ft m []=List.replicate m 0:=by
 unfold Ft
 refine List.ext_getElem (by simp) fun j h1 h2=>?_
 simp[Eu]
theorem RF {m:Nat} {l:List Bool} {k:Nat} (h:k<m):(Ft m l)[k]'(by simpa using h)<256:=by
 simp only[Ft,List.getElem_map,List.getElem_range]
 exact Tj (by simp;omega)
theorem Qe (l:List Bool) (b:Bool) (k:Nat):((l++[b]).drop (8*k)).take 8=if l.length/8=k then(l.drop (8*k)).take 8++[b] else(l.drop (8*k)).take 8:=by
 split
 .rename_i e
  rw[List.drop_append_of_le_length (by omega),List.take_append,List.length_drop]
  have:(8-(l.length-8*k))=(7-(l.length-8*k))+1:=by omega
  rw[this];simp
 .rename_i e
  by_cases h:l.length<8*k
  .rw[List.drop_eq_nil_of_le (by simp;omega),List.drop_eq_nil_of_le (by omega)]
  .rw[List.drop_append_of_le_length (by omega),List.take_append_of_le_length (by simp;omega)]
theorem Tk (m:Nat) (l:List Bool) (b:Bool) (h:l.length/8<m):Ft m (l++[b])=(Ft m l).set (l.length/8) ((Ft m l)[l.length/8]'(by simpa using h)+b.toNat*2^(7-l.length%8)):=by
 refine List.ext_getElem (by simp) fun j h1 h2=>?_
 rw[List.getElem_set]
 simp only[Ft,List.getElem_map,List.getElem_range,Qe]
 split
 .rename_i e
  subst e
  have hl:((l.drop (8*(l.length/8))).take 8).length=l.length%8:=by simp;omega
  rw[Qd _ _ (by omega),hl]
 .rfl
theorem Vl (m:Nat) (l:List Bool) (k:Nat) (h:k<m) (hk:l.length/8=k):2^(8-l.length%8)∣(Ft m l)[k]'(by simpa using h):=by
 subst hk
 simp only[Ft,List.getElem_map,List.getElem_range]
 have hl:((l.drop (8*(l.length/8))).take 8).length=l.length%8:=by simp;omega
 unfold Eu
 rw[hl]
 exact Nat.dvd_mul_left _ _
theorem PA:∀y:Fin 256,IntKind.wrap .u8 ((y.val:Nat):Int)=((y.val:Nat):Int):=by decide+kernel
theorem dU {a x r:Nat} (h:2^r∣a) (hx:x<2^r) (ha:a+x<256):IntKind.wrap .u8 ((BitVec.ofInt 8 (a:Int) |||BitVec.ofInt 8 (x:Int)).toNat:Int)=((a+x:Nat):Int):=by
 obtain⟨q,rfl⟩:=h
 have e:2^r*q|||x=2^r*q+x:=(Nat.two_pow_add_eq_or_of_lt hx q).symm
 have e1:(BitVec.ofInt 8 ((2^r*q:Nat):Int)).toNat=2^r*q:=by
  rw[BitVec.ofInt_natCast,BitVec.toNat_ofNat];exact Nat.mod_eq_of_lt (by omega)
 have e2:(BitVec.ofInt 8 (x:Int)).toNat=x:=by
  rw[BitVec.ofInt_natCast,BitVec.toNat_ofNat];exact Nat.mod_eq_of_lt (by omega)
 rw[BitVec.toNat_or,e1,e2,e]
 exact PA ⟨_,ha⟩
def DT:List Int→Bool→List Bool
 | [],_=> []
 |n::l,f=>AD (if f=true then n+1 else n).toNat++DT l false
def Dk (v:Int) (ref l:List Int):List Bool:=AD ((blocks ref l).length+1)++DT (blocks ref l) true++AZ v (A9 ref l)
def CB (f:Int→List Int→List Bool):Int→List (List Int)→List Bool
 |_,[]=> []
 |v,l::ls=>f v l++CB f (v+1) ls
def Ca (g:Gr):List Bool:=AD (g.n.toNat+1)++CB AZ 0 g.out
def B0 (a g:Gr):List Bool:=AD (g.n.toNat+1)++CB (fun v l=>Dk v (Ay a v) l) 0 g.out
theorem K8 (f:Int→List Int→List Bool) (l:List Int):∀(ls:List (List Int)) (v:Int),CB f v (ls++[l])=CB f v ls++f (v+ls.length) l
 | [],v=>by simp[CB]
 |x::ls,v=>by
  simp only[List.cons_append,CB,K8 f l ls,List.append_assoc,List.length_cons]
  congr 3
  omega
theorem K9 (f:Int→List Int→List Bool) {ls:List (List Int)} {i:Nat} (h:i<ls.length):CB f 0 (ls.take (i+1))=CB f 0 (ls.take i)++f i ls[i]:=by
 rw[List.take_succ_eq_append_getElem h,K8]
 simp[Nat.min_eq_left (Nat.le_of_lt h)]
theorem La:∀(l:List Int) (i:Nat) (f:Bool) (h:i<l.length),DT (l.take (i+1)) f=DT (l.take i) f++AD (if i=0∧f=true then l[i]+1 else l[i]).toNat
 | [],i,f,h=>by simp at h
 |x::t,0,f,h=>by simp[DT]
 |x::t,i+1,f,h=>by
  have ih:=La t i false (by simpa using h)
  simp only[List.take_succ_cons,DT,List.getElem_cons_succ] at ih ⊢
  rw[ih,List.append_assoc]
  simp
def JV:Obj:=⟨0,0,⟨ByteArray.empty,0⟩⟩
def Cn (l:List Obj):Int:=match l.getLast? with|some o=>o.id+1|none=>1
def Fu (l:List Obj) (base:Int) (g:Gr):C0:=E4 (if base=0 then Ca g else B0 (AX l base).1 g)
def BO (l:List Obj) (parent:Int) (g:Gr):Obj×Int:=
 if 12≤l.length∨1048576<Cn l then(JV,2) else
 if parent=0 then(⟨Cn l,0,Fu l 0 g⟩,0) else
 if (AX l parent).2≠0 then(JV,(AX l parent).2) else
 if (Bb l parent).1<3∧(B0 (AX l parent).1 g).length<(Ca g).length then(⟨Cn l,parent,Fu l parent g⟩,0) else(⟨Cn l,0,Fu l 0 g⟩,0)
end Go.Abs
namespace Go.Abs
theorem Jh {n:Nat} (h:n<32):(AD n).length≤9:=by
 have:=DG n
 by_cases h0:n=0
 .subst h0;simp[AD,Bn]
 .have:=(Nat.log2_lt (n:=n) (k:=5) h0).2 (by omega)
  omega
theorem Xu {n:Nat} (h:n<64):(AD n).length≤11:=by
 have:=DG n
 by_cases h0:n=0
 .subst h0;simp[AD,Bn]
 .have:=(Nat.log2_lt (n:=n) (k:=6) h0).2 (by omega)
  omega
theorem Mo {v:Int} (hv:0≤v∧v≤16):∀(l:List Int) (f:Bool) (e:Int),(∀x∈l,0≤x∧x<16)→(f=false→0≤e)→(CF v l f e).length≤9*l.length+(if f=true then 2 else 0)
 | [],f,e,_,_=>by simp[CF]
 |x::l,f,e,h,he=>by
  have hx:=h x (by simp)
  have ih:=Mo hv l false x (fun y hy=>h y (by simp[hy])) (fun _=>hx.1)
  rw[CF,List.length_append]
  cases f
  .have:=Jh (n:=(x-e).toNat) (by have:=he rfl;omega)
   simp at ih ⊢;omega
  .have:=Xu (n:=(CE (x-v)+1).toNat) (by unfold CE;split<;>omega)
   simp at ih ⊢;omega
theorem Mp {v:Int} (hv:0≤v∧v≤16):∀(l:List (Int×Int)) (f:Bool) (e:Int),(∀x∈l,0≤x.1∧x.1<16∧0≤x.2∧x.2≤16)→(f=false→0≤e)→(Cl v l f e).length≤18*l.length+(if f=true then 2 else 0)
 | [],f,e,_,_=>by simp[Cl]
 | (a,n)::l,f,e,h,he=>by
   have hx:=h (a,n) (by simp)
   simp only at hx
   have ih:=Mp hv l false (a+n) (fun y hy=>h y (by simp[hy])) (fun _=>by omega)
   rw[Cl,List.length_append,List.length_append]
   have h2:=Jh (n:=(n-3+1).toNat) (by omega)
   cases f
   .have:=Jh (n:=(a-e).toNat) (by have:=he rfl;omega)
    simp at ih ⊢;omega
   .have:=Xu (n:=(CE (a-v)+1).toNat) (by unfold CE;split<;>omega)
    simp at ih ⊢;omega
theorem Mq:∀(n:Nat) (l:List Int),l.length≤n→3*(Am l).1.length+(Am l).2.length≤l.length
 |_,[],_=>by simp[Am]
 |0,x::l,h=>by simp at h
 |n+1,x::l,h=>by
  have h1:=Eh x l
  have h2:=EH (x::l)
  have h3:((x::l).drop (AM (x::l))).length=(x::l).length-AM (x::l):=by simp
  have ih:=Mq n ((x::l).drop (AM (x::l))) (by omega)
  rw[Am]
  split
  .simp only[List.length_cons] at*;omega
  .simp only[List.length_append,List.length_take] at*;omega
theorem GR {v:Int} {l:List Int} (hv:0≤v∧v≤16) (hl:AH l):(AZ v l).length≤166:=by
 have hll:=BA hl
 obtain⟨p1,p2,p3,p4⟩:=Ex l.length l true 0 (Nat.le_refl _) hl.2 (.inl rfl)
 have pin:=H8 l.length l (Nat.le_refl _)
 have ps:=Mq l.length l (Nat.le_refl _)
 have hpos:=LQ (Am l).1 true 0 p1
 have a1:=Jh (n:=(Am l).1.length+1) (by omega)
 have a2:=Mp hv (Am l).1 true 0 (fun q hq=>by
  have h1:=pin q hq
  have h2:=hl.1 _ h1.1
  obtain⟨i,hi,rfl⟩:=List.mem_iff_getElem.1 hq
  have h3:=(hpos i hi).1
  omega) (by simp)
 have a3:=Jh (n:=(Am l).2.length+1) (by omega)
 have a4:=Mo hv (Am l).2 true 0 (fun x hx=>hl.1 x (p4 x hx)) (by simp)
 unfold AZ C3
 simp only[List.length_append]
 simp at a2 a4
 omega
theorem HL (l:List Int):∀(ref:List Int) (b:Bool) (n:Nat) (h:0<(AQ l ref b n).length),n≤(AQ l ref b n)[0]
 | [],b,n,h=>by simp[AQ] at h
 |x::ref,b,n,h=>by
  simp only[AQ] at h ⊢
  split at h
  .rename_i e
   simp only[if_pos e]
   have:=HL l ref b (n+1) h
   omega
  .rename_i e
   simp only[if_neg e,List.getElem_cons_zero]
   exact Nat.le_refl _
theorem Hx (l:List Int):∀(ref:List Int) (b:Bool) (n j:Nat) (h:j<(AQ l ref b n).length),(AQ l ref b n)[j]≤n+ref.length∧(0<j→1≤(AQ l ref b n)[j])
 | [],b,n,j,h=>by simp[AQ] at h
 |x::ref,b,n,j,h=>by
  simp only[AQ] at h ⊢
  split at h
  .rename_i e
   have ih:=Hx l ref b (n+1) j h
   simp only[if_pos e]
   refine⟨by have:=ih.1;simp only[List.length_cons];omega,ih.2⟩
  .rename_i e
   simp only[if_neg e]
   cases j with
   |zero=>exact⟨by simp only[List.getElem_cons_zero,List.length_cons];omega,fun h=>by omega⟩
   |succ j=>
    have ih:=Hx l ref (!b) 1 j (by simpa using h)
    simp only[List.getElem_cons_succ,List.length_cons]
    refine⟨by have:=ih.1;omega,fun _=>?_⟩
    cases j with
    |zero=>exact HL l ref (!b) 1 (by simpa using h)
    |succ j=>exact ih.2 (by omega)
theorem Ig (ref l:List Int):(blocks ref l).length≤ref.length:=by
 simp only[blocks,List.length_map];exact F8 l ref true 0
theorem Ji (ref l:List Int) (j:Nat) (h:j<(blocks ref l).length):0≤(blocks ref l)[j]∧(blocks ref l)[j]≤ref.length∧(0<j→1≤(blocks ref l)[j]):=by
 have h' :j<(AQ l ref true 0).length:=by simpa[blocks] using h
 have:=Hx l ref true 0 j h'
 simp only[blocks,List.getElem_map]
 refine⟨by omega,by omega,fun hj=>by have:=this.2 hj;omega⟩
theorem Mr:∀(l:List Int) (f:Bool),(∀x∈l,x≤30)→(DT l f).length≤9*l.length
 | [],f,_=>by simp[DT]
 |n::l,f,h=>by
  have ih:=Mr l false fun x hx=>h x (by simp[hx])
  have h1:=h n (by simp)
  have:=Jh (n:=(if f=true then n+1 else n).toNat) (by split<;>omega)
  rw[DT,List.length_append,List.length_cons];omega
theorem Ih {ref l:List Int} (h:AH l):AH (A9 ref l):=⟨fun x hx=>h.1 x (List.mem_filter.1 hx).1,h.2.filter _⟩
theorem Lb {v:Int} {ref l:List Int} (hv:0≤v∧v≤16) (hr:ref.length≤16) (hl:AH l):(Dk v ref l).length≤330:=by
 have a1:=Ig ref l
 have a2:=Jh (n:=(blocks ref l).length+1) (by omega)
 have a3:=Mr (blocks ref l) true (fun x hx=>by
  obtain⟨i,hi,rfl⟩:=List.mem_iff_getElem.1 hx
  have:=Ji ref l i hi
  omega)
 have a4:=GR hv (Ih (ref:=ref) hl)
 unfold Dk
 simp only[List.length_append]
 omega
theorem Jj {f:Int→List Int→List Bool} {c:Nat}:∀(ls:List (List Int)) (v:Int),(∀(i:Nat) (h:i<ls.length),(f (v+i) ls[i]).length≤c)→(CB f v ls).length≤c*ls.length
 | [],v,_=>by simp[CB]
 |l::ls,v,h=>by
  have ih:=Jj (c:=c) ls (v+1) fun i hi=>by
   have:=h (i+1) (by simpa using hi)
   simp only[List.getElem_cons_succ] at this
   rw[show v+1+(i:Int)=v+((i+1:Nat):Int) by omega];exact this
  have h0:=h 0 (by simp)
  simp at h0
  rw[CB,List.length_append,List.length_cons,Nat.mul_add];omega
theorem IL {g:Gr} (hg:AS g):(Ca g).length≤6000:=by
 have h1:=Jh (n:=g.n.toNat+1) (by have:=hg.2.1;omega)
 have h2:=Jj (f:=AZ) (c:=166) g.out 0 (fun i hi=>GR ⟨by omega,by have:=hg.2.1;have:=hg.2.2.1;omega⟩ (hg.2.2.2.1 _ (List.getElem_mem hi)).1)
 have h3:=hg.2.1
 have h4:=hg.2.2.1
 unfold Ca
 rw[List.length_append]
 have:166*g.out.length≤166*16:=Nat.mul_le_mul_left _ (by omega)
 omega
theorem IM {a g:Gr} (ha:AS a) (hg:AS g):(B0 a g).length≤6000:=by
 have h1:=Jh (n:=g.n.toNat+1) (by have:=hg.2.1;omega)
 have h2:=Jj (f:=fun v l=>Dk v (Ay a v) l) (c:=330) g.out 0 (fun i hi=>Lb ⟨by omega,by have:=hg.2.1;have:=hg.2.2.1;omega⟩ (CA ha _) (hg.2.2.2.1 _ (List.getElem_mem hi)).1)
 have h3:=hg.2.1
 have h4:=hg.2.2.1
 unfold B0
 rw[List.length_append]
 have:330*g.out.length≤330*16:=Nat.mul_le_mul_left _ (by omega)
 omega
end Go.Abs
set_option maxRecDepth 100000
namespace Go.Abs
open Go.Proofs
theorem Yy (xs:List Bool) (u:Nat) (v:Int) (ref l:List Int) (hx:xs.length<100000) (hv:0≤v∧v≤16) (hr:ref.length≤16) (hl:AH l):Aa pg 168 [.tok 0 u 1 0 xs.length,.int .i64 v,.ro ref.length (Ac ref),.ro l.length (Ac l)] [.live u (AL xs)] (fun r M=>r= .own 1 (xs++Dk v ref l).length (AL (xs++Dk v ref l))∧M=[.dead]):=by
 have hll:=BA hl
 have hbl:=Ig ref l
 have hbd:=Ji ref l
 have hom:=Ih (ref:=ref) hl
 have hbits:Dk v ref l=AD ((blocks ref l).length+1)++DT (blocks ref l) true++AZ v (A9 ref l):=rfl
 rw[hbits]
 clear hbits
 have spC:=NH ref l (by omega) (by omega)
 obtain⟨bl,hb⟩:∃bl,bl=blocks ref l:=⟨_,rfl⟩
 obtain⟨rest,hrest⟩:∃rest,rest=A9 ref l:=⟨_,rfl⟩
 rw[←hb,←hrest] at spC ⊢
 rw[←hb] at hbl
 rw[←hrest] at hom
 have hbd' :∀(j:Nat) (h:j<bl.length),0≤bl[j]∧bl[j]≤16∧(0<j→1≤bl[j]):=fun j h=>by
  subst hb
  have:=hbd j h
  omega
 have hg0:=E2 (bl.length+1) (by omega)
 refine Aa.start (fn:=Tryz.f168) [.tmp 8] tk rfl rfl rfl (by kernel_rfl) (Nat.le_of_ble_eq_true rfl) rfl (by kernel_rfl) ?_
 rw[HS]
 refine zs ?_
 refine z0 ?_;intro K hK
 refine Ab.eq spC (by simp) (by simp) ?_
 refine zx ?_
 refine zk ?_;clear hK K
 refine z0 ?_;intro K hK
 refine Ab.pass [0] (Dx xs u (bl.length+1) (by omega) (by omega) (by omega)) (by simp) (by simp) (by simp) (by simp) ?_
 rintro r M ⟨rfl,rfl⟩ _
 refine zx ?_
 refine zk ?_;clear hK K
 refine zs ?_
 (repeat refine W.seq ?_);refine W.block (W.loopS (fun z:Nat×List Bool=> [(0,.tok 3 0 1 0 z.2.length),(1,.int .i64 v),(9,.tok 1 0 1 0 bl.length),(10,.tok 2 0 1 0 rest.length),(11,.int .i64 (z.1:Nat))]) (fun z=> [.dead,.live 0 (Ac bl),.live 0 (Ac rest),.live 0 (AL z.2)]) (fun z=>bl.length-z.1) (fun z=>z.1≤bl.length∧z.2=xs++(AD (bl.length+1)++DT (bl.take z.1) true)∧z.2.length≤xs.length+81*(z.1+1)) (0,xs++AD (bl.length+1)) (Wk.fr (by simp[Ad])) ⟨by simp,by simp[DT],by simp;omega⟩ ?_)
 rintro⟨i,B⟩ ⟨hi,hB,hBl⟩
 simp only at hi hB hBl
 by_cases c1:i<bl.length
 rotate_left
 .have hi' :i=bl.length:=by omega
  subst hi'
  rw[List.take_length] at hB
  refine Ae c1 ?_;intro K hK
  refine zk ?_;clear hK K
  refine zn ?_
  refine W.exit ?_
  refine z0 ?_;intro K hK
  refine Ab.pass [3] (NG B 0 v rest (by omega) hv hom) (by simp) (by simp) (by simp) (by simp) ?_
  rintro r M ⟨rfl,rfl⟩ _
  refine zx ?_
  refine zk ?_;clear hK K
  refine zr ?_
  rw[List.take_of_length_le (by simp),hB]
  simp
  omega
 have hto:=La bl i true c1
 have hb3:=hbd' i c1
 refine Ae c1 ?_;intro K hK
 refine zk ?_;clear hK K
 refine zt ?_
 refine W.skip ?_
 refine zb ?_
 (repeat refine W.seq ?_);refine W.reg 0 rfl fun K hK=>?_;simp -implicitDefEqProofs (maxSteps:=999999) (disch:=omega) [c1]
 refine zk ?_;clear hK K
 by_cases h0:i=0
 .subst h0
  obtain⟨c,hc⟩:=Int.eq_ofNat_of_zero_le (show 0≤bl[0]+1 by omega)
  have hcl:=E2 c (by omega)
  refine zs ?_
  refine zt ?_
  refine Ae hc ?_;intro K hK
  refine zk ?_;clear hK K
  refine z0 ?_;intro K hK
  refine Ab.pass [3] (Dx B 0 c (by omega) (by omega) (by omega)) (by simp) (by simp) (by simp) (by simp) ?_
  rintro r M ⟨rfl,rfl⟩ _
  refine zx ?_
  refine zk ?_;clear hK K
  refine zs ?_
  refine⟨(0+1,B++AD c),by simp only;omega,⟨by simp only;omega,?_,by simp;omega⟩,?_⟩
  .simp only[hto,and_self,if_true,hc,Int.toNat_natCast]
   rw[hB];simp
  .simp only[List.length_append]
   exact Wk.sink (k:=3) (j:=4) (by rfl) (by simp) (by omega) (by simp) (by simp[Ad]) (by simp) (by simp) (by simp)
 .obtain⟨c,hc⟩:=Int.eq_ofNat_of_zero_le hb3.1
  have hcl:=E2 c (by omega)
  refine Ae h0 ?_;intro K hK
  refine zk ?_;clear hK K
  refine zn ?_
  refine W.skip ?_
  refine Ae hc ?_;intro K hK
  refine Ab.pass [3] (Dx B 0 c (by omega) (by omega) (by omega)) (by simp) (by simp) (by simp) (by simp) ?_
  rintro r M ⟨rfl,rfl⟩ _
  refine zx ?_
  refine zk ?_;clear hK K
  refine zs ?_
  refine⟨(i+1,B++AD c),by simp only;omega,⟨by simp only;omega,?_,by simp;omega⟩,?_⟩
  .simp only[hto,h0,false_and,if_false,hc,Int.toNat_natCast]
   rw[hB];simp
  .simp only[List.length_append]
   exact Wk.sink (k:=3) (j:=4) (by rfl) (by simp) (by omega) (by simp) (by simp[Ad]) (by simp) (by simp) (by simp)
theorem PB (g:Gr) (hg:AS g):Aa pg 128 [.agg (AU false g)] [] (fun r _=>∃ats:List Int,r= .tup [.own 1 (Ca g).length (AL (Ca g)),.own 1 ats.length (Ac ats)]):=by
 obtain⟨n,hn⟩:=Int.eq_ofNat_of_zero_le hg.1
 have hn16:n≤16:=by have:=hg.2.1;omega
 have hout:g.out.length=n:=by have:=hg.2.2.1;omega
 obtain⟨c,hc⟩:∃c:Nat,c=n+1:=⟨_,rfl⟩
 have hg0:=Jh (n:=c) (by omega)
 have en:(n:Int)+1=(c:Int):=by omega
 have sp0:=OQ c (by omega) (by omega)
 have hfb:Ca g=AD c++CB AZ 0 g.out:=by unfold Ca;rw[hn,Int.toNat_natCast,hc]
 refine Aa.start (fn:=Tryz.f128) [.tmp 2,.tmp 3] tk rfl rfl rfl (by kernel_rfl) (Nat.le_of_ble_eq_true rfl) rfl (by kernel_rfl) ?_
 rw[Au]
 refine z1 ?_;intro K hK;refine zk ?_;clear hK K
 rw[hn]
 refine Ae en ?_;intro K hK
 refine Ab.eqN sp0 (by simp[MQ]) (by simp) ?_
 refine zx ?_
 refine zk ?_;clear hK K
 refine zs ?_
 refine zs ?_
 refine W.weak ((Wk.nil (t:=5) (s:=1) (by simp)).trans (Wk.move (j:=1) (t:=4) (u:=0) (s:=1) (off:=0) (n:=(AD c).length) (xs:=AL (AD c)) (S:=[(1,.ptr 0 0 0),(5,.tok 2 0 1 0 0),(6,.int .i64 0)]) rfl (by simp) (by simp) (by simp[Ad]))) ?_
 (repeat refine W.seq ?_);refine W.block (W.loopS (fun z:Nat×List Bool×List Int=> [(4,.tok 3 0 1 0 z.2.1.length),(1,.ptr 0 0 0),(5,.tok 2 z.1 1 0 z.1),(6,.int .i64 z.1)]) (fun z=> [.live 0 [.int .i64 n,.ro g.out.length (AC false g.out)],.dead,.live z.1 (Ac z.2.2),.live 0 (AL z.2.1)]) (fun z=>n-z.1) (fun z=>z.1≤n∧z.2.1=AD c++CB AZ 0 (g.out.take z.1)∧z.2.1.length≤9+166*z.1∧z.2.2.length=z.1) (0,AD c,[]) (Wk.cutM (k:=4) (by simp[Ad]) (by simp) (by simp) (by simp) (by simp) (by simp)) ⟨by simp,by simp[CB],by simp;omega,rfl⟩ ?_)
 rintro⟨i,B,ats⟩ ⟨hi,hB,hBl,hal⟩
 simp only at hi hB hBl hal
 by_cases c1:i<n
 rotate_left
 .have hi' :i=n:=by omega
  subst hi'
  rw[List.take_of_length_le (by omega)] at hB
  rw[←hfb] at hB
  subst hB
  refine Ae c1 ?_;intro K hK
  refine zk ?_;clear hK K
  refine zn ?_
  refine W.exit ?_
  refine zs ?_
  refine zr ?_
  refine⟨ats,?_⟩
  rw[hal,List.take_of_length_le (by omega)]
  simp
 have hlt:i<g.out.length:=by omega
 have hml:=(hg.2.2.2.1 _ (List.getElem_mem hlt)).1
 have hto:=K9 AZ hlt
 have hrl:=GR (v:=(i:Int)) ⟨by omega,by omega⟩ hml
 refine Ae c1 ?_;intro K hK
 refine zk ?_;clear hK K
 refine zt ?_
 refine W.skip ?_
 refine zb ?_
 refine z1 ?_;intro K hK
 refine⟨hal,by omega,by omega,?_⟩
 refine zk ?_;clear hK K
 (repeat refine W.seq ?_);refine W.reg 0 rfl fun K hK=>?_;simp -implicitDefEqProofs (maxSteps:=999999) (disch:=omega) [hlt]
 refine Ab.pass [3] (NG B 0 i g.out[i] (by omega) ⟨by omega,by omega⟩ hml) (by simp) (by simp) (by simp) (by simp) ?_
 rintro r M ⟨rfl,rfl⟩ _
 refine zx ?_
 refine zk ?_;clear hK K
 refine zs ?_
 refine⟨(i+1,B++AZ i g.out[i],ats++[(B.length:Int)]),by simp only;omega,⟨by simp only;omega,?_,by simp;omega,by simp;exact hal⟩,?_⟩
 .simp only[hto];rw[hB];simp
 .simp only[List.length_append]
  refine Wk.trans (Wk.sink (k:=3) (j:=5) (t:=4) (v:=0) (s:=1) (off:=0) (n:=B.length+(AZ i g.out[i]).length) (S:=[(1,.ptr 0 0 0),(5,.tok 2 (i+1) 1 0 (i+1)),(6,.int .i64 ((i+1:Nat):Int))]) (by rfl) (by simp) (by omega) (by simp) (by simp[Ad]) (by simp) (by simp) (by simp)) ?_
  exact Wk.cutM (k:=4) (by simp[Ad]) (by simp[B5,Ac]) (by simp) (by simp) (by simp) (by simp)
theorem PC (a g:Gr) (ha:AS a) (hg:AS g):Aa pg 129 [.agg (AU false a),.agg (AU false g)] [] (fun r _=>r= .own 1 (B0 a g).length (AL (B0 a g))):=by
 obtain⟨n,hn⟩:=Int.eq_ofNat_of_zero_le hg.1
 have hn16:n≤16:=by have:=hg.2.1;omega
 have hout:g.out.length=n:=by have:=hg.2.2.1;omega
 obtain⟨c,hc⟩:∃c:Nat,c=n+1:=⟨_,rfl⟩
 have hg0:=Jh (n:=c) (by omega)
 have en:(n:Int)+1=(c:Int):=by omega
 have sp0:=OQ c (by omega) (by omega)
 have hfb:B0 a g=AD c++CB (fun v l=>Dk v (Ay a v) l) 0 g.out:=by unfold B0;rw[hn,Int.toNat_natCast,hc]
 obtain⟨an,han⟩:=Int.eq_ofNat_of_zero_le ha.1
 have haout:a.out.length=an:=by have:=ha.2.2.1;omega
 refine Aa.start (fn:=Tryz.f129) [.tmp 4] tk rfl rfl rfl (by kernel_rfl) (Nat.le_of_ble_eq_true rfl) rfl (by kernel_rfl) ?_
 rw[Aq]
 refine z2 ?_;intro K hK;refine zk ?_;clear hK K
 rw[hn]
 refine Ae en ?_;intro K hK
 refine Ab.eqN sp0 (by simp[MQ]) (by simp) ?_
 refine zx ?_
 refine zk ?_;clear hK K
 refine zs ?_
 (repeat refine W.seq ?_);refine W.block (W.loopS (fun z:Nat×List Bool=> [(5,.tok 2 0 1 0 z.2.length),(2,.ptr 0 0 0),(3,.ptr 1 0 0),(6,.int .i64 z.1)]) (fun z=> [.live 0 [.int .i64 a.n,.ro a.out.length (AC false a.out)],.live 0 [.int .i64 n,.ro g.out.length (AC false g.out)],.live 0 (AL z.2)]) (fun z=>n-z.1) (fun z=>z.1≤n∧z.2=AD c++CB (fun v l=>Dk v (Ay a v) l) 0 (g.out.take z.1)∧z.2.length≤9+330*z.1) (0,AD c) (Wk.cutM (k:=3) (by simp[Ad]) (by simp) (by simp) (by simp) (by simp) (by simp)) ⟨by simp,by simp[CB],by simp;omega⟩ ?_)
 rintro⟨i,B⟩ ⟨hi,hB,hBl⟩
 simp only at hi hB hBl
 by_cases c1:i<n
 rotate_left
 .have hi' :i=n:=by omega
  subst hi'
  rw[List.take_of_length_le (by omega)] at hB
  rw[←hfb] at hB
  subst hB
  refine Ae c1 ?_;intro K hK
  refine zk ?_;clear hK K
  refine zn ?_
  refine W.exit ?_
  refine zs ?_
  exact zR
 have hlt:i<g.out.length:=by omega
 have hml:=(hg.2.2.2.1 _ (List.getElem_mem hlt)).1
 have hto:=K9 (fun v l=>Dk v (Ay a v) l) hlt
 have hbl:=CA ha (i:Int)
 have hrl:=Lb (v:=(i:Int)) (ref:=Ay a i) ⟨by omega,by omega⟩ hbl hml
 have spW:=Yy B 0 i (Ay a i) g.out[i] (by omega) ⟨by omega,by omega⟩ hbl hml
 refine Ae c1 ?_;intro K hK
 refine zk ?_;clear hK K
 refine zt ?_
 refine W.skip ?_
 refine zb ?_
 by_cases c2:i<an
 .have hlt2:i<a.out.length:=by omega
  have hba:Ay a i=a.out[i]:=by simp[Ay,List.getD_eq_getElem?_getD,List.getElem?_eq_getElem hlt2]
  have spB:=NK a i hlt2 (by omega)
  rw[hba] at spW hrl hto
  (repeat refine W.seq ?_);refine W.regdS 0 10 rfl true Ce (by kernel_rfl) fun K hK=>?_;simp -implicitDefEqProofs (maxSteps:=999999) (disch:=omega) [hlt]
  refine Ah.eqr spB (by simp) ?_
  simp only[DO];simp -implicitDefEqProofs (maxSteps:=999999) (disch:=omega) [hlt]
  refine Ab.pass [2] spW (by simp) (by simp) (by simp) (by simp) ?_
  rintro r M ⟨rfl,rfl⟩ _
  simp -implicitDefEqProofs (maxSteps:=999999) (disch:=omega)
  refine zk ?_;clear hK K
  refine zs ?_
  refine⟨(i+1,B++Dk i a.out[i] g.out[i]),by simp only;omega,⟨by simp only;omega,?_,by simp;omega⟩,?_⟩
  .simp only[hto];rw[hB];simp
  .simp only[List.length_append]
   exact Wk.sink (k:=2) (j:=3) (by rfl) (by simp) (by omega) (by simp) (by simp[Ad]) (by simp) (by simp) (by simp)
 .have hba:Ay a i=[]:=by simp[Ay,List.getD_eq_getElem?_getD,List.getElem?_eq_none (show a.out.length≤i by omega)]
  have spB:=NL a i (by omega)
  rw[hba] at spW hrl hto
  (repeat refine W.seq ?_);refine W.regdS 0 10 rfl true Ce (by kernel_rfl) fun K hK=>?_;simp -implicitDefEqProofs (maxSteps:=999999) (disch:=omega) [hlt]
  refine Ah.eqr spB (by simp) ?_
  simp only[DO];simp -implicitDefEqProofs (maxSteps:=999999) (disch:=omega) [hlt]
  refine Ab.pass [2] spW (by simp) (by simp) (by simp) (by simp) ?_
  rintro r M ⟨rfl,rfl⟩ _
  simp -implicitDefEqProofs (maxSteps:=999999) (disch:=omega)
  refine zk ?_;clear hK K
  refine zs ?_
  refine⟨(i+1,B++Dk i [] g.out[i]),by simp only;omega,⟨by simp only;omega,?_,by simp;omega⟩,?_⟩
  .simp only[hto];rw[hB];simp
  .simp only[List.length_append]
   exact Wk.sink (k:=2) (j:=4) (by rfl) (by simp) (by omega) (by simp) (by simp[Ad]) (by simp) (by simp) (by simp)
end Go.Abs
set_option maxRecDepth 100000
namespace Go.Abs
open Go.Proofs
section
variable (xs ys:List Nat) (M:List Ag) (k:Nat)
@[simp] theorem bU (i:Nat):(BY xs)[i]?=(xs[i]?).map Fj:=by simp[BY,Fj]
@[simp] theorem bV:BY []=[]:=rfl
@[simp] theorem ak:(BY xs).take k=BY (xs.take k):=by simp[BY,Fj,List.map_take]
@[simp] theorem al:(BY xs).drop k=BY (xs.drop k):=by simp[BY,Fj,List.map_drop]
@[simp] theorem dV:EF (BY xs)=true:=by simp[BY,Fj,EF,-JA]
@[simp] theorem dW:EG (BY xs)=true:=by simp[BY,Fj,EG,-JB]
@[simp] theorem dX:DQ (BY xs)=true:=by simp[BY,Fj,DQ,-HU]
@[simp] theorem dY:C4 k (BY xs)=true:=by induction xs<;>simp_all[BY,Fj]
@[simp] theorem bW:CQ (BY xs)=true:=by induction xs<;>simp_all[BY,Fj]
@[simp] theorem bX:ED (BY xs)=BY xs:=by induction xs<;>simp_all[BY,Fj]
@[simp] theorem bY:(BY xs).map D8=BY xs:=by simp[BY,Fj]
@[simp] theorem bZ:(BY xs).map (Co M k)=BY xs:=by cases k<;>simp[BY,Fj]
@[simp] theorem dZ:(BY xs).all Pe=true:=by simp[BY,Fj,Pe]
theorem Tl (n:Nat):Ch n [.int .u8 0]=BY (List.replicate n 0):=by
 unfold Ch BY
 induction n with
 |zero=>rfl
 |succ n ih=>simp[List.replicate_succ,Fj]
end
theorem PD {a x r:Nat} (h:2^r∣a) (hx:x<2^r) (ha:a+x<256):Cs .or (.int .u8 (a:Int)) (.int .u8 (x:Int))=some (.int .u8 ((a+x:Nat):Int)):=
 (Sh _ _ _).trans (congrArg (fun z:Int=>some (AV.int .u8 z)) (dU h hx ha))
theorem Xv (l:List Bool) (hl:l.length<100000):Aa pg 130 [.ro l.length (AL l)] [] (fun r _=>r= .agg (Cx (E4 l))):=by
 obtain⟨m,hm⟩:∃m,m=(l.length+7)/8:=⟨_,rfl⟩
 have hq:((l.length:Int)+7)/8=(m:Int):=by omega
 refine Aa.start (fn:=Tryz.f130) [.cell 2 40] tk rfl rfl rfl (by kernel_rfl) (Nat.le_of_ble_eq_true rfl) rfl (by kernel_rfl) ?_
 rw[Au]
 refine z1 ?_;intro K hK;refine zk ?_;clear hK K
 refine Lz hq ?_;intro K hK
 refine⟨by omega,by omega,?_⟩
 rw[Tl]
 refine zk ?_;clear hK K
 refine zs ?_
 (repeat refine W.seq ?_);refine W.block (W.loopS (fun i:Nat=> [(0,.ro l.length (AL l)),(2,.ptr 0 0 0),(3,.tok 1 0 1 0 m),(4,.int .i64 i)]) (fun i=> [.live 0 [.str ByteArray.empty,.int .i64 0],.live 0 (BY (Ft m (l.take i)))]) (fun i=>l.length-i) (fun i=>i≤l.length) 0 (Wk.cutM (k:=2) (by simp[Ad]) (by simp[Yx]) (by simp) (by simp) (by simp) (by simp)) (by simp) ?_)
 intro i hi
 by_cases c1:i<l.length
 rotate_left
 .have:i=l.length:=by omega
  subst this
  rw[List.take_length]
  refine Ae c1 ?_;intro K hK
  refine zk ?_;clear hK K
  refine zn ?_
  refine W.exit ?_
  have tkm:List.take m (Ft m l)=Ft m l:=List.take_of_length_le (by simp)
  refine Ae tkm ?_;intro K hK
  refine zk ?_;clear hK K
  refine zr ?_
  simp[E4,pk,←hm]
 obtain⟨q,hq'⟩:∃q,q=i/8:=⟨_,rfl⟩
 obtain⟨r,hr⟩:∃r,r=i%8:=⟨_,rfl⟩
 obtain⟨s,hs⟩:∃s,s=7-r:=⟨_,rfl⟩
 have e1:(i:Int)/8=(q:Int):=by omega
 have e2:(i:Int)%8=(r:Int):=by omega
 have e3:(7:Int)-(r:Int)=(s:Int):=by omega
 have hqm:q<m:=by omega
 have hlt:(l.take i).length=i:=by simp;omega
 have hsn:=Tk m (l.take i) l[i] (by rw[hlt];omega)
 have hdv:=Vl m (l.take i) q hqm (by rw[hlt,hq'])
 have hto:l.take (i+1)=l.take i++[l[i]]:=by rw[List.take_add_one];simp[c1]
 rw[←hto] at hsn
 obtain⟨P,hP⟩:∃P,P=Ft m (l.take i):=⟨_,rfl⟩
 have hPl:P.length=m:=by rw[hP,Vk]
 have hqP:q<P.length:=by omega
 simp only[hlt,←hP,←hq',←hr] at hsn hdv
 rw[←hP]
 have hPlt:P[q]<256:=by subst hP;exact RF hqm
 have hu:P[q]?=some P[q]:=List.getElem?_eq_getElem hqP
 refine Ae c1 ?_;intro K hK
 refine zk ?_;clear hK K
 refine zt ?_
 refine W.skip ?_
 refine zb ?_
 cases hb:l[i]
 .have ew:IntKind.wrap .u8 0=0:=by decide
  have eo:Cs .or (.int .u8 (P[q]:Int)) (.int .u8 0)=some (.int .u8 (P[q]:Int)):=PD (x:=0) hdv (Nat.pow_pos (by omega)) (by omega)
  rw[hb] at hsn
  (repeat refine W.seq ?_);refine W.regd 0 rfl true Ce (by kernel_rfl) fun K hK=>?_;simp -implicitDefEqProofs (maxSteps:=999999) (disch:=omega) [c1,e1,e2,e3,hqm,hu,hb,Fj,b8,ew,eo]
  refine⟨by omega,?_⟩
  refine zk ?_;clear hK K
  have hs2:P.set q P[q]=Ft m (l.take (i+1)):=by rw[hsn];simp
  rw[Pz,hs2]
  refine zs ?_
  exact⟨i+1,by omega,by omega,Wk.fr (by simp[Ad])⟩
 .obtain⟨z,hz⟩:∃z:Nat,z=2^s:=⟨_,rfl⟩
  have hz1:(2:Int)^s=(z:Int):=by rw[hz];simp
  have hzl:z<2^(8-r):=by rw[hz];exact Nat.pow_lt_pow_right (by omega) (by omega)
  have hz8:z≤128:=by rw[hz];exact Nat.pow_le_pow_right (by omega) (show s≤7 by omega)
  have hsum:P[q]+z<256:=by
   have h1:P[q]≤256-2^(8-r):=by
    obtain⟨c,hc⟩:=hdv
    have hb2:2^(8-r)*2^r=256:=by rw[←Nat.pow_add,show 8-r+r=8 by omega]
    have hlt2:2^(8-r)*c<2^(8-r)*2^r:=by rw[←hc,hb2];exact hPlt
    have:=Nat.lt_of_mul_lt_mul_left hlt2
    have h3:2^(8-r)*(c+1)≤2^(8-r)*2^r:=Nat.mul_le_mul_left _ this
    rw[Nat.mul_add] at h3
    omega
   have:2^(8-r)≤256:=Nat.pow_le_pow_right (by omega) (show 8-r≤8 by omega)
   omega
  obtain⟨y,hy⟩:∃y,y=P[q]+z:=⟨_,rfl⟩
  have ew:IntKind.wrap .u8 (z:Int)=(z:Int):=PA ⟨z,by omega⟩
  have eo:Cs .or (.int .u8 (P[q]:Int)) (.int .u8 (z:Int))=some (.int .u8 (y:Int)):=by rw[hy];exact PD hdv hzl hsum
  have hyn:P[q]+l[i].toNat*2^(7-r)=y:=by rw[hb,hy,hz,hs];simp
  rw[hyn] at hsn
  (repeat refine W.seq ?_);refine W.regd 0 rfl true Ce (by kernel_rfl) fun K hK=>?_;simp -implicitDefEqProofs (maxSteps:=999999) (disch:=omega) [c1,e1,e2,e3,hqm,hu,hb,Fj,b8,hz1,ew,eo]
  refine⟨by omega,?_⟩
  refine zk ?_;clear hK K
  rw[Pz,←hsn]
  refine zs ?_
  exact⟨i+1,by omega,by omega,Wk.fr (by simp[Ad])⟩
theorem RG (a g:Gr) (ha:AS a) (hg:AS g):Aa pg 90 [.agg (AU false a),.agg (AU false g)] [] (fun r _=>r= .bool (decide ((B0 a g).length<(Ca g).length))):=by
 have spF:=PB g hg
 have spD:=PC a g ha hg
 refine Aa.start (fn:=Tryz.f90) [.tmp 4] tk rfl rfl rfl (by kernel_rfl) (Nat.le_of_ble_eq_true rfl) rfl (by kernel_rfl) ?_
 rw[Aq]
 refine z2 ?_;intro K hK;refine zk ?_;clear hK K
 refine z0 ?_;intro K hK
 refine Ab.bor spF (by simp) ?_
 rintro r ⟨ats,rfl⟩
 refine⟨by simp,?_⟩
 refine zx ?_
 refine zk ?_;clear hK K
 refine z0 ?_;intro K hK
 refine Ab.eq spD (by simp) (by simp) ?_
 refine zx ?_
 refine zk ?_;clear hK K
 exact zR
theorem Uz (l:List Obj) (base:Int) (g:Gr) (hl:DW l) (hm:Ci l) (hg:AS g):Aa pg 91 [.ro l.length (Af Aw l),.int .i64 base,.agg (AU false g)] [] (fun r _=>r= .agg (Cx (Fu l base g))):=by
 have spF:=PB g hg
 have spR:=Gi l base hl hm
 have spD:=PC (AX l base).1 g (Eo l base) hg
 have spP:=Xv (if base=0 then Ca g else B0 (AX l base).1 g) (by
  split
  .have:=IL hg;omega
  .have:=IM (Eo l base) hg;omega)
 obtain⟨p,hp⟩:∃p,p=Fu l base g:=⟨_,rfl⟩
 have hpe:E4 (if base=0 then Ca g else B0 (AX l base).1 g)=p:=by rw[hp,Fu]
 rw[hpe] at spP
 rw[←hp]
 refine Aa.start (fn:=Tryz.f91) [.cell 6 40] tk rfl rfl rfl (by kernel_rfl) (Nat.le_of_ble_eq_true rfl) rfl (by kernel_rfl) ?_
 rw[Bh]
 refine z2 ?_;intro K hK;refine zk ?_;clear hK K
 by_cases c:base=0
 .rw[if_pos c] at spP
  refine Ae c ?_;intro K hK
  refine zk ?_;clear hK K
  refine zt ?_
  refine z0 ?_;intro K hK
  refine Ab.bor spF (by simp) ?_
  rintro r ⟨ats,rfl⟩
  refine⟨by simp,?_⟩
  refine zx ?_
  refine zk ?_;clear hK K
  refine z0 ?_;intro K hK
  refine Ab.eq spP (by simp) (by simp) ?_
  refine zx ?_
  refine zk ?_;clear hK K
  exact zR
 .rw[if_neg c] at spP
  refine Ae c ?_;intro K hK
  refine zk ?_;clear hK K
  refine zn ?_
  refine W.skip ?_
  refine z1 ?_;intro K hK
  refine Ab.eq spR (by simp) (by simp) ?_
  refine zx ?_
  refine zk ?_;clear hK K
  refine z0 ?_;intro K hK
  refine Ab.eq spD (by simp) (by simp) ?_
  refine zx ?_
  refine Ab.eq spP (by simp) (by simp) ?_
  refine zx ?_
  refine zk ?_;clear hK K
  exact zR
set_option maxHeartbeats 2000000 in
theorem Xw (l:List Obj) (parent:Int) (g:Gr) (hl:DW l) (hl2:l.length<1000000000) (hm:Ci l) (hg:AS g):Aa pg 45 [.ro l.length (Af Aw l),.int .i64 parent,.agg (AU false g)] [] (fun r _=>r= .tup [.agg (Aw (BO l parent g).1),.int .i64 (BO l parent g).2]):=by
 have spR:=Gi l parent hl hm
 have spD:=Pq l parent hl hm
 have spS:=RG (AX l parent).1 g (Eo l parent) hg
 have spB0:=Uz l 0 g hl hm hg
 have spB1:=Uz l parent g hl hm hg
 obtain⟨id,BM⟩:∃id,id=Cn l:=⟨_,rfl⟩
 have hid0:-1000000000000<id∧id<1000000000000:=by
  rw[BM,Cn]
  cases e:l.getLast? with
  |none=>simp
  |some o=>
   have:=hm.2.1 o (List.mem_of_getLast? e)
   simp only;omega
 refine Aa.start (fn:=Tryz.f45) [.cell 6 60,.tmp 7] tk rfl rfl rfl (by kernel_rfl) (Nat.le_of_ble_eq_true rfl) rfl (by kernel_rfl) ?_
 rw[Bh]
 refine z2 ?_;intro K hK;refine zk ?_;clear hK K
 refine zs ?_
 refine zs ?_
 (repeat refine W.seq ?_);refine W.midS (fun _:Unit=> [(0,.ro l.length (Af Aw l)),(1,.int .i64 parent),(5,.ptr 0 0 0),(6,.ptr 1 0 0),(8,.int .i64 id)]) (fun _=> [.live 0 (AU false g),.live 0 [.int .i64 0,.int .i64 0,.str ByteArray.empty,.int .i64 0]]) (fun _=>True) ?_ ?_
 .by_cases c:0<l.length
  .obtain⟨k,hk⟩:∃k,l.length=k+1:=⟨l.length-1,by omega⟩
   have hkl:k<l.length:=by omega
   have em:(l.length:Int)-1=(k:Int):=by omega
   have hlast:id=l[k].id+1:=by
    rw[BM,Cn,List.getLast?_eq_getElem?,show l.length-1=k by omega,List.getElem?_eq_getElem hkl]
   have hidk:=hm.2.1 _ (List.getElem_mem hkl)
   rw[decide_eq_true c]
   refine zt ?_
   refine Ae (an em hkl) ?_;intro K hK
   refine zk ?_;clear hK K
   exact⟨(),trivial,Wk.fr (by simp[Ad,hlast])⟩
  .have hnil:l=[]:=List.eq_nil_of_length_eq_zero (by omega)
   have hlast:id=1:=by rw[BM,Cn,hnil];rfl
   rw[decide_eq_false c]
   refine zn ?_
   refine W.skip ?_
   exact⟨(),trivial,Wk.fr (by simp[Ad,hlast])⟩
 rintro _ _
 by_cases c1:12≤l.length
 .refine Ae c1 ?_;intro K hK
  refine zk ?_;clear hK K
  refine zt ?_
  refine zs ?_
  refine zr ?_
  simp[BO,c1,JV]
 by_cases c2:1048576<id
 .refine Ae (an c1 c2) ?_;intro K hK
  refine zk ?_;clear hK K
  refine zt ?_
  refine zs ?_
  refine zr ?_
  simp[BO,←BM,c2,JV]
 have c12:¬(12≤l.length∨1048576<Cn l):=by rw[←BM];omega
 refine Ae (an c1 c2) ?_;intro K hK
 refine zk ?_;clear hK K
 refine zn ?_
 refine W.skip ?_
 refine z1 ?_;intro K hK
 refine zk ?_;clear hK K
 by_cases c3:parent=0
 .have eM:BO l parent g=(⟨id,0,Fu l 0 g⟩,0):=by rw[BO,if_neg c12,if_pos c3,BM]
  rw[eM]
  obtain⟨bp,hbp⟩:∃bp,bp=Fu l 0 g:=⟨_,rfl⟩
  rw[←hbp] at spB0 ⊢
  refine Ae c3 ?_;intro K hK
  refine zk ?_;clear hK K
  refine zn ?_
  refine W.skip ?_
  refine z0 ?_;intro K hK
  refine Ab.eq spB0 (by simp) (by simp) ?_
  refine zx ?_
  refine zk ?_;clear hK K
  refine zs ?_
  exact zR
 obtain⟨a,ha⟩:∃a,a=(AX l parent).1:=⟨_,rfl⟩
 obtain⟨e,he⟩:∃e,e=(AX l parent).2:=⟨_,rfl⟩
 rw[←ha] at spS
 rw[←ha,←he] at spR
 by_cases c4:e=0
 rotate_left
 .have eM:BO l parent g=(JV,e):=by rw[BO,if_neg c12,if_neg c3,←he,if_pos c4]
  rw[eM]
  refine Ae c3 ?_;intro K hK
  refine zk ?_;clear hK K
  refine zt ?_
  refine z1 ?_;intro K hK
  refine Ab.eq spR (by simp) (by simp) ?_
  refine zx ?_
  refine zk ?_;clear hK K
  refine Ae c4 ?_;intro K hK
  refine zk ?_;clear hK K
  refine zt ?_
  refine zs ?_
  refine zr ?_
  simp[JV]
 obtain⟨dp,hdp⟩:∃dp,dp=(Bb l parent).1:=⟨_,rfl⟩
 obtain⟨de,hde⟩:∃de,de=(Bb l parent).2:=⟨_,rfl⟩
 rw[←hdp,←hde] at spD
 have eM:BO l parent g=if dp<3∧(B0 a g).length<(Ca g).length then(⟨id,parent,Fu l parent g⟩,0) else(⟨id,0,Fu l 0 g⟩,0):=by
  rw[BO,if_neg c12,if_neg c3,←he,if_neg (fun h=>h c4),←hdp,←ha,←BM]
 rw[eM]
 obtain⟨b0,hb0⟩:∃b,b=Fu l 0 g:=⟨_,rfl⟩
 obtain⟨b1,hb1⟩:∃b,b=Fu l parent g:=⟨_,rfl⟩
 rw[←hb0] at spB0 ⊢
 rw[←hb1] at spB1 ⊢
 refine Ae c3 ?_;intro K hK
 refine zk ?_;clear hK K
 refine zt ?_
 refine z1 ?_;intro K hK
 refine Ab.eq spR (by simp) (by simp) ?_
 refine zx ?_
 refine zk ?_;clear hK K
 refine Ae c4 ?_;intro K hK
 refine zk ?_;clear hK K
 refine zn ?_
 refine W.skip ?_
 refine z0 ?_;intro K hK
 refine Ab.eq spD (by simp) (by simp) ?_
 refine zx ?_
 refine zk ?_;clear hK K
 by_cases c5:dp<3
 rotate_left
 .rw[if_neg (fun h=>c5 h.1)]
  refine Ae c5 ?_;intro K hK
  refine zk ?_;clear hK K
  refine zn ?_
  refine W.skip ?_
  refine z0 ?_;intro K hK
  refine Ab.eq spB0 (by simp) (by simp) ?_
  refine zx ?_
  refine zk ?_;clear hK K
  refine zs ?_
  exact zR
 by_cases c6:(B0 a g).length<(Ca g).length
 .rw[if_pos ⟨c5,c6⟩]
  rw[decide_eq_true c6] at spS
  refine Ae c5 ?_;intro K hK
  refine Ab.eq spS (by simp) (by simp) ?_
  refine zx ?_
  refine zk ?_;clear hK K
  refine zt ?_
  refine zs ?_
  refine z0 ?_;intro K hK
  refine Ab.eq spB1 (by simp) (by simp) ?_
  refine zx ?_
  refine zk ?_;clear hK K
  refine zs ?_
  exact zR
 .rw[if_neg (fun h=>c6 h.2)]
  rw[decide_eq_false c6] at spS
  refine Ae c5 ?_;intro K hK
  refine Ab.eq spS (by simp) (by simp) ?_
  refine zx ?_
  refine zk ?_;clear hK K
  refine zn ?_
  refine W.skip ?_
  refine z0 ?_;intro K hK
  refine Ab.eq spB0 (by simp) (by simp) ?_
  refine zx ?_
  refine zk ?_;clear hK K
  refine zs ?_
  exact zR
end Go.Abs
