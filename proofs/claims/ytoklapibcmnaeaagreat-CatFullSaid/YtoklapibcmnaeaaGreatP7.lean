/- Gamma codes: what is read is what is written. No program. -/
import Derived.Test.YtoklapibcmnaeaaGreatP6
import Derived.Shelf.Small.Bits
import Derived.Shelf.Sort.Plain
import Derived.Test.YtoklapibcmnaeaaGreatProg
set_option linter.unusedVariables false
set_option linter.unusedSimpArgs false
namespace Go.Abs
def II (v:Nat) (l:List Bool):Nat:=l.foldl (fun v b=>2*v+b.toNat) v
theorem IY:∀(l:List Bool) (v:Nat),II v l=v*2^l.length+Bq l
 | [],v=>by simp[II,Bq]
 |b::l,v=>by
  have h1:=IY l (2*v+b.toNat)
  have h2:=IY l (2*0+b.toNat)
  have e1:II v (b::l)=II (2*v+b.toNat) l:=rfl
  have e2:Bq (b::l)=II (2*0+b.toNat) l:=rfl
  simp only[Nat.mul_zero,Nat.zero_add] at h2 e2
  rw[e1,e2,h1,h2,List.length_cons,Nat.pow_succ,Nat.add_mul]
  have:2*v*2^l.length=v*(2^l.length*2):=by rw[Nat.mul_comm 2 v,Nat.mul_assoc,Nat.mul_comm 2]
  omega
@[simp] theorem YP:Bq []=0:=rfl
theorem ET (b:Bool) (l:List Bool):Bq (b::l)=b.toNat*2^l.length+Bq l:=by
 have:=IY l (2*0+b.toNat)
 have e:Bq (b::l)=II (2*0+b.toNat) l:=rfl
 rw[e,this];simp
theorem Sb (l m:List Bool):Bq (l++m)=Bq l*2^m.length+Bq m:=by
 have:Bq (l++m)=II (Bq l) m:=by simp[Bq,II,List.foldl_append]
 rw[this,IY]
theorem Qy (l:List Bool) (b:Bool):Bq (l++[b])=2*Bq l+b.toNat:=by
 rw[Sb];simp[ET];omega
theorem FV:∀l:List Bool,Bq l<2^l.length
 | []=>by simp
 |b::l=>by
  have:=FV l
  rw[ET,List.length_cons,Nat.pow_succ]
  cases b<;>simp<;>omega
@[simp] theorem Pe (v w:Nat):(By v w).length=w:=by simp[By]
theorem D4 (v w:Nat):By v (w+1)=decide (v/2^w%2=1)::By v w:=by
 unfold By
 rw[List.range_succ_eq_map,List.map_cons,List.map_map]
 congr 1
 apply List.map_congr_left
 intro i hi
 simp only[Function.comp]
 have:w+1-1-(i+1)=w-1-i:=by simp at hi;omega
 rw[show Nat.succ i=i+1 from rfl,this]
theorem HK (v:Nat):∀w k,w≤k→By (v%2^k) w=By v w
 |0,_,_=>rfl
 |w+1,k,h=>by
  rw[D4,D4,HK v w k (by omega)]
  congr 2
  have:(v%2^k)/2^w%2=v/2^w%2:=by
   have e:k=w+(k-w):=by omega
   rw[e,Nat.pow_add,Nat.mod_mul_right_div_self]
   have:k-w=(k-w-1)+1:=by omega
   rw[this,Nat.pow_succ,Nat.mod_mul_left_mod]
  rw[this]
theorem Jc:∀w v,v<2^w→Bq (By v w)=v
 |0,v,h=>by simp at h;subst h;rfl
 |w+1,v,h=>by
  rw[D4,ET,Pe,←HK v w w (Nat.le_refl _),Jc w _ (Nat.mod_lt _ (Nat.pow_pos (by omega)))]
  have h2:v/2^w<2:=by rw[Nat.div_lt_iff_lt_mul (Nat.pow_pos (by omega))];rw[Nat.pow_succ] at h;omega
  have h3:=Nat.div_add_mod v (2^w)
  rcases Nat.lt_or_ge (v/2^w) 1 with h4|h4
  .have e:v/2^w=0:=Nat.lt_one_iff.1 h4
   rw[e] at h3 ⊢;simp at h3 ⊢;exact h3
  .have e:v/2^w=1:=Nat.le_antisymm (Nat.le_of_lt_succ h2) h4
   rw[e] at h3 ⊢;simp at h3 ⊢;omega
theorem Jd:∀l:List Bool,By (Bq l) l.length=l
 | []=>rfl
 |b::l=>by
  have hl:=FV l
  have hp:0<2^l.length:=Nat.pow_pos (by omega)
  rw[List.length_cons,D4,←HK _ l.length l.length (Nat.le_refl _),ET]
  have e1:(b.toNat*2^l.length+Bq l)%2^l.length=Bq l:=by rw[Nat.mul_comm,Nat.mul_add_mod,Nat.mod_eq_of_lt hl]
  have e2:(b.toNat*2^l.length+Bq l)/2^l.length=b.toNat:=by
   rw[Nat.mul_comm,Nat.mul_add_div hp,Nat.div_eq_of_lt hl];rfl
  rw[e1,e2,Jd l]
  cases b<;>rfl
theorem Je (w:Nat):By 0 w=List.replicate w false:=by
 apply List.ext_getElem
 .simp
 .intro i h1 h2;simp[By]
theorem Lt {n:Nat} (h:1≤n):2^Nat.log2 n≤n∧n<2^(Nat.log2 n+1):=⟨Nat.log2_self_le (by omega),Nat.lt_log2_self⟩
theorem Lu {n q:Nat} (h1:2^q≤n) (h2:n<2^(q+1)):Nat.log2 n=q:=by
 have hp:0<2^q:=Nat.pow_pos (by omega)
 have h0:1≤n:=by omega
 have h:=Lt h0
 have a1:Nat.log2 n<q+1:=by
  rcases Nat.lt_or_ge (Nat.log2 n) (q+1) with h' |h'
  .exact h'
  .have:=Nat.pow_le_pow_right (n:=2) (by omega) h';omega
 have a2:q<Nat.log2 n+1:=by
  rcases Nat.lt_or_ge q (Nat.log2 n+1) with h' |h'
  .exact h'
  .have:=Nat.pow_le_pow_right (n:=2) (by omega) h';omega
 omega
theorem GF (n:Nat):(Bc n).length=2*Nat.log2 n+1:=by simp[Bc];omega
theorem Kg {n:Nat} (h:1≤n):∃r:List Bool,r.length=Nat.log2 n∧Bc n=List.replicate (Nat.log2 n) false++true::r∧Bq (true::r)=n:=by
 have hs:=Lt h
 refine⟨By n (Nat.log2 n),by simp,?_,?_⟩
 .rw[Bc,Je,D4]
  congr 2
  have:n/2^Nat.log2 n=1:=by
   have hp:0<2^Nat.log2 n:=Nat.pow_pos (by omega)
   have h1:n/2^Nat.log2 n<2:=by rw[Nat.div_lt_iff_lt_mul hp];rw[Nat.pow_succ] at hs;omega
   have h2:1≤n/2^Nat.log2 n:=by rw[Nat.le_div_iff_mul_le hp];omega
   omega
  simp[this]
 .have:true::By n (Nat.log2 n)=By n (Nat.log2 n+1):=by
   rw[D4]
   congr 1
   have:n/2^Nat.log2 n=1:=by
    have hp:0<2^Nat.log2 n:=Nat.pow_pos (by omega)
    have h1:n/2^Nat.log2 n<2:=by rw[Nat.div_lt_iff_lt_mul hp];rw[Nat.pow_succ] at hs;omega
    have h2:1≤n/2^Nat.log2 n:=by rw[Nat.le_div_iff_mul_le hp];omega
    omega
   simp[this]
  rw[this,Jc _ _ hs.2]
theorem JB (q:Nat) (r:List Bool):(List.replicate q false++true::r).findIdx? id=some q:=by
 induction q with
 |zero=>simp[List.findIdx?_cons]
 |succ q ih=>simp[List.replicate_succ,List.findIdx?_cons,ih]
theorem GG:∀{l:List Bool} {q:Nat},l.findIdx? id=some q→∃r,l=List.replicate q false++true::r
 | [],q,h=>by simp at h
 |true::l,q,h=>by simp[List.findIdx?_cons] at h;subst h;exact⟨l,rfl⟩
 |false::l,q,h=>by
  simp[List.findIdx?_cons] at h
  obtain⟨q',h1,rfl⟩:=h
  obtain⟨r,rfl⟩:=GG h1
  exact⟨r,by simp[List.replicate_succ]⟩
def FM (l:List Bool) (p x:Nat):List Bool:=(l.drop p).take (x-p)
theorem FW {l:List Bool} {p x y:Nat} (h1:p≤x) (h2:x≤y):FM l p x++FM l x y=FM l p y:=by
 unfold FM
 have e1:(l.drop p).drop (x-p)=l.drop x:=by rw[List.drop_drop];congr 1;omega
 rw[←e1,←List.take_add]
 congr 1;omega
theorem Up {l:List Bool} {p x:Nat} (h:x≤l.length):(FM l p x).length=x-p:=by simp[FM];omega
theorem AN {l:List Bool} {p:Nat} {r:Nat×Nat} (h:AK l p=some r):1≤r.1∧r.1≤1073741824∧p<r.2∧r.2≤l.length∧FM l p r.2=Bc r.1:=by
 unfold AK ahead at h
 split at h
 .simp at h
 .rename_i q hq
  split at h
  .rename_i hb
   split at h
   .rename_i hn
    simp at h;subst h
    obtain⟨rest,hr⟩:=GG hq
    have hlen:(l.drop p).length=q+(rest.length+1):=by rw[hr];simp
    have hl2:l.length-p=q+(rest.length+1):=by simpa using hlen
    have e1:(l.drop (p+q)).take (q+1)=true::rest.take q:=by
     rw[←List.drop_drop,hr,List.drop_append]
     simp
    have hrl:(rest.take q).length=q:=by simp;omega
    rw[e1] at hn ⊢
    have hnum:Bq (true::rest.take q)=2^q+Bq (rest.take q):=by rw[ET,hrl];simp
    have hlt:=FV (rest.take q)
    rw[hrl] at hlt
    have hp:0<2^q:=Nat.pow_pos (by omega)
    have hlog:Nat.log2 (Bq (true::rest.take q))=q:=Lu (by omega) (by rw[Nat.pow_succ];omega)
    refine⟨by simp only;omega,hn,by simp only;omega,hb.2,?_⟩
    simp only
    rw[Bc,hlog,Je]
    have e2:By (Bq (true::rest.take q)) (q+1)=true::rest.take q:=by
     have:=Jd (true::rest.take q)
     rwa [List.length_cons,hrl] at this
    rw[e2,FM,hr,show p+2*q+1-p=q+(q+1) by omega,List.take_append]
    simp
   .simp at h
  .simp at h
theorem FD {n m:Nat} {s t:List Bool} (hn:1≤n) (hm:1≤m) (h:Bc n++s=Bc m++t):n=m∧s=t:=by
 obtain⟨r,hr,hf,hnn⟩:=Kg hn
 obtain⟨r',hr',hf',hnm⟩:=Kg hm
 have e1:(Bc n++s).findIdx? id=some (Nat.log2 n):=by rw[hf,List.append_assoc,List.cons_append];exact JB _ _
 have e2:(Bc m++t).findIdx? id=some (Nat.log2 m):=by rw[hf',List.append_assoc,List.cons_append];exact JB _ _
 rw[h,e2] at e1
 have hlog:Nat.log2 m=Nat.log2 n:=by simpa using e1
 have:=List.append_inj h (by rw[GF,GF,hlog])
 refine⟨?_,this.2⟩
 have h3:=this.1
 rw[hf,hf',hlog] at h3
 have h4:=List.append_cancel_left h3
 rw[←hnn,←hnm,h4]
theorem Og (n:Int):Cb (D5 n)=n:=by unfold Cb D5;split<;>split<;>omega
theorem Uq (n:Int) (h:0≤n):D5 (Cb n)=n:=by unfold Cb D5;split<;>split<;>omega
theorem FT (n:Int):0≤D5 n:=by unfold D5;split<;>omega
theorem Ur {a b:Int} (h:D5 a=D5 b):a=b:=by rw[←Og a,h,Og]
end Go.Abs
set_option maxRecDepth 100000
namespace Go.Abs
open Go.Proofs
theorem JC (a:Int) (h0:0≤a) (h1:a≤9223372036854775807):Cg .and (.int .i64 a) (.int .i64 1)=some (.int .i64 (a%2)):=by
 obtain⟨n,rfl⟩:=Int.eq_ofNat_of_zero_le h0
 have hn:n<2^64:=by omega
 rw[KQ]
 have e1:(BitVec.ofInt IntKind.i64.bits (n:Int)&&&BitVec.ofInt IntKind.i64.bits 1).toNat=n%2:=by
  rw[BitVec.toNat_and]
  have:(BitVec.ofInt IntKind.i64.bits (n:Int)).toNat=n:=by
   rw[BitVec.toNat_ofInt];simp[IntKind.bits] at*;omega
  rw[this]
  have:(BitVec.ofInt IntKind.i64.bits 1).toNat=1:=rfl
  rw[this,Nat.and_one_is_mod]
 rw[e1]
 congr 2
 rw[wrap_i64 (by omega) (by omega)];omega
theorem Us (a b:Int) (h0:0≤a) (h1:a≤4611686018427387903) (hb:b=0∨b=1):Cg .or (.int .i64 (a*2)) (.int .i64 b)=some (.int .i64 (2*a+b)):=by
 obtain⟨n,rfl⟩:=Int.eq_ofNat_of_zero_le h0
 rw[Vr]
 have e1:(BitVec.ofInt IntKind.i64.bits ((n:Int)*2) |||BitVec.ofInt IntKind.i64.bits b).toNat=(2*n+b).toNat:=by
  rw[BitVec.toNat_or]
  have:(BitVec.ofInt IntKind.i64.bits ((n:Int)*2)).toNat=2^1*n:=by
   rw[BitVec.toNat_ofInt];simp[IntKind.bits] at*;omega
  rw[this]
  rcases hb with rfl|rfl
  .have:(BitVec.ofInt IntKind.i64.bits 0).toNat=0:=rfl
   rw[this,←Nat.two_pow_add_eq_or_of_lt (by omega)];omega
  .have:(BitVec.ofInt IntKind.i64.bits 1).toNat=1:=rfl
   rw[this,←Nat.two_pow_add_eq_or_of_lt (by omega)];omega
 rw[e1]
 congr 2
 have:((2*(n:Int)+b).toNat:Int)=2*n+b:=by rcases hb with rfl|rfl<;>omega
 rw[this,wrap_i64 (by rcases hb with rfl|rfl<;>omega) (by rcases hb with rfl|rfl<;>omega)]
theorem GH (s:ByteArray) (i:Nat):CG s i<256:=by
 unfold CG
 split
 .exact UInt8.toNat_lt _
 .omega
@[simp] theorem YQ (a:Int) (k:Nat):a.fdiv (2^k)=a/2^k:=Int.fdiv_eq_ediv_of_nonneg a (Int.le_of_lt (Int.pow_pos (by omega)))
theorem Oh (d:ByteArray) (i:Nat):((CG d (i/8):Int)/2^(7-(i:Int)%8).toNat)%2=if Eh d i=true then 1 else 0:=by
 have e:(7-(i:Int)%8).toNat=7-i%8:=by omega
 rw[e]
 have h2:((CG d (i/8):Int)/2^(7-i%8))%2=((CG d (i/8)/2^(7-i%8)%2:Nat):Int):=by
  rw[Int.natCast_emod,Int.natCast_ediv,Int.natCast_pow];rfl
 rw[h2]
 unfold Eh
 have h3:CG d (i/8)/2^(7-i%8)%2<2:=Nat.mod_lt _ (by omega)
 split
 .rename_i h;simp at h;simp[h]
 .rename_i h;simp at h;omega
theorem MV (d:ByteArray) (i k:Nat):0≤(CG d i:Int)/2^k∧(CG d i:Int)/2^k≤255:=by
 have h:=GH d i
 have e:(CG d i:Int)/2^k=((CG d i/2^k:Nat):Int):=by rw[Int.natCast_ediv,Int.natCast_pow];rfl
 rw[e]
 have:CG d i/2^k≤CG d i:=Nat.div_le_self _ _
 generalize CG d i/2^k=z at*
 omega
@[simp] theorem YR:IntKind.bits .i64=64:=rfl
@[simp] theorem Z3:IntKind.bits .u8=8:=rfl
@[simp] theorem YS:IntKind.bits .u32=32:=rfl
@[simp] theorem YT:IntKind.bits .u64=64:=rfl
theorem SF (b:CM) (i:Nat) (hn:b.data.size<1000000000000) (hi:i/8<b.data.size):Aa pg 270 [.agg (Ch b),.int .i64 i] [] (fun r _=>r= .int .i64 (if Eh b.data i=true then 1 else 0)):=by
 refine Aa.start (fn:=Tryz.f270) [.tmp 4] tk rfl rfl rfl (by kernel_rfl) (Nat.le_of_ble_eq_true rfl) rfl (by kernel_rfl) ?_
 rw[Ar]
 refine z1 ?_;intro K hK;refine zk ?_;clear hK K
 refine z0 ?_;intro K hK
 refine⟨by omega,?_⟩
 have h3:=MV b.data (i/8) (7-(i:Int)%8).toNat
 have e1:((i:Int)/8).toNat=i/8:=by omega
 rw[e1,wrap_i64 (by omega) (by omega),JC _ h3.1 (by omega),Oh]
 simp
 refine zk ?_;clear hK K
 exact zR
def nb (o:Option Nat):Int:=match o with|some q=>(q:Int) |none=>-1
theorem Kh {l:List Bool} {p k:Nat} (hk:p+k<l.length) (h:(l.drop p).take k=List.replicate k false):(l[p+k]=true→ahead l p=some k)∧(l[p+k]=false→(l.drop p).take (k+1)=List.replicate (k+1) false):=by
 have e:l.drop p=List.replicate k false++l[p+k]::l.drop (p+k+1):=by
  rw[←List.take_append_drop k (l.drop p),h,List.drop_drop,List.drop_eq_getElem_cons hk]
 refine⟨fun h1=>?_,fun h1=>?_⟩
 .unfold ahead;rw[e,h1];exact JB _ _
 .rw[e,h1,List.take_append];simp[List.replicate_succ']
theorem Lv {l:List Bool} {p k:Nat} (hk:l.length≤p+k) (h:(l.drop p).take k=List.replicate k false):ahead l p=none:=by
 have e:l.drop p=List.replicate k false:=by rw[←h,List.take_of_length_le];simp;omega
 unfold ahead
 rw[e,List.findIdx?_eq_none_iff]
 intro x hx
 rw[List.eq_of_mem_replicate hx];rfl
theorem BX (b:CM):(An b).length=b.n.toNat:=by simp[An]
theorem Lw (b:CM) {i:Nat} (h:i<(An b).length):(An b)[i]=Eh b.data i:=by simp[An]
def C3 (b:CM):Prop:=0≤b.n∧b.n≤8*b.data.size∧b.data.size<1000000000
theorem Ut (b:CM) (p:Nat) (hb:C3 b) (hp:p<100000000000):Aa pg 257 [.agg (Ch b),.int .i64 p] [] (fun r _=>r= .int .i64 (nb (ahead (An b) p))):=by
 obtain⟨h0,h1,h2⟩:=hb
 have hl:=BX b
 refine Aa.start (fn:=Tryz.f257) [.tmp 4] tk rfl rfl rfl (by kernel_rfl) (Nat.le_of_ble_eq_true rfl) rfl (by kernel_rfl) ?_
 rw[Ar]
 refine z1 ?_;intro K hK;refine zk ?_;clear hK K
 refine z0 ?_;intro K hK;refine zk ?_;clear hK K
 (repeat refine W.seq ?_);refine W.block (W.loopS (fun k:Nat=> [(1,.int .i64 p),(2,.ptr 0 0 0),(5,.int .i64 (p+k:Nat))]) (fun _=> [.live 0 (Ch b)]) (fun k=>b.n.toNat-p-k) (fun k=>k≤b.n.toNat-p∧((An b).drop p).take k=List.replicate k false) 0 (Wk.fr ?_) (by simp) ?_)
 .simp[Ad]
 .rintro k ⟨hk,hz⟩
  refine z0 ?_;intro K hK;refine zk ?_;clear hK K
  refine zc ?_ ?_<;>intro h
  .refine W.skip ?_
   refine zb ?_
   have hlt:p+k<(An b).length:=by omega
   have hs:=Kh hlt hz
   rw[Lw b hlt] at hs
   refine z0 ?_;intro K hK
   refine Ab.eq (SF b (p+k) (by omega) (by omega)) (by simp) (by simp) ?_
   refine zx ?_
   refine zk ?_;clear hK K
   refine zc ?_ ?_<;>intro h
   .refine z0 ?_;intro K hK;refine zk ?_;clear hK K
    refine zr ?_
    rw[hs.1 h];simp[nb];omega
   .refine W.skip ?_
    refine z0 ?_;intro K hK;refine zk ?_;clear hK K
    refine⟨k+1,by omega,⟨by omega,hs.2 h⟩,Wk.fr ?_⟩
    simp[Ad];omega
  .refine W.exit ?_
   refine z0 ?_;intro K hK;refine zk ?_;clear hK K
   refine zr ?_
   rw[Lv (by omega) hz];rfl
theorem Lx {l:List Bool} {p k w:Nat} (hk:p+k<l.length):Bq ((l.drop p).take (k+1))=2*Bq ((l.drop p).take k)+(l[p+k]).toNat:=by
 rw[List.take_add_one,List.getElem?_drop,List.getElem?_eq_getElem hk]
 exact Qy _ _
theorem VN (b:CM) (p w:Nat) (hb:C3 b) (hp:p<100000000000) (hw:w≤40):Aa pg 258 [.agg (Ch b),.int .i64 p,.int .i64 w] [] (fun r _=>r=if p+w≤b.n.toNat then .tup [.int .i64 (Bq (((An b).drop p).take w)),.bool true] else .tup [.int .i64 0,.bool false]):=by
 obtain⟨h0,h1,h2⟩:=hb
 have hl:=BX b
 refine Aa.start (fn:=Tryz.f258) [.tmp 6,.tmp 7] tk rfl rfl rfl (by kernel_rfl) (Nat.le_of_ble_eq_true rfl) rfl (by kernel_rfl) ?_
 rw[Bg]
 refine z1 ?_;intro K hK;refine zk ?_;clear hK K
 refine z0 ?_;intro K hK
 refine⟨fun h1=>?_,fun h1=>?_⟩
 .refine zk ?_;clear hK K
  refine zc ?_ ?_<;>intro h
  .refine z0 ?_;intro K hK;refine zk ?_;clear hK K
   refine zr ?_
   omega
  .refine W.skip ?_
   refine z0 ?_;intro K hK;refine zk ?_;clear hK K
   refine z0 ?_;intro K hK;refine zk ?_;clear hK K
   (repeat refine W.seq ?_);refine W.block (W.loopS (fun k:Nat=> [(1,.int .i64 p),(2,.int .i64 w),(3,.ptr 0 0 0),(8,.int .i64 (Bq (((An b).drop p).take k))),(22,.int .i64 w),(23,.int .i64 k)]) (fun _=> [.live 0 (Ch b)]) (fun k=>w-k) (fun k=>k≤w) 0 (Wk.fr ?_) (by simp) ?_)
   .simp[Ad]
   .intro k hk
    refine z0 ?_;intro K hK;refine zk ?_;clear hK K
    refine zc ?_ ?_<;>intro h
    .refine W.skip ?_
     have hlt:p+k<(An b).length:=by omega
     have hs:=Lx (l:=An b) (p:=p) (k:=k) (w:=w) hlt
     rw[Lw b hlt] at hs
     have hlt2:=FV (((An b).drop p).take k)
     have hpw:2^(((An b).drop p).take k).length≤2^40:=Nat.pow_le_pow_right (by omega) (by simp;omega)
     generalize 2^(((An b).drop p).take k).length=z at*
     refine zb ?_
     refine z0 ?_;intro K hK;refine zk ?_;clear hK K
     refine z0 ?_;intro K hK
     refine Ab.eq (SF b (p+k) (by omega) (by omega)) (by simp) (by simp) ?_
     refine zx ?_
     rw[Us _ _ (by omega) (by omega) (by split<;>simp)]
     simp
     refine zk ?_;clear hK K
     refine z0 ?_;intro K hK;refine zk ?_;clear hK K
     refine⟨k+1,by omega,by omega,Wk.fr ?_⟩
     simp[Ad,hs]
     cases Eh b.data (p+k)<;>rfl
    .refine W.exit ?_
     refine z0 ?_;intro K hK;refine zk ?_;clear hK K
     refine W.ret ?_;simp only[Ca,CU,Cp];refine Ce (d:=0) ?_;simp -implicitDefEqProofs (maxSteps:=999999) (disch:=omega)
     have:k=w:=by omega
     rw[this]
 .refine zk ?_;clear hK K
  refine zt ?_
  refine z0 ?_;intro K hK;refine zk ?_;clear hK K
  refine zr ?_
  omega
end Go.Abs
set_option maxRecDepth 100000
namespace Go.Abs
open Go.Proofs
@[simp] def HL (b:CM) (p:Int) (bad:Bool):List AV:=[.str b.data,.int .i64 b.n,.int .i64 p,.bool bad]
def Ki (l:List Bool) (p most:Nat):Option Nat:=match ahead l p with|some q=>if q≤most then some q else none|none=>none
theorem MW {l:List Bool} {p q:Nat} (h:ahead l p=some q):p+q<l.length:=by
 obtain⟨r,hr⟩:=GG h
 have:=congrArg List.length hr
 simp at this;omega
theorem Uu (b:CM) (p most v:Nat) (hb:C3 b) (hp:p<100000000000) (hm:most<100000):Aa pg 251 [.ptr 0 v 0,.int .i64 most] [.live v (HL b p false)] (fun r M=>match Ki (An b) p most with|some q=>r= .int .i64 q∧M=[.live v (HL b (p+q:Nat) false)] |none=>r= .int .i64 0∧M=[.live v (HL b p true)]):=by
 have hl:=BX b
 obtain⟨h0,h1,h2⟩:=hb
 refine Aa.start (fn:=Tryz.f251) [.tmp 4] tk rfl rfl rfl (by kernel_rfl) (Nat.le_of_ble_eq_true rfl) rfl (by kernel_rfl) ?_
 rw[Ar]
 refine z0 ?_;intro K hK;refine zk ?_;clear hK K
 refine B4 ?_;intro K hK
 refine Ah.eq (Ut b p ⟨h0,h1,h2⟩ hp) (by simp) (by simp) ?_
 refine zx ?_
 refine zk ?_;clear hK K
 unfold Ki
 cases hq:ahead (An b) p with
 |none=>
  simp[nb]
  refine z0 ?_;intro K hK;refine zk ?_;clear hK K
  refine zt ?_
  refine z0 ?_;intro K hK;refine zk ?_;clear hK K
  refine z0 ?_;intro K hK;refine zk ?_;clear hK K
  exact zR
 |some q=>
  have:=MW hq
  simp[nb]
  refine z0 ?_;intro K hK;refine zk ?_;clear hK K
  refine zc ?_ ?_<;>intro h
  .refine z0 ?_;intro K hK;refine zk ?_;clear hK K
   refine z0 ?_;intro K hK;refine zk ?_;clear hK K
   refine zr ?_
   rw[if_neg (by omega)];trivial
  .refine W.skip ?_
   refine z0 ?_;intro K hK;refine zk ?_;clear hK K
   refine z0 ?_;intro K hK;refine zk ?_;clear hK K
   exact zR
theorem MX (b:CM) (p w v:Nat) (bad:Bool) (hb:C3 b) (hp:p<100000000000) (hw:w≤40):Aa pg 252 [.ptr 0 v 0,.int .i64 w] [.live v (HL b p bad)] (fun r M=>if bad=false∧p+w≤b.n.toNat then r= .int .i64 (Bq (((An b).drop p).take w))∧M=[.live v (HL b (p+w:Nat) false)] else r= .int .i64 0∧M=[.live v (HL b p true)]):=by
 have hl:=BX b
 obtain⟨h0,h1,h2⟩:=hb
 refine Aa.start (fn:=Tryz.f252) [.tmp 4] tk rfl rfl rfl (by kernel_rfl) (Nat.le_of_ble_eq_true rfl) rfl (by kernel_rfl) ?_
 rw[Ar]
 refine z0 ?_;intro K hK;refine zk ?_;clear hK K
 refine B4 ?_;intro K hK
 have sp:=VN b p w ⟨h0,h1,h2⟩ hp hw
 by_cases hc:p+w≤b.n.toNat
 .simp only[hc,if_true] at sp
  refine Ah.eq sp (by simp) (by simp) ?_
  refine zx ?_
  refine zk ?_;clear hK K
  cases bad
  . (repeat refine W.seq ?_);refine W.reg 0 rfl fun K hK=>?_;simp -implicitDefEqProofs (maxSteps:=999999) (disch:=omega);(repeat refine⟨by first|assumption|omega,?_⟩);refine hK _ _ ?_;clear hK K
    refine zn ?_
    refine W.skip ?_
    refine z0 ?_;intro K hK;refine zk ?_;clear hK K
    refine z0 ?_;intro K hK;refine zk ?_;clear hK K
    refine W.ret ?_;simp only[Ca,CU,Cp];refine Ce (d:=0) ?_;simp -implicitDefEqProofs (maxSteps:=999999) (disch:=omega)
    try omega
  .refine z0 ?_;intro K hK;refine zk ?_;clear hK K
   refine zt ?_
   refine z0 ?_;intro K hK;refine zk ?_;clear hK K
   refine z0 ?_;intro K hK;refine zk ?_;clear hK K
   exact zR
 .simp only[hc,if_false] at sp
  refine Ah.eq sp (by simp) (by simp) ?_
  refine zx ?_
  refine zk ?_;clear hK K
  cases bad
  .refine z0 ?_;intro K hK;refine zk ?_;clear hK K
   refine zt ?_
   refine z0 ?_;intro K hK;refine zk ?_;clear hK K
   refine z0 ?_;intro K hK;refine zk ?_;clear hK K
   refine zr ?_
   omega
  .refine z0 ?_;intro K hK;refine zk ?_;clear hK K
   refine zt ?_
   refine z0 ?_;intro K hK;refine zk ?_;clear hK K
   refine z0 ?_;intro K hK;refine zk ?_;clear hK K
   exact zR
def E8 (l:List Bool) (p:Nat):Option (Nat×Nat):=match ahead l p with
 |some q=>if q≤30∧p+2*q+1≤l.length then some (Bq ((l.drop (p+q)).take (q+1)),p+2*q+1) else none
 |none=>none
theorem Pf (l:List Bool) (p:Nat):AK l p=match E8 l p with|some x=>if x.1≤1073741824 then some x else none|none=>none:=by
 unfold AK E8
 cases ahead l p with
 |none=>rfl
 |some q=>
  simp only
  split
  .split<;>simp_all
  .simp
theorem Uv {l:List Bool} {p:Nat} {x:Nat×Nat} (h:E8 l p=some x):x.1<2147483648∧x.2≤l.length:=by
 unfold E8 at h
 split at h
 .rename_i q hq
  split at h
  .rename_i hb
   simp at h;subst h
   have h1:=FV ((l.drop (p+q)).take (q+1))
   have h2:2^((l.drop (p+q)).take (q+1)).length≤2^31:=Nat.pow_le_pow_right (by omega) (by simp;omega)
   simp only
   generalize 2^((l.drop (p+q)).take (q+1)).length=z at*
   exact⟨by omega,hb.2⟩
  .simp at h
 .simp at h
theorem Uw (b:CM) (p v:Nat) (hb:C3 b) (hp:p<50000000000):Aa pg 241 [.ptr 0 v 0] [.live v (HL b p false)] (fun r M=>match E8 (An b) p with|some x=>r= .int .i64 x.1∧M=[.live v (HL b x.2 false)] |none=>∃p',r= .int .i64 0∧M=[.live v (HL b p' true)]):=by
 have hl:=BX b
 refine Aa.start (fn:=Tryz.f241) [.tmp 2] tk rfl rfl rfl (by kernel_rfl) (Nat.le_of_ble_eq_true rfl) rfl (by kernel_rfl) ?_
 rw[As]
 refine z0 ?_;intro K hK;refine zk ?_;clear hK K
 refine z0 ?_;intro K hK
 have sp:=Uu b p 30 v hb (by omega) (by omega)
 cases hq:ahead (An b) p with
 |none=>
  have hg:E8 (An b) p=none:=by unfold E8;rw[hq]
  simp only[Ki,hq] at sp
  rw[hg] at hK
  refine Ab.pass [0] sp (by simp) (by simp) (by simp) (by simp) ?_
  rintro r M ⟨rfl,rfl⟩ _
  refine zx ?_
  refine zk ?_;clear hK K
  refine z0 ?_;intro K hK
  refine Ab.pass [0] (MX b p 1 v true hb (by omega) (by omega)) (by simp) (by simp) (by simp) (by simp) ?_
  refine zx ?_
  refine zk ?_;clear hK K
  exact zR
 |some q=>
  have:=MW hq
  have h2:=hb.2.1;have h3:=hb.2.2
  simp only[Ki,hq] at sp
  by_cases h:q≤30
  .simp only[h,if_true] at sp
   refine Ab.pass [0] sp (by simp) (by simp) (by simp) (by simp) ?_
   rintro r M ⟨rfl,rfl⟩ _
   refine zx ?_
   refine zk ?_;clear hK K
   refine z0 ?_;intro K hK
   have sp:=MX b (p+q) (q+1) v false hb (by omega) (by omega)
   by_cases hx:p+q+(q+1)≤b.n.toNat
   .have hg:E8 (An b) p=some (Bq (((An b).drop (p+q)).take (q+1)),p+2*q+1):=by unfold E8;rw[hq];simp only;rw[if_pos ⟨h,by omega⟩]
    simp only[hx,true_and,if_true] at sp
    refine Ab.pass [0] sp (by simp) (by simp) (by simp) (by simp) ?_
    rintro r M ⟨rfl,rfl⟩ _
    refine zx ?_
    refine zk ?_;clear hK K
    refine zr ?_
    simp[hg];omega
   .have hg:E8 (An b) p=none:=by unfold E8;rw[hq];simp only;rw[if_neg (by omega)]
    simp only[hx,and_false,if_false] at sp
    refine Ab.pass [0] sp (by simp) (by simp) (by simp) (by simp) ?_
    rintro r M ⟨rfl,rfl⟩ _
    refine zx ?_
    refine zk ?_;clear hK K
    refine zr ?_
    simp[hg]
  .have hg:E8 (An b) p=none:=by unfold E8;rw[hq];simp only;rw[if_neg (by omega)]
   simp only[h,if_false] at sp
   refine Ab.pass [0] sp (by simp) (by simp) (by simp) (by simp) ?_
   rintro r M ⟨rfl,rfl⟩ _
   refine zx ?_
   refine zk ?_;clear hK K
   refine z0 ?_;intro K hK
   refine Ab.pass [0] (MX b p 1 v true hb (by omega) (by omega)) (by simp) (by simp) (by simp) (by simp) ?_
   refine zx ?_
   refine zk ?_;clear hK K
   refine zr ?_
   simp[hg]
def Fc (o:Option (Nat×Nat)):AV:=match o with|some x=> .tup [.int .i64 x.1,.int .i64 x.2,.bool true] |none=> .tup [.int .i64 0,.int .i64 0,.bool false]
theorem FE (b:CM) (p:Nat) (hb:C3 b) (hp:p<50000000000):Aa pg 220 [.agg (Ch b),.int .i64 p,.int .i64 2] [] (fun r _=>r=Fc (AK (An b) p)):=by
 have hl:=BX b
 have h2:=hb.2.1;have h3:=hb.2.2
 rw[Pf]
 refine Aa.start (fn:=Tryz.f220) [.tmp 6,.tmp 7,.tmp 8] tk rfl rfl rfl (by kernel_rfl) (Nat.le_of_ble_eq_true rfl) rfl (by kernel_rfl) ?_
 rw[Bg]
 refine z1 ?_;intro K hK;refine zk ?_;clear hK K
 refine z1 ?_;intro K hK;refine zk ?_;clear hK K
 refine z0 ?_;intro K hK;refine zk ?_;clear hK K
 refine z0 ?_;intro K hK;refine zk ?_;clear hK K
 refine zb ?_
 refine z0 ?_;intro K hK;refine zk ?_;clear hK K
 refine zn ?_
 refine z0 ?_;intro K hK;refine zk ?_;clear hK K
 refine zt ?_
 refine z0 ?_;intro K hK
 have sp:=Uw b p 0 hb hp
 cases hg:E8 (An b) p with
 |none=>
  simp only[hg] at sp
  refine Ab.pass [1] sp (by simp) (by simp) (by simp) (by simp) ?_
  rintro r M ⟨p',rfl,rfl⟩ _
  refine zx ?_
  refine zk ?_;clear hK K
  refine z0 ?_;intro K hK;refine zk ?_;clear hK K
  refine zt ?_
  refine z0 ?_;intro K hK;refine zk ?_;clear hK K
  refine zr ?_
  simp[hg,Fc]
 |some x=>
  have hx:=Uv hg
  simp only[hg] at sp
  refine Ab.pass [1] sp (by simp) (by simp) (by simp) (by simp) ?_
  rintro r M ⟨rfl,rfl⟩ _
  refine zx ?_
  refine zk ?_;clear hK K
  refine z0 ?_;intro K hK;refine zk ?_;clear hK K
  refine zc ?_ ?_<;>intro h
  .refine z0 ?_;intro K hK;refine zk ?_;clear hK K
   refine zr ?_
   rw[hg];simp only;rw[if_neg (by omega)];rfl
  .refine W.skip ?_
   refine B4 ?_;intro K hK;refine zk ?_;clear hK K
   refine zr ?_
   rw[hg];simp only;rw[if_pos (by omega)];rfl
end Go.Abs
set_option maxRecDepth 100000
namespace Go.Abs
open Go.Proofs
theorem MY (n:Int):Aa pg 236 [.int .i64 n] [] (fun r _=>r= .bool (decide (0≤n∧n<16))):=by
 refine Aa.start (fn:=Tryz.f236) [.tmp 2] tk rfl rfl rfl (by kernel_rfl) (Nat.le_of_ble_eq_true rfl) rfl (by kernel_rfl) ?_
 rw[As]
 refine z0 ?_;intro K hK;refine zk ?_;clear hK K
 refine z0 ?_;intro K hK
 refine⟨fun h=>?_,fun h=>?_⟩
 .refine zk ?_;clear hK K
  exact zR
 .refine zk ?_;clear hK K
  exact zR
theorem MZ {l:List Int} (k:Nat) (h:AL l):AL (l.take k):=⟨fun x hx=>h.1 x (List.mem_of_mem_take hx),h.2.sublist (List.take_sublist _ _)⟩
theorem M0 {l:List Int} {k:Nat} (hk:k<l.length) (h:AL (l.take k)):AL (l.take (k+1))↔(0≤l[k]∧l[k]<16)∧(0<k→l[k-1]<l[k]):=by
 rw[List.take_add_one,List.getElem?_eq_getElem hk]
 constructor
 .intro⟨h1,h2⟩
  refine⟨h1 _ (List.mem_append_right _ (by simp)),fun h0=>?_⟩
  rw[Option.toList_some,List.pairwise_append] at h2
  refine h2.2.2 _ ?_ _ (by simp)
  rw[List.mem_take_iff_getElem]
  exact⟨k-1,by omega,rfl⟩
 .intro⟨h1,h2⟩
  refine⟨fun x hx=>?_,?_⟩
  .rcases List.mem_append.1 hx with hx' |hx'
   .exact h.1 x hx'
   .simp at hx';subst hx';exact h1
  .rw[Option.toList_some,List.pairwise_append]
   refine⟨h.2,by simp,fun x hx y hy=>?_⟩
   simp at hy;subst hy
   obtain⟨i,hi,rfl⟩:=List.mem_take_iff_getElem.1 hx
   have h3:=h2 (by omega)
   by_cases e:i=k-1
   .subst e;exact h3
   .have:=List.pairwise_iff_getElem.1 h.2 i (k-1) (by simp;omega) (by simp;omega) (by omega)
    simp at this
    omega
theorem LZ (l:List Int) (hl:l.length<1000000000000):Aa pg 215 [.ro l.length (Ac l)] [] (fun r _=>r= .bool (decide (AL l))):=by
 refine Aa.start (fn:=Tryz.f215) [.tmp 2] tk rfl rfl rfl (by kernel_rfl) (Nat.le_of_ble_eq_true rfl) rfl (by kernel_rfl) ?_
 rw[As]
 refine z0 ?_;intro K hK;refine zk ?_;clear hK K
 refine z0 ?_;intro K hK;refine zk ?_;clear hK K
 (repeat refine W.seq ?_);refine W.block (W.loopS (fun k:Nat=> [(0,.ro l.length (Ac l)),(5,.ro l.length (Ac l)),(6,.int .i64 l.length),(7,.int .i64 k)]) (fun _=> []) (fun k=>l.length-k) (fun k=>k≤l.length∧AL (l.take k)) 0 (Wk.fr ?_) (by simp[AL]) ?_)
 .simp[Ad]
 .rintro k ⟨hk,hm⟩
  refine z0 ?_;intro K hK;refine zk ?_;clear hK K
  refine zc ?_ ?_<;>intro h
  .refine W.skip ?_
   have hs:=M0 h hm
   refine zb ?_
   refine z0 ?_;intro K hK;refine zk ?_;clear hK K
   (repeat refine W.seq ?_);refine W.midS (fun b:Bool=> [(0,.ro l.length (Ac l)),(5,.ro l.length (Ac l)),(6,.int .i64 l.length),(7,.int .i64 k),(27,.bool b)]) (fun _=> []) (fun b=>b=false↔AL (l.take (k+1))) ?_ ?_
   .refine z0 ?_;intro K hK
    refine Ab.eq (MY l[k]) (by simp) (by simp) ?_
    refine zx ?_
    refine⟨fun h1 h2=>⟨fun h3=>?_,fun h3=>?_⟩,fun h1=>?_⟩
    .refine zk ?_;clear hK K
     refine⟨decide (l[k]≤l[k-1]),?_,Wk.fr (by simp[Ad])⟩
     rw[hs];simp[h1,h2,h3]
    .refine zk ?_;clear hK K
     refine⟨false,?_,Wk.fr (by simp[Ad])⟩
     rw[hs];exact⟨fun _=>⟨⟨h1,h2⟩,fun h=>by omega⟩,fun _=>rfl⟩
    .refine zk ?_;clear hK K
     refine⟨true,?_,Wk.fr (by simp[Ad])⟩
     rw[hs];simp;omega
   .intro b hb
    refine zc ?_ ?_<;>intro h
    .refine z0 ?_;intro K hK;refine zk ?_;clear hK K
     refine zr ?_
     intro h';have:=MZ (k+1) h';simp_all
    .refine W.skip ?_
     refine z0 ?_;intro K hK;refine zk ?_;clear hK K
     refine⟨k+1,by omega,⟨by omega,hb.1 h⟩,Wk.fr (by simp[Ad])⟩
  .refine W.exit ?_
   refine z0 ?_;intro K hK;refine zk ?_;clear hK K
   refine zr ?_
   have:k=l.length:=by omega
   subst this;simpa using hm
theorem M6 (n:Int) (h0:0≤n) (h1:n≤4611686018427387904):Aa pg 244 [.int .i64 n] [] (fun r _=>r= .int .i64 (Cb n)):=by
 refine Aa.start (fn:=Tryz.f244) [.tmp 2] tk rfl rfl rfl (by kernel_rfl) (Nat.le_of_ble_eq_true rfl) rfl (by kernel_rfl) ?_
 rw[As]
 refine z0 ?_;intro K hK;refine zk ?_;clear hK K
 refine z0 ?_;intro K hK;refine zk ?_;clear hK K
 refine zc ?_ ?_<;>intro h
 .refine z0 ?_;intro K hK;refine zk ?_;clear hK K
  refine zr ?_
  simp[Cb,h]
 .refine W.skip ?_
  refine z0 ?_;intro K hK;refine zk ?_;clear hK K
  refine zr ?_
  simp[Cb,h]
theorem Hb (xs ys:List Int) (hx:xs.length<4611686018427387904):Aa pg 226 [.ro xs.length (Ac xs),.ro ys.length (Ac ys)] [] (fun r _=>r= .bool (decide (xs=ys))):=by
 refine Aa.start (fn:=Tryz.f226) [.tmp 4] tk rfl rfl rfl (by kernel_rfl) (Nat.le_of_ble_eq_true rfl) rfl (by kernel_rfl) ?_
 rw[Ar]
 refine zs ?_
 refine zs ?_
 refine zc ?_ ?_<;>intro h
 .refine zs ?_
  refine zr ?_
  intro e;exact h (by rw[e])
 .refine W.skip ?_
  have hl:xs.length=ys.length:=by omega
  refine zs ?_
  (repeat refine W.seq ?_);refine W.block (W.loopS (fun k:Nat=> [(0,.ro xs.length (Ac xs)),(1,.ro ys.length (Ac ys)),(12,.int .i64 xs.length),(13,.int .i64 k)]) (fun _=> []) (fun k=>xs.length-k) (fun k=>k≤xs.length∧xs.take k=ys.take k) 0 (Wk.fr ?_) (by simp) ?_)
  .simp[Ad]
  .rintro k ⟨hk,ht⟩
   refine zs ?_
   refine zc ?_ ?_<;>intro h
   .refine W.skip ?_
    have hlt:k<xs.length:=by omega
    have hlt' :k<ys.length:=by omega
    refine zb ?_
    refine zs ?_
    refine B4 ?_;intro K hK
    refine zk ?_;clear hK K
    refine zc ?_ ?_<;>intro h
    .refine zs ?_
     refine zr ?_
     intro e;subst e;exact h rfl
    .refine W.skip ?_
     refine zs ?_
     refine⟨k+1,by omega,⟨by omega,?_⟩,Wk.fr ?_⟩
     .rw[List.take_add_one,List.take_add_one,ht];simp[hlt,hlt',h]
     .simp[Ad]
   .refine W.exit ?_
    have hk' :k=xs.length:=by omega
    subst hk'
    refine zs ?_
    refine zr ?_
    rw[List.take_length,hl,List.take_length] at ht
    simp[ht]
theorem Ek {α:Type} {f:α→Bool} {l:List α} {k:Nat} (hk:k<l.length) (h:f l[k]=true) (hm:∀i (h:i<l.length),i<k→f l[i]=false):BN f l=k:=by
 unfold BN
 rw[List.findIdx?_eq_some_iff_getElem.2 ⟨hk,h,fun j hj=>by rw[hm j (by omega) hj];decide⟩]
theorem DP {α:Type} {f:α→Bool} {l:List α} (hm:∀i (h:i<l.length),f l[i]=false):BN f l=-1:=by
 unfold BN
 rw[List.findIdx?_eq_none_iff.2 fun x hx=>by obtain⟨i,hi,rfl⟩:=List.mem_iff_getElem.1 hx;exact hm i hi]
theorem Cv {α:Type} {f:α→Bool} {l:List α}:0≤BN f l↔∃x∈l,f x=true:=by
 unfold BN
 cases h:l.findIdx? f with
 |none=>
  rw[List.findIdx?_eq_none_iff] at h
  simp only[show¬(0:Int)≤-1 by omega,false_iff]
  rintro⟨x,hx,hf⟩
  rw[h x hx] at hf;simp at hf
 |some i=>
  obtain⟨hi,hf,_⟩:=List.findIdx?_eq_some_iff_getElem.1 h
  simp only[Int.natCast_nonneg,true_iff]
  exact⟨l[i],List.getElem_mem hi,hf⟩
theorem Ux (xs:List Int) (x:Int) (hx:xs.length<4611686018427387904):Aa pg 158 [.ro xs.length (Ac xs),.int .i64 x] [] (fun r _=>r= .int .i64 (BN (fun y=>decide (y=x)) xs)):=by
 refine Aa.start (fn:=Tryz.f158) [.tmp 4] tk rfl rfl rfl (by kernel_rfl) (Nat.le_of_ble_eq_true rfl) rfl (by kernel_rfl) ?_
 rw[Ar]
 refine zs ?_
 refine zs ?_
 (repeat refine W.seq ?_);refine W.block (W.loopS (fun k:Nat=> [(0,.ro xs.length (Ac xs)),(1,.int .i64 x),(7,.int .i64 xs.length),(8,.int .i64 k)]) (fun _=> []) (fun k=>xs.length-k) (fun k=>k≤xs.length∧∀i (h:i<xs.length),i<k→xs[i]≠x) 0 (Wk.fr ?_) (by simp) ?_)
 .simp[Ad]
 .rintro k ⟨hk,ht⟩
  refine zs ?_
  refine zc ?_ ?_<;>intro h
  .refine W.skip ?_
   refine zb ?_
   refine zs ?_
   refine zs ?_
   refine zc ?_ ?_<;>intro h
   .refine zs ?_
    refine zr ?_
    exact(Ek (by omega) (by simp[h]) fun i hi hik=>by simpa using ht i hi hik).symm
   .refine W.skip ?_
    refine zs ?_
    refine⟨k+1,by omega,⟨by omega,?_⟩,Wk.fr (by simp[Ad])⟩
    intro i hi hik
    by_cases e:i=k
    .subst e;exact fun e=>h e.symm
    .exact ht i hi (by omega)
  .refine W.exit ?_
   refine zs ?_
   refine zr ?_
   exact(DP fun i hi=>by simpa using ht i hi (by omega)).symm
theorem HM (xs:List Int) (x:Int) (hx:xs.length<4611686018427387904):Aa pg 116 [.ro xs.length (Ac xs),.int .i64 x] [] (fun r _=>r= .bool (xs.contains x)):=by
 refine Aa.start (fn:=Tryz.f116) [.tmp 4] tk rfl rfl rfl (by kernel_rfl) (Nat.le_of_ble_eq_true rfl) rfl (by kernel_rfl) ?_
 rw[Ar]
 refine zs ?_
 refine z0 ?_;intro K hK
 refine Ab.eq (Ux xs x hx) (by simp) (by simp) ?_
 refine zx ?_
 refine zk ?_;clear hK K
 refine zr ?_
 rw[Cv];simp
theorem FY (xs:List Int) (hx:xs.length<1000000000000):Aa pg 170 [.ro xs.length (Ac xs)] [] (fun r _=>r= .own 1 xs.length (Ac xs)):=by
 refine Aa.start (fn:=Tryz.f170) [.tmp 2] tk rfl rfl rfl (by kernel_rfl) (Nat.le_of_ble_eq_true rfl) rfl (by kernel_rfl) ?_
 rw[As]
 refine zs ?_
 refine z0 ?_;intro K hK
 refine⟨fun h=>?_,fun h=>⟨?_,?_⟩⟩
 .refine zk ?_;clear hK K
  refine zn ?_
  refine W.skip ?_
  refine z1 ?_;intro K hK;refine zk ?_;clear hK K
  exact zR
 .refine zk ?_;clear hK K
  refine zn ?_
  refine W.skip ?_
  subst h
  refine z1 ?_;intro K hK;refine zk ?_;clear hK K
  exact zR
 .refine zk ?_;clear hK K
  refine zt ?_
  refine zs ?_
  refine zr ?_
  simp[h]
end Go.Abs
set_option maxRecDepth 100000
namespace Go.Abs
open Go.Proofs
def CT (o:Option (List Int×Nat)):AV:=match o with|some r=> .tup [.own 1 r.1.length (Ac r.1),.int .i64 r.2,.bool true] |none=> .tup [.own 1 0 [],.int .i64 0,.bool false]
theorem Pg (b:CM) (p:Nat) (v:Int) (hb:C3 b) (hp:p<50000000000) (hv:0≤v∧v<100000):Aa pg 222 [.agg (Ch b),.int .i64 p,.int .i64 v] [] (fun r _=>r=CT (Dv (An b) p v)):=by
 have hl:=BX b
 have h2:=hb.2.1;have h3:=hb.2.2;have h0:=hb.1
 refine Aa.start (fn:=Tryz.f222) [.tmp 6,.tmp 7,.tmp 8] tk rfl rfl rfl (by kernel_rfl) (Nat.le_of_ble_eq_true rfl) rfl (by kernel_rfl) ?_
 rw[Bg]
 refine z1 ?_;intro K hK;refine zk ?_;clear hK K
 refine z0 ?_;intro K hK
 have sp:=FE b p hb hp
 cases hg:AK (An b) p with
 |none=>
  simp only[hg,Fc] at sp
  refine Ab.eq sp (by simp) (by simp) ?_
  refine zx ?_
  refine zk ?_;clear hK K
  refine z0 ?_;intro K hK;refine zk ?_;clear hK K
  refine zt ?_
  refine z0 ?_;intro K hK;refine zk ?_;clear hK K
  refine zr ?_
  simp[Dv,hg,CT]
 |some x=>
  simp only[hg,Fc] at sp
  obtain⟨hx1,hx2,hx3,hx4,_⟩:=AN hg
  refine Ab.eq sp (by simp) (by simp) ?_
  refine zx ?_
  refine zk ?_;clear hK K
  refine z0 ?_;intro K hK;refine zk ?_;clear hK K
  refine zc ?_ ?_<;>intro h
  .refine z0 ?_;intro K hK;refine zk ?_;clear hK K
   refine zr ?_
   simp only[Dv,hg];rw[if_neg (by omega)];simp[CT]
  .refine W.skip ?_
   refine z0 ?_;intro K hK;refine zk ?_;clear hK K
   refine z0 ?_;intro K hK;refine zk ?_;clear hK K
   (repeat refine W.seq ?_);refine W.block (W.loopS (fun s:Nat×List Int×Nat×Int=> [(3,.ptr 0 0 0),(6,.tok 1 s.1 1 0 s.1),(7,.int .i64 s.2.2.1),(10,.int .i64 s.2.2.2),(28,.int .i64 ((x.1:Int)-1)),(29,.int .i64 s.1)]) (fun s=> [.live 0 (Ch b),.live s.1 (Ac s.2.1)]) (fun s=>x.1-1-s.1)
     (fun s=>s.1≤x.1-1∧s.2.1.length=s.1∧s.2.2.1≤(An b).length∧(0≤s.2.2.2∧s.2.2.2<100000)∧B2 (An b) (x.1-1) true x.2 v=(B2 (An b) (x.1-1-s.1) (decide (s.1=0)) s.2.2.1 s.2.2.2).map fun r=>(s.2.1++r.1,r.2)) (0,[],x.2,v) ((Wk.nil (t:=6) (s:=1) (by simp)).trans (Wk.fr (by simp[Ad]))) ⟨by omega,rfl,hx4,hv,by simp⟩ ?_)
   rintro⟨k,acc,q,last⟩ ⟨hk,hacc,hq,hlast,hinv⟩
   simp only at hk hacc hq hlast hinv
   refine z0 ?_;intro K hK;refine zk ?_;clear hK K
   refine zc ?_ ?_<;>intro h
   .refine W.skip ?_
    obtain⟨m,hm⟩:∃m,x.1-1-k=m+1:=⟨x.1-1-k-1,by omega⟩
    have hm' :x.1-1-(k+1)=m:=by omega
    rw[hm] at hinv
    refine zb ?_
    refine z0 ?_;intro K hK;refine zk ?_;clear hK K
    refine z0 ?_;intro K hK;refine zk ?_;clear hK K
    refine z0 ?_;intro K hK
    have sp:=FE b q hb (by omega)
    cases hg2:AK (An b) q with
    |none=>
     simp only[hg2,Fc] at sp
     refine Ab.eq sp (by simp) (by simp) ?_
     refine zx ?_
     refine zk ?_;clear hK K
     refine z0 ?_;intro K hK;refine zk ?_;clear hK K
     refine zt ?_
     refine z0 ?_;intro K hK;refine zk ?_;clear hK K
     refine zr ?_
     simp only[B2,hg2] at hinv
     simp[Dv,hg,hinv,CT]
    |some y=>
     simp only[hg2,Fc] at sp
     obtain⟨hy1,hy2,hy3,hy4,_⟩:=AN hg2
     refine Ab.eq sp (by simp) (by simp) ?_
     refine zx ?_
     refine zk ?_;clear hK K
     refine z0 ?_;intro K hK;refine zk ?_;clear hK K
     refine zn ?_
     refine W.skip ?_
     simp only[B2,hg2] at hinv
     have hz:∃z:Int,z=(if k=0 then Cb ((y.1:Int)-1) else(y.1:Int))∧-1073741825≤z∧z≤1073741825:=⟨_,rfl,by unfold Cb;split<;>(try split)<;>omega,by unfold Cb;split<;>(try split)<;>omega⟩
     obtain⟨z,hz,hz1,hz2⟩:=hz
     refine z0 ?_;intro K hK;refine zk ?_;clear hK K
     (repeat refine W.seq ?_);refine W.midS (fun _:Unit=> [(3,.ptr 0 0 0),(6,.tok 1 k 1 0 k),(7,.int .i64 y.2),(10,.int .i64 last),(12,.int .i64 z),(28,.int .i64 ((x.1:Int)-1)),(29,.int .i64 k)]) (fun _=> [.live 0 (Ch b),.live k (Ac acc)]) (fun _=>True) ?_ ?_
     .refine zc ?_ ?_<;>intro h
      .refine z0 ?_;intro K hK
       refine Ab.eq (M6 ((y.1:Int)-1) (by omega) (by omega)) (by simp) (by simp) ?_
       refine zx ?_
       refine zk ?_;clear hK K
       exact⟨(),trivial,Wk.fr (by simp[Ad,hz,h])⟩
      .refine W.skip ?_
       exact⟨(),trivial,Wk.fr (by simp[Ad,hz,h])⟩
     .rintro _ _
      have hzz:(if decide (k=0)=true then Cb ((y.1:Int)-1) else(y.1:Int))=z:=by rw[hz];simp
      rw[hzz,hm'.symm] at hinv
      refine z0 ?_;intro K hK;refine zk ?_;clear hK K
      refine z0 ?_;intro K hK
      refine Ab.eq (MY (last+z)) (by simp) (by simp) ?_
      refine zx ?_
      refine zk ?_;clear hK K
      refine zc ?_ ?_<;>intro h
      .refine z0 ?_;intro K hK;refine zk ?_;clear hK K
       refine zr ?_
       rw[if_neg (by omega)] at hinv
       simp[Dv,hg,hinv,CT]
      .refine W.skip ?_
       rw[if_pos (by omega)] at hinv
       refine z1 ?_;intro K hK;refine zk ?_;clear hK K
       refine z0 ?_;intro K hK;refine zk ?_;clear hK K
       refine⟨(k+1,acc++[last+z],y.2,last+z),by simp;omega,⟨by simp;omega,by simp;omega,hy4,by simp only;omega,?_⟩,Wk.cutM (k:=2) (by simp[Ad]) (by simp[Dg,Ac]) (by simp) (by simp) (by simp) (by simp)⟩
       rw[hinv]
       simp only[show decide (k+1=0)=false from by simp]
       cases B2 (An b) (x.1-1-(k+1)) false y.2 (last+z)<;>simp
   .refine W.exit ?_
    refine z0 ?_;intro K hK;refine zk ?_;clear hK K
    refine zr ?_
    have:x.1-1-k=0:=by omega
    rw[this] at hinv
    simp[Dv,hg,CT,hacc]
    rw[if_pos (by omega),hinv]
    simp[B2,←hacc]
end Go.Abs
set_option maxRecDepth 100000
namespace Go.Abs
open Go.Proofs
theorem Ly:∀(m:List Int) (n:Nat),1≤n→n≤m.length→(∀j,0<j→j<n→m.getD j 0=m.getD (j-1) 0+1)→(n<m.length→m.getD n 0≠m.getD (n-1) 0+1)→A9 m=n
 | [],n,h1,h2,_,_=>by simp at h2;omega
 | [x],n,h1,h2,_,_=>by simp at h2;simp[A9];omega
 |x::y::t,n,h1,h2,hr,he=>by
  by_cases e:n=1
  .subst e
   have:=he (by simp)
   simp at this
   simp[A9,this]
  .have h3:=hr 1 (by omega) (by omega)
   simp at h3
   have ih:=Ly (y::t) (n-1) (by omega) (by simp at h2 ⊢;omega) (fun j h4 h5=>by
    have:=hr (j+1) (by omega) (by omega)
    obtain⟨i,rfl⟩:∃i,j=i+1:=⟨j-1,by omega⟩
    simpa using this) (fun h4=>by
    have:=he (by simp at h4 ⊢;omega)
    obtain⟨i,rfl⟩:∃i,n=i+2:=⟨n-2,by omega⟩
    simpa using this)
   have h3' :y=x+1:=by simpa using h3
   simp only[A9,h3',if_true]
   rw[h3'] at ih
   omega
theorem Lz {l:List Int} {i k:Nat} (hik:i<k) (hk:k≤l.length) (hr:∀j (h:j<l.length),i<j→j<k→l[j]=l[j-1]+1) (he:∀h:k<l.length,l[k]≠l[k-1]+1):A9 (l.drop i)=k-i:=by
 refine Ly _ _ (by omega) (by simp;omega) (fun j h1 h2=>?_) (fun h1=>?_)
 .have:=hr (i+j) (by omega) (by omega) (by omega)
  have e:i+j-1=i+(j-1):=by omega
  simp only[e] at this
  simp[List.getD,show i+j<l.length by omega,show i+(j-1)<l.length by omega,this]
 .have h1' :k<l.length:=by simp at h1;omega
  have:=he h1'
  have e1:i+(k-i)=k:=by omega
  have e2:i+(k-i-1)=k-1:=by omega
  simp[List.getD,e1,e2,h1',show k-1<l.length by omega,this]
theorem M7 {l:List Int} {i k:Nat} (hi:i<l.length) (h:A9 (l.drop i)=k-i) (hik:i<k) (hk:k≤l.length):Aq (l.drop i)=
 if 3≤k-i then((l[i],((k-i:Nat):Int))::(Aq (l.drop k)).1,(Aq (l.drop k)).2) else((Aq (l.drop k)).1,((l.drop i).take (k-i))++(Aq (l.drop k)).2):=by
 have e:=List.drop_eq_getElem_cons hi
 rw[e] at h ⊢
 rw[Aq,h,←e,List.drop_drop,show i+(k-i)=k by omega]
def M8 (q:List (Int×Int)×List Int):AV:= .tup [.own 2 q.1.length (Af At q.1),.own 1 q.2.length (Ac q.2)]
theorem Uy (l:List Int) (hl:l.length<1000000000) (hb:∀x∈l,-1000000000000<x∧x<1000000000000):Aa pg 224 [.ro l.length (Ac l)] [] (fun r _=>r=M8 (Aq l)):=by
 have hb' :∀i (h:i<l.length),-1000000000000<l[i]∧l[i]<1000000000000:=fun i h=>hb _ (List.getElem_mem h)
 refine Aa.start (fn:=Tryz.f224) [.tmp 2,.tmp 3] tk rfl rfl rfl (by kernel_rfl) (Nat.le_of_ble_eq_true rfl) rfl (by kernel_rfl) ?_
 rw[As]
 refine zs ?_
 refine zs ?_
 (repeat refine W.seq ?_);refine W.block (W.loopS (fun s:Nat×List (Int×Int)×List Int×Nat=> [(0,.ro l.length (Ac l)),(2,.tok 0 s.2.1.length 2 0 s.2.1.length),(3,.tok 1 s.2.2.2 1 0 s.2.2.1.length),(4,.int .i64 s.1)]) (fun s=> [.live s.2.1.length (Af At s.2.1),.live s.2.2.2 (Ac s.2.2.1)]) (fun s=>l.length-s.1)
   (fun s=>s.1≤l.length∧s.2.1.length≤s.1∧s.2.2.1.length≤s.1∧Aq l=(s.2.1++(Aq (l.drop s.1)).1,s.2.2.1++(Aq (l.drop s.1)).2)) (0,[],[],0) ((Wk.nil (t:=2) (s:=2) (by simp)).trans ((Wk.nil (t:=3) (s:=1) (by simp)).trans (Wk.fr (by simp[Ad])))) (by simp) ?_)
 rintro⟨i,ra,sa,c⟩ ⟨hi,hra,hsa,hinv⟩
 simp only at hi hra hsa hinv
 refine zs ?_
 refine zc ?_ ?_<;>intro h
 .refine W.skip ?_
  refine zb ?_
  refine zs ?_
  (repeat refine W.seq ?_);refine W.block (W.loopS (fun k:Nat=> [(0,.ro l.length (Ac l)),(2,.tok 0 ra.length 2 0 ra.length),(3,.tok 1 c 1 0 sa.length),(4,.int .i64 i),(5,.int .i64 k)]) (fun _=> [.live ra.length (Af At ra),.live c (Ac sa)]) (fun k=>l.length-k)
    (fun k=>i<k∧k≤l.length∧∀j (h:j<l.length),i<j→j<k→l[j]=l[j-1]+1) (i+1) (Wk.fr (by simp[Ad])) ⟨by omega,by omega,fun j h h1 h2=>by omega⟩ ?_)
  rintro k ⟨hik,hk,hrun⟩
  (repeat refine W.seq ?_);refine W.midS (fun b:Bool=> [(0,.ro l.length (Ac l)),(2,.tok 0 ra.length 2 0 ra.length),(3,.tok 1 c 1 0 sa.length),(4,.int .i64 i),(5,.int .i64 k),(28,.bool b)]) (fun _=> [.live ra.length (Af At ra),.live c (Ac sa)]) (fun b=>b=true↔∃h:k<l.length,l[k]=l[k-1]+1) ?_ ?_
  .by_cases h2:k<l.length
   .have h3:=hb' k h2
    have h4:=hb' (k-1) (by omega)
    refine B4 ?_;intro K hK
    refine zk ?_;clear hK K
    exact⟨decide (l[k]=l[k-1]+1),by simp[h2],Wk.fr (by simp[Ad])⟩
   .refine B4 ?_;intro K hK
    refine zk ?_;clear hK K
    exact⟨false,by simp[h2],Wk.fr (by simp[Ad])⟩
  .intro b hbb
   refine zc ?_ ?_<;>intro h
   .refine W.skip ?_
    obtain⟨h2,h3⟩:=hbb.1 (by assumption)
    refine zb ?_
    refine zs ?_
    refine⟨k+1,by omega,⟨by omega,by omega,fun j hj h4 h5=>?_⟩,Wk.fr (by simp[Ad])⟩
    by_cases e:j=k
    .subst e;exact h3
    .exact hrun j hj h4 (by omega)
   .refine W.exit ?_
    have hend:∀h:k<l.length,l[k]≠l[k-1]+1:=fun h2 h3=>by simp_all
    have hrl:=Lz hik hk hrun hend
    have hpa:=M7 (by omega) hrl hik hk
    refine zs ?_
    refine zc ?_ ?_<;>intro h
    .rw[if_pos (by omega)] at hpa
     refine z1 ?_;intro K hK
     refine zk ?_;clear hK K
     refine zs ?_
     refine⟨(k,ra++[(l[i],((k-i:Nat):Int))],sa,c),by simp;omega,⟨hk,by simp;omega,by simp;omega,?_⟩,Wk.cutM (k:=2) (by simp[Ad]) ?_ (by simp) (by simp) (by simp) (by simp)⟩
     .rw[hinv,hpa];simp
     .simp[Co,AD,At];omega
    .rw[if_neg (by omega)] at hpa
     refine zs ?_
     refine zs ?_
     refine⟨(k,ra,sa++(l.drop i).take (k-i),c+1),by simp;omega,⟨hk,by simp;omega,by simp;omega,?_⟩,Wk.cutM (k:=2) (by simp[Ad];omega) ?_ (by simp) (by simp) (by simp) (by simp)⟩
     .rw[hinv,hpa];simp
     .simp[Dg]
 .refine W.exit ?_
  refine zs ?_
  refine zr ?_
  rw[hinv]
  simp[M8,List.drop_of_length_le h,Aq]
end Go.Abs
set_option maxRecDepth 100000
namespace Go.Abs
open Go.Proofs
theorem Sc (xs ys:List (Int×Int)) (hx:xs.length<4611686018427387904):Aa pg 225 [.ro xs.length (Af At xs),.ro ys.length (Af At ys)] [] (fun r _=>r= .bool (decide (xs=ys))):=by
 refine Aa.start (fn:=Tryz.f225) [.tmp 4] tk rfl rfl rfl (by kernel_rfl) (Nat.le_of_ble_eq_true rfl) rfl (by kernel_rfl) ?_
 rw[Ar]
 refine zs ?_
 refine zs ?_
 refine zc ?_ ?_<;>intro h
 .refine zs ?_
  refine zr ?_
  intro e;exact h (by rw[e])
 .refine W.skip ?_
  have hl:xs.length=ys.length:=by omega
  refine zs ?_
  (repeat refine W.seq ?_);refine W.block (W.loopS (fun k:Nat=> [(0,.ro xs.length (Af At xs)),(1,.ro ys.length (Af At ys)),(12,.int .i64 xs.length),(13,.int .i64 k)]) (fun _=> []) (fun k=>xs.length-k) (fun k=>k≤xs.length∧xs.take k=ys.take k) 0 (Wk.fr ?_) (by simp) ?_)
  .simp[Ad]
  .rintro k ⟨hk,ht⟩
   refine zs ?_
   refine zc ?_ ?_<;>intro h
   .refine W.skip ?_
    have hlt:k<xs.length:=by omega
    have hlt' :k<ys.length:=by omega
    refine zb ?_
    refine zs ?_
    (repeat refine W.seq ?_);refine W.regd 0 rfl true Ci (by kernel_rfl) fun K hK=>?_;simp -implicitDefEqProofs (maxSteps:=999999) (disch:=omega) [hlt,hlt',At]
    refine zk ?_;clear hK K
    refine zc ?_ ?_<;>intro h
    .refine zs ?_
     refine zr ?_
     intro e;subst e;simp at h
    .refine W.skip ?_
     have he:xs[k]=ys[k]:=Prod.ext h.1 h.2
     refine zs ?_
     refine⟨k+1,by omega,⟨by omega,?_⟩,Wk.fr ?_⟩
     .rw[List.take_add_one,List.take_add_one,ht];simp[hlt,hlt',he]
     .simp[Ad]
   .refine W.exit ?_
    have hk' :k=xs.length:=by omega
    subst hk'
    refine zs ?_
    refine zr ?_
    rw[List.take_length,hl,List.take_length] at ht
    simp[ht]
def LA (o:Option (List (Int×Int)×Nat)):AV:=match o with|some r=> .tup [.own 2 r.1.length (Af At r.1),.int .i64 r.2,.bool true] |none=> .tup [.own 2 0 [],.int .i64 0,.bool false]
def Fu (bs:List Bool) (p:Nat) (v:Int):Option (List (Int×Int)×Nat):=match AK bs p with
 |none=>none
 |some x=>if x.1≤16 then Cq bs (x.1-1) true x.2 v else none
theorem Ph (b:CM) (p:Nat) (v:Int) (hb:C3 b) (hp:p<50000000000) (hv:0≤v∧v<100000):Aa pg 221 [.agg (Ch b),.int .i64 p,.int .i64 v] [] (fun r _=>r=LA (Fu (An b) p v)):=by
 have hl:=BX b
 have h2:=hb.2.1;have h3:=hb.2.2;have h0:=hb.1
 refine Aa.start (fn:=Tryz.f221) [.tmp 6,.tmp 7,.tmp 8] tk rfl rfl rfl (by kernel_rfl) (Nat.le_of_ble_eq_true rfl) rfl (by kernel_rfl) ?_
 rw[Bg]
 refine z1 ?_;intro K hK;refine zk ?_;clear hK K
 refine z0 ?_;intro K hK
 have sp:=FE b p hb hp
 cases hg:AK (An b) p with
 |none=>
  simp only[hg,Fc] at sp
  refine Ab.eq sp (by simp) (by simp) ?_
  refine zx ?_
  refine zk ?_;clear hK K
  refine z0 ?_;intro K hK;refine zk ?_;clear hK K
  refine zt ?_
  refine z0 ?_;intro K hK;refine zk ?_;clear hK K
  refine zr ?_
  simp[Fu,hg,LA]
 |some x=>
  simp only[hg,Fc] at sp
  obtain⟨hx1,hx2,hx3,hx4,_⟩:=AN hg
  refine Ab.eq sp (by simp) (by simp) ?_
  refine zx ?_
  refine zk ?_;clear hK K
  refine z0 ?_;intro K hK;refine zk ?_;clear hK K
  refine zc ?_ ?_<;>intro h
  .refine z0 ?_;intro K hK;refine zk ?_;clear hK K
   refine zr ?_
   simp only[Fu,hg];rw[if_neg (by omega)];simp[LA]
  .refine W.skip ?_
   refine z0 ?_;intro K hK;refine zk ?_;clear hK K
   refine z0 ?_;intro K hK;refine zk ?_;clear hK K
   (repeat refine W.seq ?_);refine W.block (W.loopS (fun s:Nat×List (Int×Int)×Nat×Int=> [(3,.ptr 0 0 0),(6,.tok 1 s.1 2 0 s.1),(7,.int .i64 s.2.2.1),(10,.int .i64 s.2.2.2),(32,.int .i64 ((x.1:Int)-1)),(33,.int .i64 s.1)]) (fun s=> [.live 0 (Ch b),.live s.1 (Af At s.2.1)]) (fun s=>x.1-1-s.1)
     (fun s=>s.1≤x.1-1∧s.2.1.length=s.1∧s.2.2.1≤(An b).length∧(-4294967296*((s.1:Int)+1)≤s.2.2.2∧s.2.2.2≤4294967296*((s.1:Int)+1))∧Cq (An b) (x.1-1) true x.2 v=(Cq (An b) (x.1-1-s.1) (decide (s.1=0)) s.2.2.1 s.2.2.2).map fun r=>(s.2.1++r.1,r.2)) (0,[],x.2,v) ((Wk.nil (t:=6) (s:=2) (by simp)).trans (Wk.fr (by simp[Ad]))) ⟨by omega,rfl,hx4,by simp only;omega,by simp⟩ ?_)
   rintro⟨k,acc,q,last⟩ ⟨hk,hacc,hq,hlast,hinv⟩
   simp only at hk hacc hq hlast hinv
   refine z0 ?_;intro K hK;refine zk ?_;clear hK K
   refine zc ?_ ?_<;>intro h
   .refine W.skip ?_
    obtain⟨m,hm⟩:∃m,x.1-1-k=m+1:=⟨x.1-1-k-1,by omega⟩
    have hm' :x.1-1-(k+1)=m:=by omega
    rw[hm] at hinv
    refine zb ?_
    refine z0 ?_;intro K hK;refine zk ?_;clear hK K
    refine z0 ?_;intro K hK
    have sp:=FE b q hb (by omega)
    cases hg2:AK (An b) q with
    |none=>
     simp only[hg2,Fc] at sp
     refine Ab.eq sp (by simp) (by simp) ?_
     refine zx ?_
     refine zk ?_;clear hK K
     refine z0 ?_;intro K hK;refine zk ?_;clear hK K
     refine zt ?_
     refine z0 ?_;intro K hK;refine zk ?_;clear hK K
     refine zr ?_
     simp only[Cq,hg2] at hinv
     simp only[Fu,hg];rw[if_pos (by omega),hinv];simp[LA]
    |some y=>
     simp only[hg2,Fc] at sp
     obtain⟨hy1,hy2,hy3,hy4,_⟩:=AN hg2
     refine Ab.eq sp (by simp) (by simp) ?_
     refine zx ?_
     refine zk ?_;clear hK K
     refine z0 ?_;intro K hK;refine zk ?_;clear hK K
     refine zn ?_
     refine W.skip ?_
     refine z0 ?_;intro K hK
     have sp:=FE b y.2 hb (by omega)
     cases hg3:AK (An b) y.2 with
     |none=>
      simp only[hg3,Fc] at sp
      refine Ab.eq sp (by simp) (by simp) ?_
      refine zx ?_
      refine zk ?_;clear hK K
      refine z0 ?_;intro K hK;refine zk ?_;clear hK K
      refine zt ?_
      refine z0 ?_;intro K hK;refine zk ?_;clear hK K
      refine zr ?_
      simp only[Cq,hg2,hg3] at hinv
      simp only[Fu,hg];rw[if_pos (by omega),hinv];simp[LA]
     |some w=>
      simp only[hg3,Fc] at sp
      obtain⟨hw1,hw2,hw3,hw4,_⟩:=AN hg3
      refine Ab.eq sp (by simp) (by simp) ?_
      refine zx ?_
      refine zk ?_;clear hK K
      refine z0 ?_;intro K hK;refine zk ?_;clear hK K
      refine zn ?_
      refine W.skip ?_
      simp only[Cq,hg2,hg3] at hinv
      have hz:∃z:Int,z=(if k=0 then Cb ((y.1:Int)-1) else(y.1:Int))∧-1073741825≤z∧z≤1073741825:=⟨_,rfl,by unfold Cb;split<;>(try split)<;>omega,by unfold Cb;split<;>(try split)<;>omega⟩
      obtain⟨z,hz,hz1,hz2⟩:=hz
      refine z0 ?_;intro K hK;refine zk ?_;clear hK K
      (repeat refine W.seq ?_);refine W.midS (fun _:Unit=> [(3,.ptr 0 0 0),(6,.tok 1 k 2 0 k),(10,.int .i64 last),(12,.int .i64 z),(13,.int .i64 w.2),(15,.int .i64 w.1),(32,.int .i64 ((x.1:Int)-1)),(33,.int .i64 k)]) (fun _=> [.live 0 (Ch b),.live k (Af At acc)]) (fun _=>True) ?_ ?_
      .refine zc ?_ ?_<;>intro h
       .refine z0 ?_;intro K hK
        refine Ab.eq (M6 ((y.1:Int)-1) (by omega) (by omega)) (by simp) (by simp) ?_
        refine zx ?_
        refine zk ?_;clear hK K
        exact⟨(),trivial,Wk.fr (by simp[Ad,hz,h])⟩
       .refine W.skip ?_
        exact⟨(),trivial,Wk.fr (by simp[Ad,hz,h])⟩
      .rintro _ _
       have hzz:(if decide (k=0)=true then Cb ((y.1:Int)-1) else(y.1:Int))=z:=by rw[hz];simp
       rw[hzz,hm'.symm] at hinv
       refine z1 ?_;intro K hK;refine zk ?_;clear hK K
       (repeat refine W.seq ?_);refine W.regd 1 rfl true Ci (by kernel_rfl) fun K hK=>?_;simp -implicitDefEqProofs (maxSteps:=999999) (disch:=omega)
       refine zk ?_;clear hK K
       refine z0 ?_;intro K hK;refine zk ?_;clear hK K
       refine⟨(k+1,acc++[(last+z,(w.1:Int)-1+3)],w.2,last+z+((w.1:Int)-1+3)),by simp;omega,⟨by simp;omega,by simp;omega,hw4,by simp only;omega,?_⟩,Wk.cutM (k:=2) (by simp[Ad]) (by simp[Co,AD,At]) (by simp) (by simp) (by simp) (by simp)⟩
       rw[hinv]
       simp only[show decide (k+1=0)=false from by simp]
       cases Cq (An b) (x.1-1-(k+1)) false w.2 (last+z+((w.1:Int)-1+3))<;>simp
   .refine W.exit ?_
    refine z0 ?_;intro K hK;refine zk ?_;clear hK K
    refine zr ?_
    have:x.1-1-k=0:=by omega
    rw[this] at hinv
    simp[Fu,hg,LA,hacc]
    rw[if_pos (by omega),hinv]
    simp[Cq,←hacc]
end Go.Abs
namespace Go.Proofs
open Go.Shelf
def Tryz.lays125_ren:Go.Shelf.Ren:=⟨fun|125=>248|128=>254|129=>255|n=>n,fun|46=>130|3=>3|51=>260|53=>262|4=>4|5=>5|9=>9|n=>n,fun|n=>n⟩
theorem Tryz.lays125:Go.Proofs.Lays.n125 Tryz.prog Tryz.lays125_ren:={
 mixed:=by kernel_rfl
 f125:=Tryz.func248.trans (congrArg some (by kernel_rfl))
 f128:=Tryz.func254.trans (congrArg some (by kernel_rfl))
 f129:=Tryz.func255.trans (congrArg some (by kernel_rfl))
 t3:=Tryz.underlying3
 a3:=Tryz.isAgg3
 z3:=Tryz.sizeOf3
 v3:=Tryz.zeroValue3
 t4:=Tryz.underlying4
 a4:=Tryz.isAgg4
 z4:=Tryz.sizeOf4
 v4:=Tryz.zeroValue4
 t5:=Tryz.underlying5
 a5:=Tryz.isAgg5
 z5:=Tryz.sizeOf5
 v5:=Tryz.zeroValue5
 t9:=Tryz.underlying9
 a9:=Tryz.isAgg9
 z9:=Tryz.sizeOf9
 v9:=Tryz.zeroValue9
 t46:=Tryz.underlying130
 a46:=Tryz.isAgg130
 z46:=Tryz.sizeOf130
 v46:=Tryz.zeroValue130
 t51:=Tryz.underlying260
 a51:=Tryz.isAgg260
 z51:=Tryz.sizeOf260
 v51:=Tryz.zeroValue260
 t53:=Tryz.underlying262
 a53:=Tryz.isAgg262
 z53:=Tryz.sizeOf262
 v53:=Tryz.zeroValue262}
theorem Tryz.bits_Len (x:Int) (w:World) (h0:0≤x) (h1:x≤18446744073709551615):
 Calls Tryz.prog 248 #[.int .u64 x] w fun e w' =>e= .returned (.int .i64 (Lib.bitLen x.toNat))∧w' =w:=Any.bits_Len Tryz.lays125 x w h0 h1
def Tryz.lays189_ren:Go.Shelf.Ren:=⟨fun|189=>245|125=>248|257=>253|128=>254|129=>255|294=>259|295=>260|296=>261|297=>262|298=>263|299=>264|216=>265|300=>266|301=>267|328=>271|329=>272|330=>273|331=>274|332=>275|215=>276|343=>277|n=>n,fun|28=>28|3=>3|46=>130|0=>0|51=>260|53=>262|4=>4|183=>269|182=>268|131=>265|5=>5|9=>9|218=>278|222=>282|228=>284|229=>127|n=>n,fun|n=>n⟩
theorem Tryz.lays189:Go.Proofs.Lays.n189 Tryz.prog Tryz.lays189_ren:={
 mixed:=by kernel_rfl
 f125:=Tryz.func248.trans (congrArg some (by kernel_rfl))
 f128:=Tryz.func254.trans (congrArg some (by kernel_rfl))
 f129:=Tryz.func255.trans (congrArg some (by kernel_rfl))
 f189:=Tryz.func245.trans (congrArg some (by kernel_rfl))
 f215:=Tryz.func276.trans (congrArg some (by kernel_rfl))
 f216:=Tryz.func265.trans (congrArg some (by kernel_rfl))
 f257:=Tryz.func253.trans (congrArg some (by kernel_rfl))
 f294:=Tryz.func259.trans (congrArg some (by kernel_rfl))
 f295:=Tryz.func260.trans (congrArg some (by kernel_rfl))
 f296:=Tryz.func261.trans (congrArg some (by kernel_rfl))
 f297:=Tryz.func262.trans (congrArg some (by kernel_rfl))
 f298:=Tryz.func263.trans (congrArg some (by kernel_rfl))
 f299:=Tryz.func264.trans (congrArg some (by kernel_rfl))
 f300:=Tryz.func266.trans (congrArg some (by kernel_rfl))
 f301:=Tryz.func267.trans (congrArg some (by kernel_rfl))
 f328:=Tryz.func271.trans (congrArg some (by kernel_rfl))
 f329:=Tryz.func272.trans (congrArg some (by kernel_rfl))
 f330:=Tryz.func273.trans (congrArg some (by kernel_rfl))
 f331:=Tryz.func274.trans (congrArg some (by kernel_rfl))
 f332:=Tryz.func275.trans (congrArg some (by kernel_rfl))
 f343:=Tryz.func277.trans (congrArg some (by kernel_rfl))
 t0:=Tryz.underlying0
 a0:=Tryz.isAgg0
 z0:=Tryz.sizeOf0
 v0:=Tryz.zeroValue0
 t3:=Tryz.underlying3
 a3:=Tryz.isAgg3
 z3:=Tryz.sizeOf3
 v3:=Tryz.zeroValue3
 t4:=Tryz.underlying4
 a4:=Tryz.isAgg4
 z4:=Tryz.sizeOf4
 v4:=Tryz.zeroValue4
 t5:=Tryz.underlying5
 a5:=Tryz.isAgg5
 z5:=Tryz.sizeOf5
 v5:=Tryz.zeroValue5
 t9:=Tryz.underlying9
 a9:=Tryz.isAgg9
 z9:=Tryz.sizeOf9
 v9:=Tryz.zeroValue9
 t28:=Tryz.underlying28
 a28:=Tryz.isAgg28
 z28:=Tryz.sizeOf28
 v28:=Tryz.zeroValue28
 t46:=Tryz.underlying130
 a46:=Tryz.isAgg130
 z46:=Tryz.sizeOf130
 v46:=Tryz.zeroValue130
 t51:=Tryz.underlying260
 a51:=Tryz.isAgg260
 z51:=Tryz.sizeOf260
 v51:=Tryz.zeroValue260
 t53:=Tryz.underlying262
 a53:=Tryz.isAgg262
 z53:=Tryz.sizeOf262
 v53:=Tryz.zeroValue262
 t131:=Tryz.underlying265
 a131:=Tryz.isAgg265
 z131:=Tryz.sizeOf265
 v131:=Tryz.zeroValue265
 t182:=Tryz.underlying268
 a182:=Tryz.isAgg268
 z182:=Tryz.sizeOf268
 v182:=Tryz.zeroValue268
 t183:=Tryz.underlying269
 a183:=Tryz.isAgg269
 z183:=Tryz.sizeOf269
 v183:=Tryz.zeroValue269
 t218:=Tryz.underlying278
 a218:=Tryz.isAgg278
 z218:=Tryz.sizeOf278
 v218:=Tryz.zeroValue278
 t222:=Tryz.underlying282
 a222:=Tryz.isAgg282
 z222:=Tryz.sizeOf282
 v222:=Tryz.zeroValue282
 t228:=Tryz.underlying284
 a228:=Tryz.isAgg284
 z228:=Tryz.sizeOf284
 v228:=Tryz.zeroValue284
 t229:=Tryz.underlying127
 a229:=Tryz.isAgg127
 z229:=Tryz.sizeOf127
 v229:=Tryz.zeroValue127}
open Go.Sort Go.RowKit in
theorem Tryz.slices_Sort_int (blk off cap:Nat) (zs:List Int) (w:World) (hH:Holds (Value.int .i64) w blk off zs.toArray) (hblk:blk<w.heap.size) (hsz:zs.length<4611686018427387904):
 Calls Tryz.prog 245 #[.slice (some ⟨blk,off,none⟩) zs.length cap] w fun e w' =>
  e= .returned (.tuple #[])∧∃n os,w' =grow (putRow (Value.int .i64) (Sort.ahead w n) blk off (zs.mergeSort fun x y=>decide (x≤y)).toArray) os:=Any.slices_Sort_int Tryz.lays189 blk off cap zs w hH hblk hsz
end Go.Proofs
set_option maxRecDepth 100000
namespace Go.Abs
open Go.Proofs
theorem Jf {f:Nat} {fn:Func} (h:pg.funcs[f]?=some fn) (h1:(fn.name== "runtime.NumGoroutine")=false) (h2:fn.body.isNone=false):Hr pg f:=⟨fn,h,h1,h2⟩
theorem Qz (n:Nat) (h:n<9223372036854775808):Aa pg 248 [.int .u64 n] [] (fun r _=>r= .int .i64 (Lib.bitLen n)):=
 MP (Jf (fn:=Tryz.f248) rfl (by kernel_rfl) rfl) fun w=>by
  have:=Tryz.bits_Len (n:Int) w (by omega) (by omega)
  simpa using this
theorem VO (v:Nat):Aa pg 259 [.tok 0 v 1 0 0,.int .i64 0,.int .i64 0] [.live v []] (fun r M=>r= .tup []∧M=[.live v []]):=by
 refine Aa.start (fn:=Tryz.f259) [] tk rfl rfl rfl (by kernel_rfl) (Nat.le_of_ble_eq_true rfl) rfl (by kernel_rfl) ?_
 rw[Bg]
 refine z0 ?_;intro K hK
 refine zk ?_;clear hK K
 refine zb ?_
 refine W.loopS (fun _:Unit=> [(0,.tok 0 v 1 0 0),(1,.int .i64 0),(2,.int .i64 0),(6,.int .i64 1)]) (fun _=> [.live v []]) (fun _=>0) (fun _=>True) () (Wk.fr (by simp[Ad])) trivial ?_
 rintro _ _
 refine zs ?_
 refine zn ?_
 refine W.exit ?_
 (try simp only[CP,CQ,DK,DL,if_true]);refine Ge (d:=0) ?_;simp -implicitDefEqProofs (maxSteps:=999999) (disch:=omega)
theorem VP (v:Nat):Aa pg 253 [.tok 0 v 1 0 0,.int .i64 0,.int .i64 0,.int .i64 0] [.live v []] (fun r M=>r= .tup []∧M=[.live v []]):=by
 refine Aa.start (fn:=Tryz.f253) [] tk rfl rfl rfl (by kernel_rfl) (Nat.le_of_ble_eq_true rfl) rfl (by kernel_rfl) ?_
 rw[Ix]
 refine zs ?_
 refine zs ?_
 refine zb ?_
 refine W.loopS (fun _:Unit=> [(0,.tok 0 v 1 0 0),(1,.int .i64 0),(2,.int .i64 0),(3,.int .i64 0)]) (fun _=> [.live v []]) (fun _=>0) (fun _=>True) () (Wk.fr (by simp[Ad])) trivial ?_
 rintro _ _
 refine zb ?_
 refine zs ?_
 refine zs ?_
 refine zt ?_
 refine z0 ?_;intro K hK
 refine Ab.pass [0] (VO v) (by simp) (by simp) (by simp) (by simp) ?_
 rintro _ M ⟨rfl,rfl⟩ _
 refine zx ?_
 refine zk ?_;clear hK K
 exact zR
theorem Uz (v:Nat):Aa pg 245 [.tok 0 v 1 0 0] [.live v []] (fun r M=>r= .tup []∧M=[.live v []]):=by
 refine Aa.start (fn:=Tryz.f245) [] tk rfl rfl rfl (by kernel_rfl) (Nat.le_of_ble_eq_true rfl) rfl (by kernel_rfl) ?_
 rw[As]
 refine zs ?_
 refine z0 ?_;intro K hK
 refine Ab.eq (Qz 0 (by omega)) (by simp;rfl) (by simp) ?_
 rw[show Lib.bitLen 0=0 from rfl]
 refine zx ?_
 refine Ab.pass [0] (VP v) (by simp) (by simp) (by simp) (by simp) ?_
 rintro _ M ⟨rfl,rfl⟩ _
 refine zx ?_
 refine zk ?_;clear hK K
 (try simp only[CP,CQ,DK,DL,if_true]);refine Ge (d:=0) ?_;simp -implicitDefEqProofs (maxSteps:=999999) (disch:=omega)
theorem QA (xs:List Int) (v:Nat) (hx:xs.length<4611686018427387904):Aa pg 245 [.tok 0 v 1 0 xs.length] [.live v (Ac xs)] (fun r M=>r= .tup []∧M=[.live v (Ac (BQ xs))]):=by
 cases xs with
 |nil=>simpa[BQ] using Uz v
 |cons x xs=>exact NG (Jf (fn:=Tryz.f245) rfl (by kernel_rfl) rfl) (fun blk off cap zs w h1 h2 h3=>Tryz.slices_Sort_int blk off cap zs w h1 h2 h3) (x::xs) v hx (by simp)
end Go.Abs
set_option maxRecDepth 100000
namespace Go.Abs
open Go.Proofs
theorem EU (l:List Int):(BQ l).length=l.length:=List.length_mergeSort _
def Oi (rest:List Int) (o:Option (List Int)):AV:=match o with
 |none=> .tup [.own 1 0 [],.bool false]
 |some l=> .tup [.own 1 (BQ (rest++l)).length (Ac (BQ (rest++l))),.bool (decide (AL rest∧AL (BQ (rest++l))))]
theorem UA (r:List (Int×Int)) (rest:List Int) (hr:r.length<1000000) (hrest:rest.length<1000000) (hb:∀q∈r,(-1000000000000<q.1∧q.1<1000000000000)∧(-1000000000000<q.2∧q.2<1000000000000)):
 Aa pg 223 [.ro r.length (Af At r),.ro rest.length (Ac rest)] [] (fun x _=>x=Oi rest (CV r (-1))):=by
 refine Aa.start (fn:=Tryz.f223) [.tmp 4,.tmp 5] tk rfl rfl rfl (by kernel_rfl) (Nat.le_of_ble_eq_true rfl) rfl (by kernel_rfl) ?_
 rw[Ar]
 refine zs ?_
 refine z0 ?_;intro K hK
 refine Ab.eq (FY rest (by omega)) (by simp) (by simp) ?_
 refine zx ?_
 refine zk ?_;clear hK K
 refine zs ?_
 refine zs ?_
 (repeat refine W.seq ?_);refine W.block (W.loopS (fun s:Nat×List Int×Int×Nat=> [(1,.ro rest.length (Ac rest)),(6,.tok 0 s.2.2.2 1 0 s.2.1.length),(7,.int .i64 s.2.2.1),(13,.ro r.length (Af At r)),(14,.int .i64 r.length),(15,.int .i64 s.1)]) (fun s=> [.live s.2.2.2 (Ac s.2.1)]) (fun s=>r.length-s.1)
   (fun s=>s.1≤r.length∧s.2.1.length≤rest.length+16*s.1∧(-1≤s.2.2.1∧s.2.2.1≤40)∧(CV r (-1)).map (rest++·)=(CV (r.drop s.1) s.2.2.1).map (s.2.1++·)) (0,rest,-1,0) (Wk.fr (by simp[Ad])) (by simp) ?_)
 rintro⟨k,acc,e,c⟩ ⟨hk,hacc,he,hinv⟩
 simp only at hk hacc he hinv
 refine zs ?_
 refine zc ?_ ?_<;>intro h
 .refine W.skip ?_
  have hlt:k<r.length:=by omega
  have hbk:=hb _ (List.getElem_mem hlt)
  have hd:=List.drop_eq_getElem_cons hlt
  rw[hd] at hinv
  generalize hq:r[k]=q at*
  obtain⟨a,n⟩:=q
  simp only at hbk
  refine zb ?_
  (repeat refine W.seq ?_);refine W.reg 1 rfl fun K hK=>?_;simp -implicitDefEqProofs (maxSteps:=999999) (disch:=omega) [hlt,hq,At]
  refine zk ?_;clear hK K
  (repeat refine W.seq ?_);refine W.midS (fun b:Bool=> [(1,.ro rest.length (Ac rest)),(6,.tok 0 c 1 0 acc.length),(7,.int .i64 e),(9,.ptr 1 0 0),(13,.ro r.length (Af At r)),(14,.int .i64 r.length),(15,.int .i64 k),(48,.bool b)]) (fun _=> [.live c (Ac acc),.live 0 [.int .i64 a,.int .i64 n]]) (fun b=>b=true↔n<3∨16<n∨a≤e∨¬(0≤a∧a<16)∨¬(0≤a+n-1∧a+n-1<16)) ?_ ?_
  .by_cases c1:n<3
   .refine z0 ?_;intro K hK
    refine zk ?_;clear hK K
    exact⟨true,by simp[c1],Wk.fr (by simp[Ad])⟩
   by_cases c2:16<n
   .refine z0 ?_;intro K hK
    refine zk ?_;clear hK K
    exact⟨true,by simp[c2],Wk.fr (by simp[Ad])⟩
   by_cases c3:a≤e
   .refine z0 ?_;intro K hK
    refine zk ?_;clear hK K
    exact⟨true,by simp[c3],Wk.fr (by simp[Ad])⟩
   by_cases c4:¬(0≤a∧a<16)
   .refine z0 ?_;intro K hK
    refine Ab.eq (MY a) (by simp) (by simp) ?_
    rw[decide_eq_false c4]
    refine zx ?_
    refine zk ?_;clear hK K
    exact⟨true,by simp;omega,Wk.fr (by simp[Ad])⟩
   .refine z0 ?_;intro K hK
    refine Ab.eq (MY a) (by simp) (by simp) ?_
    rw[decide_eq_true (Classical.not_not.1 c4)]
    refine zx ?_
    refine Ab.eq (MY (a+n-1)) (by simp) (by simp) ?_
    by_cases c5:0≤a+n-1∧a+n-1<16
    .rw[decide_eq_true c5]
     refine zx ?_
     refine zk ?_;clear hK K
     exact⟨false,by simp;omega,Wk.fr (by simp[Ad])⟩
    .rw[decide_eq_false c5]
     refine zx ?_
     refine zk ?_;clear hK K
     exact⟨true,by simp;omega,Wk.fr (by simp[Ad])⟩
  .intro b hbb
   refine zc ?_ ?_<;>intro h
   .have hbad:=hbb.1 (by assumption)
    refine zs ?_
    refine zr ?_
    simp only[CV] at hinv
    rw[if_pos hbad] at hinv
    simp at hinv
    simp[hinv,Oi]
   .have hgood:¬(n<3∨16<n∨a≤e∨¬(0≤a∧a<16)∨¬(0≤a+n-1∧a+n-1<16)):=fun h=>by
     have h1:=hbb.2 h
     have h2:b=false:=by assumption
     rw[h1] at h2;cases h2
    simp only[CV] at hinv
    rw[if_neg hgood] at hinv
    refine W.skip ?_
    refine zs ?_
    refine zs ?_
    (repeat refine W.seq ?_);refine W.block (W.loopS (fun j:Nat=> [(1,.ro rest.length (Ac rest)),(6,.tok 0 (c+j) 1 0 (acc.length+j)),(7,.int .i64 (a+n)),(10,.int .i64 (a+j)),(13,.ro r.length (Af At r)),(14,.int .i64 r.length),(15,.int .i64 k)]) (fun j=> [.live (c+j) (Ac (acc++(List.range j).map fun i=>a+(i:Nat)))]) (fun j=>n.toNat-j) (fun j=>(j:Int)≤n) 0 (Wk.cutM (k:=1) (by simp[Ad]) (by simp) (by simp) (by simp) (by simp) (by simp)) (by omega) ?_)
    intro j hj
    refine zs ?_
    refine zc ?_ ?_<;>intro h
    .refine W.skip ?_
     refine zb ?_
     refine z1 ?_;intro K hK
     refine zk ?_;clear hK K
     refine zs ?_
     refine⟨j+1,by omega,by omega,Wk.cutM (k:=1) (by simp[Ad];omega) (by simp[Dg,List.range_succ];simp[Ac];omega) (by simp) (by simp) (by simp) (by simp)⟩
    .refine W.exit ?_
     have hjn:j=n.toNat:=by omega
     subst hjn
     refine zs ?_
     refine⟨(k+1,acc++(List.range n.toNat).map (fun i=>a+(i:Nat)),a+n,c+n.toNat),by omega,⟨by omega,by simp;omega,show-1≤a+n∧a+n≤40 by omega,?_⟩,Wk.fr (by simp[Ad])⟩
     rw[hinv]
     cases CV (r.drop (k+1)) (a+n)<;>simp
 .refine W.exit ?_
  have hkk:k=r.length:=by omega
  subst hkk
  simp[CV] at hinv
  obtain⟨l,hl,hacc2⟩:=hinv
  subst hacc2
  have hst:(BQ (rest++l)).take (rest.length+l.length)=BQ (rest++l):=by rw[List.take_of_length_le];rw[EU];simp
  refine z0 ?_;intro K hK
  refine Ab.pass [0] (QA (rest++l) c (by omega)) (by simp) (by simp) (by simp) (by simp) ?_
  rintro _ M ⟨rfl,rfl⟩ _
  refine zx ?_
  refine zk ?_;clear hK K
  refine z0 ?_;intro K hK
  refine Ab.eq (LZ rest (by omega)) (by simp) (by simp) ?_
  by_cases hm:AL rest
  .rw[decide_eq_true hm]
   refine zx ?_
   refine Ab.eq (LZ (BQ (rest++l)) (by rw[EU];omega)) (by simp[EU,hst]) (by simp) ?_
   refine zx ?_
   refine zk ?_;clear hK K
   refine zr ?_
   simp[hl,Oi,hm,EU,hst]
  .rw[decide_eq_false hm]
   refine zx ?_
   refine zk ?_;clear hK K
   refine zr ?_
   simp[hl,Oi,hm,EU,hst]
end Go.Abs
namespace Go.Abs
theorem GI {bs:List Bool}:∀(k:Nat) (f:Bool) (p:Nat) (last:Int) (r:List Int×Nat),p≤bs.length→B2 bs k f p last=some r→r.1.length=k∧(∀x∈r.1,0≤x∧x<16)∧p≤r.2∧r.2≤bs.length
 |0,f,p,last,r,hp,h=>by simp[B2] at h;subst h;simp;exact hp
 |k+1,f,p,last,r,hp,h=>by
  simp only[B2] at h
  split at h
  .simp at h
  .rename_i x hx
   obtain⟨h1,h2,h3,h4,_⟩:=AN hx
   generalize (last+(if f=true then Cb ((x.1:Int)-1) else(x.1:Int)))=y at h
   split at h
   .rename_i hy
    split at h
    .rename_i q hq
     simp at h;subst h
     obtain⟨g1,g2,g3,g4⟩:=GI k false x.2 _ q h4 hq
     refine⟨by simp[g1],fun z hz=>?_,by simp only;omega,g4⟩
     simp at hz
     rcases hz with rfl|hz
     .exact hy
     .exact g2 z hz
    .simp at h
   .simp at h
theorem LB {bs:List Bool}:∀(k:Nat) (p:Nat) (last:Int) (r:List Int×Nat),B2 bs k false p last=some r→r.1.Pairwise (·<·)∧∀x∈r.1,last<x
 |0,p,last,r,h=>by simp[B2] at h;subst h;simp
 |k+1,p,last,r,h=>by
  simp only[B2,Bool.false_eq_true,if_false] at h
  split at h
  .simp at h
  .rename_i x hx
   obtain⟨h1,h2,h3,h4,_⟩:=AN hx
   split at h
   .split at h
    .rename_i q hq
     simp at h;subst h
     obtain⟨g1,g2⟩:=LB k x.2 _ q hq
     refine⟨?_,fun z hz=>?_⟩
     .simp only[List.pairwise_cons]
      exact⟨fun z hz=>by have:=g2 z hz;simpa using this,g1⟩
     .simp at hz
      rcases hz with rfl|hz
      .omega
      .have:=g2 z hz;omega
    .simp at h
   .simp at h
theorem Pi {bs:List Bool} {k:Nat} {f:Bool} {p:Nat} {last:Int} {r:List Int×Nat} (hp:p≤bs.length) (h:B2 bs k f p last=some r):AL r.1:=by
 refine⟨(GI k f p last r hp h).2.1,?_⟩
 cases k with
 |zero=>simp[B2] at h;subst h;simp
 |succ k=>
  simp only[B2] at h
  split at h
  .simp at h
  .rename_i x hx
   generalize (last+(if f=true then Cb ((x.1:Int)-1) else(x.1:Int)))=y at h
   split at h
   .split at h
    .rename_i q hq
     simp at h;subst h
     obtain⟨g1,g2⟩:=LB k _ _ q hq
     simp only[List.pairwise_cons]
     exact⟨fun z hz=>by have:=g2 z hz;simpa using this,g1⟩
    .simp at h
   .simp at h
theorem HN {bs:List Bool} {p:Nat} {v:Int} {r:List Int×Nat} (h:Dv bs p v=some r):r.1.length≤16∧AL r.1∧p<r.2∧r.2≤bs.length:=by
 unfold Dv at h
 split at h
 .simp at h
 .rename_i x hx
  obtain⟨h1,h2,h3,h4,_⟩:=AN hx
  split at h
  .have h5:=GI _ _ _ _ _ h4 h
   exact⟨by omega,Pi h4 h,by omega,h5.2.2.2⟩
  .simp at h
theorem IJ {bs:List Bool}:∀(k:Nat) (f:Bool) (p:Nat) (e:Int) (r:List (Int×Int)×Nat) (B:Int),p≤bs.length→-B≤e→e≤B→Cq bs k f p e=some r→r.1.length=k∧(∀q∈r.1,-(B+4294967296*(k:Int))≤q.1∧q.1≤B+4294967296*(k:Int)∧3≤q.2∧q.2≤2147483648)∧p≤r.2∧r.2≤bs.length
 |0,f,p,e,r,B,hp,_,_,h=>by simp[Cq] at h;subst h;simp;exact hp
 |k+1,f,p,e,r,B,hp,hB1,hB2,h=>by
  simp only[Cq] at h
  split at h
  .simp at h
  .rename_i x hx
   obtain⟨h1,h2,h3,h4,_⟩:=AN hx
   split at h
   .simp at h
   .rename_i y hy
    obtain⟨i1,i2,i3,i4,_⟩:=AN hy
    split at h
    .rename_i q hq
     simp at h;subst h
     have hz:∃z:Int,z=(if f=true then Cb ((x.1:Int)-1) else(x.1:Int))∧-1073741825≤z∧z≤1073741825:=⟨_,rfl,by unfold Cb;split<;>(try split)<;>omega,by unfold Cb;split<;>(try split)<;>omega⟩
     obtain⟨z,hz,hz1,hz2⟩:=hz
     rw[←hz] at hq ⊢
     obtain⟨g1,g2,g3,g4⟩:=IJ k false y.2 _ q (B+4294967296) i4 (by omega) (by omega) hq
     refine⟨by simp[g1],fun w hw=>?_,by simp only;omega,g4⟩
     simp only[List.mem_cons] at hw
     rcases hw with rfl|hw
     .simp only;omega
     .have:=g2 w hw;omega
    .simp at h
theorem M9:∀(l:List Int) (b:Int),(∀x∈l,b≤x∧x<16)→l.Pairwise (·<·)→l.length≤(16-b).toNat
 | [],b,_,_=>by simp
 |x::t,b,h,hp=>by
  rw[List.pairwise_cons] at hp
  have h1:=h x (by simp)
  have:=M9 t (x+1) (fun y hy=>⟨by have:=hp.1 y hy;omega,(h y (by simp[hy])).2⟩) hp.2
  simp;omega
theorem BU {l:List Int} (h:AL l):l.length≤16:=M9 l 0 h.1 h.2
theorem LC:∀(n:Nat) (l:List Int),l.length≤n→(Aq l).1.length≤l.length∧(Aq l).2.length≤l.length
 |_,[],_=>by simp[Aq]
 |0,x::l,h=>by simp at h
 |n+1,x::l,h=>by
  have h1:=FR x l
  have h2:=GC (x::l)
  have h3:((x::l).drop (A9 (x::l))).length=(x::l).length-A9 (x::l):=by simp
  have ih:=LC n ((x::l).drop (A9 (x::l))) (by omega)
  rw[Aq]
  split
  .simp only[List.length_cons] at*;omega
  .simp only[List.length_append,List.length_take] at*;omega
theorem HO {bs:List Bool} {p:Nat} {v:Int} {r:List Int×Nat} (hv:-100000≤v∧v≤100000) (h:CW bs p v=some r):AL r.1∧r.1.length≤16∧p<r.2∧r.2≤bs.length:=by
 unfold CW at h
 split at h
 .simp at h
 .rename_i x hx
  obtain⟨h1,h2,h3,h4,_⟩:=AN hx
  split at h
  .split at h
   .simp at h
   .rename_i r0 hr0
    have g0:=IJ _ _ _ _ _ 100000 h4 hv.1 hv.2 hr0
    split at h
    .simp at h
    .rename_i g hg
     have g1:=HN hg
     split at h
     .simp at h
     .rename_i l hl
      unfold EF at hl
      split at hl
      .simp at hl
      .split at hl
       .rename_i hm
        simp at hl
        split at h
        .simp at h;subst h
         rw[hl] at hm
         exact⟨hm.2,BU hm.2,by simp only;omega,g1.2.2.2⟩
        .simp at h
       .simp at hl
  .simp at h
end Go.Abs
set_option maxRecDepth 100000
namespace Go.Abs
open Go.Proofs
def IK (o:Option (List Int×Nat)) (r:AV):Prop:=match o with
 |some q=>r= .tup [.own 1 q.1.length (Ac q.1),.int .i64 q.2,.bool true]
 |none=>∃(xs:List Int) (a:Int),r= .tup [.own 1 xs.length (Ac xs),.int .i64 a,.bool false]
theorem Kk (b:CM) (p:Nat) (v:Int) (hb:C3 b) (hp:p<50000000000) (hv:0≤v∧v<100000):Aa pg 199 [.agg (Ch b),.int .i64 p,.int .i64 v] [] (fun r _=>IK (CW (An b) p v) r):=by
 have hl:=BX b
 have h2:=hb.2.1;have h3:=hb.2.2;have h0:=hb.1
 have e0:CW (An b) p v=match Fu (An b) p v with
  |none=>none
  |some r=>match Dv (An b) r.2 v with
   |none=>none
   |some g=>match EF r.1 g.1 with
    |none=>none
    |some l=>if Aq l=(r.1,g.1) then some (l,g.2) else none:=by
  unfold CW Fu
  cases AK (An b) p with
  |none=>rfl
  |some x=>simp only;split<;>rfl
 refine Aa.start (fn:=Tryz.f199) [.tmp 6,.tmp 7,.tmp 8] tk rfl rfl rfl (by kernel_rfl) (Nat.le_of_ble_eq_true rfl) rfl (by kernel_rfl) ?_
 rw[Bg]
 refine z1 ?_;intro K hK;refine zk ?_;clear hK K
 refine z0 ?_;intro K hK
 have sp:=Ph b p v hb hp hv
 cases hr:Fu (An b) p v with
 |none=>
  simp only[hr,LA] at sp e0
  refine Ab.eq sp (by simp) (by simp) ?_
  refine zx ?_
  refine zk ?_;clear hK K
  refine z0 ?_;intro K hK;refine zk ?_;clear hK K
  refine zt ?_
  refine z0 ?_;intro K hK;refine zk ?_;clear hK K
  refine zr ?_
  rw[e0]
  exact⟨[],0,rfl⟩
 |some r=>
  simp only[hr,LA] at sp e0
  obtain⟨i1,i2,i3,i4,i5⟩:r.1.length≤15∧(∀q∈r.1,(-1000000000000<q.1∧q.1<1000000000000)∧(-1000000000000<q.2∧q.2<1000000000000))∧r.2≤(An b).length∧True∧True:=by
   unfold Fu at hr
   split at hr
   .simp at hr
   .rename_i x hx
    obtain⟨j1,j2,j3,j4,_⟩:=AN hx
    split at hr
    .have:=IJ _ _ _ _ _ 100000 j4 (by omega) (by omega) hr
     refine⟨by omega,fun q hq=>?_,this.2.2.2,trivial,trivial⟩
     have:=this.2.1 q hq
     omega
    .simp at hr
  refine Ab.eq sp (by simp) (by simp) ?_
  refine zx ?_
  refine zk ?_;clear hK K
  refine z0 ?_;intro K hK;refine zk ?_;clear hK K
  refine zn ?_
  refine W.skip ?_
  refine z0 ?_;intro K hK
  have sp:=Pg b r.2 v hb (by omega) hv
  cases hg:Dv (An b) r.2 v with
  |none=>
   simp only[hg,CT] at sp e0
   refine Ab.eq sp (by simp) (by simp) ?_
   refine zx ?_
   refine zk ?_;clear hK K
   refine z0 ?_;intro K hK;refine zk ?_;clear hK K
   refine zt ?_
   refine z0 ?_;intro K hK;refine zk ?_;clear hK K
   refine zr ?_
   rw[e0]
   exact⟨[],0,rfl⟩
  |some g=>
   obtain⟨g1,g2,g3,g4⟩:=HN hg
   simp only[hg,CT] at sp e0
   refine Ab.eq sp (by simp) (by simp) ?_
   refine zx ?_
   refine zk ?_;clear hK K
   refine z0 ?_;intro K hK;refine zk ?_;clear hK K
   refine zn ?_
   refine W.skip ?_
   refine z0 ?_;intro K hK
   have sp:=UA r.1 g.1 (by omega) (by omega) i2
   cases hw:CV r.1 (-1) with
   |none=>
    simp only[hw,Oi,EF] at sp e0
    refine Ab.eq sp (by simp) (by simp) ?_
    refine zx ?_
    refine zk ?_;clear hK K
    refine z0 ?_;intro K hK;refine zk ?_;clear hK K
    refine zt ?_
    refine z0 ?_;intro K hK;refine zk ?_;clear hK K
    refine zr ?_
    rw[e0]
    exact⟨[],0,rfl⟩
   |some l=>
    simp only[hw,Oi,EF] at sp e0
    generalize BQ (g.1++l)=L at sp e0
    by_cases hm:AL g.1∧AL L
    .rw[if_pos hm] at e0
     rw[decide_eq_true hm] at sp
     have hll:=BU hm.2
     have hpl:=LC _ L (Nat.le_refl _)
     simp only at e0
     refine Ab.eq sp (by simp) (by simp) ?_
     refine zx ?_
     refine zk ?_;clear hK K
     refine z0 ?_;intro K hK;refine zk ?_;clear hK K
     refine zn ?_
     refine W.skip ?_
     refine z0 ?_;intro K hK
     have sp:=Uy L (by omega) (fun x hx=>by have:=hm.2.1 x hx;omega)
     refine Ab.eq sp (by simp) (by simp[M8]) ?_
     simp only[M8]
     refine zx ?_
     refine zk ?_;clear hK K
     refine z0 ?_;intro K hK
     refine Ab.eq (Sc (Aq L).1 r.1 (by omega)) (by simp) (by simp) ?_
     by_cases c1:(Aq L).1=r.1
     .rw[decide_eq_true c1]
      refine zx ?_
      refine Ab.eq (Hb (Aq L).2 g.1 (by omega)) (by simp) (by simp) ?_
      by_cases c2:(Aq L).2=g.1
      .rw[decide_eq_true c2]
       refine zx ?_
       refine zk ?_;clear hK K
       refine zr ?_
       have c3:Aq L=(r.1,g.1):=Prod.ext c1 c2
       rw[e0,if_pos c3]
       rfl
      .rw[decide_eq_false c2]
       refine zx ?_
       refine zk ?_;clear hK K
       refine zr ?_
       rw[e0,if_neg (fun e=>c2 (by rw[e]))]
       exact⟨L,g.2,rfl⟩
     .rw[decide_eq_false c1]
      refine zx ?_
      refine zk ?_;clear hK K
      refine zr ?_
      rw[e0,if_neg (fun e=>c1 (by rw[e]))]
      exact⟨L,g.2,rfl⟩
    .rw[if_neg hm] at e0
     rw[decide_eq_false hm] at sp
     refine Ab.eq sp (by simp) (by simp) ?_
     refine zx ?_
     refine zk ?_;clear hK K
     refine z0 ?_;intro K hK;refine zk ?_;clear hK K
     refine zt ?_
     refine z0 ?_;intro K hK;refine zk ?_;clear hK K
     refine zr ?_
     rw[e0]
     exact⟨[],0,rfl⟩
end Go.Abs
set_option maxRecDepth 100000
namespace Go.Abs
open Go.Proofs
def Fv (l:List Nat):List Int:=l.map fun n=>((n:Nat):Int)
theorem QB (a b:List Nat):Fv (a++b)=Fv a++Fv b:=by simp[Fv]
@[simp] theorem XB (a:List Nat):(Fv a).length=a.length:=by simp[Fv]
def SG (q:List Int×List Int):AV:= .tup [.own 1 q.1.length (Ac q.1),.own 1 q.2.length (Ac q.2)]
theorem Sd (ref l:List Int) (h1:ref.length<1000000000) (h2:l.length<1000000000):Aa pg 235 [.ro ref.length (Ac ref),.ro l.length (Ac l)] [] (fun r _=>r=SG (blocks ref l,Bk ref l)):=by
 refine Aa.start (fn:=Tryz.f235) [.tmp 4,.tmp 5] tk rfl rfl rfl (by kernel_rfl) (Nat.le_of_ble_eq_true rfl) rfl (by kernel_rfl) ?_
 rw[Ar]
 refine zs ?_
 refine zs ?_
 refine zs ?_
 (repeat refine W.seq ?_);refine W.block (W.loopS (fun s:Nat×List Nat×Bool×Nat=> [(0,.ro ref.length (Ac ref)),(1,.ro l.length (Ac l)),(4,.tok 0 s.2.1.length 1 0 s.2.1.length),(5,.tok 1 0 1 0 0),(6,.bool s.2.2.1),(7,.int .i64 s.2.2.2),(12,.ro ref.length (Ac ref)),(13,.int .i64 ref.length),(14,.int .i64 s.1)]) (fun s=> [.live s.2.1.length (Ac (Fv s.2.1)),.live 0 []]) (fun s=>ref.length-s.1)
   (fun s=>s.1≤ref.length∧s.2.1.length≤s.1∧s.2.2.2≤s.1∧Bd l ref true 0=s.2.1++Bd l (ref.drop s.1) s.2.2.1 s.2.2.2) (0,[],true,0) ((Wk.nil (t:=4) (s:=1) (by simp)).trans ((Wk.nil (t:=5) (s:=1) (by simp)).trans (Wk.fr (by simp[Ad])))) (by simp) ?_)
 rintro⟨k,acc,i,n⟩ ⟨hk,hacc,hn,hinv⟩
 simp only at hk hacc hn hinv
 refine zs ?_
 refine zc ?_ ?_<;>intro h
 .refine W.skip ?_
  have hlt:k<ref.length:=by omega
  rw[List.drop_eq_getElem_cons hlt] at hinv
  simp only[Bd] at hinv
  refine zb ?_
  refine zs ?_
  refine z0 ?_;intro K hK
  refine Ab.eq (HM l ref[k] (by omega)) (by simp) (by simp) ?_
  by_cases hc:l.contains ref[k]=i
  .rw[hc]
   refine zx ?_
   refine zk ?_;clear hK K
   refine zn ?_
   refine W.skip ?_
   refine zs ?_
   refine zs ?_
   rw[if_pos hc] at hinv
   refine⟨(k+1,acc,i,n+1),by simp;omega,⟨by simp;omega,by simp;omega,by simp;omega,hinv⟩,Wk.fr (by simp[Ad])⟩
  .have hc' :l.contains ref[k]= !i:=by cases i<;>simp_all
   rw[hc']
   refine zx ?_
   refine zk ?_;clear hK K
   refine zt ?_
   refine z1 ?_;intro K hK
   refine zk ?_;clear hK K
   refine zs ?_
   refine zs ?_
   refine zs ?_
   rw[if_neg hc] at hinv
   refine⟨(k+1,acc++[n],!i,1),by simp;omega,⟨by simp;omega,by simp;omega,by simp,?_⟩,Wk.cutM (k:=2) (by simp[Ad]) (by simp[QB,Dg];simp[Fv,Ac]) (by simp) (by simp) (by simp) (by simp)⟩
   rw[hinv];simp
 .refine W.exit ?_
  have:ref.drop k=[]:=List.drop_of_length_le (by omega)
  rw[this] at hinv
  simp[Bd] at hinv
  subst hinv
  refine zs ?_
  (repeat refine W.seq ?_);refine W.block (W.loopS (fun s:Nat×List Int=> [(0,.ro ref.length (Ac ref)),(4,.tok 0 (Bd l ref true 0).length 1 0 (Bd l ref true 0).length),(5,.tok 1 s.2.length 1 0 s.2.length),(32,.ro l.length (Ac l)),(33,.int .i64 l.length),(34,.int .i64 s.1)]) (fun s=> [.live (Bd l ref true 0).length (Ac (Fv (Bd l ref true 0))),.live s.2.length (Ac s.2)]) (fun s=>l.length-s.1)
    (fun s=>s.1≤l.length∧s.2.length≤s.1∧Bk ref l=s.2++Bk ref (l.drop s.1)) (0,[]) (Wk.fr (by simp[Ad])) (by simp) ?_)
  rintro⟨j,oc⟩ ⟨hj,hoc,hio⟩
  simp only at hj hoc hio
  refine zs ?_
  refine zc ?_ ?_<;>intro h
  .refine W.skip ?_
   have hlt:j<l.length:=by omega
   rw[List.drop_eq_getElem_cons hlt] at hio
   refine zb ?_
   refine zs ?_
   refine z0 ?_;intro K hK
   refine Ab.eq (HM ref l[j] (by omega)) (by simp) (by simp) ?_
   by_cases hc:ref.contains l[j]=true
   .rw[hc]
    refine zx ?_
    refine zk ?_;clear hK K
    refine zn ?_
    refine W.skip ?_
    refine zs ?_
    refine⟨(j+1,oc),by simp;omega,⟨by simp;omega,by simp;omega,?_⟩,Wk.fr (by simp[Ad])⟩
    rw[hio,Bk,List.filter_cons_of_neg (by rw[hc];decide)];rfl
   .have hc:ref.contains l[j]=false:=by simpa using hc
    rw[hc]
    refine zx ?_
    refine zk ?_;clear hK K
    refine zt ?_
    refine z1 ?_;intro K hK
    refine zk ?_;clear hK K
    refine zs ?_
    refine⟨(j+1,oc++[l[j]]),by simp;omega,⟨by simp;omega,by simp;omega,?_⟩,Wk.cutM (k:=2) (by simp[Ad]) (by simp[Dg];simp[Ac]) (by simp) (by simp) (by simp) (by simp)⟩
    rw[hio,Bk,List.filter_cons_of_pos (by rw[hc];decide)];simp[Bk]
  .refine W.exit ?_
   have:l.drop j=[]:=List.drop_of_length_le (by omega)
   rw[this] at hio
   simp[Bk] at hio
   refine zs ?_
   refine zr ?_
   simp[SG,blocks,Bk,hio,Fv]
   rw[List.take_of_length_le (by simp)]
end Go.Abs
set_option maxRecDepth 100000
namespace Go.Abs
open Go.Proofs
def cN (ref bl rest:List Int):Option (List Int):=match A2 bl ref true with
 |none=>none
 |some l=>if AL (BQ (rest++l)) then some (BQ (rest++l)) else none
theorem Gj (l:List Int):∀(ref:List Int) (i:Bool) (n:Nat),(Bd l ref i n).length≤ref.length
 | [],i,n=>by simp[Bd]
 |x::ref,i,n=>by
  simp only[Bd]
  split
  .have:=Gj l ref i (n+1);simp;omega
  .have:=Gj l ref (!i) 1;simp;omega
theorem Se (ref bl rest:List Int) (h1:ref.length<1000000) (h2:bl.length<1000000) (h3:rest.length<1000000) (hb:∀x∈bl,-1000000000000<x∧x<1000000000000):
 Aa pg 227 [.ro ref.length (Ac ref),.ro bl.length (Ac bl),.ro rest.length (Ac rest)] [] (fun r _=>match Cr ref bl rest with
  |some l=>r= .tup [.own 1 l.length (Ac l),.bool true]
  |none=>∃xs:List Int,r= .tup [.own 1 xs.length (Ac xs),.bool false]):=by
 refine Aa.start (fn:=Tryz.f227) [.tmp 6,.tmp 7] tk rfl rfl rfl (by kernel_rfl) (Nat.le_of_ble_eq_true rfl) rfl (by kernel_rfl) ?_
 rw[Bg]
 refine zs ?_
 refine z0 ?_;intro K hK
 refine Ab.eq (FY rest (by omega)) (by simp) (by simp) ?_
 refine zx ?_
 refine zk ?_;clear hK K
 refine zs ?_
 refine zs ?_
 refine zs ?_
 (repeat refine W.seq ?_);refine W.block (W.loopS (fun s:Nat×List Int×List Int×Bool×Nat=> [(0,.ro ref.length (Ac ref)),(1,.ro bl.length (Ac bl)),(2,.ro rest.length (Ac rest)),(8,.tok 0 s.2.2.2.2 1 0 s.2.1.length),(9,.ro s.2.2.1.length (Ac s.2.2.1)),(10,.bool s.2.2.2.1),(18,.ro bl.length (Ac bl)),(19,.int .i64 bl.length),(20,.int .i64 s.1)]) (fun s=> [.live s.2.2.2.2 (Ac s.2.1)]) (fun s=>bl.length-s.1)
   (fun s=>s.1≤bl.length∧s.2.1.length+s.2.2.1.length≤rest.length+ref.length∧(A2 bl ref true).map (rest++·)=(A2 (bl.drop s.1) s.2.2.1 s.2.2.2.1).map (s.2.1++·)) (0,rest,ref,true,0) (Wk.fr (by simp[Ad])) (by simp) ?_)
 rintro⟨k,acc,left,i,c⟩ ⟨hk,hacc,hinv⟩
 simp only at hk hacc hinv
 refine zs ?_
 refine zc ?_ ?_<;>intro h
 .refine W.skip ?_
  have hlt:k<bl.length:=by omega
  have hbk:=hb _ (List.getElem_mem hlt)
  rw[List.drop_eq_getElem_cons hlt] at hinv
  simp only[A2] at hinv
  generalize hn:bl[k]=n at hinv hbk
  refine zb ?_
  refine Ag (an hlt hn) ?_;intro K hK
  refine zk ?_;clear hK K
  by_cases hbad:n<0∨(left.length:Int)<n
  .rw[if_pos hbad] at hinv
   have hcg:A2 bl ref true=none:=by simpa using hinv
   have hcw:Cr ref bl rest=none:=by simp[Cr,hcg]
   (repeat refine W.seq ?_);refine W.midS (fun _:Unit=> [(31,.bool true)]) (fun _=> []) (fun _=>True) ?_ ?_
   .by_cases hz:n<0
    .refine z0 ?_;intro K hK
     refine zk ?_;clear hK K
     exact⟨(),trivial,Wk.cutM (k:=0) (by simp[Ad]) (by simp) (by simp) (by simp) (by simp) (by simp)⟩
    .refine z0 ?_;intro K hK
     refine zk ?_;clear hK K
     exact⟨(),trivial,Wk.cutM (k:=0) (by simp[Ad]) (by simp) (by simp) (by simp) (by simp) (by simp)⟩
   .rintro _ _
    refine zt ?_
    refine zs ?_
    refine zr ?_
    rw[hcw]
    exact⟨[],rfl,rfl⟩
  .rw[if_neg hbad] at hinv
   refine z0 ?_;intro K hK
   refine zk ?_;clear hK K
   refine zn ?_
   refine W.skip ?_
   refine zs ?_
   have hle:n.toNat≤left.length:=by omega
   have htk:(left.drop n.toNat).take (left.length-n.toNat)=left.drop n.toNat:=List.take_of_length_le (by simp)
   cases i with
   |true=>
    refine zt ?_
    refine zs ?_
    refine zs ?_
    refine zs ?_
    refine⟨(k+1,acc++left.take n.toNat,left.drop n.toNat,false,c+1),by simp;omega,⟨by simp;omega,by simp;omega,?_⟩,Wk.cutM (k:=1) (by simp[Ad,htk];try omega) (by simp[Dg]) (by simp) (by simp) (by simp) (by simp)⟩
    rw[hinv]
    simp only[Bool.not_true]
    cases A2 (bl.drop (k+1)) (left.drop n.toNat) false<;>simp
   |false=>
    refine zn ?_
    refine W.skip ?_
    refine zs ?_
    refine zs ?_
    refine⟨(k+1,acc,left.drop n.toNat,true,c),by simp;omega,⟨by simp;omega,by simp;omega,?_⟩,Wk.fr (by simp[Ad,htk];try omega)⟩
    rw[hinv]
    simp only[Bool.not_false]
    cases A2 (bl.drop (k+1)) (left.drop n.toNat) true<;>simp
 .refine W.exit ?_
  have hkk:bl.drop k=[]:=List.drop_of_length_le (by omega)
  rw[hkk] at hinv
  simp only[A2,Option.map_some] at hinv
  obtain⟨e,he,hee⟩:∃e,A2 bl ref true=some e∧rest++e=acc++(if i=true then left else []):=by
   cases hc:A2 bl ref true with
   |none=>rw[hc] at hinv;simp at hinv
   |some e=>rw[hc] at hinv;simp at hinv;exact⟨e,rfl,hinv⟩
  refine zs ?_
  (repeat refine W.seq ?_);refine W.midS (fun c:Nat=> [(0,.ro ref.length (Ac ref)),(1,.ro bl.length (Ac bl)),(2,.ro rest.length (Ac rest)),(8,.tok 0 c 1 0 (rest++e).length)]) (fun c=> [.live c (Ac (rest++e))]) (fun _=>True) ?_ ?_
  .cases i with
   |true=>
    refine zt ?_
    refine z0 ?_;intro K hK
    refine zk ?_;clear hK K
    exact⟨c+1,trivial,Wk.cutM (k:=1) (by simp[Ad,hee]) (by simp[hee,Dg]) (by simp) (by simp) (by simp) (by simp)⟩
   |false=>
    refine zn ?_
    refine W.skip ?_
    exact⟨c,trivial,Wk.cutM (k:=1) (by simp[Ad,hee]) (by simp[hee]) (by simp) (by simp) (by simp) (by simp)⟩
  .rintro c _
   have hel:(rest++e).length≤rest.length+ref.length:=by rw[hee];split<;>simp<;>omega
   generalize hX:rest++e=X at hel
   have hln:=EU X
   generalize hL:BQ X=L at hln
   refine z0 ?_;intro K hK
   refine Ab.pass [0] (QA X c (by omega)) (by simp) (by simp) (by simp) (by simp) ?_
   rw[hL]
   rintro _ M ⟨rfl,rfl⟩ _
   rw[←hln]
   refine zx ?_
   refine zk ?_;clear hK K
   refine z0 ?_;intro K hK
   refine Ab.eq (LZ L (by omega)) (by simp) (by simp) ?_
   have hcw:Cr ref bl rest=if AL L∧blocks ref L=bl∧Bk ref L=rest then some L else none:=by simp only[Cr,he,hX,hL]
   by_cases hm:AL L
   .rw[decide_eq_true hm]
    refine zx ?_
    refine zk ?_;clear hK K
    refine zn ?_
    refine W.skip ?_
    have hll:=BU hm
    refine z0 ?_;intro K hK
    refine Ab.eq (Sd ref L (by omega) (by omega)) (by simp) (by simp[SG]) ?_
    simp only[SG]
    refine zx ?_
    refine zk ?_;clear hK K
    refine z0 ?_;intro K hK
    refine Ab.eq (Hb (blocks ref L) bl (by have:=Gj L ref true 0;simp[blocks];omega)) (by simp) (by simp) ?_
    by_cases c1:blocks ref L=bl
    .rw[decide_eq_true c1]
     refine zx ?_
     refine Ab.eq (Hb (Bk ref L) rest (by have:=List.length_filter_le (fun x=> !ref.contains x) L;simp only[Bk];omega)) (by simp) (by simp) ?_
     by_cases c2:Bk ref L=rest
     .rw[decide_eq_true c2]
      refine zx ?_
      refine zk ?_;clear hK K
      refine zr ?_
      rw[hcw,if_pos ⟨hm,c1,c2⟩]
      exact⟨rfl,rfl⟩
     .rw[decide_eq_false c2]
      refine zx ?_
      refine zk ?_;clear hK K
      refine zr ?_
      rw[hcw,if_neg (fun h=>c2 h.2.2)]
      exact⟨L,rfl,rfl⟩
    .rw[decide_eq_false c1]
     refine zx ?_
     refine zk ?_;clear hK K
     refine zr ?_
     rw[hcw,if_neg (fun h=>c1 h.2.1)]
     exact⟨L,rfl,rfl⟩
   .rw[decide_eq_false hm]
    refine zx ?_
    refine zk ?_;clear hK K
    refine zt ?_
    refine zs ?_
    refine zr ?_
    rw[hcw,if_neg (fun h=>hm h.1)]
    exact⟨[],rfl,rfl⟩
end Go.Abs
set_option maxRecDepth 100000
namespace Go.Abs
open Go.Proofs
theorem LD {bs:List Bool}:∀(k:Nat) (f:Bool) (p:Nat) (r:List Int×Nat),p≤bs.length→Cj bs k f p=some r→r.1.length=k∧(∀x∈r.1,0≤x∧x≤1073741824)∧r.2≤bs.length
 |0,f,p,r,hp,h=>by simp[Cj] at h;subst h;simp;exact hp
 |k+1,f,p,r,hp,h=>by
  simp only[Cj] at h
  split at h
  .simp at h
  .rename_i x hx
   obtain⟨h1,h2,h3,h4,_⟩:=AN hx
   split at h
   .rename_i q hq
    simp at h;subst h
    obtain⟨g1,g2,g3⟩:=LD k false x.2 q h4 hq
    refine⟨by simp[g1],fun z hz=>?_,g3⟩
    simp only[List.mem_cons] at hz
    rcases hz with rfl|hz
    .split<;>omega
    .exact g2 z hz
   .simp at h
theorem Na (b:CM) (p:Nat) (v:Int) (ref:List Int) (hb:C3 b) (hp:p<50000000000) (hv:0≤v∧v<100000) (href:ref.length<1000000):Aa pg 201 [.agg (Ch b),.int .i64 p,.int .i64 v,.ro ref.length (Ac ref)] [] (fun r _=>IK (Cz (An b) p v ref) r):=by
 have hl:=BX b
 have h2:=hb.2.1;have h3:=hb.2.2;have h0:=hb.1
 refine Aa.start (fn:=Tryz.f201) [.tmp 8,.tmp 9,.tmp 10] tk rfl rfl rfl (by kernel_rfl) (Nat.le_of_ble_eq_true rfl) rfl (by kernel_rfl) ?_
 rw[Ix]
 refine z1 ?_;intro K hK;refine zk ?_;clear hK K
 refine z0 ?_;intro K hK
 have sp:=FE b p hb hp
 cases hg:AK (An b) p with
 |none=>
  simp only[hg,Fc] at sp
  refine Ab.eq sp (by simp) (by simp) ?_
  refine zx ?_
  refine zk ?_;clear hK K
  refine z0 ?_;intro K hK;refine zk ?_;clear hK K
  refine zt ?_
  refine z0 ?_;intro K hK;refine zk ?_;clear hK K
  refine zr ?_
  simp only[Cz,hg]
  exact⟨[],0,rfl⟩
 |some x=>
  simp only[hg,Fc] at sp
  obtain⟨hx1,hx2,hx3,hx4,_⟩:=AN hg
  refine Ab.eq sp (by simp) (by simp) ?_
  refine zx ?_
  refine zk ?_;clear hK K
  refine z0 ?_;intro K hK;refine zk ?_;clear hK K
  refine zc ?_ ?_<;>intro h
  .refine z0 ?_;intro K hK;refine zk ?_;clear hK K
   refine zr ?_
   simp only[Cz,hg];rw[if_neg (by omega)]
   exact⟨[],0,rfl⟩
  .refine W.skip ?_
   refine z0 ?_;intro K hK;refine zk ?_;clear hK K
   refine z0 ?_;intro K hK;refine zk ?_;clear hK K
   (repeat refine W.seq ?_);refine W.block (W.loopS (fun s:Nat×List Int×Nat=> [(2,.int .i64 v),(3,.ro ref.length (Ac ref)),(4,.ptr 0 0 0),(8,.own 1 0 []),(9,.int .i64 s.2.2),(12,.tok 1 s.1 1 0 s.1),(30,.int .i64 ((x.1:Int)-1)),(31,.int .i64 s.1)]) (fun s=> [.live 0 (Ch b),.live s.1 (Ac s.2.1)]) (fun s=>x.1-1-s.1)
     (fun s=>s.1≤x.1-1∧s.2.1.length=s.1∧s.2.2≤(An b).length∧Cj (An b) (x.1-1) true x.2=(Cj (An b) (x.1-1-s.1) (decide (s.1=0)) s.2.2).map fun r=>(s.2.1++r.1,r.2)) (0,[],x.2) ((Wk.nil (t:=12) (s:=1) (by simp)).trans (Wk.fr (by simp[Ad]))) ⟨by omega,rfl,hx4,by simp⟩ ?_)
   rintro⟨k,acc,q⟩ ⟨hk,hacc,hq,hinv⟩
   simp only at hk hacc hq hinv
   refine z0 ?_;intro K hK;refine zk ?_;clear hK K
   refine zc ?_ ?_<;>intro h
   .refine W.skip ?_
    obtain⟨m,hm⟩:∃m,x.1-1-k=m+1:=⟨x.1-1-k-1,by omega⟩
    have hm' :x.1-1-(k+1)=m:=by omega
    rw[hm] at hinv
    refine zb ?_
    refine z0 ?_;intro K hK;refine zk ?_;clear hK K
    refine z0 ?_;intro K hK;refine zk ?_;clear hK K
    refine z0 ?_;intro K hK
    have sp:=FE b q hb (by omega)
    cases hg2:AK (An b) q with
    |none=>
     simp only[hg2,Fc] at sp
     refine Ab.eq sp (by simp) (by simp) ?_
     refine zx ?_
     refine zk ?_;clear hK K
     refine z0 ?_;intro K hK;refine zk ?_;clear hK K
     refine zt ?_
     refine z0 ?_;intro K hK;refine zk ?_;clear hK K
     refine zr ?_
     simp only[Cj,hg2] at hinv
     simp only[Cz,hg];rw[if_pos (by omega),hinv]
     exact⟨[],0,rfl⟩
    |some y=>
     simp only[hg2,Fc] at sp
     obtain⟨hy1,hy2,hy3,hy4,_⟩:=AN hg2
     refine Ab.eq sp (by simp) (by simp) ?_
     refine zx ?_
     refine zk ?_;clear hK K
     refine z0 ?_;intro K hK;refine zk ?_;clear hK K
     refine zn ?_
     refine W.skip ?_
     simp only[Cj,hg2] at hinv
     have hz:∃z:Int,z=(if k=0 then(y.1:Int)-1 else(y.1:Int)):=⟨_,rfl⟩
     obtain⟨z,hz⟩:=hz
     refine z0 ?_;intro K hK;refine zk ?_;clear hK K
     (repeat refine W.seq ?_);refine W.midS (fun _:Unit=> [(2,.int .i64 v),(3,.ro ref.length (Ac ref)),(4,.ptr 0 0 0),(8,.own 1 0 []),(9,.int .i64 y.2),(12,.tok 1 k 1 0 k),(14,.int .i64 z),(30,.int .i64 ((x.1:Int)-1)),(31,.int .i64 k)]) (fun _=> [.live 0 (Ch b),.live k (Ac acc)]) (fun _=>True) ?_ ?_
     .refine zc ?_ ?_<;>intro h
      .refine z0 ?_;intro K hK
       refine zk ?_;clear hK K
       exact⟨(),trivial,Wk.fr (by simp[Ad,hz,h])⟩
      .refine W.skip ?_
       exact⟨(),trivial,Wk.fr (by simp[Ad,hz,h])⟩
     .rintro _ _
      have hzz:(if decide (k=0)=true then(y.1:Int)-1 else(y.1:Int))=z:=by rw[hz];simp
      rw[hzz,hm'.symm] at hinv
      refine z1 ?_;intro K hK;refine zk ?_;clear hK K
      refine z0 ?_;intro K hK;refine zk ?_;clear hK K
      refine⟨(k+1,acc++[z],y.2),by simp;omega,⟨by simp;omega,by simp;omega,hy4,?_⟩,Wk.cutM (k:=2) (by simp[Ad]) (by simp[Dg,Ac]) (by simp) (by simp) (by simp) (by simp)⟩
      rw[hinv]
      simp only[show decide (k+1=0)=false from by simp]
      cases Cj (An b) (x.1-1-(k+1)) false y.2<;>simp
   .refine W.exit ?_
    have hk0:x.1-1-k=0:=by omega
    rw[hk0] at hinv
    simp only[Cj,Option.map_some,List.append_nil] at hinv
    have hno:=LD _ _ _ _ hx4 hinv
    have hcr:Cz (An b) p v ref=match CW (An b) q v with
     |none=>none
     |some r=>match Cr ref acc r.1 with
      |some l=>some (l,r.2)
      |none=>none:=by
     simp only[Cz,hg];rw[if_pos (by omega),hinv]
     rfl
    simp only at hno
    subst hacc
    refine z0 ?_;intro K hK
    have sp:=Kk b q v hb (by omega) hv
    cases hr:CW (An b) q v with
    |none=>
     simp only[hr,IK] at sp hcr
     refine Ab.bor sp (by simp) ?_
     rintro _ ⟨xs,a,rfl⟩
     refine⟨by simp,?_⟩
     refine zx ?_
     refine zk ?_;clear hK K
     refine z0 ?_;intro K hK;refine zk ?_;clear hK K
     refine zt ?_
     refine z0 ?_;intro K hK;refine zk ?_;clear hK K
     refine zr ?_
     rw[hcr]
     exact⟨[],0,rfl⟩
    |some r=>
     simp only[hr,IK] at sp hcr
     refine Ab.eq sp (by simp) (by simp) ?_
     refine zx ?_
     refine zk ?_;clear hK K
     refine z0 ?_;intro K hK;refine zk ?_;clear hK K
     refine zn ?_
     refine W.skip ?_
     refine z0 ?_;intro K hK
     have sp:=Se ref acc r.1 href (by omega) (by have:=HO (by omega) hr;omega) (fun z hz=>by have:=hno.2.1 z hz;omega)
     cases hc:Cr ref acc r.1 with
     |none=>
      simp only[hc] at sp hcr
      refine Ab.bor sp (by simp) ?_
      rintro _ ⟨xs,rfl⟩
      refine⟨by simp,?_⟩
      refine zx ?_
      refine zk ?_;clear hK K
      refine z0 ?_;intro K hK;refine zk ?_;clear hK K
      refine zr ?_
      rw[hcr]
      exact⟨xs,r.2,rfl⟩
     |some l=>
      simp only[hc] at sp hcr
      refine Ab.eq sp (by simp) (by simp) ?_
      refine zx ?_
      refine zk ?_;clear hK K
      refine z0 ?_;intro K hK;refine zk ?_;clear hK K
      refine zr ?_
      rw[hcr]
      rfl
end Go.Abs
