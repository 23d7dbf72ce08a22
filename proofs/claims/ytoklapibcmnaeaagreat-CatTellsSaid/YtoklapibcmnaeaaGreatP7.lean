/- Gamma codes: what is read is what is written. No program. -/
import Derived.Test.YtoklapibcmnaeaaGreatP6
import Derived.Shelf.Small.Bits
import Derived.Shelf.Sort.Plain
import Derived.Test.YtoklapibcmnaeaaGreatProg
set_option linter.unusedVariables false
set_option linter.unusedSimpArgs false
namespace Go.Abs
def Iv (v:Nat) (l:List Bool):Nat:=l.foldl (fun v b=>2*v+b.toNat) v
theorem II:∀(l:List Bool) (v:Nat),Iv v l=v*2^l.length+Bn l
 | [],v=>by simp[Iv,Bn]
 |b::l,v=>by
  have h1:=II l (2*v+b.toNat)
  have h2:=II l (2*0+b.toNat)
  have e1:Iv v (b::l)=Iv (2*v+b.toNat) l:=rfl
  have e2:Bn (b::l)=Iv (2*0+b.toNat) l:=rfl
  simp only[Nat.mul_zero,Nat.zero_add] at h2 e2
  rw[e1,e2,h1,h2,List.length_cons,Nat.pow_succ,Nat.add_mul]
  have:2*v*2^l.length=v*(2^l.length*2):=by rw[Nat.mul_comm 2 v,Nat.mul_assoc,Nat.mul_comm 2]
  omega
@[simp] theorem X8:Bn []=0:=rfl
theorem EP (b:Bool) (l:List Bool):Bn (b::l)=b.toNat*2^l.length+Bn l:=by
 have:=II l (2*0+b.toNat)
 have e:Bn (b::l)=Iv (2*0+b.toNat) l:=rfl
 rw[e,this];simp
theorem Rf (l m:List Bool):Bn (l++m)=Bn l*2^m.length+Bn m:=by
 have:Bn (l++m)=Iv (Bn l) m:=by simp[Bn,Iv,List.foldl_append]
 rw[this,II]
theorem PS (l:List Bool) (b:Bool):Bn (l++[b])=2*Bn l+b.toNat:=by
 rw[Rf];simp[EP];omega
theorem FQ:∀l:List Bool,Bn l<2^l.length
 | []=>by simp
 |b::l=>by
  have:=FQ l
  rw[EP,List.length_cons,Nat.pow_succ]
  cases b<;>simp<;>omega
@[simp] theorem OF (v w:Nat):(Bv v w).length=w:=by simp[Bv]
theorem D1 (v w:Nat):Bv v (w+1)=decide (v/2^w%2=1)::Bv v w:=by
 unfold Bv
 rw[List.range_succ_eq_map,List.map_cons,List.map_map]
 congr 1
 apply List.map_congr_left
 intro i hi
 simp only[Function.comp]
 have:w+1-1-(i+1)=w-1-i:=by simp at hi;omega
 rw[show Nat.succ i=i+1 from rfl,this]
theorem HB (v:Nat):∀w k,w≤k→Bv (v%2^k) w=Bv v w
 |0,_,_=>rfl
 |w+1,k,h=>by
  rw[D1,D1,HB v w k (by omega)]
  congr 2
  have:(v%2^k)/2^w%2=v/2^w%2:=by
   have e:k=w+(k-w):=by omega
   rw[e,Nat.pow_add,Nat.mod_mul_right_div_self]
   have:k-w=(k-w-1)+1:=by omega
   rw[this,Nat.pow_succ,Nat.mod_mul_left_mod]
  rw[this]
theorem IR:∀w v,v<2^w→Bn (Bv v w)=v
 |0,v,h=>by simp at h;subst h;rfl
 |w+1,v,h=>by
  rw[D1,EP,OF,←HB v w w (Nat.le_refl _),IR w _ (Nat.mod_lt _ (Nat.pow_pos (by omega)))]
  have h2:v/2^w<2:=by rw[Nat.div_lt_iff_lt_mul (Nat.pow_pos (by omega))];rw[Nat.pow_succ] at h;omega
  have h3:=Nat.div_add_mod v (2^w)
  rcases Nat.lt_or_ge (v/2^w) 1 with h4|h4
  .have e:v/2^w=0:=Nat.lt_one_iff.1 h4
   rw[e] at h3 ⊢;simp at h3 ⊢;exact h3
  .have e:v/2^w=1:=Nat.le_antisymm (Nat.le_of_lt_succ h2) h4
   rw[e] at h3 ⊢;simp at h3 ⊢;omega
theorem IS:∀l:List Bool,Bv (Bn l) l.length=l
 | []=>rfl
 |b::l=>by
  have hl:=FQ l
  have hp:0<2^l.length:=Nat.pow_pos (by omega)
  rw[List.length_cons,D1,←HB _ l.length l.length (Nat.le_refl _),EP]
  have e1:(b.toNat*2^l.length+Bn l)%2^l.length=Bn l:=by rw[Nat.mul_comm,Nat.mul_add_mod,Nat.mod_eq_of_lt hl]
  have e2:(b.toNat*2^l.length+Bn l)/2^l.length=b.toNat:=by
   rw[Nat.mul_comm,Nat.mul_add_div hp,Nat.div_eq_of_lt hl];rfl
  rw[e1,e2,IS l]
  cases b<;>rfl
theorem IT (w:Nat):Bv 0 w=List.replicate w false:=by
 apply List.ext_getElem
 .simp
 .intro i h1 h2;simp[Bv]
theorem KY {n:Nat} (h:1≤n):2^Nat.log2 n≤n∧n<2^(Nat.log2 n+1):=⟨Nat.log2_self_le (by omega),Nat.lt_log2_self⟩
theorem KZ {n q:Nat} (h1:2^q≤n) (h2:n<2^(q+1)):Nat.log2 n=q:=by
 have hp:0<2^q:=Nat.pow_pos (by omega)
 have h0:1≤n:=by omega
 have h:=KY h0
 have a1:Nat.log2 n<q+1:=by
  rcases Nat.lt_or_ge (Nat.log2 n) (q+1) with h' |h'
  .exact h'
  .have:=Nat.pow_le_pow_right (n:=2) (by omega) h';omega
 have a2:q<Nat.log2 n+1:=by
  rcases Nat.lt_or_ge q (Nat.log2 n+1) with h' |h'
  .exact h'
  .have:=Nat.pow_le_pow_right (n:=2) (by omega) h';omega
 omega
theorem Gy (n:Nat):(Ba n).length=2*Nat.log2 n+1:=by simp[Ba];omega
theorem JS {n:Nat} (h:1≤n):∃r:List Bool,r.length=Nat.log2 n∧Ba n=List.replicate (Nat.log2 n) false++true::r∧Bn (true::r)=n:=by
 have hs:=KY h
 refine⟨Bv n (Nat.log2 n),by simp,?_,?_⟩
 .rw[Ba,IT,D1]
  congr 2
  have:n/2^Nat.log2 n=1:=by
   have hp:0<2^Nat.log2 n:=Nat.pow_pos (by omega)
   have h1:n/2^Nat.log2 n<2:=by rw[Nat.div_lt_iff_lt_mul hp];rw[Nat.pow_succ] at hs;omega
   have h2:1≤n/2^Nat.log2 n:=by rw[Nat.le_div_iff_mul_le hp];omega
   omega
  simp[this]
 .have:true::Bv n (Nat.log2 n)=Bv n (Nat.log2 n+1):=by
   rw[D1]
   congr 1
   have:n/2^Nat.log2 n=1:=by
    have hp:0<2^Nat.log2 n:=Nat.pow_pos (by omega)
    have h1:n/2^Nat.log2 n<2:=by rw[Nat.div_lt_iff_lt_mul hp];rw[Nat.pow_succ] at hs;omega
    have h2:1≤n/2^Nat.log2 n:=by rw[Nat.le_div_iff_mul_le hp];omega
    omega
   simp[this]
  rw[this,IR _ _ hs.2]
theorem Jg (q:Nat) (r:List Bool):(List.replicate q false++true::r).findIdx? id=some q:=by
 induction q with
 |zero=>simp[List.findIdx?_cons]
 |succ q ih=>simp[List.replicate_succ,List.findIdx?_cons,ih]
theorem Gz:∀{l:List Bool} {q:Nat},l.findIdx? id=some q→∃r,l=List.replicate q false++true::r
 | [],q,h=>by simp at h
 |true::l,q,h=>by simp[List.findIdx?_cons] at h;subst h;exact⟨l,rfl⟩
 |false::l,q,h=>by
  simp[List.findIdx?_cons] at h
  obtain⟨q',h1,rfl⟩:=h
  obtain⟨r,rfl⟩:=Gz h1
  exact⟨r,by simp[List.replicate_succ]⟩
def FG (l:List Bool) (p x:Nat):List Bool:=(l.drop p).take (x-p)
theorem FR {l:List Bool} {p x y:Nat} (h1:p≤x) (h2:x≤y):FG l p x++FG l x y=FG l p y:=by
 unfold FG
 have e1:(l.drop p).drop (x-p)=l.drop x:=by rw[List.drop_drop];congr 1;omega
 rw[←e1,←List.take_add]
 congr 1;omega
theorem TC {l:List Bool} {p x:Nat} (h:x≤l.length):(FG l p x).length=x-p:=by simp[FG];omega
theorem AJ {l:List Bool} {p:Nat} {r:Nat×Nat} (h:AH l p=some r):1≤r.1∧r.1≤1073741824∧p<r.2∧r.2≤l.length∧FG l p r.2=Ba r.1:=by
 unfold AH ahead at h
 split at h
 .simp at h
 .rename_i q hq
  split at h
  .rename_i hb
   split at h
   .rename_i hn
    simp at h;subst h
    obtain⟨rest,hr⟩:=Gz hq
    have hlen:(l.drop p).length=q+(rest.length+1):=by rw[hr];simp
    have hl2:l.length-p=q+(rest.length+1):=by simpa using hlen
    have e1:(l.drop (p+q)).take (q+1)=true::rest.take q:=by
     rw[←List.drop_drop,hr,List.drop_append]
     simp
    have hrl:(rest.take q).length=q:=by simp;omega
    rw[e1] at hn ⊢
    have hnum:Bn (true::rest.take q)=2^q+Bn (rest.take q):=by rw[EP,hrl];simp
    have hlt:=FQ (rest.take q)
    rw[hrl] at hlt
    have hp:0<2^q:=Nat.pow_pos (by omega)
    have hlog:Nat.log2 (Bn (true::rest.take q))=q:=KZ (by omega) (by rw[Nat.pow_succ];omega)
    refine⟨by simp only;omega,hn,by simp only;omega,hb.2,?_⟩
    simp only
    rw[Ba,hlog,IT]
    have e2:Bv (Bn (true::rest.take q)) (q+1)=true::rest.take q:=by
     have:=IS (true::rest.take q)
     rwa [List.length_cons,hrl] at this
    rw[e2,FG,hr,show p+2*q+1-p=q+(q+1) by omega,List.take_append]
    simp
   .simp at h
  .simp at h
theorem Fz {n m:Nat} {s t:List Bool} (hn:1≤n) (hm:1≤m) (h:Ba n++s=Ba m++t):n=m∧s=t:=by
 obtain⟨r,hr,hf,hnn⟩:=JS hn
 obtain⟨r',hr',hf',hnm⟩:=JS hm
 have e1:(Ba n++s).findIdx? id=some (Nat.log2 n):=by rw[hf,List.append_assoc,List.cons_append];exact Jg _ _
 have e2:(Ba m++t).findIdx? id=some (Nat.log2 m):=by rw[hf',List.append_assoc,List.cons_append];exact Jg _ _
 rw[h,e2] at e1
 have hlog:Nat.log2 m=Nat.log2 n:=by simpa using e1
 have:=List.append_inj h (by rw[Gy,Gy,hlog])
 refine⟨?_,this.2⟩
 have h3:=this.1
 rw[hf,hf',hlog] at h3
 have h4:=List.append_cancel_left h3
 rw[←hnn,←hnm,h4]
theorem NJ (n:Int):Cc (D3 n)=n:=by unfold Cc D3;split<;>split<;>omega
theorem TE (n:Int) (h:0≤n):D3 (Cc n)=n:=by unfold Cc D3;split<;>split<;>omega
theorem FN (n:Int):0≤D3 n:=by unfold D3;split<;>omega
theorem TF {a b:Int} (h:D3 a=D3 b):a=b:=by rw[←NJ a,h,NJ]
end Go.Abs
set_option maxRecDepth 100000
namespace Go.Abs
open Go.Proofs
theorem Jh (a:Int) (h0:0≤a) (h1:a≤9223372036854775807):Cg .and (.int .i64 a) (.int .i64 1)=some (.int .i64 (a%2)):=by
 obtain⟨n,rfl⟩:=Int.eq_ofNat_of_zero_le h0
 have hn:n<2^64:=by omega
 rw[Kt]
 have e1:(BitVec.ofInt IntKind.i64.bits (n:Int)&&&BitVec.ofInt IntKind.i64.bits 1).toNat=n%2:=by
  rw[BitVec.toNat_and]
  have:(BitVec.ofInt IntKind.i64.bits (n:Int)).toNat=n:=by
   rw[BitVec.toNat_ofInt];simp[IntKind.bits] at*;omega
  rw[this]
  have:(BitVec.ofInt IntKind.i64.bits 1).toNat=1:=rfl
  rw[this,Nat.and_one_is_mod]
 rw[e1]
 congr 2
 rw[wrap_i64 (by omega) (by omega)];omega
theorem TG (a b:Int) (h0:0≤a) (h1:a≤4611686018427387903) (hb:b=0∨b=1):Cg .or (.int .i64 (a*2)) (.int .i64 b)=some (.int .i64 (2*a+b)):=by
 obtain⟨n,rfl⟩:=Int.eq_ofNat_of_zero_le h0
 rw[UD]
 have e1:(BitVec.ofInt IntKind.i64.bits ((n:Int)*2) |||BitVec.ofInt IntKind.i64.bits b).toNat=(2*n+b).toNat:=by
  rw[BitVec.toNat_or]
  have:(BitVec.ofInt IntKind.i64.bits ((n:Int)*2)).toNat=2^1*n:=by
   rw[BitVec.toNat_ofInt];simp[IntKind.bits] at*;omega
  rw[this]
  rcases hb with rfl|rfl
  .have:(BitVec.ofInt IntKind.i64.bits 0).toNat=0:=rfl
   rw[this,←Nat.two_pow_add_eq_or_of_lt (by omega)];omega
  .have:(BitVec.ofInt IntKind.i64.bits 1).toNat=1:=rfl
   rw[this,←Nat.two_pow_add_eq_or_of_lt (by omega)];omega
 rw[e1]
 congr 2
 have:((2*(n:Int)+b).toNat:Int)=2*n+b:=by rcases hb with rfl|rfl<;>omega
 rw[this,wrap_i64 (by rcases hb with rfl|rfl<;>omega) (by rcases hb with rfl|rfl<;>omega)]
theorem GA (s:ByteArray) (i:Nat):CJ s i<256:=by
 unfold CJ
 split
 .exact UInt8.toNat_lt _
 .omega
@[simp] theorem X9 (a:Int) (k:Nat):a.fdiv (2^k)=a/2^k:=Int.fdiv_eq_ediv_of_nonneg a (Int.le_of_lt (Int.pow_pos (by omega)))
theorem NK (d:ByteArray) (i:Nat):((CJ d (i/8):Int)/2^(7-(i:Int)%8).toNat)%2=if Ed d i=true then 1 else 0:=by
 have e:(7-(i:Int)%8).toNat=7-i%8:=by omega
 rw[e]
 have h2:((CJ d (i/8):Int)/2^(7-i%8))%2=((CJ d (i/8)/2^(7-i%8)%2:Nat):Int):=by
  rw[Int.natCast_emod,Int.natCast_ediv,Int.natCast_pow];rfl
 rw[h2]
 unfold Ed
 have h3:CJ d (i/8)/2^(7-i%8)%2<2:=Nat.mod_lt _ (by omega)
 split
 .rename_i h;simp at h;simp[h]
 .rename_i h;simp at h;omega
theorem Ml (d:ByteArray) (i k:Nat):0≤(CJ d i:Int)/2^k∧(CJ d i:Int)/2^k≤255:=by
 have h:=GA d i
 have e:(CJ d i:Int)/2^k=((CJ d i/2^k:Nat):Int):=by rw[Int.natCast_ediv,Int.natCast_pow];rfl
 rw[e]
 have:CJ d i/2^k≤CJ d i:=Nat.div_le_self _ _
 generalize CJ d i/2^k=z at*
 omega
@[simp] theorem Ya:IntKind.bits .i64=64:=rfl
@[simp] theorem Zm:IntKind.bits .u8=8:=rfl
@[simp] theorem Yb:IntKind.bits .u32=32:=rfl
@[simp] theorem Yc:IntKind.bits .u64=64:=rfl
theorem RM (b:CL) (i:Nat) (hn:b.data.size<1000000000000) (hi:i/8<b.data.size):Aa pg 270 [.agg (Ch b),.int .i64 i] [] (fun r _=>r= .int .i64 (if Ed b.data i=true then 1 else 0)):=by
 refine Aa.start (fn:=Tryz.f270) [.tmp 4] tk rfl rfl rfl (by kernel_rfl) (Nat.le_of_ble_eq_true rfl) rfl (by kernel_rfl) ?_
 rw[Am]
 refine z1 ?_;intro K hK;refine zk ?_;clear hK K
 refine z0 ?_;intro K hK
 refine⟨by omega,?_⟩
 have h3:=Ml b.data (i/8) (7-(i:Int)%8).toNat
 have e1:((i:Int)/8).toNat=i/8:=by omega
 rw[e1,wrap_i64 (by omega) (by omega),Jh _ h3.1 (by omega),NK]
 simp
 refine zk ?_;clear hK K
 exact zR
def nb (o:Option Nat):Int:=match o with|some q=>(q:Int) |none=>-1
theorem JT {l:List Bool} {p k:Nat} (hk:p+k<l.length) (h:(l.drop p).take k=List.replicate k false):(l[p+k]=true→ahead l p=some k)∧(l[p+k]=false→(l.drop p).take (k+1)=List.replicate (k+1) false):=by
 have e:l.drop p=List.replicate k false++l[p+k]::l.drop (p+k+1):=by
  rw[←List.take_append_drop k (l.drop p),h,List.drop_drop,List.drop_eq_getElem_cons hk]
 refine⟨fun h1=>?_,fun h1=>?_⟩
 .unfold ahead;rw[e,h1];exact Jg _ _
 .rw[e,h1,List.take_append];simp[List.replicate_succ']
theorem K0 {l:List Bool} {p k:Nat} (hk:l.length≤p+k) (h:(l.drop p).take k=List.replicate k false):ahead l p=none:=by
 have e:l.drop p=List.replicate k false:=by rw[←h,List.take_of_length_le];simp;omega
 unfold ahead
 rw[e,List.findIdx?_eq_none_iff]
 intro x hx
 rw[List.eq_of_mem_replicate hx];rfl
theorem BT (b:CL):(Ao b).length=b.n.toNat:=by simp[Ao]
theorem K3 (b:CL) {i:Nat} (h:i<(Ao b).length):(Ao b)[i]=Ed b.data i:=by simp[Ao]
def C2 (b:CL):Prop:=0≤b.n∧b.n≤8*b.data.size∧b.data.size<1000000000
theorem TH (b:CL) (p:Nat) (hb:C2 b) (hp:p<100000000000):Aa pg 257 [.agg (Ch b),.int .i64 p] [] (fun r _=>r= .int .i64 (nb (ahead (Ao b) p))):=by
 obtain⟨h0,h1,h2⟩:=hb
 have hl:=BT b
 refine Aa.start (fn:=Tryz.f257) [.tmp 4] tk rfl rfl rfl (by kernel_rfl) (Nat.le_of_ble_eq_true rfl) rfl (by kernel_rfl) ?_
 rw[Am]
 refine z1 ?_;intro K hK;refine zk ?_;clear hK K
 refine z0 ?_;intro K hK;refine zk ?_;clear hK K
 (repeat refine W.seq ?_);refine W.block (W.loopS (fun k:Nat=> [(1,.int .i64 p),(2,.ptr 0 0 0),(5,.int .i64 (p+k:Nat))]) (fun _=> [.live 0 (Ch b)]) (fun k=>b.n.toNat-p-k) (fun k=>k≤b.n.toNat-p∧((Ao b).drop p).take k=List.replicate k false) 0 (Wk.fr ?_) (by simp) ?_)
 .simp[Ac]
 .rintro k ⟨hk,hz⟩
  refine z0 ?_;intro K hK;refine zk ?_;clear hK K
  refine zc ?_ ?_<;>intro h
  .refine W.skip ?_
   refine zb ?_
   have hlt:p+k<(Ao b).length:=by omega
   have hs:=JT hlt hz
   rw[K3 b hlt] at hs
   refine z0 ?_;intro K hK
   refine Ab.eq (RM b (p+k) (by omega) (by omega)) (by simp) (by simp) ?_
   refine zx ?_
   refine zk ?_;clear hK K
   refine zc ?_ ?_<;>intro h
   .refine z0 ?_;intro K hK;refine zk ?_;clear hK K
    refine zr ?_
    rw[hs.1 h];simp[nb];omega
   .refine W.skip ?_
    refine z0 ?_;intro K hK;refine zk ?_;clear hK K
    refine⟨k+1,by omega,⟨by omega,hs.2 h⟩,Wk.fr ?_⟩
    simp[Ac];omega
  .refine W.exit ?_
   refine z0 ?_;intro K hK;refine zk ?_;clear hK K
   refine zr ?_
   rw[K0 (by omega) hz];rfl
theorem K4 {l:List Bool} {p k w:Nat} (hk:p+k<l.length):Bn ((l.drop p).take (k+1))=2*Bn ((l.drop p).take k)+(l[p+k]).toNat:=by
 rw[List.take_add_one,List.getElem?_drop,List.getElem?_eq_getElem hk]
 exact PS _ _
theorem UZ (b:CL) (p w:Nat) (hb:C2 b) (hp:p<100000000000) (hw:w≤40):Aa pg 258 [.agg (Ch b),.int .i64 p,.int .i64 w] [] (fun r _=>r=if p+w≤b.n.toNat then .tup [.int .i64 (Bn (((Ao b).drop p).take w)),.bool true] else .tup [.int .i64 0,.bool false]):=by
 obtain⟨h0,h1,h2⟩:=hb
 have hl:=BT b
 refine Aa.start (fn:=Tryz.f258) [.tmp 6,.tmp 7] tk rfl rfl rfl (by kernel_rfl) (Nat.le_of_ble_eq_true rfl) rfl (by kernel_rfl) ?_
 rw[Bq]
 refine z1 ?_;intro K hK;refine zk ?_;clear hK K
 refine z0 ?_;intro K hK
 refine⟨fun h1=>?_,fun h1=>?_⟩
 .refine zk ?_;clear hK K
  refine zc ?_ ?_<;>intro h
  .refine z0 ?_;intro K hK;refine zk ?_;clear hK K
   refine zr ?_
   omega
  .refine W.skip ?_
   refine z0 ?_;intro K hK;refine zk ?_;clear hK K
   refine z0 ?_;intro K hK;refine zk ?_;clear hK K
   (repeat refine W.seq ?_);refine W.block (W.loopS (fun k:Nat=> [(1,.int .i64 p),(2,.int .i64 w),(3,.ptr 0 0 0),(8,.int .i64 (Bn (((Ao b).drop p).take k))),(22,.int .i64 w),(23,.int .i64 k)]) (fun _=> [.live 0 (Ch b)]) (fun k=>w-k) (fun k=>k≤w) 0 (Wk.fr ?_) (by simp) ?_)
   .simp[Ac]
   .intro k hk
    refine z0 ?_;intro K hK;refine zk ?_;clear hK K
    refine zc ?_ ?_<;>intro h
    .refine W.skip ?_
     have hlt:p+k<(Ao b).length:=by omega
     have hs:=K4 (l:=Ao b) (p:=p) (k:=k) (w:=w) hlt
     rw[K3 b hlt] at hs
     have hlt2:=FQ (((Ao b).drop p).take k)
     have hpw:2^(((Ao b).drop p).take k).length≤2^40:=Nat.pow_le_pow_right (by omega) (by simp;omega)
     generalize 2^(((Ao b).drop p).take k).length=z at*
     refine zb ?_
     refine z0 ?_;intro K hK;refine zk ?_;clear hK K
     refine z0 ?_;intro K hK
     refine Ab.eq (RM b (p+k) (by omega) (by omega)) (by simp) (by simp) ?_
     refine zx ?_
     rw[TG _ _ (by omega) (by omega) (by split<;>simp)]
     simp
     refine zk ?_;clear hK K
     refine z0 ?_;intro K hK;refine zk ?_;clear hK K
     refine⟨k+1,by omega,by omega,Wk.fr ?_⟩
     simp[Ac,hs]
     cases Ed b.data (p+k)<;>rfl
    .refine W.exit ?_
     refine z0 ?_;intro K hK;refine zk ?_;clear hK K
     refine W.ret ?_;simp only[Cb,CT,Cp];refine Cd (d:=0) ?_;simp -implicitDefEqProofs (maxSteps:=999999) (disch:=omega)
     have:k=w:=by omega
     rw[this]
 .refine zk ?_;clear hK K
  refine zt ?_
  refine z0 ?_;intro K hK;refine zk ?_;clear hK K
  refine zr ?_
  omega
end Go.Abs
set_option maxRecDepth 100000
namespace Go.Abs
open Go.Proofs
@[simp] def HC (b:CL) (p:Int) (bad:Bool):List AV:=[.str b.data,.int .i64 b.n,.int .i64 p,.bool bad]
def JU (l:List Bool) (p most:Nat):Option Nat:=match ahead l p with|some q=>if q≤most then some q else none|none=>none
theorem Mm {l:List Bool} {p q:Nat} (h:ahead l p=some q):p+q<l.length:=by
 obtain⟨r,hr⟩:=Gz h
 have:=congrArg List.length hr
 simp at this;omega
theorem TJ (b:CL) (p most v:Nat) (hb:C2 b) (hp:p<100000000000) (hm:most<100000):Aa pg 251 [.ptr 0 v 0,.int .i64 most] [.live v (HC b p false)] (fun r M=>match JU (Ao b) p most with|some q=>r= .int .i64 q∧M=[.live v (HC b (p+q:Nat) false)] |none=>r= .int .i64 0∧M=[.live v (HC b p true)]):=by
 have hl:=BT b
 obtain⟨h0,h1,h2⟩:=hb
 refine Aa.start (fn:=Tryz.f251) [.tmp 4] tk rfl rfl rfl (by kernel_rfl) (Nat.le_of_ble_eq_true rfl) rfl (by kernel_rfl) ?_
 rw[Am]
 refine z0 ?_;intro K hK;refine zk ?_;clear hK K
 refine B8 ?_;intro K hK
 refine Ah.eq (TH b p ⟨h0,h1,h2⟩ hp) (by simp) (by simp) ?_
 refine zx ?_
 refine zk ?_;clear hK K
 unfold JU
 cases hq:ahead (Ao b) p with
 |none=>
  simp[nb]
  refine z0 ?_;intro K hK;refine zk ?_;clear hK K
  refine zt ?_
  refine z0 ?_;intro K hK;refine zk ?_;clear hK K
  refine z0 ?_;intro K hK;refine zk ?_;clear hK K
  exact zR
 |some q=>
  have:=Mm hq
  simp[nb]
  refine z0 ?_;intro K hK;refine zk ?_;clear hK K
  refine zc ?_ ?_<;>intro h
  .refine z0 ?_;intro K hK;refine zk ?_;clear hK K
   refine z0 ?_;intro K hK;refine zk ?_;clear hK K
   refine zr ?_
   rw[if_neg (by omega)];trivial
  .refine W.skip ?_
   refine z0 ?_;intro K hK;refine zk ?_;clear hK K
   refine z0 ?_;intro K hK;refine zk ?_;clear hK K
   exact zR
theorem Mn (b:CL) (p w v:Nat) (bad:Bool) (hb:C2 b) (hp:p<100000000000) (hw:w≤40):Aa pg 252 [.ptr 0 v 0,.int .i64 w] [.live v (HC b p bad)] (fun r M=>if bad=false∧p+w≤b.n.toNat then r= .int .i64 (Bn (((Ao b).drop p).take w))∧M=[.live v (HC b (p+w:Nat) false)] else r= .int .i64 0∧M=[.live v (HC b p true)]):=by
 have hl:=BT b
 obtain⟨h0,h1,h2⟩:=hb
 refine Aa.start (fn:=Tryz.f252) [.tmp 4] tk rfl rfl rfl (by kernel_rfl) (Nat.le_of_ble_eq_true rfl) rfl (by kernel_rfl) ?_
 rw[Am]
 refine z0 ?_;intro K hK;refine zk ?_;clear hK K
 refine B8 ?_;intro K hK
 have sp:=UZ b p w ⟨h0,h1,h2⟩ hp hw
 by_cases hc:p+w≤b.n.toNat
 .simp only[hc,if_true] at sp
  refine Ah.eq sp (by simp) (by simp) ?_
  refine zx ?_
  refine zk ?_;clear hK K
  cases bad
  . (repeat refine W.seq ?_);refine W.reg 0 rfl fun K hK=>?_;simp -implicitDefEqProofs (maxSteps:=999999) (disch:=omega);(repeat refine⟨by first|assumption|omega,?_⟩);refine hK _ _ ?_;clear hK K
    refine zn ?_
    refine W.skip ?_
    refine z0 ?_;intro K hK;refine zk ?_;clear hK K
    refine z0 ?_;intro K hK;refine zk ?_;clear hK K
    refine W.ret ?_;simp only[Cb,CT,Cp];refine Cd (d:=0) ?_;simp -implicitDefEqProofs (maxSteps:=999999) (disch:=omega)
    try omega
  .refine z0 ?_;intro K hK;refine zk ?_;clear hK K
   refine zt ?_
   refine z0 ?_;intro K hK;refine zk ?_;clear hK K
   refine z0 ?_;intro K hK;refine zk ?_;clear hK K
   exact zR
 .simp only[hc,if_false] at sp
  refine Ah.eq sp (by simp) (by simp) ?_
  refine zx ?_
  refine zk ?_;clear hK K
  cases bad
  .refine z0 ?_;intro K hK;refine zk ?_;clear hK K
   refine zt ?_
   refine z0 ?_;intro K hK;refine zk ?_;clear hK K
   refine z0 ?_;intro K hK;refine zk ?_;clear hK K
   refine zr ?_
   omega
  .refine z0 ?_;intro K hK;refine zk ?_;clear hK K
   refine zt ?_
   refine z0 ?_;intro K hK;refine zk ?_;clear hK K
   refine z0 ?_;intro K hK;refine zk ?_;clear hK K
   exact zR
def E3 (l:List Bool) (p:Nat):Option (Nat×Nat):=match ahead l p with
 |some q=>if q≤30∧p+2*q+1≤l.length then some (Bn ((l.drop (p+q)).take (q+1)),p+2*q+1) else none
 |none=>none
theorem OG (l:List Bool) (p:Nat):AH l p=match E3 l p with|some x=>if x.1≤1073741824 then some x else none|none=>none:=by
 unfold AH E3
 cases ahead l p with
 |none=>rfl
 |some q=>
  simp only
  split
  .split<;>simp_all
  .simp
theorem TK {l:List Bool} {p:Nat} {x:Nat×Nat} (h:E3 l p=some x):x.1<2147483648∧x.2≤l.length:=by
 unfold E3 at h
 split at h
 .rename_i q hq
  split at h
  .rename_i hb
   simp at h;subst h
   have h1:=FQ ((l.drop (p+q)).take (q+1))
   have h2:2^((l.drop (p+q)).take (q+1)).length≤2^31:=Nat.pow_le_pow_right (by omega) (by simp;omega)
   simp only
   generalize 2^((l.drop (p+q)).take (q+1)).length=z at*
   exact⟨by omega,hb.2⟩
  .simp at h
 .simp at h
theorem TL (b:CL) (p v:Nat) (hb:C2 b) (hp:p<50000000000):Aa pg 241 [.ptr 0 v 0] [.live v (HC b p false)] (fun r M=>match E3 (Ao b) p with|some x=>r= .int .i64 x.1∧M=[.live v (HC b x.2 false)] |none=>∃p',r= .int .i64 0∧M=[.live v (HC b p' true)]):=by
 have hl:=BT b
 refine Aa.start (fn:=Tryz.f241) [.tmp 2] tk rfl rfl rfl (by kernel_rfl) (Nat.le_of_ble_eq_true rfl) rfl (by kernel_rfl) ?_
 rw[At]
 refine z0 ?_;intro K hK;refine zk ?_;clear hK K
 refine z0 ?_;intro K hK
 have sp:=TJ b p 30 v hb (by omega) (by omega)
 cases hq:ahead (Ao b) p with
 |none=>
  have hg:E3 (Ao b) p=none:=by unfold E3;rw[hq]
  simp only[JU,hq] at sp
  rw[hg] at hK
  refine Ab.pass [0] sp (by simp) (by simp) (by simp) (by simp) ?_
  rintro r M ⟨rfl,rfl⟩ _
  refine zx ?_
  refine zk ?_;clear hK K
  refine z0 ?_;intro K hK
  refine Ab.pass [0] (Mn b p 1 v true hb (by omega) (by omega)) (by simp) (by simp) (by simp) (by simp) ?_
  refine zx ?_
  refine zk ?_;clear hK K
  exact zR
 |some q=>
  have:=Mm hq
  have h2:=hb.2.1;have h3:=hb.2.2
  simp only[JU,hq] at sp
  by_cases h:q≤30
  .simp only[h,if_true] at sp
   refine Ab.pass [0] sp (by simp) (by simp) (by simp) (by simp) ?_
   rintro r M ⟨rfl,rfl⟩ _
   refine zx ?_
   refine zk ?_;clear hK K
   refine z0 ?_;intro K hK
   have sp:=Mn b (p+q) (q+1) v false hb (by omega) (by omega)
   by_cases hx:p+q+(q+1)≤b.n.toNat
   .have hg:E3 (Ao b) p=some (Bn (((Ao b).drop (p+q)).take (q+1)),p+2*q+1):=by unfold E3;rw[hq];simp only;rw[if_pos ⟨h,by omega⟩]
    simp only[hx,true_and,if_true] at sp
    refine Ab.pass [0] sp (by simp) (by simp) (by simp) (by simp) ?_
    rintro r M ⟨rfl,rfl⟩ _
    refine zx ?_
    refine zk ?_;clear hK K
    refine zr ?_
    simp[hg];omega
   .have hg:E3 (Ao b) p=none:=by unfold E3;rw[hq];simp only;rw[if_neg (by omega)]
    simp only[hx,and_false,if_false] at sp
    refine Ab.pass [0] sp (by simp) (by simp) (by simp) (by simp) ?_
    rintro r M ⟨rfl,rfl⟩ _
    refine zx ?_
    refine zk ?_;clear hK K
    refine zr ?_
    simp[hg]
  .have hg:E3 (Ao b) p=none:=by unfold E3;rw[hq];simp only;rw[if_neg (by omega)]
   simp only[h,if_false] at sp
   refine Ab.pass [0] sp (by simp) (by simp) (by simp) (by simp) ?_
   rintro r M ⟨rfl,rfl⟩ _
   refine zx ?_
   refine zk ?_;clear hK K
   refine z0 ?_;intro K hK
   refine Ab.pass [0] (Mn b p 1 v true hb (by omega) (by omega)) (by simp) (by simp) (by simp) (by simp) ?_
   refine zx ?_
   refine zk ?_;clear hK K
   refine zr ?_
   simp[hg]
def E8 (o:Option (Nat×Nat)):AV:=match o with|some x=> .tup [.int .i64 x.1,.int .i64 x.2,.bool true] |none=> .tup [.int .i64 0,.int .i64 0,.bool false]
theorem FA (b:CL) (p:Nat) (hb:C2 b) (hp:p<50000000000):Aa pg 220 [.agg (Ch b),.int .i64 p,.int .i64 2] [] (fun r _=>r=E8 (AH (Ao b) p)):=by
 have hl:=BT b
 have h2:=hb.2.1;have h3:=hb.2.2
 rw[OG]
 refine Aa.start (fn:=Tryz.f220) [.tmp 6,.tmp 7,.tmp 8] tk rfl rfl rfl (by kernel_rfl) (Nat.le_of_ble_eq_true rfl) rfl (by kernel_rfl) ?_
 rw[Bq]
 refine z1 ?_;intro K hK;refine zk ?_;clear hK K
 refine z1 ?_;intro K hK;refine zk ?_;clear hK K
 refine z0 ?_;intro K hK;refine zk ?_;clear hK K
 refine z0 ?_;intro K hK;refine zk ?_;clear hK K
 refine zb ?_
 refine z0 ?_;intro K hK;refine zk ?_;clear hK K
 refine zn ?_
 refine z0 ?_;intro K hK;refine zk ?_;clear hK K
 refine zt ?_
 refine z0 ?_;intro K hK
 have sp:=TL b p 0 hb hp
 cases hg:E3 (Ao b) p with
 |none=>
  simp only[hg] at sp
  refine Ab.pass [1] sp (by simp) (by simp) (by simp) (by simp) ?_
  rintro r M ⟨p',rfl,rfl⟩ _
  refine zx ?_
  refine zk ?_;clear hK K
  refine z0 ?_;intro K hK;refine zk ?_;clear hK K
  refine zt ?_
  refine z0 ?_;intro K hK;refine zk ?_;clear hK K
  refine zr ?_
  simp[hg,E8]
 |some x=>
  have hx:=TK hg
  simp only[hg] at sp
  refine Ab.pass [1] sp (by simp) (by simp) (by simp) (by simp) ?_
  rintro r M ⟨rfl,rfl⟩ _
  refine zx ?_
  refine zk ?_;clear hK K
  refine z0 ?_;intro K hK;refine zk ?_;clear hK K
  refine zc ?_ ?_<;>intro h
  .refine z0 ?_;intro K hK;refine zk ?_;clear hK K
   refine zr ?_
   rw[hg];simp only;rw[if_neg (by omega)];rfl
  .refine W.skip ?_
   refine B8 ?_;intro K hK;refine zk ?_;clear hK K
   refine zr ?_
   rw[hg];simp only;rw[if_pos (by omega)];rfl
end Go.Abs
set_option maxRecDepth 100000
namespace Go.Abs
open Go.Proofs
theorem Mo (n:Int):Aa pg 236 [.int .i64 n] [] (fun r _=>r= .bool (decide (0≤n∧n<16))):=by
 refine Aa.start (fn:=Tryz.f236) [.tmp 2] tk rfl rfl rfl (by kernel_rfl) (Nat.le_of_ble_eq_true rfl) rfl (by kernel_rfl) ?_
 rw[At]
 refine z0 ?_;intro K hK;refine zk ?_;clear hK K
 refine z0 ?_;intro K hK
 refine⟨fun h=>?_,fun h=>?_⟩
 .refine zk ?_;clear hK K
  exact zR
 .refine zk ?_;clear hK K
  exact zR
theorem Mp {l:List Int} (k:Nat) (h:AI l):AI (l.take k):=⟨fun x hx=>h.1 x (List.mem_of_mem_take hx),h.2.sublist (List.take_sublist _ _)⟩
theorem Mq {l:List Int} {k:Nat} (hk:k<l.length) (h:AI (l.take k)):AI (l.take (k+1))↔(0≤l[k]∧l[k]<16)∧(0<k→l[k-1]<l[k]):=by
 rw[List.take_add_one,List.getElem?_eq_getElem hk]
 constructor
 .intro⟨h1,h2⟩
  refine⟨h1 _ (List.mem_append_right _ (by simp)),fun h0=>?_⟩
  rw[Option.toList_some,List.pairwise_append] at h2
  refine h2.2.2 _ ?_ _ (by simp)
  rw[List.mem_take_iff_getElem]
  exact⟨k-1,by omega,rfl⟩
 .intro⟨h1,h2⟩
  refine⟨fun x hx=>?_,?_⟩
  .rcases List.mem_append.1 hx with hx' |hx'
   .exact h.1 x hx'
   .simp at hx';subst hx';exact h1
  .rw[Option.toList_some,List.pairwise_append]
   refine⟨h.2,by simp,fun x hx y hy=>?_⟩
   simp at hy;subst hy
   obtain⟨i,hi,rfl⟩:=List.mem_take_iff_getElem.1 hx
   have h3:=h2 (by omega)
   by_cases e:i=k-1
   .subst e;exact h3
   .have:=List.pairwise_iff_getElem.1 h.2 i (k-1) (by simp;omega) (by simp;omega) (by omega)
    simp at this
    omega
theorem Lx (l:List Int) (hl:l.length<1000000000000):Aa pg 215 [.ro l.length (Ad l)] [] (fun r _=>r= .bool (decide (AI l))):=by
 refine Aa.start (fn:=Tryz.f215) [.tmp 2] tk rfl rfl rfl (by kernel_rfl) (Nat.le_of_ble_eq_true rfl) rfl (by kernel_rfl) ?_
 rw[At]
 refine z0 ?_;intro K hK;refine zk ?_;clear hK K
 refine z0 ?_;intro K hK;refine zk ?_;clear hK K
 (repeat refine W.seq ?_);refine W.block (W.loopS (fun k:Nat=> [(0,.ro l.length (Ad l)),(5,.ro l.length (Ad l)),(6,.int .i64 l.length),(7,.int .i64 k)]) (fun _=> []) (fun k=>l.length-k) (fun k=>k≤l.length∧AI (l.take k)) 0 (Wk.fr ?_) (by simp[AI]) ?_)
 .simp[Ac]
 .rintro k ⟨hk,hm⟩
  refine z0 ?_;intro K hK;refine zk ?_;clear hK K
  refine zc ?_ ?_<;>intro h
  .refine W.skip ?_
   have hs:=Mq h hm
   refine zb ?_
   refine z0 ?_;intro K hK;refine zk ?_;clear hK K
   (repeat refine W.seq ?_);refine W.midS (fun b:Bool=> [(0,.ro l.length (Ad l)),(5,.ro l.length (Ad l)),(6,.int .i64 l.length),(7,.int .i64 k),(27,.bool b)]) (fun _=> []) (fun b=>b=false↔AI (l.take (k+1))) ?_ ?_
   .refine z0 ?_;intro K hK
    refine Ab.eq (Mo l[k]) (by simp) (by simp) ?_
    refine zx ?_
    refine⟨fun h1 h2=>⟨fun h3=>?_,fun h3=>?_⟩,fun h1=>?_⟩
    .refine zk ?_;clear hK K
     refine⟨decide (l[k]≤l[k-1]),?_,Wk.fr (by simp[Ac])⟩
     rw[hs];simp[h1,h2,h3]
    .refine zk ?_;clear hK K
     refine⟨false,?_,Wk.fr (by simp[Ac])⟩
     rw[hs];exact⟨fun _=>⟨⟨h1,h2⟩,fun h=>by omega⟩,fun _=>rfl⟩
    .refine zk ?_;clear hK K
     refine⟨true,?_,Wk.fr (by simp[Ac])⟩
     rw[hs];simp;omega
   .intro b hb
    refine zc ?_ ?_<;>intro h
    .refine z0 ?_;intro K hK;refine zk ?_;clear hK K
     refine zr ?_
     intro h';have:=Mp (k+1) h';simp_all
    .refine W.skip ?_
     refine z0 ?_;intro K hK;refine zk ?_;clear hK K
     refine⟨k+1,by omega,⟨by omega,hb.1 h⟩,Wk.fr (by simp[Ac])⟩
  .refine W.exit ?_
   refine z0 ?_;intro K hK;refine zk ?_;clear hK K
   refine zr ?_
   have:k=l.length:=by omega
   subst this;simpa using hm
theorem Mr (n:Int) (h0:0≤n) (h1:n≤4611686018427387904):Aa pg 244 [.int .i64 n] [] (fun r _=>r= .int .i64 (Cc n)):=by
 refine Aa.start (fn:=Tryz.f244) [.tmp 2] tk rfl rfl rfl (by kernel_rfl) (Nat.le_of_ble_eq_true rfl) rfl (by kernel_rfl) ?_
 rw[At]
 refine z0 ?_;intro K hK;refine zk ?_;clear hK K
 refine z0 ?_;intro K hK;refine zk ?_;clear hK K
 refine zc ?_ ?_<;>intro h
 .refine z0 ?_;intro K hK;refine zk ?_;clear hK K
  refine zr ?_
  simp[Cc,h]
 .refine W.skip ?_
  refine z0 ?_;intro K hK;refine zk ?_;clear hK K
  refine zr ?_
  simp[Cc,h]
theorem G2 (xs ys:List Int) (hx:xs.length<4611686018427387904):Aa pg 226 [.ro xs.length (Ad xs),.ro ys.length (Ad ys)] [] (fun r _=>r= .bool (decide (xs=ys))):=by
 refine Aa.start (fn:=Tryz.f226) [.tmp 4] tk rfl rfl rfl (by kernel_rfl) (Nat.le_of_ble_eq_true rfl) rfl (by kernel_rfl) ?_
 rw[Am]
 refine zs ?_
 refine zs ?_
 refine zc ?_ ?_<;>intro h
 .refine zs ?_
  refine zr ?_
  intro e;exact h (by rw[e])
 .refine W.skip ?_
  have hl:xs.length=ys.length:=by omega
  refine zs ?_
  (repeat refine W.seq ?_);refine W.block (W.loopS (fun k:Nat=> [(0,.ro xs.length (Ad xs)),(1,.ro ys.length (Ad ys)),(12,.int .i64 xs.length),(13,.int .i64 k)]) (fun _=> []) (fun k=>xs.length-k) (fun k=>k≤xs.length∧xs.take k=ys.take k) 0 (Wk.fr ?_) (by simp) ?_)
  .simp[Ac]
  .rintro k ⟨hk,ht⟩
   refine zs ?_
   refine zc ?_ ?_<;>intro h
   .refine W.skip ?_
    have hlt:k<xs.length:=by omega
    have hlt' :k<ys.length:=by omega
    refine zb ?_
    refine zs ?_
    refine B8 ?_;intro K hK
    refine zk ?_;clear hK K
    refine zc ?_ ?_<;>intro h
    .refine zs ?_
     refine zr ?_
     intro e;subst e;exact h rfl
    .refine W.skip ?_
     refine zs ?_
     refine⟨k+1,by omega,⟨by omega,?_⟩,Wk.fr ?_⟩
     .rw[List.take_add_one,List.take_add_one,ht];simp[hlt,hlt',h]
     .simp[Ac]
   .refine W.exit ?_
    have hk' :k=xs.length:=by omega
    subst hk'
    refine zs ?_
    refine zr ?_
    rw[List.take_length,hl,List.take_length] at ht
    simp[ht]
theorem Eg {α:Type} {f:α→Bool} {l:List α} {k:Nat} (hk:k<l.length) (h:f l[k]=true) (hm:∀i (h:i<l.length),i<k→f l[i]=false):BM f l=k:=by
 unfold BM
 rw[List.findIdx?_eq_some_iff_getElem.2 ⟨hk,h,fun j hj=>by rw[hm j (by omega) hj];decide⟩]
theorem DK {α:Type} {f:α→Bool} {l:List α} (hm:∀i (h:i<l.length),f l[i]=false):BM f l=-1:=by
 unfold BM
 rw[List.findIdx?_eq_none_iff.2 fun x hx=>by obtain⟨i,hi,rfl⟩:=List.mem_iff_getElem.1 hx;exact hm i hi]
theorem Cw {α:Type} {f:α→Bool} {l:List α}:0≤BM f l↔∃x∈l,f x=true:=by
 unfold BM
 cases h:l.findIdx? f with
 |none=>
  rw[List.findIdx?_eq_none_iff] at h
  simp only[show¬(0:Int)≤-1 by omega,false_iff]
  rintro⟨x,hx,hf⟩
  rw[h x hx] at hf;simp at hf
 |some i=>
  obtain⟨hi,hf,_⟩:=List.findIdx?_eq_some_iff_getElem.1 h
  simp only[Int.natCast_nonneg,true_iff]
  exact⟨l[i],List.getElem_mem hi,hf⟩
theorem TM (xs:List Int) (x:Int) (hx:xs.length<4611686018427387904):Aa pg 158 [.ro xs.length (Ad xs),.int .i64 x] [] (fun r _=>r= .int .i64 (BM (fun y=>decide (y=x)) xs)):=by
 refine Aa.start (fn:=Tryz.f158) [.tmp 4] tk rfl rfl rfl (by kernel_rfl) (Nat.le_of_ble_eq_true rfl) rfl (by kernel_rfl) ?_
 rw[Am]
 refine zs ?_
 refine zs ?_
 (repeat refine W.seq ?_);refine W.block (W.loopS (fun k:Nat=> [(0,.ro xs.length (Ad xs)),(1,.int .i64 x),(7,.int .i64 xs.length),(8,.int .i64 k)]) (fun _=> []) (fun k=>xs.length-k) (fun k=>k≤xs.length∧∀i (h:i<xs.length),i<k→xs[i]≠x) 0 (Wk.fr ?_) (by simp) ?_)
 .simp[Ac]
 .rintro k ⟨hk,ht⟩
  refine zs ?_
  refine zc ?_ ?_<;>intro h
  .refine W.skip ?_
   refine zb ?_
   refine zs ?_
   refine zs ?_
   refine zc ?_ ?_<;>intro h
   .refine zs ?_
    refine zr ?_
    exact(Eg (by omega) (by simp[h]) fun i hi hik=>by simpa using ht i hi hik).symm
   .refine W.skip ?_
    refine zs ?_
    refine⟨k+1,by omega,⟨by omega,?_⟩,Wk.fr (by simp[Ac])⟩
    intro i hi hik
    by_cases e:i=k
    .subst e;exact fun e=>h e.symm
    .exact ht i hi (by omega)
  .refine W.exit ?_
   refine zs ?_
   refine zr ?_
   exact(DK fun i hi=>by simpa using ht i hi (by omega)).symm
theorem E4 (xs:List Int) (x:Int) (hx:xs.length<4611686018427387904):Aa pg 116 [.ro xs.length (Ad xs),.int .i64 x] [] (fun r _=>r= .bool (xs.contains x)):=by
 refine Aa.start (fn:=Tryz.f116) [.tmp 4] tk rfl rfl rfl (by kernel_rfl) (Nat.le_of_ble_eq_true rfl) rfl (by kernel_rfl) ?_
 rw[Am]
 refine zs ?_
 refine z0 ?_;intro K hK
 refine Ab.eq (TM xs x hx) (by simp) (by simp) ?_
 refine zx ?_
 refine zk ?_;clear hK K
 refine zr ?_
 rw[Cw];simp
theorem Kw (xs:List Int) (hx:xs.length<1000000000000):Aa pg 170 [.ro xs.length (Ad xs)] [] (fun r _=>r= .own 1 xs.length (Ad xs)):=by
 refine Aa.start (fn:=Tryz.f170) [.tmp 2] tk rfl rfl rfl (by kernel_rfl) (Nat.le_of_ble_eq_true rfl) rfl (by kernel_rfl) ?_
 rw[At]
 refine zs ?_
 refine z0 ?_;intro K hK
 refine⟨fun h=>?_,fun h=>⟨?_,?_⟩⟩
 .refine zk ?_;clear hK K
  refine zn ?_
  refine W.skip ?_
  refine z1 ?_;intro K hK;refine zk ?_;clear hK K
  exact zR
 .refine zk ?_;clear hK K
  refine zn ?_
  refine W.skip ?_
  subst h
  refine z1 ?_;intro K hK;refine zk ?_;clear hK K
  exact zR
 .refine zk ?_;clear hK K
  refine zt ?_
  refine zs ?_
  refine zr ?_
  simp[h]
end Go.Abs
set_option maxRecDepth 100000
namespace Go.Abs
open Go.Proofs
def CS (o:Option (List Int×Nat)):AV:=match o with|some r=> .tup [.own 1 r.1.length (Ad r.1),.int .i64 r.2,.bool true] |none=> .tup [.own 1 0 [],.int .i64 0,.bool false]
theorem OH (b:CL) (p:Nat) (v:Int) (hb:C2 b) (hp:p<50000000000) (hv:0≤v∧v<100000):Aa pg 222 [.agg (Ch b),.int .i64 p,.int .i64 v] [] (fun r _=>r=CS (Dx (Ao b) p v)):=by
 have hl:=BT b
 have h2:=hb.2.1;have h3:=hb.2.2;have h0:=hb.1
 refine Aa.start (fn:=Tryz.f222) [.tmp 6,.tmp 7,.tmp 8] tk rfl rfl rfl (by kernel_rfl) (Nat.le_of_ble_eq_true rfl) rfl (by kernel_rfl) ?_
 rw[Bq]
 refine z1 ?_;intro K hK;refine zk ?_;clear hK K
 refine z0 ?_;intro K hK
 have sp:=FA b p hb hp
 cases hg:AH (Ao b) p with
 |none=>
  simp only[hg,E8] at sp
  refine Ab.eq sp (by simp) (by simp) ?_
  refine zx ?_
  refine zk ?_;clear hK K
  refine z0 ?_;intro K hK;refine zk ?_;clear hK K
  refine zt ?_
  refine z0 ?_;intro K hK;refine zk ?_;clear hK K
  refine zr ?_
  simp[Dx,hg,CS]
 |some x=>
  simp only[hg,E8] at sp
  obtain⟨hx1,hx2,hx3,hx4,_⟩:=AJ hg
  refine Ab.eq sp (by simp) (by simp) ?_
  refine zx ?_
  refine zk ?_;clear hK K
  refine z0 ?_;intro K hK;refine zk ?_;clear hK K
  refine zc ?_ ?_<;>intro h
  .refine z0 ?_;intro K hK;refine zk ?_;clear hK K
   refine zr ?_
   simp only[Dx,hg];rw[if_neg (by omega)];simp[CS]
  .refine W.skip ?_
   refine z0 ?_;intro K hK;refine zk ?_;clear hK K
   refine z0 ?_;intro K hK;refine zk ?_;clear hK K
   (repeat refine W.seq ?_);refine W.block (W.loopS (fun s:Nat×List Int×Nat×Int=> [(3,.ptr 0 0 0),(6,.tok 1 s.1 1 0 s.1),(7,.int .i64 s.2.2.1),(10,.int .i64 s.2.2.2),(28,.int .i64 ((x.1:Int)-1)),(29,.int .i64 s.1)]) (fun s=> [.live 0 (Ch b),.live s.1 (Ad s.2.1)]) (fun s=>x.1-1-s.1)
     (fun s=>s.1≤x.1-1∧s.2.1.length=s.1∧s.2.2.1≤(Ao b).length∧(0≤s.2.2.2∧s.2.2.2<100000)∧B1 (Ao b) (x.1-1) true x.2 v=(B1 (Ao b) (x.1-1-s.1) (decide (s.1=0)) s.2.2.1 s.2.2.2).map fun r=>(s.2.1++r.1,r.2)) (0,[],x.2,v) ((Wk.nil (t:=6) (s:=1) (by simp)).trans (Wk.fr (by simp[Ac]))) ⟨by omega,rfl,hx4,hv,by simp⟩ ?_)
   rintro⟨k,acc,q,last⟩ ⟨hk,hacc,hq,hlast,hinv⟩
   simp only at hk hacc hq hlast hinv
   refine z0 ?_;intro K hK;refine zk ?_;clear hK K
   refine zc ?_ ?_<;>intro h
   .refine W.skip ?_
    obtain⟨m,hm⟩:∃m,x.1-1-k=m+1:=⟨x.1-1-k-1,by omega⟩
    have hm' :x.1-1-(k+1)=m:=by omega
    rw[hm] at hinv
    refine zb ?_
    refine z0 ?_;intro K hK;refine zk ?_;clear hK K
    refine z0 ?_;intro K hK;refine zk ?_;clear hK K
    refine z0 ?_;intro K hK
    have sp:=FA b q hb (by omega)
    cases hg2:AH (Ao b) q with
    |none=>
     simp only[hg2,E8] at sp
     refine Ab.eq sp (by simp) (by simp) ?_
     refine zx ?_
     refine zk ?_;clear hK K
     refine z0 ?_;intro K hK;refine zk ?_;clear hK K
     refine zt ?_
     refine z0 ?_;intro K hK;refine zk ?_;clear hK K
     refine zr ?_
     simp only[B1,hg2] at hinv
     simp[Dx,hg,hinv,CS]
    |some y=>
     simp only[hg2,E8] at sp
     obtain⟨hy1,hy2,hy3,hy4,_⟩:=AJ hg2
     refine Ab.eq sp (by simp) (by simp) ?_
     refine zx ?_
     refine zk ?_;clear hK K
     refine z0 ?_;intro K hK;refine zk ?_;clear hK K
     refine zn ?_
     refine W.skip ?_
     simp only[B1,hg2] at hinv
     have hz:∃z:Int,z=(if k=0 then Cc ((y.1:Int)-1) else(y.1:Int))∧-1073741825≤z∧z≤1073741825:=⟨_,rfl,by unfold Cc;split<;>(try split)<;>omega,by unfold Cc;split<;>(try split)<;>omega⟩
     obtain⟨z,hz,hz1,hz2⟩:=hz
     refine z0 ?_;intro K hK;refine zk ?_;clear hK K
     (repeat refine W.seq ?_);refine W.midS (fun _:Unit=> [(3,.ptr 0 0 0),(6,.tok 1 k 1 0 k),(7,.int .i64 y.2),(10,.int .i64 last),(12,.int .i64 z),(28,.int .i64 ((x.1:Int)-1)),(29,.int .i64 k)]) (fun _=> [.live 0 (Ch b),.live k (Ad acc)]) (fun _=>True) ?_ ?_
     .refine zc ?_ ?_<;>intro h
      .refine z0 ?_;intro K hK
       refine Ab.eq (Mr ((y.1:Int)-1) (by omega) (by omega)) (by simp) (by simp) ?_
       refine zx ?_
       refine zk ?_;clear hK K
       exact⟨(),trivial,Wk.fr (by simp[Ac,hz,h])⟩
      .refine W.skip ?_
       exact⟨(),trivial,Wk.fr (by simp[Ac,hz,h])⟩
     .rintro _ _
      have hzz:(if decide (k=0)=true then Cc ((y.1:Int)-1) else(y.1:Int))=z:=by rw[hz];simp
      rw[hzz,hm'.symm] at hinv
      refine z0 ?_;intro K hK;refine zk ?_;clear hK K
      refine z0 ?_;intro K hK
      refine Ab.eq (Mo (last+z)) (by simp) (by simp) ?_
      refine zx ?_
      refine zk ?_;clear hK K
      refine zc ?_ ?_<;>intro h
      .refine z0 ?_;intro K hK;refine zk ?_;clear hK K
       refine zr ?_
       rw[if_neg (by omega)] at hinv
       simp[Dx,hg,hinv,CS]
      .refine W.skip ?_
       rw[if_pos (by omega)] at hinv
       refine z1 ?_;intro K hK;refine zk ?_;clear hK K
       refine z0 ?_;intro K hK;refine zk ?_;clear hK K
       refine⟨(k+1,acc++[last+z],y.2,last+z),by simp;omega,⟨by simp;omega,by simp;omega,hy4,by simp only;omega,?_⟩,Wk.cutM (k:=2) (by simp[Ac]) (by simp[BE,Ad]) (by simp) (by simp) (by simp) (by simp)⟩
       rw[hinv]
       simp only[show decide (k+1=0)=false from by simp]
       cases B1 (Ao b) (x.1-1-(k+1)) false y.2 (last+z)<;>simp
   .refine W.exit ?_
    refine z0 ?_;intro K hK;refine zk ?_;clear hK K
    refine zr ?_
    have:x.1-1-k=0:=by omega
    rw[this] at hinv
    simp[Dx,hg,CS,hacc]
    rw[if_pos (by omega),hinv]
    simp[B1,←hacc]
end Go.Abs
set_option maxRecDepth 100000
namespace Go.Abs
open Go.Proofs
theorem K5:∀(m:List Int) (n:Nat),1≤n→n≤m.length→(∀j,0<j→j<n→m.getD j 0=m.getD (j-1) 0+1)→(n<m.length→m.getD n 0≠m.getD (n-1) 0+1)→A7 m=n
 | [],n,h1,h2,_,_=>by simp at h2;omega
 | [x],n,h1,h2,_,_=>by simp at h2;simp[A7];omega
 |x::y::t,n,h1,h2,hr,he=>by
  by_cases e:n=1
  .subst e
   have:=he (by simp)
   simp at this
   simp[A7,this]
  .have h3:=hr 1 (by omega) (by omega)
   simp at h3
   have ih:=K5 (y::t) (n-1) (by omega) (by simp at h2 ⊢;omega) (fun j h4 h5=>by
    have:=hr (j+1) (by omega) (by omega)
    obtain⟨i,rfl⟩:∃i,j=i+1:=⟨j-1,by omega⟩
    simpa using this) (fun h4=>by
    have:=he (by simp at h4 ⊢;omega)
    obtain⟨i,rfl⟩:∃i,n=i+2:=⟨n-2,by omega⟩
    simpa using this)
   have h3' :y=x+1:=by simpa using h3
   simp only[A7,h3',if_true]
   rw[h3'] at ih
   omega
theorem K6 {l:List Int} {i k:Nat} (hik:i<k) (hk:k≤l.length) (hr:∀j (h:j<l.length),i<j→j<k→l[j]=l[j-1]+1) (he:∀h:k<l.length,l[k]≠l[k-1]+1):A7 (l.drop i)=k-i:=by
 refine K5 _ _ (by omega) (by simp;omega) (fun j h1 h2=>?_) (fun h1=>?_)
 .have:=hr (i+j) (by omega) (by omega) (by omega)
  have e:i+j-1=i+(j-1):=by omega
  simp only[e] at this
  simp[List.getD,show i+j<l.length by omega,show i+(j-1)<l.length by omega,this]
 .have h1' :k<l.length:=by simp at h1;omega
  have:=he h1'
  have e1:i+(k-i)=k:=by omega
  have e2:i+(k-i-1)=k-1:=by omega
  simp[List.getD,e1,e2,h1',show k-1<l.length by omega,this]
theorem Ms {l:List Int} {i k:Nat} (hi:i<l.length) (h:A7 (l.drop i)=k-i) (hik:i<k) (hk:k≤l.length):As (l.drop i)=
 if 3≤k-i then((l[i],((k-i:Nat):Int))::(As (l.drop k)).1,(As (l.drop k)).2) else((As (l.drop k)).1,((l.drop i).take (k-i))++(As (l.drop k)).2):=by
 have e:=List.drop_eq_getElem_cons hi
 rw[e] at h ⊢
 rw[As,h,←e,List.drop_drop,show i+(k-i)=k by omega]
def Mt (q:List (Int×Int)×List Int):AV:= .tup [.own 2 q.1.length (Af Al q.1),.own 1 q.2.length (Ad q.2)]
theorem TN (l:List Int) (hl:l.length<1000000000) (hb:∀x∈l,-1000000000000<x∧x<1000000000000):Aa pg 224 [.ro l.length (Ad l)] [] (fun r _=>r=Mt (As l)):=by
 have hb' :∀i (h:i<l.length),-1000000000000<l[i]∧l[i]<1000000000000:=fun i h=>hb _ (List.getElem_mem h)
 refine Aa.start (fn:=Tryz.f224) [.tmp 2,.tmp 3] tk rfl rfl rfl (by kernel_rfl) (Nat.le_of_ble_eq_true rfl) rfl (by kernel_rfl) ?_
 rw[At]
 refine zs ?_
 refine zs ?_
 (repeat refine W.seq ?_);refine W.block (W.loopS (fun s:Nat×List (Int×Int)×List Int×Nat=> [(0,.ro l.length (Ad l)),(2,.tok 0 s.2.1.length 2 0 s.2.1.length),(3,.tok 1 s.2.2.2 1 0 s.2.2.1.length),(4,.int .i64 s.1)]) (fun s=> [.live s.2.1.length (Af Al s.2.1),.live s.2.2.2 (Ad s.2.2.1)]) (fun s=>l.length-s.1)
   (fun s=>s.1≤l.length∧s.2.1.length≤s.1∧s.2.2.1.length≤s.1∧As l=(s.2.1++(As (l.drop s.1)).1,s.2.2.1++(As (l.drop s.1)).2)) (0,[],[],0) ((Wk.nil (t:=2) (s:=2) (by simp)).trans ((Wk.nil (t:=3) (s:=1) (by simp)).trans (Wk.fr (by simp[Ac])))) (by simp) ?_)
 rintro⟨i,ra,sa,c⟩ ⟨hi,hra,hsa,hinv⟩
 simp only at hi hra hsa hinv
 refine zs ?_
 refine zc ?_ ?_<;>intro h
 .refine W.skip ?_
  refine zb ?_
  refine zs ?_
  (repeat refine W.seq ?_);refine W.block (W.loopS (fun k:Nat=> [(0,.ro l.length (Ad l)),(2,.tok 0 ra.length 2 0 ra.length),(3,.tok 1 c 1 0 sa.length),(4,.int .i64 i),(5,.int .i64 k)]) (fun _=> [.live ra.length (Af Al ra),.live c (Ad sa)]) (fun k=>l.length-k)
    (fun k=>i<k∧k≤l.length∧∀j (h:j<l.length),i<j→j<k→l[j]=l[j-1]+1) (i+1) (Wk.fr (by simp[Ac])) ⟨by omega,by omega,fun j h h1 h2=>by omega⟩ ?_)
  rintro k ⟨hik,hk,hrun⟩
  (repeat refine W.seq ?_);refine W.midS (fun b:Bool=> [(0,.ro l.length (Ad l)),(2,.tok 0 ra.length 2 0 ra.length),(3,.tok 1 c 1 0 sa.length),(4,.int .i64 i),(5,.int .i64 k),(28,.bool b)]) (fun _=> [.live ra.length (Af Al ra),.live c (Ad sa)]) (fun b=>b=true↔∃h:k<l.length,l[k]=l[k-1]+1) ?_ ?_
  .by_cases h2:k<l.length
   .have h3:=hb' k h2
    have h4:=hb' (k-1) (by omega)
    refine B8 ?_;intro K hK
    refine zk ?_;clear hK K
    exact⟨decide (l[k]=l[k-1]+1),by simp[h2],Wk.fr (by simp[Ac])⟩
   .refine B8 ?_;intro K hK
    refine zk ?_;clear hK K
    exact⟨false,by simp[h2],Wk.fr (by simp[Ac])⟩
  .intro b hbb
   refine zc ?_ ?_<;>intro h
   .refine W.skip ?_
    obtain⟨h2,h3⟩:=hbb.1 (by assumption)
    refine zb ?_
    refine zs ?_
    refine⟨k+1,by omega,⟨by omega,by omega,fun j hj h4 h5=>?_⟩,Wk.fr (by simp[Ac])⟩
    by_cases e:j=k
    .subst e;exact h3
    .exact hrun j hj h4 (by omega)
   .refine W.exit ?_
    have hend:∀h:k<l.length,l[k]≠l[k-1]+1:=fun h2 h3=>by simp_all
    have hrl:=K6 hik hk hrun hend
    have hpa:=Ms (by omega) hrl hik hk
    refine zs ?_
    refine zc ?_ ?_<;>intro h
    .rw[if_pos (by omega)] at hpa
     refine z1 ?_;intro K hK
     refine zk ?_;clear hK K
     refine zs ?_
     refine⟨(k,ra++[(l[i],((k-i:Nat):Int))],sa,c),by simp;omega,⟨hk,by simp;omega,by simp;omega,?_⟩,Wk.cutM (k:=2) (by simp[Ac]) ?_ (by simp) (by simp) (by simp) (by simp)⟩
     .rw[hinv,hpa];simp
     .simp[Cz,AL,Al];omega
    .rw[if_neg (by omega)] at hpa
     refine zs ?_
     refine zs ?_
     refine⟨(k,ra,sa++(l.drop i).take (k-i),c+1),by simp;omega,⟨hk,by simp;omega,by simp;omega,?_⟩,Wk.cutM (k:=2) (by simp[Ac];omega) ?_ (by simp) (by simp) (by simp) (by simp)⟩
     .rw[hinv,hpa];simp
     .simp[BE]
 .refine W.exit ?_
  refine zs ?_
  refine zr ?_
  rw[hinv]
  simp[Mt,List.drop_of_length_le h,As]
end Go.Abs
set_option maxRecDepth 100000
namespace Go.Abs
open Go.Proofs
theorem Rg (xs ys:List (Int×Int)) (hx:xs.length<4611686018427387904):Aa pg 225 [.ro xs.length (Af Al xs),.ro ys.length (Af Al ys)] [] (fun r _=>r= .bool (decide (xs=ys))):=by
 refine Aa.start (fn:=Tryz.f225) [.tmp 4] tk rfl rfl rfl (by kernel_rfl) (Nat.le_of_ble_eq_true rfl) rfl (by kernel_rfl) ?_
 rw[Am]
 refine zs ?_
 refine zs ?_
 refine zc ?_ ?_<;>intro h
 .refine zs ?_
  refine zr ?_
  intro e;exact h (by rw[e])
 .refine W.skip ?_
  have hl:xs.length=ys.length:=by omega
  refine zs ?_
  (repeat refine W.seq ?_);refine W.block (W.loopS (fun k:Nat=> [(0,.ro xs.length (Af Al xs)),(1,.ro ys.length (Af Al ys)),(12,.int .i64 xs.length),(13,.int .i64 k)]) (fun _=> []) (fun k=>xs.length-k) (fun k=>k≤xs.length∧xs.take k=ys.take k) 0 (Wk.fr ?_) (by simp) ?_)
  .simp[Ac]
  .rintro k ⟨hk,ht⟩
   refine zs ?_
   refine zc ?_ ?_<;>intro h
   .refine W.skip ?_
    have hlt:k<xs.length:=by omega
    have hlt' :k<ys.length:=by omega
    refine zb ?_
    refine zs ?_
    (repeat refine W.seq ?_);refine W.regd 0 rfl true Cq (by kernel_rfl) fun K hK=>?_;simp -implicitDefEqProofs (maxSteps:=999999) (disch:=omega) [hlt,hlt',Al]
    refine zk ?_;clear hK K
    refine zc ?_ ?_<;>intro h
    .refine zs ?_
     refine zr ?_
     intro e;subst e;simp at h
    .refine W.skip ?_
     have he:xs[k]=ys[k]:=Prod.ext h.1 h.2
     refine zs ?_
     refine⟨k+1,by omega,⟨by omega,?_⟩,Wk.fr ?_⟩
     .rw[List.take_add_one,List.take_add_one,ht];simp[hlt,hlt',he]
     .simp[Ac]
   .refine W.exit ?_
    have hk' :k=xs.length:=by omega
    subst hk'
    refine zs ?_
    refine zr ?_
    rw[List.take_length,hl,List.take_length] at ht
    simp[ht]
def K7 (o:Option (List (Int×Int)×Nat)):AV:=match o with|some r=> .tup [.own 2 r.1.length (Af Al r.1),.int .i64 r.2,.bool true] |none=> .tup [.own 2 0 [],.int .i64 0,.bool false]
def Fo (bs:List Bool) (p:Nat) (v:Int):Option (List (Int×Int)×Nat):=match AH bs p with
 |none=>none
 |some x=>if x.1≤16 then Cr bs (x.1-1) true x.2 v else none
theorem OI (b:CL) (p:Nat) (v:Int) (hb:C2 b) (hp:p<50000000000) (hv:0≤v∧v<100000):Aa pg 221 [.agg (Ch b),.int .i64 p,.int .i64 v] [] (fun r _=>r=K7 (Fo (Ao b) p v)):=by
 have hl:=BT b
 have h2:=hb.2.1;have h3:=hb.2.2;have h0:=hb.1
 refine Aa.start (fn:=Tryz.f221) [.tmp 6,.tmp 7,.tmp 8] tk rfl rfl rfl (by kernel_rfl) (Nat.le_of_ble_eq_true rfl) rfl (by kernel_rfl) ?_
 rw[Bq]
 refine z1 ?_;intro K hK;refine zk ?_;clear hK K
 refine z0 ?_;intro K hK
 have sp:=FA b p hb hp
 cases hg:AH (Ao b) p with
 |none=>
  simp only[hg,E8] at sp
  refine Ab.eq sp (by simp) (by simp) ?_
  refine zx ?_
  refine zk ?_;clear hK K
  refine z0 ?_;intro K hK;refine zk ?_;clear hK K
  refine zt ?_
  refine z0 ?_;intro K hK;refine zk ?_;clear hK K
  refine zr ?_
  simp[Fo,hg,K7]
 |some x=>
  simp only[hg,E8] at sp
  obtain⟨hx1,hx2,hx3,hx4,_⟩:=AJ hg
  refine Ab.eq sp (by simp) (by simp) ?_
  refine zx ?_
  refine zk ?_;clear hK K
  refine z0 ?_;intro K hK;refine zk ?_;clear hK K
  refine zc ?_ ?_<;>intro h
  .refine z0 ?_;intro K hK;refine zk ?_;clear hK K
   refine zr ?_
   simp only[Fo,hg];rw[if_neg (by omega)];simp[K7]
  .refine W.skip ?_
   refine z0 ?_;intro K hK;refine zk ?_;clear hK K
   refine z0 ?_;intro K hK;refine zk ?_;clear hK K
   (repeat refine W.seq ?_);refine W.block (W.loopS (fun s:Nat×List (Int×Int)×Nat×Int=> [(3,.ptr 0 0 0),(6,.tok 1 s.1 2 0 s.1),(7,.int .i64 s.2.2.1),(10,.int .i64 s.2.2.2),(32,.int .i64 ((x.1:Int)-1)),(33,.int .i64 s.1)]) (fun s=> [.live 0 (Ch b),.live s.1 (Af Al s.2.1)]) (fun s=>x.1-1-s.1)
     (fun s=>s.1≤x.1-1∧s.2.1.length=s.1∧s.2.2.1≤(Ao b).length∧(-4294967296*((s.1:Int)+1)≤s.2.2.2∧s.2.2.2≤4294967296*((s.1:Int)+1))∧Cr (Ao b) (x.1-1) true x.2 v=(Cr (Ao b) (x.1-1-s.1) (decide (s.1=0)) s.2.2.1 s.2.2.2).map fun r=>(s.2.1++r.1,r.2)) (0,[],x.2,v) ((Wk.nil (t:=6) (s:=2) (by simp)).trans (Wk.fr (by simp[Ac]))) ⟨by omega,rfl,hx4,by simp only;omega,by simp⟩ ?_)
   rintro⟨k,acc,q,last⟩ ⟨hk,hacc,hq,hlast,hinv⟩
   simp only at hk hacc hq hlast hinv
   refine z0 ?_;intro K hK;refine zk ?_;clear hK K
   refine zc ?_ ?_<;>intro h
   .refine W.skip ?_
    obtain⟨m,hm⟩:∃m,x.1-1-k=m+1:=⟨x.1-1-k-1,by omega⟩
    have hm' :x.1-1-(k+1)=m:=by omega
    rw[hm] at hinv
    refine zb ?_
    refine z0 ?_;intro K hK;refine zk ?_;clear hK K
    refine z0 ?_;intro K hK
    have sp:=FA b q hb (by omega)
    cases hg2:AH (Ao b) q with
    |none=>
     simp only[hg2,E8] at sp
     refine Ab.eq sp (by simp) (by simp) ?_
     refine zx ?_
     refine zk ?_;clear hK K
     refine z0 ?_;intro K hK;refine zk ?_;clear hK K
     refine zt ?_
     refine z0 ?_;intro K hK;refine zk ?_;clear hK K
     refine zr ?_
     simp only[Cr,hg2] at hinv
     simp only[Fo,hg];rw[if_pos (by omega),hinv];simp[K7]
    |some y=>
     simp only[hg2,E8] at sp
     obtain⟨hy1,hy2,hy3,hy4,_⟩:=AJ hg2
     refine Ab.eq sp (by simp) (by simp) ?_
     refine zx ?_
     refine zk ?_;clear hK K
     refine z0 ?_;intro K hK;refine zk ?_;clear hK K
     refine zn ?_
     refine W.skip ?_
     refine z0 ?_;intro K hK
     have sp:=FA b y.2 hb (by omega)
     cases hg3:AH (Ao b) y.2 with
     |none=>
      simp only[hg3,E8] at sp
      refine Ab.eq sp (by simp) (by simp) ?_
      refine zx ?_
      refine zk ?_;clear hK K
      refine z0 ?_;intro K hK;refine zk ?_;clear hK K
      refine zt ?_
      refine z0 ?_;intro K hK;refine zk ?_;clear hK K
      refine zr ?_
      simp only[Cr,hg2,hg3] at hinv
      simp only[Fo,hg];rw[if_pos (by omega),hinv];simp[K7]
     |some w=>
      simp only[hg3,E8] at sp
      obtain⟨hw1,hw2,hw3,hw4,_⟩:=AJ hg3
      refine Ab.eq sp (by simp) (by simp) ?_
      refine zx ?_
      refine zk ?_;clear hK K
      refine z0 ?_;intro K hK;refine zk ?_;clear hK K
      refine zn ?_
      refine W.skip ?_
      simp only[Cr,hg2,hg3] at hinv
      have hz:∃z:Int,z=(if k=0 then Cc ((y.1:Int)-1) else(y.1:Int))∧-1073741825≤z∧z≤1073741825:=⟨_,rfl,by unfold Cc;split<;>(try split)<;>omega,by unfold Cc;split<;>(try split)<;>omega⟩
      obtain⟨z,hz,hz1,hz2⟩:=hz
      refine z0 ?_;intro K hK;refine zk ?_;clear hK K
      (repeat refine W.seq ?_);refine W.midS (fun _:Unit=> [(3,.ptr 0 0 0),(6,.tok 1 k 2 0 k),(10,.int .i64 last),(12,.int .i64 z),(13,.int .i64 w.2),(15,.int .i64 w.1),(32,.int .i64 ((x.1:Int)-1)),(33,.int .i64 k)]) (fun _=> [.live 0 (Ch b),.live k (Af Al acc)]) (fun _=>True) ?_ ?_
      .refine zc ?_ ?_<;>intro h
       .refine z0 ?_;intro K hK
        refine Ab.eq (Mr ((y.1:Int)-1) (by omega) (by omega)) (by simp) (by simp) ?_
        refine zx ?_
        refine zk ?_;clear hK K
        exact⟨(),trivial,Wk.fr (by simp[Ac,hz,h])⟩
       .refine W.skip ?_
        exact⟨(),trivial,Wk.fr (by simp[Ac,hz,h])⟩
      .rintro _ _
       have hzz:(if decide (k=0)=true then Cc ((y.1:Int)-1) else(y.1:Int))=z:=by rw[hz];simp
       rw[hzz,hm'.symm] at hinv
       refine z1 ?_;intro K hK;refine zk ?_;clear hK K
       (repeat refine W.seq ?_);refine W.regd 1 rfl true Cq (by kernel_rfl) fun K hK=>?_;simp -implicitDefEqProofs (maxSteps:=999999) (disch:=omega)
       refine zk ?_;clear hK K
       refine z0 ?_;intro K hK;refine zk ?_;clear hK K
       refine⟨(k+1,acc++[(last+z,(w.1:Int)-1+3)],w.2,last+z+((w.1:Int)-1+3)),by simp;omega,⟨by simp;omega,by simp;omega,hw4,by simp only;omega,?_⟩,Wk.cutM (k:=2) (by simp[Ac]) (by simp[Cz,AL,Al]) (by simp) (by simp) (by simp) (by simp)⟩
       rw[hinv]
       simp only[show decide (k+1=0)=false from by simp]
       cases Cr (Ao b) (x.1-1-(k+1)) false w.2 (last+z+((w.1:Int)-1+3))<;>simp
   .refine W.exit ?_
    refine z0 ?_;intro K hK;refine zk ?_;clear hK K
    refine zr ?_
    have:x.1-1-k=0:=by omega
    rw[this] at hinv
    simp[Fo,hg,K7,hacc]
    rw[if_pos (by omega),hinv]
    simp[Cr,←hacc]
end Go.Abs
namespace Go.Proofs
open Go.Shelf
def Tryz.lays125_ren:Go.Shelf.Ren:=⟨fun|125=>248|128=>254|129=>255|n=>n,fun|46=>130|3=>3|51=>260|53=>262|4=>4|5=>5|9=>9|n=>n,fun|n=>n⟩
theorem Tryz.lays125:Go.Proofs.Lays.n125 Tryz.prog Tryz.lays125_ren:={
 mixed:=by kernel_rfl
 f125:=Tryz.func248.trans (congrArg some (by kernel_rfl))
 f128:=Tryz.func254.trans (congrArg some (by kernel_rfl))
 f129:=Tryz.func255.trans (congrArg some (by kernel_rfl))
 t3:=Tryz.underlying3
 a3:=Tryz.isAgg3
 z3:=Tryz.sizeOf3
 v3:=Tryz.zeroValue3
 t4:=Tryz.underlying4
 a4:=Tryz.isAgg4
 z4:=Tryz.sizeOf4
 v4:=Tryz.zeroValue4
 t5:=Tryz.underlying5
 a5:=Tryz.isAgg5
 z5:=Tryz.sizeOf5
 v5:=Tryz.zeroValue5
 t9:=Tryz.underlying9
 a9:=Tryz.isAgg9
 z9:=Tryz.sizeOf9
 v9:=Tryz.zeroValue9
 t46:=Tryz.underlying130
 a46:=Tryz.isAgg130
 z46:=Tryz.sizeOf130
 v46:=Tryz.zeroValue130
 t51:=Tryz.underlying260
 a51:=Tryz.isAgg260
 z51:=Tryz.sizeOf260
 v51:=Tryz.zeroValue260
 t53:=Tryz.underlying262
 a53:=Tryz.isAgg262
 z53:=Tryz.sizeOf262
 v53:=Tryz.zeroValue262}
theorem Tryz.bits_Len (x:Int) (w:World) (h0:0≤x) (h1:x≤18446744073709551615):
 Calls Tryz.prog 248 #[.int .u64 x] w fun e w' =>e= .returned (.int .i64 (Lib.bitLen x.toNat))∧w' =w:=Any.bits_Len Tryz.lays125 x w h0 h1
def Tryz.lays189_ren:Go.Shelf.Ren:=⟨fun|189=>245|125=>248|257=>253|128=>254|129=>255|294=>259|295=>260|296=>261|297=>262|298=>263|299=>264|216=>265|300=>266|301=>267|328=>271|329=>272|330=>273|331=>274|332=>275|215=>276|343=>277|n=>n,fun|28=>28|3=>3|46=>130|0=>0|51=>260|53=>262|4=>4|183=>269|182=>268|131=>265|5=>5|9=>9|218=>278|222=>282|228=>284|229=>127|n=>n,fun|n=>n⟩
theorem Tryz.lays189:Go.Proofs.Lays.n189 Tryz.prog Tryz.lays189_ren:={
 mixed:=by kernel_rfl
 f125:=Tryz.func248.trans (congrArg some (by kernel_rfl))
 f128:=Tryz.func254.trans (congrArg some (by kernel_rfl))
 f129:=Tryz.func255.trans (congrArg some (by kernel_rfl))
 f189:=Tryz.func245.trans (congrArg some (by kernel_rfl))
 f215:=Tryz.func276.trans (congrArg some (by kernel_rfl))
 f216:=Tryz.func265.trans (congrArg some (by kernel_rfl))
 f257:=Tryz.func253.trans (congrArg some (by kernel_rfl))
 f294:=Tryz.func259.trans (congrArg some (by kernel_rfl))
 f295:=Tryz.func260.trans (congrArg some (by kernel_rfl))
 f296:=Tryz.func261.trans (congrArg some (by kernel_rfl))
 f297:=Tryz.func262.trans (congrArg some (by kernel_rfl))
 f298:=Tryz.func263.trans (congrArg some (by kernel_rfl))
 f299:=Tryz.func264.trans (congrArg some (by kernel_rfl))
 f300:=Tryz.func266.trans (congrArg some (by kernel_rfl))
 f301:=Tryz.func267.trans (congrArg some (by kernel_rfl))
 f328:=Tryz.func271.trans (congrArg some (by kernel_rfl))
 f329:=Tryz.func272.trans (congrArg some (by kernel_rfl))
 f330:=Tryz.func273.trans (congrArg some (by kernel_rfl))
 f331:=Tryz.func274.trans (congrArg some (by kernel_rfl))
 f332:=Tryz.func275.trans (congrArg some (by kernel_rfl))
 f343:=Tryz.func277.trans (congrArg some (by kernel_rfl))
 t0:=Tryz.underlying0
 a0:=Tryz.isAgg0
 z0:=Tryz.sizeOf0
 v0:=Tryz.zeroValue0
 t3:=Tryz.underlying3
 a3:=Tryz.isAgg3
 z3:=Tryz.sizeOf3
 v3:=Tryz.zeroValue3
 t4:=Tryz.underlying4
 a4:=Tryz.isAgg4
 z4:=Tryz.sizeOf4
 v4:=Tryz.zeroValue4
 t5:=Tryz.underlying5
 a5:=Tryz.isAgg5
 z5:=Tryz.sizeOf5
 v5:=Tryz.zeroValue5
 t9:=Tryz.underlying9
 a9:=Tryz.isAgg9
 z9:=Tryz.sizeOf9
 v9:=Tryz.zeroValue9
 t28:=Tryz.underlying28
 a28:=Tryz.isAgg28
 z28:=Tryz.sizeOf28
 v28:=Tryz.zeroValue28
 t46:=Tryz.underlying130
 a46:=Tryz.isAgg130
 z46:=Tryz.sizeOf130
 v46:=Tryz.zeroValue130
 t51:=Tryz.underlying260
 a51:=Tryz.isAgg260
 z51:=Tryz.sizeOf260
 v51:=Tryz.zeroValue260
 t53:=Tryz.underlying262
 a53:=Tryz.isAgg262
 z53:=Tryz.sizeOf262
 v53:=Tryz.zeroValue262
 t131:=Tryz.underlying265
 a131:=Tryz.isAgg265
 z131:=Tryz.sizeOf265
 v131:=Tryz.zeroValue265
 t182:=Tryz.underlying268
 a182:=Tryz.isAgg268
 z182:=Tryz.sizeOf268
 v182:=Tryz.zeroValue268
 t183:=Tryz.underlying269
 a183:=Tryz.isAgg269
 z183:=Tryz.sizeOf269
 v183:=Tryz.zeroValue269
 t218:=Tryz.underlying278
 a218:=Tryz.isAgg278
 z218:=Tryz.sizeOf278
 v218:=Tryz.zeroValue278
 t222:=Tryz.underlying282
 a222:=Tryz.isAgg282
 z222:=Tryz.sizeOf282
 v222:=Tryz.zeroValue282
 t228:=Tryz.underlying284
 a228:=Tryz.isAgg284
 z228:=Tryz.sizeOf284
 v228:=Tryz.zeroValue284
 t229:=Tryz.underlying127
 a229:=Tryz.isAgg127
 z229:=Tryz.sizeOf127
 v229:=Tryz.zeroValue127}
open Go.Sort Go.RowKit in
theorem Tryz.slices_Sort_int (blk off cap:Nat) (zs:List Int) (w:World) (hH:Holds (Value.int .i64) w blk off zs.toArray) (hblk:blk<w.heap.size) (hsz:zs.length<4611686018427387904):
 Calls Tryz.prog 245 #[.slice (some ⟨blk,off,none⟩) zs.length cap] w fun e w' =>
  e= .returned (.tuple #[])∧∃n os,w' =grow (putRow (Value.int .i64) (Sort.ahead w n) blk off (zs.mergeSort fun x y=>decide (x≤y)).toArray) os:=Any.slices_Sort_int Tryz.lays189 blk off cap zs w hH hblk hsz
end Go.Proofs
set_option maxRecDepth 100000
namespace Go.Abs
open Go.Proofs
theorem IU {f:Nat} {fn:Func} (h:pg.funcs[f]?=some fn) (h1:(fn.name== "runtime.NumGoroutine")=false) (h2:fn.body.isNone=false):Hg pg f:=⟨fn,h,h1,h2⟩
theorem PT (n:Nat) (h:n<9223372036854775808):Aa pg 248 [.int .u64 n] [] (fun r _=>r= .int .i64 (Lib.bitLen n)):=
 Mh (IU (fn:=Tryz.f248) rfl (by kernel_rfl) rfl) fun w=>by
  have:=Tryz.bits_Len (n:Int) w (by omega) (by omega)
  simpa using this
theorem U0 (v:Nat):Aa pg 259 [.tok 0 v 1 0 0,.int .i64 0,.int .i64 0] [.live v []] (fun r M=>r= .tup []∧M=[.live v []]):=by
 refine Aa.start (fn:=Tryz.f259) [] tk rfl rfl rfl (by kernel_rfl) (Nat.le_of_ble_eq_true rfl) rfl (by kernel_rfl) ?_
 rw[Bq]
 refine z0 ?_;intro K hK
 refine zk ?_;clear hK K
 refine zb ?_
 refine W.loopS (fun _:Unit=> [(0,.tok 0 v 1 0 0),(1,.int .i64 0),(2,.int .i64 0),(6,.int .i64 1)]) (fun _=> [.live v []]) (fun _=>0) (fun _=>True) () (Wk.fr (by simp[Ac])) trivial ?_
 rintro _ _
 refine zs ?_
 refine zn ?_
 refine W.exit ?_
 (try simp only[Cn,Co,Df,Dg,if_true]);refine Fg (d:=0) ?_;simp -implicitDefEqProofs (maxSteps:=999999) (disch:=omega)
theorem U1 (v:Nat):Aa pg 253 [.tok 0 v 1 0 0,.int .i64 0,.int .i64 0,.int .i64 0] [.live v []] (fun r M=>r= .tup []∧M=[.live v []]):=by
 refine Aa.start (fn:=Tryz.f253) [] tk rfl rfl rfl (by kernel_rfl) (Nat.le_of_ble_eq_true rfl) rfl (by kernel_rfl) ?_
 rw[Ik]
 refine zs ?_
 refine zs ?_
 refine zb ?_
 refine W.loopS (fun _:Unit=> [(0,.tok 0 v 1 0 0),(1,.int .i64 0),(2,.int .i64 0),(3,.int .i64 0)]) (fun _=> [.live v []]) (fun _=>0) (fun _=>True) () (Wk.fr (by simp[Ac])) trivial ?_
 rintro _ _
 refine zb ?_
 refine zs ?_
 refine zs ?_
 refine zt ?_
 refine z0 ?_;intro K hK
 refine Ab.pass [0] (U0 v) (by simp) (by simp) (by simp) (by simp) ?_
 rintro _ M ⟨rfl,rfl⟩ _
 refine zx ?_
 refine zk ?_;clear hK K
 exact zR
theorem TO (v:Nat):Aa pg 245 [.tok 0 v 1 0 0] [.live v []] (fun r M=>r= .tup []∧M=[.live v []]):=by
 refine Aa.start (fn:=Tryz.f245) [] tk rfl rfl rfl (by kernel_rfl) (Nat.le_of_ble_eq_true rfl) rfl (by kernel_rfl) ?_
 rw[At]
 refine zs ?_
 refine z0 ?_;intro K hK
 refine Ab.eq (PT 0 (by omega)) (by simp;rfl) (by simp) ?_
 rw[show Lib.bitLen 0=0 from rfl]
 refine zx ?_
 refine Ab.pass [0] (U1 v) (by simp) (by simp) (by simp) (by simp) ?_
 rintro _ M ⟨rfl,rfl⟩ _
 refine zx ?_
 refine zk ?_;clear hK K
 (try simp only[Cn,Co,Df,Dg,if_true]);refine Fg (d:=0) ?_;simp -implicitDefEqProofs (maxSteps:=999999) (disch:=omega)
theorem PU (xs:List Int) (v:Nat) (hx:xs.length<4611686018427387904):Aa pg 245 [.tok 0 v 1 0 xs.length] [.live v (Ad xs)] (fun r M=>r= .tup []∧M=[.live v (Ad (BN xs))]):=by
 cases xs with
 |nil=>simpa[BN] using TO v
 |cons x xs=>exact M8 (IU (fn:=Tryz.f245) rfl (by kernel_rfl) rfl) (fun blk off cap zs w h1 h2 h3=>Tryz.slices_Sort_int blk off cap zs w h1 h2 h3) (x::xs) v hx (by simp)
end Go.Abs
set_option maxRecDepth 100000
namespace Go.Abs
open Go.Proofs
theorem EQ (l:List Int):(BN l).length=l.length:=List.length_mergeSort _
def NL (rest:List Int) (o:Option (List Int)):AV:=match o with
 |none=> .tup [.own 1 0 [],.bool false]
 |some l=> .tup [.own 1 (BN (rest++l)).length (Ad (BN (rest++l))),.bool (decide (AI rest∧AI (BN (rest++l))))]
theorem TP (r:List (Int×Int)) (rest:List Int) (hr:r.length<1000000) (hrest:rest.length<1000000) (hb:∀q∈r,(-1000000000000<q.1∧q.1<1000000000000)∧(-1000000000000<q.2∧q.2<1000000000000)):
 Aa pg 223 [.ro r.length (Af Al r),.ro rest.length (Ad rest)] [] (fun x _=>x=NL rest (CU r (-1))):=by
 refine Aa.start (fn:=Tryz.f223) [.tmp 4,.tmp 5] tk rfl rfl rfl (by kernel_rfl) (Nat.le_of_ble_eq_true rfl) rfl (by kernel_rfl) ?_
 rw[Am]
 refine zs ?_
 refine z0 ?_;intro K hK
 refine Ab.eq (Kw rest (by omega)) (by simp) (by simp) ?_
 refine zx ?_
 refine zk ?_;clear hK K
 refine zs ?_
 refine zs ?_
 (repeat refine W.seq ?_);refine W.block (W.loopS (fun s:Nat×List Int×Int×Nat=> [(1,.ro rest.length (Ad rest)),(6,.tok 0 s.2.2.2 1 0 s.2.1.length),(7,.int .i64 s.2.2.1),(13,.ro r.length (Af Al r)),(14,.int .i64 r.length),(15,.int .i64 s.1)]) (fun s=> [.live s.2.2.2 (Ad s.2.1)]) (fun s=>r.length-s.1)
   (fun s=>s.1≤r.length∧s.2.1.length≤rest.length+16*s.1∧(-1≤s.2.2.1∧s.2.2.1≤40)∧(CU r (-1)).map (rest++·)=(CU (r.drop s.1) s.2.2.1).map (s.2.1++·)) (0,rest,-1,0) (Wk.fr (by simp[Ac])) (by simp) ?_)
 rintro⟨k,acc,e,c⟩ ⟨hk,hacc,he,hinv⟩
 simp only at hk hacc he hinv
 refine zs ?_
 refine zc ?_ ?_<;>intro h
 .refine W.skip ?_
  have hlt:k<r.length:=by omega
  have hbk:=hb _ (List.getElem_mem hlt)
  have hd:=List.drop_eq_getElem_cons hlt
  rw[hd] at hinv
  generalize hq:r[k]=q at*
  obtain⟨a,n⟩:=q
  simp only at hbk
  refine zb ?_
  (repeat refine W.seq ?_);refine W.reg 1 rfl fun K hK=>?_;simp -implicitDefEqProofs (maxSteps:=999999) (disch:=omega) [hlt,hq,Al]
  refine zk ?_;clear hK K
  (repeat refine W.seq ?_);refine W.midS (fun b:Bool=> [(1,.ro rest.length (Ad rest)),(6,.tok 0 c 1 0 acc.length),(7,.int .i64 e),(9,.ptr 1 0 0),(13,.ro r.length (Af Al r)),(14,.int .i64 r.length),(15,.int .i64 k),(48,.bool b)]) (fun _=> [.live c (Ad acc),.live 0 [.int .i64 a,.int .i64 n]]) (fun b=>b=true↔n<3∨16<n∨a≤e∨¬(0≤a∧a<16)∨¬(0≤a+n-1∧a+n-1<16)) ?_ ?_
  .by_cases c1:n<3
   .refine z0 ?_;intro K hK
    refine zk ?_;clear hK K
    exact⟨true,by simp[c1],Wk.fr (by simp[Ac])⟩
   by_cases c2:16<n
   .refine z0 ?_;intro K hK
    refine zk ?_;clear hK K
    exact⟨true,by simp[c2],Wk.fr (by simp[Ac])⟩
   by_cases c3:a≤e
   .refine z0 ?_;intro K hK
    refine zk ?_;clear hK K
    exact⟨true,by simp[c3],Wk.fr (by simp[Ac])⟩
   by_cases c4:¬(0≤a∧a<16)
   .refine z0 ?_;intro K hK
    refine Ab.eq (Mo a) (by simp) (by simp) ?_
    rw[decide_eq_false c4]
    refine zx ?_
    refine zk ?_;clear hK K
    exact⟨true,by simp;omega,Wk.fr (by simp[Ac])⟩
   .refine z0 ?_;intro K hK
    refine Ab.eq (Mo a) (by simp) (by simp) ?_
    rw[decide_eq_true (Classical.not_not.1 c4)]
    refine zx ?_
    refine Ab.eq (Mo (a+n-1)) (by simp) (by simp) ?_
    by_cases c5:0≤a+n-1∧a+n-1<16
    .rw[decide_eq_true c5]
     refine zx ?_
     refine zk ?_;clear hK K
     exact⟨false,by simp;omega,Wk.fr (by simp[Ac])⟩
    .rw[decide_eq_false c5]
     refine zx ?_
     refine zk ?_;clear hK K
     exact⟨true,by simp;omega,Wk.fr (by simp[Ac])⟩
  .intro b hbb
   refine zc ?_ ?_<;>intro h
   .have hbad:=hbb.1 (by assumption)
    refine zs ?_
    refine zr ?_
    simp only[CU] at hinv
    rw[if_pos hbad] at hinv
    simp at hinv
    simp[hinv,NL]
   .have hgood:¬(n<3∨16<n∨a≤e∨¬(0≤a∧a<16)∨¬(0≤a+n-1∧a+n-1<16)):=fun h=>by
     have h1:=hbb.2 h
     have h2:b=false:=by assumption
     rw[h1] at h2;cases h2
    simp only[CU] at hinv
    rw[if_neg hgood] at hinv
    refine W.skip ?_
    refine zs ?_
    refine zs ?_
    (repeat refine W.seq ?_);refine W.block (W.loopS (fun j:Nat=> [(1,.ro rest.length (Ad rest)),(6,.tok 0 (c+j) 1 0 (acc.length+j)),(7,.int .i64 (a+n)),(10,.int .i64 (a+j)),(13,.ro r.length (Af Al r)),(14,.int .i64 r.length),(15,.int .i64 k)]) (fun j=> [.live (c+j) (Ad (acc++(List.range j).map fun i=>a+(i:Nat)))]) (fun j=>n.toNat-j) (fun j=>(j:Int)≤n) 0 (Wk.cutM (k:=1) (by simp[Ac]) (by simp) (by simp) (by simp) (by simp) (by simp)) (by omega) ?_)
    intro j hj
    refine zs ?_
    refine zc ?_ ?_<;>intro h
    .refine W.skip ?_
     refine zb ?_
     refine z1 ?_;intro K hK
     refine zk ?_;clear hK K
     refine zs ?_
     refine⟨j+1,by omega,by omega,Wk.cutM (k:=1) (by simp[Ac];omega) (by simp[BE,List.range_succ];simp[Ad];omega) (by simp) (by simp) (by simp) (by simp)⟩
    .refine W.exit ?_
     have hjn:j=n.toNat:=by omega
     subst hjn
     refine zs ?_
     refine⟨(k+1,acc++(List.range n.toNat).map (fun i=>a+(i:Nat)),a+n,c+n.toNat),by omega,⟨by omega,by simp;omega,show-1≤a+n∧a+n≤40 by omega,?_⟩,Wk.fr (by simp[Ac])⟩
     rw[hinv]
     cases CU (r.drop (k+1)) (a+n)<;>simp
 .refine W.exit ?_
  have hkk:k=r.length:=by omega
  subst hkk
  simp[CU] at hinv
  obtain⟨l,hl,hacc2⟩:=hinv
  subst hacc2
  have hst:(BN (rest++l)).take (rest.length+l.length)=BN (rest++l):=by rw[List.take_of_length_le];rw[EQ];simp
  refine z0 ?_;intro K hK
  refine Ab.pass [0] (PU (rest++l) c (by omega)) (by simp) (by simp) (by simp) (by simp) ?_
  rintro _ M ⟨rfl,rfl⟩ _
  refine zx ?_
  refine zk ?_;clear hK K
  refine z0 ?_;intro K hK
  refine Ab.eq (Lx rest (by omega)) (by simp) (by simp) ?_
  by_cases hm:AI rest
  .rw[decide_eq_true hm]
   refine zx ?_
   refine Ab.eq (Lx (BN (rest++l)) (by rw[EQ];omega)) (by simp[EQ,hst]) (by simp) ?_
   refine zx ?_
   refine zk ?_;clear hK K
   refine zr ?_
   simp[hl,NL,hm,EQ,hst]
  .rw[decide_eq_false hm]
   refine zx ?_
   refine zk ?_;clear hK K
   refine zr ?_
   simp[hl,NL,hm,EQ,hst]
end Go.Abs
namespace Go.Abs
theorem GB {bs:List Bool}:∀(k:Nat) (f:Bool) (p:Nat) (last:Int) (r:List Int×Nat),p≤bs.length→B1 bs k f p last=some r→r.1.length=k∧(∀x∈r.1,0≤x∧x<16)∧p≤r.2∧r.2≤bs.length
 |0,f,p,last,r,hp,h=>by simp[B1] at h;subst h;simp;exact hp
 |k+1,f,p,last,r,hp,h=>by
  simp only[B1] at h
  split at h
  .simp at h
  .rename_i x hx
   obtain⟨h1,h2,h3,h4,_⟩:=AJ hx
   generalize (last+(if f=true then Cc ((x.1:Int)-1) else(x.1:Int)))=y at h
   split at h
   .rename_i hy
    split at h
    .rename_i q hq
     simp at h;subst h
     obtain⟨g1,g2,g3,g4⟩:=GB k false x.2 _ q h4 hq
     refine⟨by simp[g1],fun z hz=>?_,by simp only;omega,g4⟩
     simp at hz
     rcases hz with rfl|hz
     .exact hy
     .exact g2 z hz
    .simp at h
   .simp at h
theorem K8 {bs:List Bool}:∀(k:Nat) (p:Nat) (last:Int) (r:List Int×Nat),B1 bs k false p last=some r→r.1.Pairwise (·<·)∧∀x∈r.1,last<x
 |0,p,last,r,h=>by simp[B1] at h;subst h;simp
 |k+1,p,last,r,h=>by
  simp only[B1,Bool.false_eq_true,if_false] at h
  split at h
  .simp at h
  .rename_i x hx
   obtain⟨h1,h2,h3,h4,_⟩:=AJ hx
   split at h
   .split at h
    .rename_i q hq
     simp at h;subst h
     obtain⟨g1,g2⟩:=K8 k x.2 _ q hq
     refine⟨?_,fun z hz=>?_⟩
     .simp only[List.pairwise_cons]
      exact⟨fun z hz=>by have:=g2 z hz;simpa using this,g1⟩
     .simp at hz
      rcases hz with rfl|hz
      .omega
      .have:=g2 z hz;omega
    .simp at h
   .simp at h
theorem OJ {bs:List Bool} {k:Nat} {f:Bool} {p:Nat} {last:Int} {r:List Int×Nat} (hp:p≤bs.length) (h:B1 bs k f p last=some r):AI r.1:=by
 refine⟨(GB k f p last r hp h).2.1,?_⟩
 cases k with
 |zero=>simp[B1] at h;subst h;simp
 |succ k=>
  simp only[B1] at h
  split at h
  .simp at h
  .rename_i x hx
   generalize (last+(if f=true then Cc ((x.1:Int)-1) else(x.1:Int)))=y at h
   split at h
   .split at h
    .rename_i q hq
     simp at h;subst h
     obtain⟨g1,g2⟩:=K8 k _ _ q hq
     simp only[List.pairwise_cons]
     exact⟨fun z hz=>by have:=g2 z hz;simpa using this,g1⟩
    .simp at h
   .simp at h
theorem HD {bs:List Bool} {p:Nat} {v:Int} {r:List Int×Nat} (h:Dx bs p v=some r):r.1.length≤16∧AI r.1∧p<r.2∧r.2≤bs.length:=by
 unfold Dx at h
 split at h
 .simp at h
 .rename_i x hx
  obtain⟨h1,h2,h3,h4,_⟩:=AJ hx
  split at h
  .have h5:=GB _ _ _ _ _ h4 h
   exact⟨by omega,OJ h4 h,by omega,h5.2.2.2⟩
  .simp at h
theorem Iw {bs:List Bool}:∀(k:Nat) (f:Bool) (p:Nat) (e:Int) (r:List (Int×Int)×Nat) (B:Int),p≤bs.length→-B≤e→e≤B→Cr bs k f p e=some r→r.1.length=k∧(∀q∈r.1,-(B+4294967296*(k:Int))≤q.1∧q.1≤B+4294967296*(k:Int)∧3≤q.2∧q.2≤2147483648)∧p≤r.2∧r.2≤bs.length
 |0,f,p,e,r,B,hp,_,_,h=>by simp[Cr] at h;subst h;simp;exact hp
 |k+1,f,p,e,r,B,hp,hB1,hB2,h=>by
  simp only[Cr] at h
  split at h
  .simp at h
  .rename_i x hx
   obtain⟨h1,h2,h3,h4,_⟩:=AJ hx
   split at h
   .simp at h
   .rename_i y hy
    obtain⟨i1,i2,i3,i4,_⟩:=AJ hy
    split at h
    .rename_i q hq
     simp at h;subst h
     have hz:∃z:Int,z=(if f=true then Cc ((x.1:Int)-1) else(x.1:Int))∧-1073741825≤z∧z≤1073741825:=⟨_,rfl,by unfold Cc;split<;>(try split)<;>omega,by unfold Cc;split<;>(try split)<;>omega⟩
     obtain⟨z,hz,hz1,hz2⟩:=hz
     rw[←hz] at hq ⊢
     obtain⟨g1,g2,g3,g4⟩:=Iw k false y.2 _ q (B+4294967296) i4 (by omega) (by omega) hq
     refine⟨by simp[g1],fun w hw=>?_,by simp only;omega,g4⟩
     simp only[List.mem_cons] at hw
     rcases hw with rfl|hw
     .simp only;omega
     .have:=g2 w hw;omega
    .simp at h
theorem Mu:∀(l:List Int) (b:Int),(∀x∈l,b≤x∧x<16)→l.Pairwise (·<·)→l.length≤(16-b).toNat
 | [],b,_,_=>by simp
 |x::t,b,h,hp=>by
  rw[List.pairwise_cons] at hp
  have h1:=h x (by simp)
  have:=Mu t (x+1) (fun y hy=>⟨by have:=hp.1 y hy;omega,(h y (by simp[hy])).2⟩) hp.2
  simp;omega
theorem BQ {l:List Int} (h:AI l):l.length≤16:=Mu l 0 h.1 h.2
theorem K9:∀(n:Nat) (l:List Int),l.length≤n→(As l).1.length≤l.length∧(As l).2.length≤l.length
 |_,[],_=>by simp[As]
 |0,x::l,h=>by simp at h
 |n+1,x::l,h=>by
  have h1:=FM x l
  have h2:=Gu (x::l)
  have h3:((x::l).drop (A7 (x::l))).length=(x::l).length-A7 (x::l):=by simp
  have ih:=K9 n ((x::l).drop (A7 (x::l))) (by omega)
  rw[As]
  split
  .simp only[List.length_cons] at*;omega
  .simp only[List.length_append,List.length_take] at*;omega
theorem HE {bs:List Bool} {p:Nat} {v:Int} {r:List Int×Nat} (hv:-100000≤v∧v≤100000) (h:CV bs p v=some r):AI r.1∧r.1.length≤16∧p<r.2∧r.2≤bs.length:=by
 unfold CV at h
 split at h
 .simp at h
 .rename_i x hx
  obtain⟨h1,h2,h3,h4,_⟩:=AJ hx
  split at h
  .split at h
   .simp at h
   .rename_i r0 hr0
    have g0:=Iw _ _ _ _ _ 100000 h4 hv.1 hv.2 hr0
    split at h
    .simp at h
    .rename_i g hg
     have g1:=HD hg
     split at h
     .simp at h
     .rename_i l hl
      unfold EA at hl
      split at hl
      .simp at hl
      .split at hl
       .rename_i hm
        simp at hl
        split at h
        .simp at h;subst h
         rw[hl] at hm
         exact⟨hm.2,BQ hm.2,by simp only;omega,g1.2.2.2⟩
        .simp at h
       .simp at hl
  .simp at h
end Go.Abs
set_option maxRecDepth 100000
namespace Go.Abs
open Go.Proofs
def Ix (o:Option (List Int×Nat)) (r:AV):Prop:=match o with
 |some q=>r= .tup [.own 1 q.1.length (Ad q.1),.int .i64 q.2,.bool true]
 |none=>∃(xs:List Int) (a:Int),r= .tup [.own 1 xs.length (Ad xs),.int .i64 a,.bool false]
theorem JV (b:CL) (p:Nat) (v:Int) (hb:C2 b) (hp:p<50000000000) (hv:0≤v∧v<100000):Aa pg 199 [.agg (Ch b),.int .i64 p,.int .i64 v] [] (fun r _=>Ix (CV (Ao b) p v) r):=by
 have hl:=BT b
 have h2:=hb.2.1;have h3:=hb.2.2;have h0:=hb.1
 have e0:CV (Ao b) p v=match Fo (Ao b) p v with
  |none=>none
  |some r=>match Dx (Ao b) r.2 v with
   |none=>none
   |some g=>match EA r.1 g.1 with
    |none=>none
    |some l=>if As l=(r.1,g.1) then some (l,g.2) else none:=by
  unfold CV Fo
  cases AH (Ao b) p with
  |none=>rfl
  |some x=>simp only;split<;>rfl
 refine Aa.start (fn:=Tryz.f199) [.tmp 6,.tmp 7,.tmp 8] tk rfl rfl rfl (by kernel_rfl) (Nat.le_of_ble_eq_true rfl) rfl (by kernel_rfl) ?_
 rw[Bq]
 refine z1 ?_;intro K hK;refine zk ?_;clear hK K
 refine z0 ?_;intro K hK
 have sp:=OI b p v hb hp hv
 cases hr:Fo (Ao b) p v with
 |none=>
  simp only[hr,K7] at sp e0
  refine Ab.eq sp (by simp) (by simp) ?_
  refine zx ?_
  refine zk ?_;clear hK K
  refine z0 ?_;intro K hK;refine zk ?_;clear hK K
  refine zt ?_
  refine z0 ?_;intro K hK;refine zk ?_;clear hK K
  refine zr ?_
  rw[e0]
  exact⟨[],0,rfl⟩
 |some r=>
  simp only[hr,K7] at sp e0
  obtain⟨i1,i2,i3,i4,i5⟩:r.1.length≤15∧(∀q∈r.1,(-1000000000000<q.1∧q.1<1000000000000)∧(-1000000000000<q.2∧q.2<1000000000000))∧r.2≤(Ao b).length∧True∧True:=by
   unfold Fo at hr
   split at hr
   .simp at hr
   .rename_i x hx
    obtain⟨j1,j2,j3,j4,_⟩:=AJ hx
    split at hr
    .have:=Iw _ _ _ _ _ 100000 j4 (by omega) (by omega) hr
     refine⟨by omega,fun q hq=>?_,this.2.2.2,trivial,trivial⟩
     have:=this.2.1 q hq
     omega
    .simp at hr
  refine Ab.eq sp (by simp) (by simp) ?_
  refine zx ?_
  refine zk ?_;clear hK K
  refine z0 ?_;intro K hK;refine zk ?_;clear hK K
  refine zn ?_
  refine W.skip ?_
  refine z0 ?_;intro K hK
  have sp:=OH b r.2 v hb (by omega) hv
  cases hg:Dx (Ao b) r.2 v with
  |none=>
   simp only[hg,CS] at sp e0
   refine Ab.eq sp (by simp) (by simp) ?_
   refine zx ?_
   refine zk ?_;clear hK K
   refine z0 ?_;intro K hK;refine zk ?_;clear hK K
   refine zt ?_
   refine z0 ?_;intro K hK;refine zk ?_;clear hK K
   refine zr ?_
   rw[e0]
   exact⟨[],0,rfl⟩
  |some g=>
   obtain⟨g1,g2,g3,g4⟩:=HD hg
   simp only[hg,CS] at sp e0
   refine Ab.eq sp (by simp) (by simp) ?_
   refine zx ?_
   refine zk ?_;clear hK K
   refine z0 ?_;intro K hK;refine zk ?_;clear hK K
   refine zn ?_
   refine W.skip ?_
   refine z0 ?_;intro K hK
   have sp:=TP r.1 g.1 (by omega) (by omega) i2
   cases hw:CU r.1 (-1) with
   |none=>
    simp only[hw,NL,EA] at sp e0
    refine Ab.eq sp (by simp) (by simp) ?_
    refine zx ?_
    refine zk ?_;clear hK K
    refine z0 ?_;intro K hK;refine zk ?_;clear hK K
    refine zt ?_
    refine z0 ?_;intro K hK;refine zk ?_;clear hK K
    refine zr ?_
    rw[e0]
    exact⟨[],0,rfl⟩
   |some l=>
    simp only[hw,NL,EA] at sp e0
    generalize BN (g.1++l)=L at sp e0
    by_cases hm:AI g.1∧AI L
    .rw[if_pos hm] at e0
     rw[decide_eq_true hm] at sp
     have hll:=BQ hm.2
     have hpl:=K9 _ L (Nat.le_refl _)
     simp only at e0
     refine Ab.eq sp (by simp) (by simp) ?_
     refine zx ?_
     refine zk ?_;clear hK K
     refine z0 ?_;intro K hK;refine zk ?_;clear hK K
     refine zn ?_
     refine W.skip ?_
     refine z0 ?_;intro K hK
     have sp:=TN L (by omega) (fun x hx=>by have:=hm.2.1 x hx;omega)
     refine Ab.eq sp (by simp) (by simp[Mt]) ?_
     simp only[Mt]
     refine zx ?_
     refine zk ?_;clear hK K
     refine z0 ?_;intro K hK
     refine Ab.eq (Rg (As L).1 r.1 (by omega)) (by simp) (by simp) ?_
     by_cases c1:(As L).1=r.1
     .rw[decide_eq_true c1]
      refine zx ?_
      refine Ab.eq (G2 (As L).2 g.1 (by omega)) (by simp) (by simp) ?_
      by_cases c2:(As L).2=g.1
      .rw[decide_eq_true c2]
       refine zx ?_
       refine zk ?_;clear hK K
       refine zr ?_
       have c3:As L=(r.1,g.1):=Prod.ext c1 c2
       rw[e0,if_pos c3]
       rfl
      .rw[decide_eq_false c2]
       refine zx ?_
       refine zk ?_;clear hK K
       refine zr ?_
       rw[e0,if_neg (fun e=>c2 (by rw[e]))]
       exact⟨L,g.2,rfl⟩
     .rw[decide_eq_false c1]
      refine zx ?_
      refine zk ?_;clear hK K
      refine zr ?_
      rw[e0,if_neg (fun e=>c1 (by rw[e]))]
      exact⟨L,g.2,rfl⟩
    .rw[if_neg hm] at e0
     rw[decide_eq_false hm] at sp
     refine Ab.eq sp (by simp) (by simp) ?_
     refine zx ?_
     refine zk ?_;clear hK K
     refine z0 ?_;intro K hK;refine zk ?_;clear hK K
     refine zt ?_
     refine z0 ?_;intro K hK;refine zk ?_;clear hK K
     refine zr ?_
     rw[e0]
     exact⟨[],0,rfl⟩
end Go.Abs
set_option maxRecDepth 100000
namespace Go.Abs
open Go.Proofs
def Fp (l:List Nat):List Int:=l.map fun n=>((n:Nat):Int)
theorem PV (a b:List Nat):Fp (a++b)=Fp a++Fp b:=by simp[Fp]
@[simp] theorem WH (a:List Nat):(Fp a).length=a.length:=by simp[Fp]
def RN (q:List Int×List Int):AV:= .tup [.own 1 q.1.length (Ad q.1),.own 1 q.2.length (Ad q.2)]
theorem Rh (ref l:List Int) (h1:ref.length<1000000000) (h2:l.length<1000000000):Aa pg 235 [.ro ref.length (Ad ref),.ro l.length (Ad l)] [] (fun r _=>r=RN (blocks ref l,Bi ref l)):=by
 refine Aa.start (fn:=Tryz.f235) [.tmp 4,.tmp 5] tk rfl rfl rfl (by kernel_rfl) (Nat.le_of_ble_eq_true rfl) rfl (by kernel_rfl) ?_
 rw[Am]
 refine zs ?_
 refine zs ?_
 refine zs ?_
 (repeat refine W.seq ?_);refine W.block (W.loopS (fun s:Nat×List Nat×Bool×Nat=> [(0,.ro ref.length (Ad ref)),(1,.ro l.length (Ad l)),(4,.tok 0 s.2.1.length 1 0 s.2.1.length),(5,.tok 1 0 1 0 0),(6,.bool s.2.2.1),(7,.int .i64 s.2.2.2),(12,.ro ref.length (Ad ref)),(13,.int .i64 ref.length),(14,.int .i64 s.1)]) (fun s=> [.live s.2.1.length (Ad (Fp s.2.1)),.live 0 []]) (fun s=>ref.length-s.1)
   (fun s=>s.1≤ref.length∧s.2.1.length≤s.1∧s.2.2.2≤s.1∧Bc l ref true 0=s.2.1++Bc l (ref.drop s.1) s.2.2.1 s.2.2.2) (0,[],true,0) ((Wk.nil (t:=4) (s:=1) (by simp)).trans ((Wk.nil (t:=5) (s:=1) (by simp)).trans (Wk.fr (by simp[Ac])))) (by simp) ?_)
 rintro⟨k,acc,i,n⟩ ⟨hk,hacc,hn,hinv⟩
 simp only at hk hacc hn hinv
 refine zs ?_
 refine zc ?_ ?_<;>intro h
 .refine W.skip ?_
  have hlt:k<ref.length:=by omega
  rw[List.drop_eq_getElem_cons hlt] at hinv
  simp only[Bc] at hinv
  refine zb ?_
  refine zs ?_
  refine z0 ?_;intro K hK
  refine Ab.eq (E4 l ref[k] (by omega)) (by simp) (by simp) ?_
  by_cases hc:l.contains ref[k]=i
  .rw[hc]
   refine zx ?_
   refine zk ?_;clear hK K
   refine zn ?_
   refine W.skip ?_
   refine zs ?_
   refine zs ?_
   rw[if_pos hc] at hinv
   refine⟨(k+1,acc,i,n+1),by simp;omega,⟨by simp;omega,by simp;omega,by simp;omega,hinv⟩,Wk.fr (by simp[Ac])⟩
  .have hc' :l.contains ref[k]= !i:=by cases i<;>simp_all
   rw[hc']
   refine zx ?_
   refine zk ?_;clear hK K
   refine zt ?_
   refine z1 ?_;intro K hK
   refine zk ?_;clear hK K
   refine zs ?_
   refine zs ?_
   refine zs ?_
   rw[if_neg hc] at hinv
   refine⟨(k+1,acc++[n],!i,1),by simp;omega,⟨by simp;omega,by simp;omega,by simp,?_⟩,Wk.cutM (k:=2) (by simp[Ac]) (by simp[PV,BE];simp[Fp,Ad]) (by simp) (by simp) (by simp) (by simp)⟩
   rw[hinv];simp
 .refine W.exit ?_
  have:ref.drop k=[]:=List.drop_of_length_le (by omega)
  rw[this] at hinv
  simp[Bc] at hinv
  subst hinv
  refine zs ?_
  (repeat refine W.seq ?_);refine W.block (W.loopS (fun s:Nat×List Int=> [(0,.ro ref.length (Ad ref)),(4,.tok 0 (Bc l ref true 0).length 1 0 (Bc l ref true 0).length),(5,.tok 1 s.2.length 1 0 s.2.length),(32,.ro l.length (Ad l)),(33,.int .i64 l.length),(34,.int .i64 s.1)]) (fun s=> [.live (Bc l ref true 0).length (Ad (Fp (Bc l ref true 0))),.live s.2.length (Ad s.2)]) (fun s=>l.length-s.1)
    (fun s=>s.1≤l.length∧s.2.length≤s.1∧Bi ref l=s.2++Bi ref (l.drop s.1)) (0,[]) (Wk.fr (by simp[Ac])) (by simp) ?_)
  rintro⟨j,oc⟩ ⟨hj,hoc,hio⟩
  simp only at hj hoc hio
  refine zs ?_
  refine zc ?_ ?_<;>intro h
  .refine W.skip ?_
   have hlt:j<l.length:=by omega
   rw[List.drop_eq_getElem_cons hlt] at hio
   refine zb ?_
   refine zs ?_
   refine z0 ?_;intro K hK
   refine Ab.eq (E4 ref l[j] (by omega)) (by simp) (by simp) ?_
   by_cases hc:ref.contains l[j]=true
   .rw[hc]
    refine zx ?_
    refine zk ?_;clear hK K
    refine zn ?_
    refine W.skip ?_
    refine zs ?_
    refine⟨(j+1,oc),by simp;omega,⟨by simp;omega,by simp;omega,?_⟩,Wk.fr (by simp[Ac])⟩
    rw[hio,Bi,List.filter_cons_of_neg (by rw[hc];decide)];rfl
   .have hc:ref.contains l[j]=false:=by simpa using hc
    rw[hc]
    refine zx ?_
    refine zk ?_;clear hK K
    refine zt ?_
    refine z1 ?_;intro K hK
    refine zk ?_;clear hK K
    refine zs ?_
    refine⟨(j+1,oc++[l[j]]),by simp;omega,⟨by simp;omega,by simp;omega,?_⟩,Wk.cutM (k:=2) (by simp[Ac]) (by simp[BE];simp[Ad]) (by simp) (by simp) (by simp) (by simp)⟩
    rw[hio,Bi,List.filter_cons_of_pos (by rw[hc];decide)];simp[Bi]
  .refine W.exit ?_
   have:l.drop j=[]:=List.drop_of_length_le (by omega)
   rw[this] at hio
   simp[Bi] at hio
   refine zs ?_
   refine zr ?_
   simp[RN,blocks,Bi,hio,Fp]
   rw[List.take_of_length_le (by simp)]
end Go.Abs
set_option maxRecDepth 100000
namespace Go.Abs
open Go.Proofs
def bM (ref bl rest:List Int):Option (List Int):=match A0 bl ref true with
 |none=>none
 |some l=>if AI (BN (rest++l)) then some (BN (rest++l)) else none
theorem Ge (l:List Int):∀(ref:List Int) (i:Bool) (n:Nat),(Bc l ref i n).length≤ref.length
 | [],i,n=>by simp[Bc]
 |x::ref,i,n=>by
  simp only[Bc]
  split
  .have:=Ge l ref i (n+1);simp;omega
  .have:=Ge l ref (!i) 1;simp;omega
theorem Ri (ref bl rest:List Int) (h1:ref.length<1000000) (h2:bl.length<1000000) (h3:rest.length<1000000) (hb:∀x∈bl,-1000000000000<x∧x<1000000000000):
 Aa pg 227 [.ro ref.length (Ad ref),.ro bl.length (Ad bl),.ro rest.length (Ad rest)] [] (fun r _=>match Cs ref bl rest with
  |some l=>r= .tup [.own 1 l.length (Ad l),.bool true]
  |none=>∃xs:List Int,r= .tup [.own 1 xs.length (Ad xs),.bool false]):=by
 refine Aa.start (fn:=Tryz.f227) [.tmp 6,.tmp 7] tk rfl rfl rfl (by kernel_rfl) (Nat.le_of_ble_eq_true rfl) rfl (by kernel_rfl) ?_
 rw[Bq]
 refine zs ?_
 refine z0 ?_;intro K hK
 refine Ab.eq (Kw rest (by omega)) (by simp) (by simp) ?_
 refine zx ?_
 refine zk ?_;clear hK K
 refine zs ?_
 refine zs ?_
 refine zs ?_
 (repeat refine W.seq ?_);refine W.block (W.loopS (fun s:Nat×List Int×List Int×Bool×Nat=> [(0,.ro ref.length (Ad ref)),(1,.ro bl.length (Ad bl)),(2,.ro rest.length (Ad rest)),(8,.tok 0 s.2.2.2.2 1 0 s.2.1.length),(9,.ro s.2.2.1.length (Ad s.2.2.1)),(10,.bool s.2.2.2.1),(18,.ro bl.length (Ad bl)),(19,.int .i64 bl.length),(20,.int .i64 s.1)]) (fun s=> [.live s.2.2.2.2 (Ad s.2.1)]) (fun s=>bl.length-s.1)
   (fun s=>s.1≤bl.length∧s.2.1.length+s.2.2.1.length≤rest.length+ref.length∧(A0 bl ref true).map (rest++·)=(A0 (bl.drop s.1) s.2.2.1 s.2.2.2.1).map (s.2.1++·)) (0,rest,ref,true,0) (Wk.fr (by simp[Ac])) (by simp) ?_)
 rintro⟨k,acc,left,i,c⟩ ⟨hk,hacc,hinv⟩
 simp only at hk hacc hinv
 refine zs ?_
 refine zc ?_ ?_<;>intro h
 .refine W.skip ?_
  have hlt:k<bl.length:=by omega
  have hbk:=hb _ (List.getElem_mem hlt)
  rw[List.drop_eq_getElem_cons hlt] at hinv
  simp only[A0] at hinv
  generalize hn:bl[k]=n at hinv hbk
  refine zb ?_
  refine Ae (an hlt hn) ?_;intro K hK
  refine zk ?_;clear hK K
  by_cases hbad:n<0∨(left.length:Int)<n
  .rw[if_pos hbad] at hinv
   have hcg:A0 bl ref true=none:=by simpa using hinv
   have hcw:Cs ref bl rest=none:=by simp[Cs,hcg]
   (repeat refine W.seq ?_);refine W.midS (fun _:Unit=> [(31,.bool true)]) (fun _=> []) (fun _=>True) ?_ ?_
   .by_cases hz:n<0
    .refine z0 ?_;intro K hK
     refine zk ?_;clear hK K
     exact⟨(),trivial,Wk.cutM (k:=0) (by simp[Ac]) (by simp) (by simp) (by simp) (by simp) (by simp)⟩
    .refine z0 ?_;intro K hK
     refine zk ?_;clear hK K
     exact⟨(),trivial,Wk.cutM (k:=0) (by simp[Ac]) (by simp) (by simp) (by simp) (by simp) (by simp)⟩
   .rintro _ _
    refine zt ?_
    refine zs ?_
    refine zr ?_
    rw[hcw]
    exact⟨[],rfl,rfl⟩
  .rw[if_neg hbad] at hinv
   refine z0 ?_;intro K hK
   refine zk ?_;clear hK K
   refine zn ?_
   refine W.skip ?_
   refine zs ?_
   have hle:n.toNat≤left.length:=by omega
   have htk:(left.drop n.toNat).take (left.length-n.toNat)=left.drop n.toNat:=List.take_of_length_le (by simp)
   cases i with
   |true=>
    refine zt ?_
    refine zs ?_
    refine zs ?_
    refine zs ?_
    refine⟨(k+1,acc++left.take n.toNat,left.drop n.toNat,false,c+1),by simp;omega,⟨by simp;omega,by simp;omega,?_⟩,Wk.cutM (k:=1) (by simp[Ac,htk];try omega) (by simp[BE]) (by simp) (by simp) (by simp) (by simp)⟩
    rw[hinv]
    simp only[Bool.not_true]
    cases A0 (bl.drop (k+1)) (left.drop n.toNat) false<;>simp
   |false=>
    refine zn ?_
    refine W.skip ?_
    refine zs ?_
    refine zs ?_
    refine⟨(k+1,acc,left.drop n.toNat,true,c),by simp;omega,⟨by simp;omega,by simp;omega,?_⟩,Wk.fr (by simp[Ac,htk];try omega)⟩
    rw[hinv]
    simp only[Bool.not_false]
    cases A0 (bl.drop (k+1)) (left.drop n.toNat) true<;>simp
 .refine W.exit ?_
  have hkk:bl.drop k=[]:=List.drop_of_length_le (by omega)
  rw[hkk] at hinv
  simp only[A0,Option.map_some] at hinv
  obtain⟨e,he,hee⟩:∃e,A0 bl ref true=some e∧rest++e=acc++(if i=true then left else []):=by
   cases hc:A0 bl ref true with
   |none=>rw[hc] at hinv;simp at hinv
   |some e=>rw[hc] at hinv;simp at hinv;exact⟨e,rfl,hinv⟩
  refine zs ?_
  (repeat refine W.seq ?_);refine W.midS (fun c:Nat=> [(0,.ro ref.length (Ad ref)),(1,.ro bl.length (Ad bl)),(2,.ro rest.length (Ad rest)),(8,.tok 0 c 1 0 (rest++e).length)]) (fun c=> [.live c (Ad (rest++e))]) (fun _=>True) ?_ ?_
  .cases i with
   |true=>
    refine zt ?_
    refine z0 ?_;intro K hK
    refine zk ?_;clear hK K
    exact⟨c+1,trivial,Wk.cutM (k:=1) (by simp[Ac,hee]) (by simp[hee,BE]) (by simp) (by simp) (by simp) (by simp)⟩
   |false=>
    refine zn ?_
    refine W.skip ?_
    exact⟨c,trivial,Wk.cutM (k:=1) (by simp[Ac,hee]) (by simp[hee]) (by simp) (by simp) (by simp) (by simp)⟩
  .rintro c _
   have hel:(rest++e).length≤rest.length+ref.length:=by rw[hee];split<;>simp<;>omega
   generalize hX:rest++e=X at hel
   have hln:=EQ X
   generalize hL:BN X=L at hln
   refine z0 ?_;intro K hK
   refine Ab.pass [0] (PU X c (by omega)) (by simp) (by simp) (by simp) (by simp) ?_
   rw[hL]
   rintro _ M ⟨rfl,rfl⟩ _
   rw[←hln]
   refine zx ?_
   refine zk ?_;clear hK K
   refine z0 ?_;intro K hK
   refine Ab.eq (Lx L (by omega)) (by simp) (by simp) ?_
   have hcw:Cs ref bl rest=if AI L∧blocks ref L=bl∧Bi ref L=rest then some L else none:=by simp only[Cs,he,hX,hL]
   by_cases hm:AI L
   .rw[decide_eq_true hm]
    refine zx ?_
    refine zk ?_;clear hK K
    refine zn ?_
    refine W.skip ?_
    have hll:=BQ hm
    refine z0 ?_;intro K hK
    refine Ab.eq (Rh ref L (by omega) (by omega)) (by simp) (by simp[RN]) ?_
    simp only[RN]
    refine zx ?_
    refine zk ?_;clear hK K
    refine z0 ?_;intro K hK
    refine Ab.eq (G2 (blocks ref L) bl (by have:=Ge L ref true 0;simp[blocks];omega)) (by simp) (by simp) ?_
    by_cases c1:blocks ref L=bl
    .rw[decide_eq_true c1]
     refine zx ?_
     refine Ab.eq (G2 (Bi ref L) rest (by have:=List.length_filter_le (fun x=> !ref.contains x) L;simp only[Bi];omega)) (by simp) (by simp) ?_
     by_cases c2:Bi ref L=rest
     .rw[decide_eq_true c2]
      refine zx ?_
      refine zk ?_;clear hK K
      refine zr ?_
      rw[hcw,if_pos ⟨hm,c1,c2⟩]
      exact⟨rfl,rfl⟩
     .rw[decide_eq_false c2]
      refine zx ?_
      refine zk ?_;clear hK K
      refine zr ?_
      rw[hcw,if_neg (fun h=>c2 h.2.2)]
      exact⟨L,rfl,rfl⟩
    .rw[decide_eq_false c1]
     refine zx ?_
     refine zk ?_;clear hK K
     refine zr ?_
     rw[hcw,if_neg (fun h=>c1 h.2.1)]
     exact⟨L,rfl,rfl⟩
   .rw[decide_eq_false hm]
    refine zx ?_
    refine zk ?_;clear hK K
    refine zt ?_
    refine zs ?_
    refine zr ?_
    rw[hcw,if_neg (fun h=>hm h.1)]
    exact⟨[],rfl,rfl⟩
end Go.Abs
set_option maxRecDepth 100000
namespace Go.Abs
open Go.Proofs
theorem La {bs:List Bool}:∀(k:Nat) (f:Bool) (p:Nat) (r:List Int×Nat),p≤bs.length→Ci bs k f p=some r→r.1.length=k∧(∀x∈r.1,0≤x∧x≤1073741824)∧r.2≤bs.length
 |0,f,p,r,hp,h=>by simp[Ci] at h;subst h;simp;exact hp
 |k+1,f,p,r,hp,h=>by
  simp only[Ci] at h
  split at h
  .simp at h
  .rename_i x hx
   obtain⟨h1,h2,h3,h4,_⟩:=AJ hx
   split at h
   .rename_i q hq
    simp at h;subst h
    obtain⟨g1,g2,g3⟩:=La k false x.2 q h4 hq
    refine⟨by simp[g1],fun z hz=>?_,g3⟩
    simp only[List.mem_cons] at hz
    rcases hz with rfl|hz
    .split<;>omega
    .exact g2 z hz
   .simp at h
theorem Mv (b:CL) (p:Nat) (v:Int) (ref:List Int) (hb:C2 b) (hp:p<50000000000) (hv:0≤v∧v<100000) (href:ref.length<1000000):Aa pg 201 [.agg (Ch b),.int .i64 p,.int .i64 v,.ro ref.length (Ad ref)] [] (fun r _=>Ix (CD (Ao b) p v ref) r):=by
 have hl:=BT b
 have h2:=hb.2.1;have h3:=hb.2.2;have h0:=hb.1
 refine Aa.start (fn:=Tryz.f201) [.tmp 8,.tmp 9,.tmp 10] tk rfl rfl rfl (by kernel_rfl) (Nat.le_of_ble_eq_true rfl) rfl (by kernel_rfl) ?_
 rw[Ik]
 refine z1 ?_;intro K hK;refine zk ?_;clear hK K
 refine z0 ?_;intro K hK
 have sp:=FA b p hb hp
 cases hg:AH (Ao b) p with
 |none=>
  simp only[hg,E8] at sp
  refine Ab.eq sp (by simp) (by simp) ?_
  refine zx ?_
  refine zk ?_;clear hK K
  refine z0 ?_;intro K hK;refine zk ?_;clear hK K
  refine zt ?_
  refine z0 ?_;intro K hK;refine zk ?_;clear hK K
  refine zr ?_
  simp only[CD,hg]
  exact⟨[],0,rfl⟩
 |some x=>
  simp only[hg,E8] at sp
  obtain⟨hx1,hx2,hx3,hx4,_⟩:=AJ hg
  refine Ab.eq sp (by simp) (by simp) ?_
  refine zx ?_
  refine zk ?_;clear hK K
  refine z0 ?_;intro K hK;refine zk ?_;clear hK K
  refine zc ?_ ?_<;>intro h
  .refine z0 ?_;intro K hK;refine zk ?_;clear hK K
   refine zr ?_
   simp only[CD,hg];rw[if_neg (by omega)]
   exact⟨[],0,rfl⟩
  .refine W.skip ?_
   refine z0 ?_;intro K hK;refine zk ?_;clear hK K
   refine z0 ?_;intro K hK;refine zk ?_;clear hK K
   (repeat refine W.seq ?_);refine W.block (W.loopS (fun s:Nat×List Int×Nat=> [(2,.int .i64 v),(3,.ro ref.length (Ad ref)),(4,.ptr 0 0 0),(8,.own 1 0 []),(9,.int .i64 s.2.2),(12,.tok 1 s.1 1 0 s.1),(30,.int .i64 ((x.1:Int)-1)),(31,.int .i64 s.1)]) (fun s=> [.live 0 (Ch b),.live s.1 (Ad s.2.1)]) (fun s=>x.1-1-s.1)
     (fun s=>s.1≤x.1-1∧s.2.1.length=s.1∧s.2.2≤(Ao b).length∧Ci (Ao b) (x.1-1) true x.2=(Ci (Ao b) (x.1-1-s.1) (decide (s.1=0)) s.2.2).map fun r=>(s.2.1++r.1,r.2)) (0,[],x.2) ((Wk.nil (t:=12) (s:=1) (by simp)).trans (Wk.fr (by simp[Ac]))) ⟨by omega,rfl,hx4,by simp⟩ ?_)
   rintro⟨k,acc,q⟩ ⟨hk,hacc,hq,hinv⟩
   simp only at hk hacc hq hinv
   refine z0 ?_;intro K hK;refine zk ?_;clear hK K
   refine zc ?_ ?_<;>intro h
   .refine W.skip ?_
    obtain⟨m,hm⟩:∃m,x.1-1-k=m+1:=⟨x.1-1-k-1,by omega⟩
    have hm' :x.1-1-(k+1)=m:=by omega
    rw[hm] at hinv
    refine zb ?_
    refine z0 ?_;intro K hK;refine zk ?_;clear hK K
    refine z0 ?_;intro K hK;refine zk ?_;clear hK K
    refine z0 ?_;intro K hK
    have sp:=FA b q hb (by omega)
    cases hg2:AH (Ao b) q with
    |none=>
     simp only[hg2,E8] at sp
     refine Ab.eq sp (by simp) (by simp) ?_
     refine zx ?_
     refine zk ?_;clear hK K
     refine z0 ?_;intro K hK;refine zk ?_;clear hK K
     refine zt ?_
     refine z0 ?_;intro K hK;refine zk ?_;clear hK K
     refine zr ?_
     simp only[Ci,hg2] at hinv
     simp only[CD,hg];rw[if_pos (by omega),hinv]
     exact⟨[],0,rfl⟩
    |some y=>
     simp only[hg2,E8] at sp
     obtain⟨hy1,hy2,hy3,hy4,_⟩:=AJ hg2
     refine Ab.eq sp (by simp) (by simp) ?_
     refine zx ?_
     refine zk ?_;clear hK K
     refine z0 ?_;intro K hK;refine zk ?_;clear hK K
     refine zn ?_
     refine W.skip ?_
     simp only[Ci,hg2] at hinv
     have hz:∃z:Int,z=(if k=0 then(y.1:Int)-1 else(y.1:Int)):=⟨_,rfl⟩
     obtain⟨z,hz⟩:=hz
     refine z0 ?_;intro K hK;refine zk ?_;clear hK K
     (repeat refine W.seq ?_);refine W.midS (fun _:Unit=> [(2,.int .i64 v),(3,.ro ref.length (Ad ref)),(4,.ptr 0 0 0),(8,.own 1 0 []),(9,.int .i64 y.2),(12,.tok 1 k 1 0 k),(14,.int .i64 z),(30,.int .i64 ((x.1:Int)-1)),(31,.int .i64 k)]) (fun _=> [.live 0 (Ch b),.live k (Ad acc)]) (fun _=>True) ?_ ?_
     .refine zc ?_ ?_<;>intro h
      .refine z0 ?_;intro K hK
       refine zk ?_;clear hK K
       exact⟨(),trivial,Wk.fr (by simp[Ac,hz,h])⟩
      .refine W.skip ?_
       exact⟨(),trivial,Wk.fr (by simp[Ac,hz,h])⟩
     .rintro _ _
      have hzz:(if decide (k=0)=true then(y.1:Int)-1 else(y.1:Int))=z:=by rw[hz];simp
      rw[hzz,hm'.symm] at hinv
      refine z1 ?_;intro K hK;refine zk ?_;clear hK K
      refine z0 ?_;intro K hK;refine zk ?_;clear hK K
      refine⟨(k+1,acc++[z],y.2),by simp;omega,⟨by simp;omega,by simp;omega,hy4,?_⟩,Wk.cutM (k:=2) (by simp[Ac]) (by simp[BE,Ad]) (by simp) (by simp) (by simp) (by simp)⟩
      rw[hinv]
      simp only[show decide (k+1=0)=false from by simp]
      cases Ci (Ao b) (x.1-1-(k+1)) false y.2<;>simp
   .refine W.exit ?_
    have hk0:x.1-1-k=0:=by omega
    rw[hk0] at hinv
    simp only[Ci,Option.map_some,List.append_nil] at hinv
    have hno:=La _ _ _ _ hx4 hinv
    have hcr:CD (Ao b) p v ref=match CV (Ao b) q v with
     |none=>none
     |some r=>match Cs ref acc r.1 with
      |some l=>some (l,r.2)
      |none=>none:=by
     simp only[CD,hg];rw[if_pos (by omega),hinv]
     rfl
    simp only at hno
    subst hacc
    refine z0 ?_;intro K hK
    have sp:=JV b q v hb (by omega) hv
    cases hr:CV (Ao b) q v with
    |none=>
     simp only[hr,Ix] at sp hcr
     refine Ab.bor sp (by simp) ?_
     rintro _ ⟨xs,a,rfl⟩
     refine⟨by simp,?_⟩
     refine zx ?_
     refine zk ?_;clear hK K
     refine z0 ?_;intro K hK;refine zk ?_;clear hK K
     refine zt ?_
     refine z0 ?_;intro K hK;refine zk ?_;clear hK K
     refine zr ?_
     rw[hcr]
     exact⟨[],0,rfl⟩
    |some r=>
     simp only[hr,Ix] at sp hcr
     refine Ab.eq sp (by simp) (by simp) ?_
     refine zx ?_
     refine zk ?_;clear hK K
     refine z0 ?_;intro K hK;refine zk ?_;clear hK K
     refine zn ?_
     refine W.skip ?_
     refine z0 ?_;intro K hK
     have sp:=Ri ref acc r.1 href (by omega) (by have:=HE (by omega) hr;omega) (fun z hz=>by have:=hno.2.1 z hz;omega)
     cases hc:Cs ref acc r.1 with
     |none=>
      simp only[hc] at sp hcr
      refine Ab.bor sp (by simp) ?_
      rintro _ ⟨xs,rfl⟩
      refine⟨by simp,?_⟩
      refine zx ?_
      refine zk ?_;clear hK K
      refine z0 ?_;intro K hK;refine zk ?_;clear hK K
      refine zr ?_
      rw[hcr]
      exact⟨xs,r.2,rfl⟩
     |some l=>
      simp only[hc] at sp hcr
      refine Ab.eq sp (by simp) (by simp) ?_
      refine zx ?_
      refine zk ?_;clear hK K
      refine z0 ?_;intro K hK;refine zk ?_;clear hK K
      refine zr ?_
      rw[hcr]
      rfl
end Go.Abs
