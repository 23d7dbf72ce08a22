/- The steps of a walk, each in one word: what a step does is said once, here, as a default proof. -/
import Derived.Test.YtoklapibcmnaeaaGreatP6
import Derived.Shelf.Small.Bits
import Derived.Shelf.Sort.Plain
import Derived.Test.YtoklapibcmnaeaaGreatProg
set_option linter.unusedVariables false
set_option linter.unusedSimpArgs false
namespace Go.Abs
section
variable {G A B H:Prop}
theorem zs (h:A) (e:A->G:=by intro zz;(repeat refine W.seq ?_);refine W.reg 0 rfl fun K hK=>?_;simp -implicitDefEqProofs (maxSteps:=999999) (disch:=omega);(repeat refine⟨by repeat clear zz;first|assumption|omega,?_⟩);refine hK _ _ ?_;clear hK K;exact zz):G:=e h
theorem z0 (h:A) (e:A->G:=by intro zz;(repeat refine W.seq ?_);refine W.reg 0 rfl fun K hK=>?_;simp -implicitDefEqProofs (maxSteps:=999999) (disch:=omega);revert hK;revert K;exact zz):G:=e h
theorem z1 (h:A) (e:A->G:=by intro zz;(repeat refine W.seq ?_);refine W.reg 1 rfl fun K hK=>?_;simp -implicitDefEqProofs (maxSteps:=999999) (disch:=omega);revert hK;revert K;exact zz):G:=e h
theorem z2 (h:A) (e:A->G:=by intro zz;(repeat refine W.seq ?_);refine W.reg 2 rfl fun K hK=>?_;simp -implicitDefEqProofs (maxSteps:=999999) (disch:=omega);revert hK;revert K;exact zz):G:=e h
theorem z3 (h:A) (e:A->G:=by intro zz;(repeat refine W.seq ?_);refine W.reg 3 rfl fun K hK=>?_;simp -implicitDefEqProofs (maxSteps:=999999) (disch:=omega);revert hK;revert K;exact zz):G:=e h
theorem Af (f:H) (h:A) (e:H->A->G:=by intro zf zz;(repeat refine W.seq ?_);refine W.reg 0 rfl fun K hK=>?_;simp -implicitDefEqProofs (maxSteps:=999999) (disch:=omega) [zf];clear zf;revert hK;revert K;exact zz):G:=e f h
theorem MG (f:H) (h:A) (e:H->A->G:=by intro zf zz;(repeat refine W.seq ?_);refine W.reg 1 rfl fun K hK=>?_;simp -implicitDefEqProofs (maxSteps:=999999) (disch:=omega) [zf];clear zf;revert hK;revert K;exact zz):G:=e f h
theorem Cm (h:A) (e:A->G:=by intro zz;(repeat refine W.seq ?_);refine W.regd 0 rfl true Cz (by kernel_rfl) fun K hK=>?_;simp -implicitDefEqProofs (maxSteps:=999999) (disch:=omega);revert hK;revert K;exact zz):G:=e h
theorem Bx (f:H) (h:A) (e:H->A->G:=by intro zf zz;(repeat refine W.seq ?_);refine W.regd 0 rfl true Cz (by kernel_rfl) fun K hK=>?_;simp -implicitDefEqProofs (maxSteps:=999999) (disch:=omega) [zf];clear zf;revert hK;revert K;exact zz):G:=e f h
theorem zx (h:A) (e:A->G:=by intro zz;simp only[Fa];simp -implicitDefEqProofs (maxSteps:=999999) (disch:=omega);exact zz):G:=e h
theorem AX (f:H) (h:A) (e:H->A->G:=by intro zf zz;simp only[Fa];simp -implicitDefEqProofs (maxSteps:=999999) (disch:=omega) [zf];clear zf;exact zz):G:=e f h
theorem zk (h:A) (e:A->G:=by intro zz;(repeat refine⟨by repeat clear zz;first|assumption|omega,?_⟩);refine hK _ _ ?_;exact zz):G:=e h
theorem zt (h:A) (e:A->G:=by intro zz;(repeat refine W.seq ?_);refine W.condK fun K1 K2 h1 h2=>?_;simp -implicitDefEqProofs (maxSteps:=999999) (disch:=omega);refine h1 ?_;clear h1 h2 K1 K2;exact zz):G:=e h
theorem zn (h:A) (e:A->G:=by intro zz;(repeat refine W.seq ?_);refine W.condK fun K1 K2 h1 h2=>?_;simp -implicitDefEqProofs (maxSteps:=999999) (disch:=omega);refine h2 ?_;clear h1 h2 K1 K2;exact zz):G:=e h
theorem zc (ha:A) (hb:B) (e:A->B->G:=by intro za zb;(repeat refine W.seq ?_);refine W.condK fun K1 K2 h1 h2=>?_;simp -implicitDefEqProofs (maxSteps:=999999) (disch:=omega) [-and_imp];refine⟨fun h=>h1 ?_,fun h=>h2 ?_⟩<;>clear h1 h2 K1 K2<;>revert h;exact za;exact zb):G:=e ha hb
theorem zr (h:A) (e:A->G:=by intro zz;refine W.ret ?_;simp only[CH,Ds,C0];refine CR (d:=0) ?_;simp -implicitDefEqProofs (maxSteps:=999999) (disch:=omega);exact zz):G:=e h
theorem zR (e:G:=by refine W.ret ?_;simp only[CH,Ds,C0];refine CR (d:=0) ?_;simp -implicitDefEqProofs (maxSteps:=999999) (disch:=omega)):G:=e
theorem zb (h:A) (e:A->G:=by intro zz;(repeat refine W.seq ?_);refine W.block ?_;exact zz):G:=e h
theorem y1 (h:A) (e:A->G:=by intro zz;(first|refine W.skip ?_|refine W.exit ?_|refine zs ?_|refine zt ?_|refine zn ?_|refine zb ?_);exact zz):G:=e h
theorem y2 (h:A) (e:A->G:=by intro zz;iterate 2 refine y1 ?_;exact zz):G:=e h
theorem an (a:A) (b:B):A/\B:=⟨a,b⟩
end
set_option maxRecDepth 100000
open Go.Proofs
theorem Ew (xs ys:List Int) (hx:xs.length<4611686018427387904):Aa pg 33 [.ro xs.length (Ae xs),.ro ys.length (Ae ys)] [] (fun r _=>r= .bool (decide (xs=ys))):=by
 refine Aa.start (fn:=Tryz.f33) [.tmp 4] tk rfl rfl rfl (by kernel_rfl) (Nat.le_of_ble_eq_true rfl) rfl (by kernel_rfl) ?_
 rw[At]
 refine zs ?_
 refine zs ?_
 refine zc ?_ ?_<;>intro h
 .refine zs ?_
  refine zr ?_
  intro e;exact h (by rw[e])
 .refine W.skip ?_
  have hl:xs.length=ys.length:=by omega
  refine zs ?_
  (repeat refine W.seq ?_);refine W.block (W.loopS (fun k:Nat=> [(0,.ro xs.length (Ae xs)),(1,.ro ys.length (Ae ys)),(5,.int .i64 k)]) (fun _=> []) (fun k=>xs.length-k) (fun k=>k<=xs.length/\xs.take k=ys.take k) 0 (Wk.fr ?_) (by simp) ?_)
  .simp[Ad]
  .rintro k ⟨hk,ht⟩
   refine zs ?_
   refine zc ?_ ?_<;>intro h
   .refine W.skip ?_
    have hlt:k<xs.length:=by omega
    have hlt' :k<ys.length:=by omega
    refine zb ?_
    refine Cm ?_;intro K hK
    simp[hlt,hlt']
    refine zk ?_;clear hK K
    refine zc ?_ ?_<;>intro h
    .refine zs ?_
     refine zr ?_
     intro e;subst e;exact h rfl
    .refine W.skip ?_
     refine zs ?_
     refine⟨k+1,by omega,⟨by omega,?_⟩,Wk.fr ?_⟩
     .rw[List.take_add_one,List.take_add_one,ht];simp[hlt,hlt',h]
     .simp[Ad]
   .refine W.exit ?_
    have hk' :k=xs.length:=by omega
    subst hk'
    refine zs ?_
    refine zr ?_
    rw[List.take_length,hl,List.take_length] at ht
    simp[ht]
theorem EJ (xs:List Int) (hx:xs.length<1000000000000):Aa pg 187 [.ro xs.length (Ae xs)] [] (fun r _=>r= .own 1 xs.length (Ae xs)):=by
 refine Aa.start (fn:=Tryz.f187) [.tmp 2] tk rfl rfl rfl (by kernel_rfl) (Nat.le_of_ble_eq_true rfl) rfl (by kernel_rfl) ?_
 rw[Ay]
 refine zs ?_
 refine zs ?_
 refine zs ?_
 (repeat refine W.seq ?_);refine W.block (W.loopS (fun k:Nat=> [(0,.ro xs.length (Ae xs)),(3,.tok 0 k 1 0 k),(4,.int .i64 k)]) (fun k=> [.live k (Ae (xs.take k))]) (fun k=>xs.length-k) (fun k=>k<=xs.length) 0 ((Wk.nil (t:=3) (s:=1) ?_).trans (Wk.fr ?_)) (by simp) ?_)
 .simp
 .simp[Ad]
 .intro k hk
  refine zs ?_
  refine zc ?_ ?_<;>intro h
  .refine W.skip ?_
   have hlt:k<xs.length:=by omega
   refine zb ?_
   refine z1 ?_;intro K hK
   refine⟨hlt,by omega,by omega,?_⟩
   refine zk ?_;clear hK K
   refine zs ?_
   refine⟨k+1,by omega,by omega,Wk.cutM (k:=1) ?_ ?_ ?_ ?_ ?_ ?_⟩<;>simp
   have e:Ae (List.take (k+1) xs)=Ae (List.take k xs)++[AV.int IntKind.i64 xs[k]]:=by rw[List.take_add_one,Cj];simp[hlt,Ae]
   exact e.symm
  .refine W.exit ?_
   have hk' :k=xs.length:=by omega
   subst hk'
   refine zs ?_
   exact zR
theorem Ks (xs ys:List (List Int)) (hx:xs.length<1000000000000) (hr:∀r∈xs,r.length<1000000000000):Aa pg 84 [.ro xs.length (AA false xs),.ro ys.length (AA false ys)] [] (fun r _=>r= .bool (decide (xs=ys))):=by
 refine Aa.start (fn:=Tryz.f84) [.tmp 4] tk rfl rfl rfl (by kernel_rfl) (Nat.le_of_ble_eq_true rfl) rfl (by kernel_rfl) ?_
 rw[At]
 refine zs ?_
 refine zs ?_
 refine zc ?_ ?_<;>intro h
 .refine zs ?_
  refine zr ?_
  intro e;exact h (by rw[e])
 .refine W.skip ?_
  have hl:xs.length=ys.length:=by omega
  refine zs ?_
  (repeat refine W.seq ?_);refine W.block (W.loopS (fun k:Nat=> [(0,.ro xs.length (AA false xs)),(1,.ro ys.length (AA false ys)),(5,.int .i64 k)]) (fun _=> []) (fun k=>xs.length-k) (fun k=>k<=xs.length/\xs.take k=ys.take k) 0 (Wk.fr ?_) (by simp) ?_)
  .simp[Ad]
  .rintro k ⟨hk,ht⟩
   refine zs ?_
   refine zc ?_ ?_<;>intro h
   .refine W.skip ?_
    have hlt:k<xs.length:=by omega
    have hlt' :k<ys.length:=by omega
    refine zb ?_
    refine Cm ?_;intro K hK
    simp[hlt,hlt']
    refine Ah.eq (Ew xs[k] ys[k] (by have:=hr xs[k] (by simp);omega)) (by simp) (by simp) ?_
    refine zx ?_
    refine zk ?_;clear hK K
    refine zc ?_ ?_<;>intro h
    .refine zs ?_
     refine zr ?_
     intro e;subst e;exact h rfl
    .refine W.skip ?_
     refine zs ?_
     refine⟨k+1,by omega,⟨by omega,?_⟩,Wk.fr ?_⟩
     .rw[List.take_add_one,List.take_add_one,ht];simp[hlt,hlt',h]
     .simp[Ad]
   .refine W.exit ?_
    have hk' :k=xs.length:=by omega
    subst hk'
    refine zs ?_
    refine zr ?_
    rw[List.take_length,hl,List.take_length] at ht
    simp[ht]
def EK (d:ByteArray) (i:Nat):Bool:=decide (Db d (i/8)/2^(7-i%8)%2=1)
def Aq (b:Dh):List Bool:=(List.range b.n.toNat).map (EK b.data)
def Di (b:Dh):Prop:=0<=b.n/\b.n<=6000/\(b.data.size:Int)=(b.n+7)/8/\∀i,i<8*b.data.size->b.n.toNat<=i->EK b.data i=false
instance (b:Dh):Decidable (Di b):=inferInstanceAs (Decidable (_/\_/\_/\_))
def BH (l:List Bool):Nat:=l.foldl (fun v b=>2*v+b.toNat) 0
def ahead (l:List Bool) (p:Nat):Option Nat:=(l.drop p).findIdx? id
def A5 (l:List Bool) (p:Nat):Option (Nat×Nat):=match ahead l p with
 |none=>none
 |some q=>if q<=30/\p+2*q+1<=l.length then(if BH ((l.drop (p+q)).take (q+1))<=1073741824 then some (BH ((l.drop (p+q)).take (q+1)),p+2*q+1) else none) else none
def A9 (v w:Nat):List Bool:=(List.range w).map fun i=>decide (v/2^(w-1-i)%2=1)
def AD (n:Nat):List Bool:=A9 0 (Nat.log2 n)++A9 n (Nat.log2 n+1)
def CO (n:Int):Int:=if n%2=1 then-((n+1)/2) else n/2
def BX (n:Int):Int:=if n<0 then-2*n-1 else 2*n
def AJ (l:List Int):Prop:=(∀x∈l,0<=x/\x<16)/\l.Pairwise (·<·)
instance (l:List Int):Decidable (AJ l):=inferInstanceAs (Decidable (_/\_))
def Cd (bs:List Bool):Nat->Bool->Nat->Int->Option (List Int×Nat)
 |0,_,p,_=>some ([],p)
 |k+1,f,p,last=>match A5 bs p with
  |none=>none
  |some x=>let y:=last+(if f=true then CO ((x.1:Int)-1) else(x.1:Int))
   if 0<=y/\y<16 then(match Cd bs k false x.2 y with|some r=>some (y::r.1,r.2) |none=>none) else none
def DI (bs:List Bool) (p:Nat) (v:Int):Option (List Int×Nat):=match A5 bs p with
 |none=>none
 |some x=>if x.1<=17 then Cd bs (x.1-1) true x.2 v else none
def Dw (bs:List Bool):Nat->Bool->Nat->Int->Option (List Int×Nat)
 |0,_,p,_=>some ([],p)
 |k+1,f,p,last=>match A5 bs p with
  |none=>none
  |some x=>match Dw bs k false x.2 (last+(if f=true then CO ((x.1:Int)-1) else(x.1:Int))) with
   |some r=>some ((last+(if f=true then CO ((x.1:Int)-1) else(x.1:Int)))::r.1,r.2)
   |none=>none
def Eh (bs:List Bool) (p:Nat) (v:Int):Option (List Int×Nat):=match A5 bs p with
 |none=>none
 |some x=>if x.1<=17 then(match Dw bs (x.1-1) true x.2 v with|some r=>if AJ r.1 then some r else none|none=>none) else none
def AZ:List Int->Nat
 | []=>0
 | [_]=>1
 |x::y::l=>if y=x+1 then AZ (y::l)+1 else 1
theorem EL (x:Int) (l:List Int):0<AZ (x::l):=by cases l<;>simp[AZ];split<;>omega
theorem Fb:∀l:List Int,AZ l<=l.length
 | []=>by simp[AZ]
 | [_]=>by simp[AZ]
 |x::y::l=>by have:=Fb (y::l);simp[AZ];split<;>simp at* <;>omega
def Am:List Int->List (Int×Int)×List Int
 | []=>([],[])
 |x::l=>let k:=AZ (x::l)
  let q:=Am ((x::l).drop k)
  if 3<=k then((x,(k:Int))::q.1,q.2) else(q.1,(x::l).take k++q.2)
termination_by l=>l.length
decreasing_by have:=EL x l;simp;omega
def CJ (bs:List Bool):Nat->Bool->Nat->Int->Option (List (Int×Int)×Nat)
 |0,_,p,_=>some ([],p)
 |k+1,f,p,e=>match A5 bs p with
  |none=>none
  |some x=>match A5 bs x.2 with
   |none=>none
   |some y=>let a:=e+(if f=true then CO ((x.1:Int)-1) else(x.1:Int))
    match CJ bs k false y.2 (a+((y.1:Int)-1+3)) with
    |some r=>some ((a,(y.1:Int)-1+3)::r.1,r.2)
    |none=>none
def DB:List (Int×Int)->Int->Option (List Int)
 | [],_=>some []
 | (a,n)::rs,e=>if n<3\/16<n\/a<=e\/¬(0<=a/\a<16)\/¬(0<=a+n-1/\a+n-1<16) then none else
   match DB rs (a+n) with
   |some l=>some ((List.range n.toNat).map (fun i=>a+(i:Nat))++l)
   |none=>none
def B6 (l:List Int):List Int:=l.mergeSort fun x y=>decide (x<=y)
def EQ (r:List (Int×Int)) (rest:List Int):Option (List Int):=match DB r (-1) with
 |none=>none
 |some l=>if AJ rest/\AJ (B6 (rest++l)) then some (B6 (rest++l)) else none
def De (bs:List Bool) (p:Nat) (v:Int):Option (List Int×Nat):=match A5 bs p with
 |none=>none
 |some x=>if x.1<=16 then(match CJ bs (x.1-1) true x.2 v with
  |none=>none
  |some r=>match DI bs r.2 v with
   |none=>none
   |some g=>match EQ r.1 g.1 with
    |none=>none
    |some l=>if Am l=(r.1,g.1) then some (l,g.2) else none) else none
def Ce (bs:List Bool):Nat->Bool->Nat->Int->Option (List (Int×Int)×Nat)
 |0,_,p,_=>some ([],p)
 |k+1,f,p,e=>match A5 bs p with
  |none=>none
  |some x=>match A5 bs x.2 with
   |none=>none
   |some y=>if y.1<=16 then(let a:=e+(if f=true then CO ((x.1:Int)-1) else(x.1:Int))
    match Ce bs k false y.2 (a+((y.1:Int)-1+3)) with
    |some r=>some ((a,(y.1:Int)-1+3)::r.1,r.2)
    |none=>none) else none
def Dx:List (Int×Int)->Int->Prop
 | [],_=>True
 | (a,n)::rs,e=>0<=a/\a<16/\3<=n/\n<=16-a/\e<a/\Dx rs (a+n)
instance runsOKd:∀(r:List (Int×Int)) (e:Int),Decidable (Dx r e)
 | [],_=>inferInstanceAs (Decidable True)
 | (_,_)::rs,_=>have:=runsOKd rs;inferInstanceAs (Decidable (_/\_/\_/\_/\_/\_))
def Bu (r:List (Int×Int)) (i:Int):Bool:=r.any fun q=>decide (q.1<=i/\i<q.1+q.2)
def H2 (p:Int->Bool):List Int:=((List.range 16).map fun i=>((i:Nat):Int)).filter p
def DJ (r:List (Int×Int)) (rest:List Int):Option (List Int):=
 if AJ rest/\Dx r (-1)/\∀x∈rest,Bu r x=false then some (H2 fun i=>Bu r i||rest.contains i) else none
def B3 (v:Int):List Int->Bool->Int->List Bool
 | [],_,_=> []
 |x::l,f,last=>AD (if f=true then BX (x-v)+1 else x-last).toNat++B3 v l false x
def Cx (v:Int) (l:List Int):List Bool:=AD (l.length+1)++B3 v l true 0
def BL (v:Int):List (Int×Int)->Bool->Int->List Bool
 | [],_,_=> []
 | (a,n)::l,f,e=>AD (if f=true then BX (a-v)+1 else a-e).toNat++AD (n-3+1).toNat++BL v l false (a+n)
def AY (v:Int) (l:List Int):List Bool:=AD ((Am l).1.length+1)++BL v (Am l).1 true 0++Cx v (Am l).2
def BU (bs:List Bool) (p:Nat) (v:Int):Option (List Int×Nat):=match A5 bs p with
 |none=>none
 |some x=>if x.1<=17 then(match Ce bs (x.1-1) true x.2 v with
  |none=>none
  |some r=>match Eh bs r.2 v with
   |none=>none
   |some g=>match DJ r.1 g.1 with
    |none=>none
    |some l=>if (AY v l).length=g.2-p/\(bs.drop p).take (AY v l).length=AY v l then some (l,g.2) else none) else none
def AU (l:List Int):List Int->Bool->Nat->List Nat
 | [],_,_=> []
 |x::ref,i,n=>if l.contains x=i then AU l ref i (n+1) else n::AU l ref (!i) 1
def blocks (ref l:List Int):List Int:=(AU l ref true 0).map fun n=>((n:Nat):Int)
def Bh (ref l:List Int):List Int:=l.filter fun x=> !ref.contains x
def Bi:List Int->List Int->Bool->Option (List Int)
 | [],left,i=>some (if i=true then left else [])
 |n::bs,left,i=>if n<0\/(left.length:Int)<n then none else
  match Bi bs (left.drop n.toNat) (!i) with
  |some l=>some ((if i=true then left.take n.toNat else [])++l)
  |none=>none
def Cv (ref bl rest:List Int):Option (List Int):=match Bi bl ref true with
 |none=>none
 |some l=>if AJ (B6 (rest++l))/\blocks ref (B6 (rest++l))=bl/\Bh ref (B6 (rest++l))=rest then some (B6 (rest++l)) else none
def B9 (bs:List Bool):Nat->Bool->Nat->Option (List Int×Nat)
 |0,_,p=>some ([],p)
 |k+1,f,p=>match A5 bs p with
  |none=>none
  |some x=>match B9 bs k false x.2 with
   |some r=>some ((if f=true then(x.1:Int)-1 else(x.1:Int))::r.1,r.2)
   |none=>none
def CA (bs:List Bool) (p:Nat) (v:Int) (ref:List Int):Option (List Int×Nat):=match A5 bs p with
 |none=>none
 |some x=>if x.1<=17 then(match B9 bs (x.1-1) true x.2 with
  |none=>none
  |some q=>match De bs q.2 v with
   |none=>none
   |some r=>match Cv ref q.1 r.1 with
    |some l=>some (l,r.2)
    |none=>none) else none
def BM (bs:List Bool):Nat->Bool->Nat->Option (List Int×Nat)
 |0,_,p=>some ([],p)
 |k+1,f,p=>match A5 bs p with
  |none=>none
  |some x=>if x.1<=17 then(match BM bs k false x.2 with
   |some r=>some ((if f=true then(x.1:Int)-1 else(x.1:Int))::r.1,r.2)
   |none=>none) else none
def EM (ref bl rest:List Int):Option (List Int):=
 if¬(AJ ref/\AJ rest/\bl.length<=16) then none else match Bi bl ref true with
  |none=>none
  |some l=>let m:=H2 fun i=>l.contains i||rest.contains i
   if blocks ref m=bl/\Bh ref m=rest then some m else none
def Ex (bs:List Bool) (p:Nat) (v:Int) (ref:List Int):Option (List Int×Nat):=match A5 bs p with
 |none=>none
 |some x=>if x.1<=17 then(match BM bs (x.1-1) true x.2 with
  |none=>none
  |some q=>match BU bs q.2 v with
   |none=>none
   |some r=>match EM ref q.1 r.1 with
    |some l=>some (l,r.2)
    |none=>none) else none
def C8 (out:List (List Int)):Nat:=(out.map List.length).sum
def A3 (g:Gr):Prop:=0<=g.n/\g.n<=16/\(g.out.length:Int)=g.n/\(∀l∈g.out,AJ l/\∀x∈l,x<g.n)/\C8 g.out<=120
instance (g:Gr):Decidable (A3 g):=inferInstanceAs (Decidable (_/\_/\_/\_/\_))
def AI:Gr:=⟨0,[]⟩
def CS:Cu:=⟨0,0,0,false,[],[]⟩
def AR:CZ:=⟨false,0,false,0,AI,CS⟩
abbrev Rd:=Nat->Int->Option (List Int×Nat)
def Be (rd:Rd):Nat->Int->Nat->Option (List (List Int)×Nat)
 |0,_,p=>some ([],p)
 |k+1,v,p=>match rd p v with
  |none=>none
  |some r=>match Be rd k (v+1) r.2 with
   |some q=>some (r.1::q.1,q.2)
   |none=>none
def CK (bs:List Bool) (rd:Rd):Option Gr:=match A5 bs 0 with
 |none=>none
 |some x=>if x.1<=17 then(match Be rd (x.1-1) 0 x.2 with
  |none=>none
  |some r=>if r.2=bs.length/\A3 ⟨(x.1:Int)-1,r.1⟩ then some ⟨(x.1:Int)-1,r.1⟩ else none) else none
def AH (g:Gr) (v:Int):List Int:=g.out.getD v.toNat []
def BD (bs:List Bool):Option Gr:=CK bs (De bs)
def BK (a:Gr) (bs:List Bool):Option Gr:=CK bs fun p v=>CA bs p v (AH a v)
def Fc (bs:List Bool):Option Gr:=CK bs (BU bs)
def H3 (a:Gr) (bs:List Bool):Option Gr:=CK bs fun p v=>Ex bs p v (AH a v)
def A7 (l:List Obj) (id:Int):Option Obj:=l.find? fun o=>decide (o.id=id)
def AL {α:Type} (f:α->Bool) (l:List α):Int:=match l.findIdx? f with|some i=>(i:Int) |none=>-1
def Ca (l:List Obj):Prop:=l.length<=12/\(∀o∈l,1<=o.id/\o.id<=1048576/\Di o.data/\o.base≠o.id/\(o.base=0\/∃q∈l,q.id=o.base))/\l.Pairwise fun a b=>a.id<b.id
instance (l:List Obj):Decidable (Ca l):=inferInstanceAs (Decidable (_/\_/\_))
def AQ (l:List Obj):Nat->Int->List Obj
 |0,_=> []
 |k+1,id=>if id=0 then [] else match A7 l id with
  |some o=>o::AQ l k o.base
  |none=> []
def AE (l:List Obj) (id:Int):Int×Int:=match A7 l id with
 |none=>(0,3)
 |some _=>if 3<(AQ l 4 id).length then(0,2) else(((AQ l 4 id).length:Int),0)
def C9 (rf:List Bool->Option Gr) (rd:Gr->List Bool->Option Gr):List Obj->Option Gr
 | []=>some AI
 |o::w=>if o.base=0 then rf (Aq o.data) else match C9 rf rd w with
  |none=>none
  |some a=>rd a (Aq o.data)
def AP (l:List Obj) (id:Int):Gr×Int:=if (AE l id).2≠0 then(AI,(AE l id).2) else match C9 BD BK (AQ l 3 id) with
 |some g=>(g,0)
 |none=>(AI,9)
def gi (l:List Int) (i:Int):Int:=l.getD i.toNat 0
def si (l:List Int) (i x:Int):List Int:=l.set i.toNat x
def named (k:Int):Bool:=decide (k=1\/k=2\/k=4)
def DK (g:Gr) (k a:Int):Int:=if¬(1<=k/\k<=6) then 1 else if named k=true/\¬(0<=a/\a<g.n) then 3 else 0
def Kt (n:Nat):List Int:=(List.range n).map fun i=>((i:Nat):Int)
def CC (g:Gr) (k a:Int):Cu:=⟨k,if named k=true then a else 0,0,false,if k=4 then [a] else [],if k=4 then si (List.replicate g.n.toNat (-1)) a 0 else if k=5 then Kt g.n.toNat else []⟩
def BY (g:Gr) (j:Cu):Bool:=if j.kind=1 then decide (1<=j.at_) else if j.kind=4 then decide ((j.list.length:Int)<=j.at_) else decide (g.n<=j.at_)
def Bj (v:Int) (s:List Int×List Int) (w:Int):List Int×List Int:=if gi s.1 w<0 then(si s.1 w (gi s.1 v+1),s.2++[w]) else s
def Bv (v:Int) (s:List Int×Bool) (w:Int):List Int×Bool:=
 (si (si s.1 v (min (gi s.1 v) (gi s.1 w))) w (min (gi s.1 v) (gi s.1 w)),s.2||!decide (gi s.1 v=gi s.1 w))
def Dy (l:List Int) (n:Nat):List Int:=l++List.replicate (n+1-l.length) 0
def Bc (g:Gr) (j:Cu):Cu:=
 if j.kind=1 then{j with at_:=j.at_+1,out:=AH g j.a}
 else if j.kind=2 then{j with at_:=j.at_+1,out:=j.out++if (AH g j.at_).contains j.a=true then [j.at_] else []}
 else if j.kind=3 then{j with at_:=j.at_+1,out:=si (Dy j.out (AH g j.at_).length) (AH g j.at_).length (gi (Dy j.out (AH g j.at_).length) (AH g j.at_).length+1)}
 else if j.kind=4 then{j with at_:=j.at_+1,out:=((AH g (gi j.list j.at_)).foldl (Bj (gi j.list j.at_)) (j.out,j.list)).1,list:=((AH g (gi j.list j.at_)).foldl (Bj (gi j.list j.at_)) (j.out,j.list)).2}
 else if j.kind=5 then
  (let q:=(AH g j.at_).foldl (Bv j.at_) (j.out,j.move)
   if j.at_+1=g.n/\q.2=true then{j with at_:=0,move:=false,out:=q.1} else{j with at_:=j.at_+1,move:=q.2,out:=q.1})
 else{j with at_:=j.at_+1,out:=j.out++((AH g j.at_).map fun w=> [j.at_,w]).flatten}
def GM (g:Gr) (j:Cu):Nat->Cu->Bool
 |0,_=>false
 |k+1,x=>if x=j then true else if BY g x=true then false else GM g j k (Bc g x)
def Fd (l:List Int):Nat:=(l.map Int.toNat).sum
def FK (g:Gr) (j:Cu):Nat:=
 if j.kind=1 then(1-j.at_).toNat
 else if j.kind=5 then Fd j.out*(2*g.n.toNat+2)+(if j.move=true then g.n.toNat else 0)+(g.n-j.at_).toNat
 else(g.n-j.at_).toNat
def Du (g:Gr) (j:Cu):Bool:=decide (DK g j.kind j.a=0)&&GM g j (FK g (CC g j.kind j.a)+1) (CC g j.kind j.a)
def Bm (v:AM):Obj:=⟨v.id,v.base,v.data⟩
def Ai (s:An):List Obj:=s.vers.map Bm
def Cl (b:Dh):Int:=(4+(b.data.size:Int)+59)/60
def Av (s:An):List (Int×Int):=s.vers.map fun v=>(v.at_,Cl v.data)
def AN (l:List AM):Int:=match l.getLast? with|some v=>v.id|none=>0
def apart (x y:Int×Int):Prop:=¬(y.1<x.1+x.2/\x.1<y.1+y.2)
instance (x y:Int×Int):Decidable (apart x y):=inferInstanceAs (Decidable (¬_))
def CL (l:List (Int×Int)) (n:Int):Prop:=1<=n/\n<=100/\l.length<=13/\(∀x∈l,0<=x.1/\1<=x.2/\x.1+x.2<=n)/\l.Pairwise apart
instance (l:List (Int×Int)) (n:Int):Decidable (CL l n):=inferInstanceAs (Decidable (_/\_/\_/\_/\_))
def AG (s:An) (l:List Obj) (x:CZ):Prop:=
 if x.opn=false then x=AR else
  (x.pin=0\/∃v∈s.vers,v.id=x.pin)/\(if x.on=true then 0<=x.frm/\x.frm<=AN s.vers/\A3 x.stage else x.frm=0/\x.stage=AI)/\
    (x.job=CS\/(x.pin≠0/\Du (AP l x.pin).1 x.job=true/\BY (AP l x.pin).1 x.job=false))
instance (s:An) (l:List Obj) (x:CZ):Decidable (AG s l x):=by unfold AG;exact inferInstance
def Gh (v:AM):Prop:=0<=v.parent/\v.parent<v.id/\¬(v.tag=true/\v.gone=true)
instance (v:AM):Decidable (Gh v):=inferInstanceAs (Decidable (_/\_/\_))
def Cy (l:List AM):Bool:=match l.getLast? with|some v=>v.gone|none=>false
def GC (s:An):Prop:=1<=s.keep/\s.keep<=8/\1<=s.blocks/\s.blocks<=100/\(∀v∈s.vers,Gh v)/\Cy s.vers=false/\Ca (Ai s)
instance (s:An):Decidable (GC s):=inferInstanceAs (Decidable (_/\_/\_/\_/\_/\_/\_))
def Ey (s:An):Prop:=GC s/\s.sess.length=3/\(∀o∈Ai s,(AP (Ai s) o.id).2=0)/\∀x∈s.sess,AG s (Ai s) x
instance (s:An):Decidable (Ey s):=inferInstanceAs (Decidable (_/\_/\_/\_))
def A2 (s:An):Prop:=Ey s/\CL (Av s) s.blocks
instance (s:An):Decidable (A2 s):=inferInstanceAs (Decidable (_/\_))
def Ku (v:Nat) (l:List Bool):Nat:=l.foldl (fun v b=>2*v+b.toNat) v
theorem KV:∀(l:List Bool) (v:Nat),Ku v l=v*2^l.length+BH l
 | [],v=>by simp[Ku,BH]
 |b::l,v=>by
  have h1:=KV l (2*v+b.toNat)
  have h2:=KV l (2*0+b.toNat)
  have e1:Ku v (b::l)=Ku (2*v+b.toNat) l:=rfl
  have e2:BH (b::l)=Ku (2*0+b.toNat) l:=rfl
  simp only[Nat.mul_zero,Nat.zero_add] at h2 e2
  rw[e1,e2,h1,h2,List.length_cons,Nat.pow_succ,Nat.add_mul]
  have:2*v*2^l.length=v*(2^l.length*2):=by rw[Nat.mul_comm 2 v,Nat.mul_assoc,Nat.mul_comm 2]
  omega
@[simp] theorem fc:BH []=0:=rfl
theorem Ff (b:Bool) (l:List Bool):BH (b::l)=b.toNat*2^l.length+BH l:=by
 have:=KV l (2*0+b.toNat)
 have e:BH (b::l)=Ku (2*0+b.toNat) l:=rfl
 rw[e,this];simp
theorem P0 (l m:List Bool):BH (l++m)=BH l*2^m.length+BH m:=by
 have:BH (l++m)=Ku (BH l) m:=by simp[BH,Ku,List.foldl_append]
 rw[this,KV]
theorem Od (l:List Bool) (b:Bool):BH (l++[b])=2*BH l+b.toNat:=by
 rw[P0];simp[Ff];omega
theorem GD:∀l:List Bool,BH l<2^l.length
 | []=>by simp
 |b::l=>by
  have:=GD l
  rw[Ff,List.length_cons,Nat.pow_succ]
  cases b<;>simp<;>omega
@[simp] theorem SO (v w:Nat):(A9 v w).length=w:=by simp[A9]
theorem EV (v w:Nat):A9 v (w+1)=decide (v/2^w%2=1)::A9 v w:=by
 unfold A9
 rw[List.range_succ_eq_map,List.map_cons,List.map_map]
 congr 1
 apply List.map_congr_left
 intro i hi
 simp only[Function.comp]
 have:w+1-1-(i+1)=w-1-i:=by simp at hi;omega
 rw[show Nat.succ i=i+1 from rfl,this]
theorem Ji (v:Nat):∀w k,w<=k->A9 (v%2^k) w=A9 v w
 |0,_,_=>rfl
 |w+1,k,h=>by
  rw[EV,EV,Ji v w k (by omega)]
  congr 2
  have:(v%2^k)/2^w%2=v/2^w%2:=by
   have e:k=w+(k-w):=by omega
   rw[e,Nat.pow_add,Nat.mod_mul_right_div_self]
   have:k-w=(k-w-1)+1:=by omega
   rw[this,Nat.pow_succ,Nat.mod_mul_left_mod]
  rw[this]
theorem Li:∀w v,v<2^w->BH (A9 v w)=v
 |0,v,h=>by simp at h;subst h;rfl
 |w+1,v,h=>by
  rw[EV,Ff,SO,<-Ji v w w (Nat.le_refl _),Li w _ (Nat.mod_lt _ (Nat.pow_pos (by omega)))]
  have h2:v/2^w<2:=by rw[Nat.div_lt_iff_lt_mul (Nat.pow_pos (by omega))];rw[Nat.pow_succ] at h;omega
  have h3:=Nat.div_add_mod v (2^w)
  rcases Nat.lt_or_ge (v/2^w) 1 with h4|h4
  .have e:v/2^w=0:=Nat.lt_one_iff.1 h4
   rw[e] at h3 |-;simp at h3 |-;exact h3
  .have e:v/2^w=1:=Nat.le_antisymm (Nat.le_of_lt_succ h2) h4
   rw[e] at h3 |-;simp at h3 |-;omega
theorem Ii:∀l:List Bool,A9 (BH l) l.length=l
 | []=>rfl
 |b::l=>by
  have hl:=GD l
  have hp:0<2^l.length:=Nat.pow_pos (by omega)
  rw[List.length_cons,EV,<-Ji _ l.length l.length (Nat.le_refl _),Ff]
  have e1:(b.toNat*2^l.length+BH l)%2^l.length=BH l:=by rw[Nat.mul_comm,Nat.mul_add_mod,Nat.mod_eq_of_lt hl]
  have e2:(b.toNat*2^l.length+BH l)/2^l.length=b.toNat:=by
   rw[Nat.mul_comm,Nat.mul_add_div hp,Nat.div_eq_of_lt hl];rfl
  rw[e1,e2,Ii l]
  cases b<;>rfl
theorem Lj (w:Nat):A9 0 w=List.replicate w false:=by
 apply List.ext_getElem
 .simp
 .intro i h1 h2;simp[A9]
theorem H4 {n:Nat} (h:1<=n):2^Nat.log2 n<=n/\n<2^(Nat.log2 n+1):=⟨Nat.log2_self_le (by omega),Nat.lt_log2_self⟩
theorem Kv {n q:Nat} (h1:2^q<=n) (h2:n<2^(q+1)):Nat.log2 n=q:=by
 have hp:0<2^q:=Nat.pow_pos (by omega)
 have h0:1<=n:=by omega
 have h:=H4 h0
 have a1:Nat.log2 n<q+1:=by
  rcases Nat.lt_or_ge (Nat.log2 n) (q+1) with h' |h'
  .exact h'
  .have:=Nat.pow_le_pow_right (n:=2) (by omega) h';omega
 have a2:q<Nat.log2 n+1:=by
  rcases Nat.lt_or_ge q (Nat.log2 n+1) with h' |h'
  .exact h'
  .have:=Nat.pow_le_pow_right (n:=2) (by omega) h';omega
 omega
theorem Dz (n:Nat):(AD n).length=2*Nat.log2 n+1:=by simp[AD];omega
theorem Jj {n:Nat} (h:1<=n):∃r:List Bool,r.length=Nat.log2 n/\AD n=List.replicate (Nat.log2 n) false++true::r/\BH (true::r)=n:=by
 have hs:=H4 h
 refine⟨A9 n (Nat.log2 n),by simp,?_,?_⟩
 .rw[AD,Lj,EV]
  congr 2
  have:n/2^Nat.log2 n=1:=by
   have hp:0<2^Nat.log2 n:=Nat.pow_pos (by omega)
   have h1:n/2^Nat.log2 n<2:=by rw[Nat.div_lt_iff_lt_mul hp];rw[Nat.pow_succ] at hs;omega
   have h2:1<=n/2^Nat.log2 n:=by rw[Nat.le_div_iff_mul_le hp];omega
   omega
  simp[this]
 .have:true::A9 n (Nat.log2 n)=A9 n (Nat.log2 n+1):=by
   rw[EV]
   congr 1
   have:n/2^Nat.log2 n=1:=by
    have hp:0<2^Nat.log2 n:=Nat.pow_pos (by omega)
    have h1:n/2^Nat.log2 n<2:=by rw[Nat.div_lt_iff_lt_mul hp];rw[Nat.pow_succ] at hs;omega
    have h2:1<=n/2^Nat.log2 n:=by rw[Nat.le_div_iff_mul_le hp];omega
    omega
   simp[this]
  rw[this,Li _ _ hs.2]
theorem Jk (q:Nat) (r:List Bool):(List.replicate q false++true::r).findIdx? id=some q:=by
 induction q with
 |zero=>simp[List.findIdx?_cons]
 |succ q ih=>simp[List.replicate_succ,List.findIdx?_cons,ih]
theorem H5:∀{l:List Bool} {q:Nat},l.findIdx? id=some q->∃r,l=List.replicate q false++true::r
 | [],q,h=>by simp at h
 |true::l,q,h=>by simp[List.findIdx?_cons] at h;subst h;exact⟨l,rfl⟩
 |false::l,q,h=>by
  simp[List.findIdx?_cons] at h
  obtain⟨q',h1,rfl⟩:=h
  obtain⟨r,rfl⟩:=H5 h1
  exact⟨r,by simp[List.replicate_succ]⟩
def Fg (l:List Bool) (p x:Nat):List Bool:=(l.drop p).take (x-p)
theorem DO {l:List Bool} {p x y:Nat} (h1:p<=x) (h2:x<=y):Fg l p x++Fg l x y=Fg l p y:=by
 unfold Fg
 have e1:(l.drop p).drop (x-p)=l.drop x:=by rw[List.drop_drop];congr 1;omega
 rw[<-e1,<-List.take_add]
 congr 1;omega
theorem YT {l:List Bool} {p x:Nat} (h:x<=l.length):(Fg l p x).length=x-p:=by simp[Fg];omega
theorem A0 {l:List Bool} {p:Nat} {r:Nat×Nat} (h:A5 l p=some r):1<=r.1/\r.1<=1073741824/\p<r.2/\r.2<=l.length/\Fg l p r.2=AD r.1:=by
 unfold A5 ahead at h
 split at h
 .simp at h
 .rename_i q hq
  split at h
  .rename_i hb
   split at h
   .rename_i hn
    simp at h;subst h
    obtain⟨rest,hr⟩:=H5 hq
    have hlen:(l.drop p).length=q+(rest.length+1):=by rw[hr];simp
    have hl2:l.length-p=q+(rest.length+1):=by simpa using hlen
    have e1:(l.drop (p+q)).take (q+1)=true::rest.take q:=by
     rw[<-List.drop_drop,hr,List.drop_append]
     simp
    have hrl:(rest.take q).length=q:=by simp;omega
    rw[e1] at hn |-
    have hnum:BH (true::rest.take q)=2^q+BH (rest.take q):=by rw[Ff,hrl];simp
    have hlt:=GD (rest.take q)
    rw[hrl] at hlt
    have hp:0<2^q:=Nat.pow_pos (by omega)
    have hlog:Nat.log2 (BH (true::rest.take q))=q:=Kv (by omega) (by rw[Nat.pow_succ];omega)
    refine⟨by simp only;omega,hn,by simp only;omega,hb.2,?_⟩
    simp only
    rw[AD,hlog,Lj]
    have e2:A9 (BH (true::rest.take q)) (q+1)=true::rest.take q:=by
     have:=Ii (true::rest.take q)
     rwa [List.length_cons,hrl] at this
    rw[e2,Fg,hr,show p+2*q+1-p=q+(q+1) by omega,List.take_append]
    simp
   .simp at h
  .simp at h
theorem QF {l pre suf:List Bool} {n:Nat} (h1:1<=n) (h2:n<=1073741824) (hl:l=pre++AD n++suf):A5 l pre.length=some (n,pre.length+(AD n).length):=by
 obtain⟨r,hr,hf,hn⟩:=Jj h1
 have hd:l.drop pre.length=List.replicate (Nat.log2 n) false++true::(r++suf):=by
  rw[hl,hf];simp
 have hll:l.length=pre.length+(2*Nat.log2 n+1)+suf.length:=by rw[hl];simp[Dz];omega
 have hs:=H4 h1
 have hq:Nat.log2 n<=30:=by
  rcases Nat.lt_or_ge 30 (Nat.log2 n) with h|h
  .have:2^31<=2^Nat.log2 n:=Nat.pow_le_pow_right (by omega) h
   have e:(2:Nat)^31=2147483648:=rfl
   omega
  .exact h
 have e1:(l.drop (pre.length+Nat.log2 n)).take (Nat.log2 n+1)=true::r:=by
  rw[<-List.drop_drop,hd,List.drop_append]
  simp[hr]
 unfold A5 ahead
 rw[hd,Jk]
 simp only
 rw[if_pos ⟨hq,by omega⟩,e1,hn,if_pos h2,Dz]
 simp;omega
theorem G0 {n m:Nat} {s t:List Bool} (hn:1<=n) (hm:1<=m) (h:AD n++s=AD m++t):n=m/\s=t:=by
 obtain⟨r,hr,hf,hnn⟩:=Jj hn
 obtain⟨r',hr',hf',hnm⟩:=Jj hm
 have e1:(AD n++s).findIdx? id=some (Nat.log2 n):=by rw[hf,List.append_assoc,List.cons_append];exact Jk _ _
 have e2:(AD m++t).findIdx? id=some (Nat.log2 m):=by rw[hf',List.append_assoc,List.cons_append];exact Jk _ _
 rw[h,e2] at e1
 have hlog:Nat.log2 m=Nat.log2 n:=by simpa using e1
 have:=List.append_inj h (by rw[Dz,Dz,hlog])
 refine⟨?_,this.2⟩
 have h3:=this.1
 rw[hf,hf',hlog] at h3
 have h4:=List.append_cancel_left h3
 rw[<-hnn,<-hnm,h4]
theorem KW (n:Int):CO (BX n)=n:=by unfold CO BX;split<;>split<;>omega
theorem YU (n:Int) (h:0<=n):BX (CO n)=n:=by unfold CO BX;split<;>split<;>omega
theorem Dv (n:Int):0<=BX n:=by unfold BX;split<;>omega
theorem YV {a b:Int} (h:BX a=BX b):a=b:=by rw[<-KW a,h,KW]
theorem Jl (a:Int) (h0:0<=a) (h1:a<=9223372036854775807):CN .and (.int .i64 a) (.int .i64 1)=some (.int .i64 (a%2)):=by
 obtain⟨n,rfl⟩:=Int.eq_ofNat_of_zero_le h0
 have hn:n<2^64:=by omega
 rw[Nm]
 have e1:(BitVec.ofInt IntKind.i64.bits (n:Int)&&&BitVec.ofInt IntKind.i64.bits 1).toNat=n%2:=by
  rw[BitVec.toNat_and]
  have:(BitVec.ofInt IntKind.i64.bits (n:Int)).toNat=n:=by
   rw[BitVec.toNat_ofInt];simp[IntKind.bits] at*;omega
  rw[this]
  have:(BitVec.ofInt IntKind.i64.bits 1).toNat=1:=rfl
  rw[this,Nat.and_one_is_mod]
 rw[e1]
 congr 2
 rw[wrap_i64 (by omega) (by omega)];omega
theorem YW (a b:Int) (h0:0<=a) (h1:a<=4611686018427387903) (hb:b=0\/b=1):CN .or (.int .i64 (a*2)) (.int .i64 b)=some (.int .i64 (2*a+b)):=by
 obtain⟨n,rfl⟩:=Int.eq_ofNat_of_zero_le h0
 rw[Uk]
 have e1:(BitVec.ofInt IntKind.i64.bits ((n:Int)*2) |||BitVec.ofInt IntKind.i64.bits b).toNat=(2*n+b).toNat:=by
  rw[BitVec.toNat_or]
  have:(BitVec.ofInt IntKind.i64.bits ((n:Int)*2)).toNat=2^1*n:=by
   rw[BitVec.toNat_ofInt];simp[IntKind.bits] at*;omega
  rw[this]
  rcases hb with rfl|rfl
  .have:(BitVec.ofInt IntKind.i64.bits 0).toNat=0:=rfl
   rw[this,<-Nat.two_pow_add_eq_or_of_lt (by omega)];omega
  .have:(BitVec.ofInt IntKind.i64.bits 1).toNat=1:=rfl
   rw[this,<-Nat.two_pow_add_eq_or_of_lt (by omega)];omega
 rw[e1]
 congr 2
 have:((2*(n:Int)+b).toNat:Int)=2*n+b:=by rcases hb with rfl|rfl<;>omega
 rw[this,wrap_i64 (by rcases hb with rfl|rfl<;>omega) (by rcases hb with rfl|rfl<;>omega)]
theorem H6 (s:ByteArray) (i:Nat):Db s i<256:=by
 unfold Db
 split
 .exact UInt8.toNat_lt _
 .omega
@[simp] theorem fe (a:Int) (k:Nat):a.fdiv (2^k)=a/2^k:=Int.fdiv_eq_ediv_of_nonneg a (Int.le_of_lt (Int.pow_pos (by omega)))
theorem Rx (d:ByteArray) (i:Nat):((Db d (i/8):Int)/2^(7-(i:Int)%8).toNat)%2=if EK d i=true then 1 else 0:=by
 have e:(7-(i:Int)%8).toNat=7-i%8:=by omega
 rw[e]
 have h2:((Db d (i/8):Int)/2^(7-i%8))%2=((Db d (i/8)/2^(7-i%8)%2:Nat):Int):=by
  rw[Int.natCast_emod,Int.natCast_ediv,Int.natCast_pow];rfl
 rw[h2]
 unfold EK
 have h3:Db d (i/8)/2^(7-i%8)%2<2:=Nat.mod_lt _ (by omega)
 split
 .rename_i h;simp at h;simp[h]
 .rename_i h;simp at h;omega
theorem P1 (d:ByteArray) (i k:Nat):0<=(Db d i:Int)/2^k/\(Db d i:Int)/2^k<=255:=by
 have h:=H6 d i
 have e:(Db d i:Int)/2^k=((Db d i/2^k:Nat):Int):=by rw[Int.natCast_ediv,Int.natCast_pow];rfl
 rw[e]
 have:Db d i/2^k<=Db d i:=Nat.div_le_self _ _
 generalize Db d i/2^k=z at*
 omega
@[simp] theorem ff:IntKind.bits .i64=64:=rfl
@[simp] theorem ib:IntKind.bits .u8=8:=rfl
@[simp] theorem fg:IntKind.bits .u32=32:=rfl
@[simp] theorem fh:IntKind.bits .u64=64:=rfl
theorem WV (b:Dh) (i:Nat) (hn:b.data.size<1000000000000) (hi:i/8<b.data.size):Aa pg 270 [.agg (CI b),.int .i64 i] [] (fun r _=>r= .int .i64 (if EK b.data i=true then 1 else 0)):=by
 refine Aa.start (fn:=Tryz.f270) [.tmp 4] tk rfl rfl rfl (by kernel_rfl) (Nat.le_of_ble_eq_true rfl) rfl (by kernel_rfl) ?_
 rw[At]
 refine z1 ?_;intro K hK;refine zk ?_;clear hK K
 refine z0 ?_;intro K hK
 refine⟨by omega,?_⟩
 have h3:=P1 b.data (i/8) (7-(i:Int)%8).toNat
 have e1:((i:Int)/8).toNat=i/8:=by omega
 rw[e1,wrap_i64 (by omega) (by omega),Jl _ h3.1 (by omega),Rx]
 simp
 refine zk ?_;clear hK K
 exact zR
def nb (o:Option Nat):Int:=match o with|some q=>(q:Int) |none=>-1
theorem MH {l:List Bool} {p k:Nat} (hk:p+k<l.length) (h:(l.drop p).take k=List.replicate k false):(l[p+k]=true->ahead l p=some k)/\(l[p+k]=false->(l.drop p).take (k+1)=List.replicate (k+1) false):=by
 have e:l.drop p=List.replicate k false++l[p+k]::l.drop (p+k+1):=by
  rw[<-List.take_append_drop k (l.drop p),h,List.drop_drop,List.drop_eq_getElem_cons hk]
 refine⟨fun h1=>?_,fun h1=>?_⟩
 .unfold ahead;rw[e,h1];exact Jk _ _
 .rw[e,h1,List.take_append];simp[List.replicate_succ']
theorem Oe {l:List Bool} {p k:Nat} (hk:l.length<=p+k) (h:(l.drop p).take k=List.replicate k false):ahead l p=none:=by
 have e:l.drop p=List.replicate k false:=by rw[<-h,List.take_of_length_le];simp;omega
 unfold ahead
 rw[e,List.findIdx?_eq_none_iff]
 intro x hx
 rw[List.eq_of_mem_replicate hx];rfl
theorem Cw (b:Dh):(Aq b).length=b.n.toNat:=by simp[Aq]
theorem Of (b:Dh) {i:Nat} (h:i<(Aq b).length):(Aq b)[i]=EK b.data i:=by simp[Aq]
def DH (b:Dh):Prop:=0<=b.n/\b.n<=8*b.data.size/\b.data.size<1000000000
theorem YX (b:Dh) (p:Nat) (hb:DH b) (hp:p<100000000000):Aa pg 257 [.agg (CI b),.int .i64 p] [] (fun r _=>r= .int .i64 (nb (ahead (Aq b) p))):=by
 obtain⟨h0,h1,h2⟩:=hb
 have hl:=Cw b
 refine Aa.start (fn:=Tryz.f257) [.tmp 4] tk rfl rfl rfl (by kernel_rfl) (Nat.le_of_ble_eq_true rfl) rfl (by kernel_rfl) ?_
 rw[At]
 refine z1 ?_;intro K hK;refine zk ?_;clear hK K
 refine z0 ?_;intro K hK;refine zk ?_;clear hK K
 (repeat refine W.seq ?_);refine W.block (W.loopS (fun k:Nat=> [(1,.int .i64 p),(2,.ptr 0 0 0),(5,.int .i64 (p+k:Nat))]) (fun _=> [.live 0 (CI b)]) (fun k=>b.n.toNat-p-k) (fun k=>k<=b.n.toNat-p/\((Aq b).drop p).take k=List.replicate k false) 0 (Wk.fr ?_) (by simp) ?_)
 .simp[Ad]
 .rintro k ⟨hk,hz⟩
  refine z0 ?_;intro K hK;refine zk ?_;clear hK K
  refine zc ?_ ?_<;>intro h
  .refine W.skip ?_
   refine zb ?_
   have hlt:p+k<(Aq b).length:=by omega
   have hs:=MH hlt hz
   rw[Of b hlt] at hs
   refine z0 ?_;intro K hK
   refine Ab.eq (WV b (p+k) (by omega) (by omega)) (by simp) (by simp) ?_
   refine zx ?_
   refine zk ?_;clear hK K
   refine zc ?_ ?_<;>intro h
   .refine z0 ?_;intro K hK;refine zk ?_;clear hK K
    refine zr ?_
    rw[hs.1 h];simp[nb];omega
   .refine W.skip ?_
    refine z0 ?_;intro K hK;refine zk ?_;clear hK K
    refine⟨k+1,by omega,⟨by omega,hs.2 h⟩,Wk.fr ?_⟩
    simp[Ad];omega
  .refine W.exit ?_
   refine z0 ?_;intro K hK;refine zk ?_;clear hK K
   refine zr ?_
   rw[Oe (by omega) hz];rfl
theorem Og {l:List Bool} {p k w:Nat} (hk:p+k<l.length):BH ((l.drop p).take (k+1))=2*BH ((l.drop p).take k)+(l[p+k]).toNat:=by
 rw[List.take_add_one,List.getElem?_drop,List.getElem?_eq_getElem hk]
 exact Od _ _
theorem ax (b:Dh) (p w:Nat) (hb:DH b) (hp:p<100000000000) (hw:w<=40):Aa pg 258 [.agg (CI b),.int .i64 p,.int .i64 w] [] (fun r _=>r=if p+w<=b.n.toNat then .tup [.int .i64 (BH (((Aq b).drop p).take w)),.bool true] else .tup [.int .i64 0,.bool false]):=by
 obtain⟨h0,h1,h2⟩:=hb
 have hl:=Cw b
 refine Aa.start (fn:=Tryz.f258) [.tmp 6,.tmp 7] tk rfl rfl rfl (by kernel_rfl) (Nat.le_of_ble_eq_true rfl) rfl (by kernel_rfl) ?_
 rw[Bl]
 refine z1 ?_;intro K hK;refine zk ?_;clear hK K
 refine z0 ?_;intro K hK
 refine⟨fun h1=>?_,fun h1=>?_⟩
 .refine zk ?_;clear hK K
  refine zc ?_ ?_<;>intro h
  .refine z0 ?_;intro K hK;refine zk ?_;clear hK K
   refine zr ?_
   omega
  .refine W.skip ?_
   refine z0 ?_;intro K hK;refine zk ?_;clear hK K
   refine z0 ?_;intro K hK;refine zk ?_;clear hK K
   (repeat refine W.seq ?_);refine W.block (W.loopS (fun k:Nat=> [(1,.int .i64 p),(2,.int .i64 w),(3,.ptr 0 0 0),(8,.int .i64 (BH (((Aq b).drop p).take k))),(22,.int .i64 w),(23,.int .i64 k)]) (fun _=> [.live 0 (CI b)]) (fun k=>w-k) (fun k=>k<=w) 0 (Wk.fr ?_) (by simp) ?_)
   .simp[Ad]
   .intro k hk
    refine z0 ?_;intro K hK;refine zk ?_;clear hK K
    refine zc ?_ ?_<;>intro h
    .refine W.skip ?_
     have hlt:p+k<(Aq b).length:=by omega
     have hs:=Og (l:=Aq b) (p:=p) (k:=k) (w:=w) hlt
     rw[Of b hlt] at hs
     have hlt2:=GD (((Aq b).drop p).take k)
     have hpw:2^(((Aq b).drop p).take k).length<=2^40:=Nat.pow_le_pow_right (by omega) (by simp;omega)
     generalize 2^(((Aq b).drop p).take k).length=z at*
     refine zb ?_
     refine z0 ?_;intro K hK;refine zk ?_;clear hK K
     refine z0 ?_;intro K hK
     refine Ab.eq (WV b (p+k) (by omega) (by omega)) (by simp) (by simp) ?_
     refine zx ?_
     rw[YW _ _ (by omega) (by omega) (by split<;>simp)]
     simp
     refine zk ?_;clear hK K
     refine z0 ?_;intro K hK;refine zk ?_;clear hK K
     refine⟨k+1,by omega,by omega,Wk.fr ?_⟩
     simp[Ad,hs]
     cases EK b.data (p+k)<;>rfl
    .refine W.exit ?_
     refine z0 ?_;intro K hK;refine zk ?_;clear hK K
     refine W.ret ?_;simp only[CH,Ds,C0];refine CR (d:=0) ?_;simp -implicitDefEqProofs (maxSteps:=999999) (disch:=omega)
     have:k=w:=by omega
     rw[this]
 .refine zk ?_;clear hK K
  refine zt ?_
  refine z0 ?_;intro K hK;refine zk ?_;clear hK K
  refine zr ?_
  omega
@[simp] def Jm (b:Dh) (p:Int) (bad:Bool):List AV:=[.str b.data,.int .i64 b.n,.int .i64 p,.bool bad]
def MI (l:List Bool) (p most:Nat):Option Nat:=match ahead l p with|some q=>if q<=most then some q else none|none=>none
theorem P2 {l:List Bool} {p q:Nat} (h:ahead l p=some q):p+q<l.length:=by
 obtain⟨r,hr⟩:=H5 h
 have:=congrArg List.length hr
 simp at this;omega
theorem YY (b:Dh) (p most v:Nat) (hb:DH b) (hp:p<100000000000) (hm:most<100000):Aa pg 251 [.ptr 0 v 0,.int .i64 most] [.live v (Jm b p false)] (fun r M=>match MI (Aq b) p most with|some q=>r= .int .i64 q/\M=[.live v (Jm b (p+q:Nat) false)] |none=>r= .int .i64 0/\M=[.live v (Jm b p true)]):=by
 have hl:=Cw b
 obtain⟨h0,h1,h2⟩:=hb
 refine Aa.start (fn:=Tryz.f251) [.tmp 4] tk rfl rfl rfl (by kernel_rfl) (Nat.le_of_ble_eq_true rfl) rfl (by kernel_rfl) ?_
 rw[At]
 refine z0 ?_;intro K hK;refine zk ?_;clear hK K
 refine Cm ?_;intro K hK
 refine Ah.eq (YX b p ⟨h0,h1,h2⟩ hp) (by simp) (by simp) ?_
 refine zx ?_
 refine zk ?_;clear hK K
 unfold MI
 cases hq:ahead (Aq b) p with
 |none=>
  simp[nb]
  refine z0 ?_;intro K hK;refine zk ?_;clear hK K
  refine zt ?_
  refine z0 ?_;intro K hK;refine zk ?_;clear hK K
  refine z0 ?_;intro K hK;refine zk ?_;clear hK K
  exact zR
 |some q=>
  have:=P2 hq
  simp[nb]
  refine z0 ?_;intro K hK;refine zk ?_;clear hK K
  refine zc ?_ ?_<;>intro h
  .refine z0 ?_;intro K hK;refine zk ?_;clear hK K
   refine z0 ?_;intro K hK;refine zk ?_;clear hK K
   refine zr ?_
   rw[if_neg (by omega)];trivial
  .refine W.skip ?_
   refine z0 ?_;intro K hK;refine zk ?_;clear hK K
   refine z0 ?_;intro K hK;refine zk ?_;clear hK K
   exact zR
theorem P3 (b:Dh) (p w v:Nat) (bad:Bool) (hb:DH b) (hp:p<100000000000) (hw:w<=40):Aa pg 252 [.ptr 0 v 0,.int .i64 w] [.live v (Jm b p bad)] (fun r M=>if bad=false/\p+w<=b.n.toNat then r= .int .i64 (BH (((Aq b).drop p).take w))/\M=[.live v (Jm b (p+w:Nat) false)] else r= .int .i64 0/\M=[.live v (Jm b p true)]):=by
 have hl:=Cw b
 obtain⟨h0,h1,h2⟩:=hb
 refine Aa.start (fn:=Tryz.f252) [.tmp 4] tk rfl rfl rfl (by kernel_rfl) (Nat.le_of_ble_eq_true rfl) rfl (by kernel_rfl) ?_
 rw[At]
 refine z0 ?_;intro K hK;refine zk ?_;clear hK K
 refine Cm ?_;intro K hK
 have sp:=ax b p w ⟨h0,h1,h2⟩ hp hw
 by_cases hc:p+w<=b.n.toNat
 .simp only[hc,if_true] at sp
  refine Ah.eq sp (by simp) (by simp) ?_
  refine zx ?_
  refine zk ?_;clear hK K
  cases bad
  . (repeat refine W.seq ?_);refine W.reg 0 rfl fun K hK=>?_;simp -implicitDefEqProofs (maxSteps:=999999) (disch:=omega);(repeat refine⟨by first|assumption|omega,?_⟩);refine hK _ _ ?_;clear hK K
    refine zn ?_
    refine W.skip ?_
    refine z0 ?_;intro K hK;refine zk ?_;clear hK K
    refine z0 ?_;intro K hK;refine zk ?_;clear hK K
    refine W.ret ?_;simp only[CH,Ds,C0];refine CR (d:=0) ?_;simp -implicitDefEqProofs (maxSteps:=999999) (disch:=omega)
    try omega
  .refine z0 ?_;intro K hK;refine zk ?_;clear hK K
   refine zt ?_
   refine z0 ?_;intro K hK;refine zk ?_;clear hK K
   refine z0 ?_;intro K hK;refine zk ?_;clear hK K
   exact zR
 .simp only[hc,if_false] at sp
  refine Ah.eq sp (by simp) (by simp) ?_
  refine zx ?_
  refine zk ?_;clear hK K
  cases bad
  .refine z0 ?_;intro K hK;refine zk ?_;clear hK K
   refine zt ?_
   refine z0 ?_;intro K hK;refine zk ?_;clear hK K
   refine z0 ?_;intro K hK;refine zk ?_;clear hK K
   refine zr ?_
   omega
  .refine z0 ?_;intro K hK;refine zk ?_;clear hK K
   refine zt ?_
   refine z0 ?_;intro K hK;refine zk ?_;clear hK K
   refine z0 ?_;intro K hK;refine zk ?_;clear hK K
   exact zR
def Gi (l:List Bool) (p:Nat):Option (Nat×Nat):=match ahead l p with
 |some q=>if q<=30/\p+2*q+1<=l.length then some (BH ((l.drop (p+q)).take (q+1)),p+2*q+1) else none
 |none=>none
theorem SP (l:List Bool) (p:Nat):A5 l p=match Gi l p with|some x=>if x.1<=1073741824 then some x else none|none=>none:=by
 unfold A5 Gi
 cases ahead l p with
 |none=>rfl
 |some q=>
  simp only
  split
  .split<;>simp_all
  .simp
theorem YZ {l:List Bool} {p:Nat} {x:Nat×Nat} (h:Gi l p=some x):x.1<2147483648/\x.2<=l.length:=by
 unfold Gi at h
 split at h
 .rename_i q hq
  split at h
  .rename_i hb
   simp at h;subst h
   have h1:=GD ((l.drop (p+q)).take (q+1))
   have h2:2^((l.drop (p+q)).take (q+1)).length<=2^31:=Nat.pow_le_pow_right (by omega) (by simp;omega)
   simp only
   generalize 2^((l.drop (p+q)).take (q+1)).length=z at*
   exact⟨by omega,hb.2⟩
  .simp at h
 .simp at h
theorem Y0 (b:Dh) (p v:Nat) (hb:DH b) (hp:p<50000000000):Aa pg 241 [.ptr 0 v 0] [.live v (Jm b p false)] (fun r M=>match Gi (Aq b) p with|some x=>r= .int .i64 x.1/\M=[.live v (Jm b x.2 false)] |none=>∃p',r= .int .i64 0/\M=[.live v (Jm b p' true)]):=by
 have hl:=Cw b
 refine Aa.start (fn:=Tryz.f241) [.tmp 2] tk rfl rfl rfl (by kernel_rfl) (Nat.le_of_ble_eq_true rfl) rfl (by kernel_rfl) ?_
 rw[Ay]
 refine z0 ?_;intro K hK;refine zk ?_;clear hK K
 refine z0 ?_;intro K hK
 have sp:=YY b p 30 v hb (by omega) (by omega)
 cases hq:ahead (Aq b) p with
 |none=>
  have hg:Gi (Aq b) p=none:=by unfold Gi;rw[hq]
  simp only[MI,hq] at sp
  rw[hg] at hK
  refine Ab.pass [0] sp (by simp) (by simp) (by simp) (by simp) ?_
  rintro r M ⟨rfl,rfl⟩ _
  refine zx ?_
  refine zk ?_;clear hK K
  refine z0 ?_;intro K hK
  refine Ab.pass [0] (P3 b p 1 v true hb (by omega) (by omega)) (by simp) (by simp) (by simp) (by simp) ?_
  refine zx ?_
  refine zk ?_;clear hK K
  exact zR
 |some q=>
  have:=P2 hq
  have h2:=hb.2.1;have h3:=hb.2.2
  simp only[MI,hq] at sp
  by_cases h:q<=30
  .simp only[h,if_true] at sp
   refine Ab.pass [0] sp (by simp) (by simp) (by simp) (by simp) ?_
   rintro r M ⟨rfl,rfl⟩ _
   refine zx ?_
   refine zk ?_;clear hK K
   refine z0 ?_;intro K hK
   have sp:=P3 b (p+q) (q+1) v false hb (by omega) (by omega)
   by_cases hx:p+q+(q+1)<=b.n.toNat
   .have hg:Gi (Aq b) p=some (BH (((Aq b).drop (p+q)).take (q+1)),p+2*q+1):=by unfold Gi;rw[hq];simp only;rw[if_pos ⟨h,by omega⟩]
    simp only[hx,true_and,if_true] at sp
    refine Ab.pass [0] sp (by simp) (by simp) (by simp) (by simp) ?_
    rintro r M ⟨rfl,rfl⟩ _
    refine zx ?_
    refine zk ?_;clear hK K
    refine zr ?_
    simp[hg];omega
   .have hg:Gi (Aq b) p=none:=by unfold Gi;rw[hq];simp only;rw[if_neg (by omega)]
    simp only[hx,and_false,if_false] at sp
    refine Ab.pass [0] sp (by simp) (by simp) (by simp) (by simp) ?_
    rintro r M ⟨rfl,rfl⟩ _
    refine zx ?_
    refine zk ?_;clear hK K
    refine zr ?_
    simp[hg]
  .have hg:Gi (Aq b) p=none:=by unfold Gi;rw[hq];simp only;rw[if_neg (by omega)]
   simp only[h,if_false] at sp
   refine Ab.pass [0] sp (by simp) (by simp) (by simp) (by simp) ?_
   rintro r M ⟨rfl,rfl⟩ _
   refine zx ?_
   refine zk ?_;clear hK K
   refine z0 ?_;intro K hK
   refine Ab.pass [0] (P3 b p 1 v true hb (by omega) (by omega)) (by simp) (by simp) (by simp) (by simp) ?_
   refine zx ?_
   refine zk ?_;clear hK K
   refine zr ?_
   simp[hg]
def Gm (o:Option (Nat×Nat)):AV:=match o with|some x=> .tup [.int .i64 x.1,.int .i64 x.2,.bool true] |none=> .tup [.int .i64 0,.int .i64 0,.bool false]
theorem G1 (b:Dh) (p:Nat) (hb:DH b) (hp:p<50000000000):Aa pg 220 [.agg (CI b),.int .i64 p,.int .i64 2] [] (fun r _=>r=Gm (A5 (Aq b) p)):=by
 have hl:=Cw b
 have h2:=hb.2.1;have h3:=hb.2.2
 rw[SP]
 refine Aa.start (fn:=Tryz.f220) [.tmp 6,.tmp 7,.tmp 8] tk rfl rfl rfl (by kernel_rfl) (Nat.le_of_ble_eq_true rfl) rfl (by kernel_rfl) ?_
 rw[Bl]
 refine z1 ?_;intro K hK;refine zk ?_;clear hK K
 refine z1 ?_;intro K hK;refine zk ?_;clear hK K
 refine z0 ?_;intro K hK;refine zk ?_;clear hK K
 refine z0 ?_;intro K hK;refine zk ?_;clear hK K
 refine zb ?_
 refine z0 ?_;intro K hK;refine zk ?_;clear hK K
 refine zn ?_
 refine z0 ?_;intro K hK;refine zk ?_;clear hK K
 refine zt ?_
 refine z0 ?_;intro K hK
 have sp:=Y0 b p 0 hb hp
 cases hg:Gi (Aq b) p with
 |none=>
  simp only[hg] at sp
  refine Ab.pass [1] sp (by simp) (by simp) (by simp) (by simp) ?_
  rintro r M ⟨p',rfl,rfl⟩ _
  refine zx ?_
  refine zk ?_;clear hK K
  refine z0 ?_;intro K hK;refine zk ?_;clear hK K
  refine zt ?_
  refine z0 ?_;intro K hK;refine zk ?_;clear hK K
  refine zr ?_
  simp[hg,Gm]
 |some x=>
  have hx:=YZ hg
  simp only[hg] at sp
  refine Ab.pass [1] sp (by simp) (by simp) (by simp) (by simp) ?_
  rintro r M ⟨rfl,rfl⟩ _
  refine zx ?_
  refine zk ?_;clear hK K
  refine z0 ?_;intro K hK;refine zk ?_;clear hK K
  refine zc ?_ ?_<;>intro h
  .refine z0 ?_;intro K hK;refine zk ?_;clear hK K
   refine zr ?_
   rw[hg];simp only;rw[if_neg (by omega)];rfl
  .refine W.skip ?_
   refine Cm ?_;intro K hK;refine zk ?_;clear hK K
   refine zr ?_
   rw[hg];simp only;rw[if_pos (by omega)];rfl
theorem P4 (n:Int):Aa pg 236 [.int .i64 n] [] (fun r _=>r= .bool (decide (0<=n/\n<16))):=by
 refine Aa.start (fn:=Tryz.f236) [.tmp 2] tk rfl rfl rfl (by kernel_rfl) (Nat.le_of_ble_eq_true rfl) rfl (by kernel_rfl) ?_
 rw[Ay]
 refine z0 ?_;intro K hK;refine zk ?_;clear hK K
 refine z0 ?_;intro K hK
 refine⟨fun h=>?_,fun h=>?_⟩
 .refine zk ?_;clear hK K
  exact zR
 .refine zk ?_;clear hK K
  exact zR
theorem P5 {l:List Int} (k:Nat) (h:AJ l):AJ (l.take k):=⟨fun x hx=>h.1 x (List.mem_of_mem_take hx),h.2.sublist (List.take_sublist _ _)⟩
theorem P6 {l:List Int} {k:Nat} (hk:k<l.length) (h:AJ (l.take k)):AJ (l.take (k+1))↔(0<=l[k]/\l[k]<16)/\(0<k->l[k-1]<l[k]):=by
 rw[List.take_add_one,List.getElem?_eq_getElem hk]
 constructor
 .intro⟨h1,h2⟩
  refine⟨h1 _ (List.mem_append_right _ (by simp)),fun h0=>?_⟩
  rw[Option.toList_some,List.pairwise_append] at h2
  refine h2.2.2 _ ?_ _ (by simp)
  rw[List.mem_take_iff_getElem]
  exact⟨k-1,by omega,rfl⟩
 .intro⟨h1,h2⟩
  refine⟨fun x hx=>?_,?_⟩
  .rcases List.mem_append.1 hx with hx' |hx'
   .exact h.1 x hx'
   .simp at hx';subst hx';exact h1
  .rw[Option.toList_some,List.pairwise_append]
   refine⟨h.2,by simp,fun x hx y hy=>?_⟩
   simp at hy;subst hy
   obtain⟨i,hi,rfl⟩:=List.mem_take_iff_getElem.1 hx
   have h3:=h2 (by omega)
   by_cases e:i=k-1
   .subst e;exact h3
   .have:=List.pairwise_iff_getElem.1 h.2 i (k-1) (by simp;omega) (by simp;omega) (by omega)
    simp at this
    omega
theorem OJ (l:List Int) (hl:l.length<1000000000000):Aa pg 215 [.ro l.length (Ae l)] [] (fun r _=>r= .bool (decide (AJ l))):=by
 refine Aa.start (fn:=Tryz.f215) [.tmp 2] tk rfl rfl rfl (by kernel_rfl) (Nat.le_of_ble_eq_true rfl) rfl (by kernel_rfl) ?_
 rw[Ay]
 refine z0 ?_;intro K hK;refine zk ?_;clear hK K
 refine z0 ?_;intro K hK;refine zk ?_;clear hK K
 (repeat refine W.seq ?_);refine W.block (W.loopS (fun k:Nat=> [(0,.ro l.length (Ae l)),(5,.ro l.length (Ae l)),(6,.int .i64 l.length),(7,.int .i64 k)]) (fun _=> []) (fun k=>l.length-k) (fun k=>k<=l.length/\AJ (l.take k)) 0 (Wk.fr ?_) (by simp[AJ]) ?_)
 .simp[Ad]
 .rintro k ⟨hk,hm⟩
  refine z0 ?_;intro K hK;refine zk ?_;clear hK K
  refine zc ?_ ?_<;>intro h
  .refine W.skip ?_
   have hs:=P6 h hm
   refine zb ?_
   refine z0 ?_;intro K hK;refine zk ?_;clear hK K
   (repeat refine W.seq ?_);refine W.midS (fun b:Bool=> [(0,.ro l.length (Ae l)),(5,.ro l.length (Ae l)),(6,.int .i64 l.length),(7,.int .i64 k),(27,.bool b)]) (fun _=> []) (fun b=>b=false↔AJ (l.take (k+1))) ?_ ?_
   .refine z0 ?_;intro K hK
    refine Ab.eq (P4 l[k]) (by simp) (by simp) ?_
    refine zx ?_
    refine⟨fun h1 h2=>⟨fun h3=>?_,fun h3=>?_⟩,fun h1=>?_⟩
    .refine zk ?_;clear hK K
     refine⟨decide (l[k]<=l[k-1]),?_,Wk.fr (by simp[Ad])⟩
     rw[hs];simp[h1,h2,h3]
    .refine zk ?_;clear hK K
     refine⟨false,?_,Wk.fr (by simp[Ad])⟩
     rw[hs];exact⟨fun _=>⟨⟨h1,h2⟩,fun h=>by omega⟩,fun _=>rfl⟩
    .refine zk ?_;clear hK K
     refine⟨true,?_,Wk.fr (by simp[Ad])⟩
     rw[hs];simp;omega
   .intro b hb
    refine zc ?_ ?_<;>intro h
    .refine z0 ?_;intro K hK;refine zk ?_;clear hK K
     refine zr ?_
     intro h';have:=P5 (k+1) h';simp_all
    .refine W.skip ?_
     refine z0 ?_;intro K hK;refine zk ?_;clear hK K
     refine⟨k+1,by omega,⟨by omega,hb.1 h⟩,Wk.fr (by simp[Ad])⟩
  .refine W.exit ?_
   refine z0 ?_;intro K hK;refine zk ?_;clear hK K
   refine zr ?_
   have:k=l.length:=by omega
   subst this;simpa using hm
theorem P7 (n:Int) (h0:0<=n) (h1:n<=4611686018427387904):Aa pg 244 [.int .i64 n] [] (fun r _=>r= .int .i64 (CO n)):=by
 refine Aa.start (fn:=Tryz.f244) [.tmp 2] tk rfl rfl rfl (by kernel_rfl) (Nat.le_of_ble_eq_true rfl) rfl (by kernel_rfl) ?_
 rw[Ay]
 refine z0 ?_;intro K hK;refine zk ?_;clear hK K
 refine z0 ?_;intro K hK;refine zk ?_;clear hK K
 refine zc ?_ ?_<;>intro h
 .refine z0 ?_;intro K hK;refine zk ?_;clear hK K
  refine zr ?_
  simp[CO,h]
 .refine W.skip ?_
  refine z0 ?_;intro K hK;refine zk ?_;clear hK K
  refine zr ?_
  simp[CO,h]
theorem IE (xs ys:List Int) (hx:xs.length<4611686018427387904):Aa pg 226 [.ro xs.length (Ae xs),.ro ys.length (Ae ys)] [] (fun r _=>r= .bool (decide (xs=ys))):=by
 refine Aa.start (fn:=Tryz.f226) [.tmp 4] tk rfl rfl rfl (by kernel_rfl) (Nat.le_of_ble_eq_true rfl) rfl (by kernel_rfl) ?_
 rw[At]
 refine zs ?_
 refine zs ?_
 refine zc ?_ ?_<;>intro h
 .refine zs ?_
  refine zr ?_
  intro e;exact h (by rw[e])
 .refine W.skip ?_
  have hl:xs.length=ys.length:=by omega
  refine zs ?_
  (repeat refine W.seq ?_);refine W.block (W.loopS (fun k:Nat=> [(0,.ro xs.length (Ae xs)),(1,.ro ys.length (Ae ys)),(12,.int .i64 xs.length),(13,.int .i64 k)]) (fun _=> []) (fun k=>xs.length-k) (fun k=>k<=xs.length/\xs.take k=ys.take k) 0 (Wk.fr ?_) (by simp) ?_)
  .simp[Ad]
  .rintro k ⟨hk,ht⟩
   refine zs ?_
   refine zc ?_ ?_<;>intro h
   .refine W.skip ?_
    have hlt:k<xs.length:=by omega
    have hlt' :k<ys.length:=by omega
    refine zb ?_
    refine zs ?_
    refine Cm ?_;intro K hK
    refine zk ?_;clear hK K
    refine zc ?_ ?_<;>intro h
    .refine zs ?_
     refine zr ?_
     intro e;subst e;exact h rfl
    .refine W.skip ?_
     refine zs ?_
     refine⟨k+1,by omega,⟨by omega,?_⟩,Wk.fr ?_⟩
     .rw[List.take_add_one,List.take_add_one,ht];simp[hlt,hlt',h]
     .simp[Ad]
   .refine W.exit ?_
    have hk' :k=xs.length:=by omega
    subst hk'
    refine zs ?_
    refine zr ?_
    rw[List.take_length,hl,List.take_length] at ht
    simp[ht]
theorem Ei {α:Type} {f:α->Bool} {l:List α} {k:Nat} (hk:k<l.length) (h:f l[k]=true) (hm:∀i (h:i<l.length),i<k->f l[i]=false):AL f l=k:=by
 unfold AL
 rw[List.findIdx?_eq_some_iff_getElem.2 ⟨hk,h,fun j hj=>by rw[hm j (by omega) hj];decide⟩]
theorem EC {α:Type} {f:α->Bool} {l:List α} (hm:∀i (h:i<l.length),f l[i]=false):AL f l=-1:=by
 unfold AL
 rw[List.findIdx?_eq_none_iff.2 fun x hx=>by obtain⟨i,hi,rfl⟩:=List.mem_iff_getElem.1 hx;exact hm i hi]
theorem CM {α:Type} {f:α->Bool} {l:List α}:0<=AL f l↔∃x∈l,f x=true:=by
 unfold AL
 cases h:l.findIdx? f with
 |none=>
  rw[List.findIdx?_eq_none_iff] at h
  simp only[show¬(0:Int)<=-1 by omega,false_iff]
  rintro⟨x,hx,hf⟩
  rw[h x hx] at hf;simp at hf
 |some i=>
  obtain⟨hi,hf,_⟩:=List.findIdx?_eq_some_iff_getElem.1 h
  simp only[Int.natCast_nonneg,true_iff]
  exact⟨l[i],List.getElem_mem hi,hf⟩
theorem Y1 (xs:List Int) (x:Int) (hx:xs.length<4611686018427387904):Aa pg 158 [.ro xs.length (Ae xs),.int .i64 x] [] (fun r _=>r= .int .i64 (AL (fun y=>decide (y=x)) xs)):=by
 refine Aa.start (fn:=Tryz.f158) [.tmp 4] tk rfl rfl rfl (by kernel_rfl) (Nat.le_of_ble_eq_true rfl) rfl (by kernel_rfl) ?_
 rw[At]
 refine zs ?_
 refine zs ?_
 (repeat refine W.seq ?_);refine W.block (W.loopS (fun k:Nat=> [(0,.ro xs.length (Ae xs)),(1,.int .i64 x),(7,.int .i64 xs.length),(8,.int .i64 k)]) (fun _=> []) (fun k=>xs.length-k) (fun k=>k<=xs.length/\∀i (h:i<xs.length),i<k->xs[i]≠x) 0 (Wk.fr ?_) (by simp) ?_)
 .simp[Ad]
 .rintro k ⟨hk,ht⟩
  refine zs ?_
  refine zc ?_ ?_<;>intro h
  .refine W.skip ?_
   refine zb ?_
   refine zs ?_
   refine zs ?_
   refine zc ?_ ?_<;>intro h
   .refine zs ?_
    refine zr ?_
    exact(Ei (by omega) (by simp[h]) fun i hi hik=>by simpa using ht i hi hik).symm
   .refine W.skip ?_
    refine zs ?_
    refine⟨k+1,by omega,⟨by omega,?_⟩,Wk.fr (by simp[Ad])⟩
    intro i hi hik
    by_cases e:i=k
    .subst e;exact fun e=>h e.symm
    .exact ht i hi (by omega)
  .refine W.exit ?_
   refine zs ?_
   refine zr ?_
   exact(EC fun i hi=>by simpa using ht i hi (by omega)).symm
theorem Gj (xs:List Int) (x:Int) (hx:xs.length<4611686018427387904):Aa pg 116 [.ro xs.length (Ae xs),.int .i64 x] [] (fun r _=>r= .bool (xs.contains x)):=by
 refine Aa.start (fn:=Tryz.f116) [.tmp 4] tk rfl rfl rfl (by kernel_rfl) (Nat.le_of_ble_eq_true rfl) rfl (by kernel_rfl) ?_
 rw[At]
 refine zs ?_
 refine z0 ?_;intro K hK
 refine Ab.eq (Y1 xs x hx) (by simp) (by simp) ?_
 refine zx ?_
 refine zk ?_;clear hK K
 refine zr ?_
 rw[CM];simp
theorem Hh (xs:List Int) (hx:xs.length<1000000000000):Aa pg 170 [.ro xs.length (Ae xs)] [] (fun r _=>r= .own 1 xs.length (Ae xs)):=by
 refine Aa.start (fn:=Tryz.f170) [.tmp 2] tk rfl rfl rfl (by kernel_rfl) (Nat.le_of_ble_eq_true rfl) rfl (by kernel_rfl) ?_
 rw[Ay]
 refine zs ?_
 refine z0 ?_;intro K hK
 refine⟨fun h=>?_,fun h=>⟨?_,?_⟩⟩
 .refine zk ?_;clear hK K
  refine zn ?_
  refine W.skip ?_
  refine z1 ?_;intro K hK;refine zk ?_;clear hK K
  exact zR
 .refine zk ?_;clear hK K
  refine zn ?_
  refine W.skip ?_
  subst h
  refine z1 ?_;intro K hK;refine zk ?_;clear hK K
  exact zR
 .refine zk ?_;clear hK K
  refine zt ?_
  refine zs ?_
  refine zr ?_
  simp[h]
def DA (o:Option (List Int×Nat)):AV:=match o with|some r=> .tup [.own 1 r.1.length (Ae r.1),.int .i64 r.2,.bool true] |none=> .tup [.own 1 0 [],.int .i64 0,.bool false]
theorem SQ (b:Dh) (p:Nat) (v:Int) (hb:DH b) (hp:p<50000000000) (hv:0<=v/\v<100000):Aa pg 222 [.agg (CI b),.int .i64 p,.int .i64 v] [] (fun r _=>r=DA (DI (Aq b) p v)):=by
 have hl:=Cw b
 have h2:=hb.2.1;have h3:=hb.2.2;have h0:=hb.1
 refine Aa.start (fn:=Tryz.f222) [.tmp 6,.tmp 7,.tmp 8] tk rfl rfl rfl (by kernel_rfl) (Nat.le_of_ble_eq_true rfl) rfl (by kernel_rfl) ?_
 rw[Bl]
 refine z1 ?_;intro K hK;refine zk ?_;clear hK K
 refine z0 ?_;intro K hK
 have sp:=G1 b p hb hp
 cases hg:A5 (Aq b) p with
 |none=>
  simp only[hg,Gm] at sp
  refine Ab.eq sp (by simp) (by simp) ?_
  refine zx ?_
  refine zk ?_;clear hK K
  refine z0 ?_;intro K hK;refine zk ?_;clear hK K
  refine zt ?_
  refine z0 ?_;intro K hK;refine zk ?_;clear hK K
  refine zr ?_
  simp[DI,hg,DA]
 |some x=>
  simp only[hg,Gm] at sp
  obtain⟨hx1,hx2,hx3,hx4,_⟩:=A0 hg
  refine Ab.eq sp (by simp) (by simp) ?_
  refine zx ?_
  refine zk ?_;clear hK K
  refine z0 ?_;intro K hK;refine zk ?_;clear hK K
  refine zc ?_ ?_<;>intro h
  .refine z0 ?_;intro K hK;refine zk ?_;clear hK K
   refine zr ?_
   simp only[DI,hg];rw[if_neg (by omega)];simp[DA]
  .refine W.skip ?_
   refine z0 ?_;intro K hK;refine zk ?_;clear hK K
   refine z0 ?_;intro K hK;refine zk ?_;clear hK K
   (repeat refine W.seq ?_);refine W.block (W.loopS (fun s:Nat×List Int×Nat×Int=> [(3,.ptr 0 0 0),(6,.tok 1 s.1 1 0 s.1),(7,.int .i64 s.2.2.1),(10,.int .i64 s.2.2.2),(28,.int .i64 ((x.1:Int)-1)),(29,.int .i64 s.1)]) (fun s=> [.live 0 (CI b),.live s.1 (Ae s.2.1)]) (fun s=>x.1-1-s.1)
     (fun s=>s.1<=x.1-1/\s.2.1.length=s.1/\s.2.2.1<=(Aq b).length/\(0<=s.2.2.2/\s.2.2.2<100000)/\Cd (Aq b) (x.1-1) true x.2 v=(Cd (Aq b) (x.1-1-s.1) (decide (s.1=0)) s.2.2.1 s.2.2.2).map fun r=>(s.2.1++r.1,r.2)) (0,[],x.2,v) ((Wk.nil (t:=6) (s:=1) (by simp)).trans (Wk.fr (by simp[Ad]))) ⟨by omega,rfl,hx4,hv,by simp⟩ ?_)
   rintro⟨k,acc,q,last⟩ ⟨hk,hacc,hq,hlast,hinv⟩
   simp only at hk hacc hq hlast hinv
   refine z0 ?_;intro K hK;refine zk ?_;clear hK K
   refine zc ?_ ?_<;>intro h
   .refine W.skip ?_
    obtain⟨m,hm⟩:∃m,x.1-1-k=m+1:=⟨x.1-1-k-1,by omega⟩
    have hm' :x.1-1-(k+1)=m:=by omega
    rw[hm] at hinv
    refine zb ?_
    refine z0 ?_;intro K hK;refine zk ?_;clear hK K
    refine z0 ?_;intro K hK;refine zk ?_;clear hK K
    refine z0 ?_;intro K hK
    have sp:=G1 b q hb (by omega)
    cases hg2:A5 (Aq b) q with
    |none=>
     simp only[hg2,Gm] at sp
     refine Ab.eq sp (by simp) (by simp) ?_
     refine zx ?_
     refine zk ?_;clear hK K
     refine z0 ?_;intro K hK;refine zk ?_;clear hK K
     refine zt ?_
     refine z0 ?_;intro K hK;refine zk ?_;clear hK K
     refine zr ?_
     simp only[Cd,hg2] at hinv
     simp[DI,hg,hinv,DA]
    |some y=>
     simp only[hg2,Gm] at sp
     obtain⟨hy1,hy2,hy3,hy4,_⟩:=A0 hg2
     refine Ab.eq sp (by simp) (by simp) ?_
     refine zx ?_
     refine zk ?_;clear hK K
     refine z0 ?_;intro K hK;refine zk ?_;clear hK K
     refine zn ?_
     refine W.skip ?_
     simp only[Cd,hg2] at hinv
     have hz:∃z:Int,z=(if k=0 then CO ((y.1:Int)-1) else(y.1:Int))/\-1073741825<=z/\z<=1073741825:=⟨_,rfl,by unfold CO;split<;>(try split)<;>omega,by unfold CO;split<;>(try split)<;>omega⟩
     obtain⟨z,hz,hz1,hz2⟩:=hz
     refine z0 ?_;intro K hK;refine zk ?_;clear hK K
     (repeat refine W.seq ?_);refine W.midS (fun _:Unit=> [(3,.ptr 0 0 0),(6,.tok 1 k 1 0 k),(7,.int .i64 y.2),(10,.int .i64 last),(12,.int .i64 z),(28,.int .i64 ((x.1:Int)-1)),(29,.int .i64 k)]) (fun _=> [.live 0 (CI b),.live k (Ae acc)]) (fun _=>True) ?_ ?_
     .refine zc ?_ ?_<;>intro h
      .refine z0 ?_;intro K hK
       refine Ab.eq (P7 ((y.1:Int)-1) (by omega) (by omega)) (by simp) (by simp) ?_
       refine zx ?_
       refine zk ?_;clear hK K
       exact⟨(),trivial,Wk.fr (by simp[Ad,hz,h])⟩
      .refine W.skip ?_
       exact⟨(),trivial,Wk.fr (by simp[Ad,hz,h])⟩
     .rintro _ _
      have hzz:(if decide (k=0)=true then CO ((y.1:Int)-1) else(y.1:Int))=z:=by rw[hz];simp
      rw[hzz,hm'.symm] at hinv
      refine z0 ?_;intro K hK;refine zk ?_;clear hK K
      refine z0 ?_;intro K hK
      refine Ab.eq (P4 (last+z)) (by simp) (by simp) ?_
      refine zx ?_
      refine zk ?_;clear hK K
      refine zc ?_ ?_<;>intro h
      .refine z0 ?_;intro K hK;refine zk ?_;clear hK K
       refine zr ?_
       rw[if_neg (by omega)] at hinv
       simp[DI,hg,hinv,DA]
      .refine W.skip ?_
       rw[if_pos (by omega)] at hinv
       refine z1 ?_;intro K hK;refine zk ?_;clear hK K
       refine z0 ?_;intro K hK;refine zk ?_;clear hK K
       refine⟨(k+1,acc++[last+z],y.2,last+z),by simp;omega,⟨by simp;omega,by simp;omega,hy4,by simp only;omega,?_⟩,Wk.cutM (k:=2) (by simp[Ad]) (by simp[Cj,Ae]) (by simp) (by simp) (by simp) (by simp)⟩
       rw[hinv]
       simp only[show decide (k+1=0)=false from by simp]
       cases Cd (Aq b) (x.1-1-(k+1)) false y.2 (last+z)<;>simp
   .refine W.exit ?_
    refine z0 ?_;intro K hK;refine zk ?_;clear hK K
    refine zr ?_
    have:x.1-1-k=0:=by omega
    rw[this] at hinv
    simp[DI,hg,DA,hacc]
    rw[if_pos (by omega),hinv]
    simp[Cd,<-hacc]
theorem Oh:∀(m:List Int) (n:Nat),1<=n->n<=m.length->(∀j,0<j->j<n->m.getD j 0=m.getD (j-1) 0+1)->(n<m.length->m.getD n 0≠m.getD (n-1) 0+1)->AZ m=n
 | [],n,h1,h2,_,_=>by simp at h2;omega
 | [x],n,h1,h2,_,_=>by simp at h2;simp[AZ];omega
 |x::y::t,n,h1,h2,hr,he=>by
  by_cases e:n=1
  .subst e
   have:=he (by simp)
   simp at this
   simp[AZ,this]
  .have h3:=hr 1 (by omega) (by omega)
   simp at h3
   have ih:=Oh (y::t) (n-1) (by omega) (by simp at h2 |-;omega) (fun j h4 h5=>by
    have:=hr (j+1) (by omega) (by omega)
    obtain⟨i,rfl⟩:∃i,j=i+1:=⟨j-1,by omega⟩
    simpa using this) (fun h4=>by
    have:=he (by simp at h4 |-;omega)
    obtain⟨i,rfl⟩:∃i,n=i+2:=⟨n-2,by omega⟩
    simpa using this)
   have h3' :y=x+1:=by simpa using h3
   simp only[AZ,h3',if_true]
   rw[h3'] at ih
   omega
theorem Oi {l:List Int} {i k:Nat} (hik:i<k) (hk:k<=l.length) (hr:∀j (h:j<l.length),i<j->j<k->l[j]=l[j-1]+1) (he:∀h:k<l.length,l[k]≠l[k-1]+1):AZ (l.drop i)=k-i:=by
 refine Oh _ _ (by omega) (by simp;omega) (fun j h1 h2=>?_) (fun h1=>?_)
 .have:=hr (i+j) (by omega) (by omega) (by omega)
  have e:i+j-1=i+(j-1):=by omega
  simp only[e] at this
  simp[List.getD,show i+j<l.length by omega,show i+(j-1)<l.length by omega,this]
 .have h1' :k<l.length:=by simp at h1;omega
  have:=he h1'
  have e1:i+(k-i)=k:=by omega
  have e2:i+(k-i-1)=k-1:=by omega
  simp[List.getD,e1,e2,h1',show k-1<l.length by omega,this]
theorem P8 {l:List Int} {i k:Nat} (hi:i<l.length) (h:AZ (l.drop i)=k-i) (hik:i<k) (hk:k<=l.length):Am (l.drop i)=
 if 3<=k-i then((l[i],((k-i:Nat):Int))::(Am (l.drop k)).1,(Am (l.drop k)).2) else((Am (l.drop k)).1,((l.drop i).take (k-i))++(Am (l.drop k)).2):=by
 have e:=List.drop_eq_getElem_cons hi
 rw[e] at h |-
 rw[Am,h,<-e,List.drop_drop,show i+(k-i)=k by omega]
def Oj (q:List (Int×Int)×List Int):AV:= .tup [.own 2 q.1.length (Ac AC q.1),.own 1 q.2.length (Ae q.2)]
theorem Ry (l:List Int) (hl:l.length<1000000000) (hb:∀x∈l,-1000000000000<x/\x<1000000000000):Aa pg 224 [.ro l.length (Ae l)] [] (fun r _=>r=Oj (Am l)):=by
 have hb' :∀i (h:i<l.length),-1000000000000<l[i]/\l[i]<1000000000000:=fun i h=>hb _ (List.getElem_mem h)
 refine Aa.start (fn:=Tryz.f224) [.tmp 2,.tmp 3] tk rfl rfl rfl (by kernel_rfl) (Nat.le_of_ble_eq_true rfl) rfl (by kernel_rfl) ?_
 rw[Ay]
 refine zs ?_
 refine zs ?_
 (repeat refine W.seq ?_);refine W.block (W.loopS (fun s:Nat×List (Int×Int)×List Int×Nat=> [(0,.ro l.length (Ae l)),(2,.tok 0 s.2.1.length 2 0 s.2.1.length),(3,.tok 1 s.2.2.2 1 0 s.2.2.1.length),(4,.int .i64 s.1)]) (fun s=> [.live s.2.1.length (Ac AC s.2.1),.live s.2.2.2 (Ae s.2.2.1)]) (fun s=>l.length-s.1)
   (fun s=>s.1<=l.length/\s.2.1.length<=s.1/\s.2.2.1.length<=s.1/\Am l=(s.2.1++(Am (l.drop s.1)).1,s.2.2.1++(Am (l.drop s.1)).2)) (0,[],[],0) ((Wk.nil (t:=2) (s:=2) (by simp)).trans ((Wk.nil (t:=3) (s:=1) (by simp)).trans (Wk.fr (by simp[Ad])))) (by simp) ?_)
 rintro⟨i,ra,sa,c⟩ ⟨hi,hra,hsa,hinv⟩
 simp only at hi hra hsa hinv
 refine zs ?_
 refine zc ?_ ?_<;>intro h
 .refine W.skip ?_
  refine zb ?_
  refine zs ?_
  (repeat refine W.seq ?_);refine W.block (W.loopS (fun k:Nat=> [(0,.ro l.length (Ae l)),(2,.tok 0 ra.length 2 0 ra.length),(3,.tok 1 c 1 0 sa.length),(4,.int .i64 i),(5,.int .i64 k)]) (fun _=> [.live ra.length (Ac AC ra),.live c (Ae sa)]) (fun k=>l.length-k)
    (fun k=>i<k/\k<=l.length/\∀j (h:j<l.length),i<j->j<k->l[j]=l[j-1]+1) (i+1) (Wk.fr (by simp[Ad])) ⟨by omega,by omega,fun j h h1 h2=>by omega⟩ ?_)
  rintro k ⟨hik,hk,hrun⟩
  (repeat refine W.seq ?_);refine W.midS (fun b:Bool=> [(0,.ro l.length (Ae l)),(2,.tok 0 ra.length 2 0 ra.length),(3,.tok 1 c 1 0 sa.length),(4,.int .i64 i),(5,.int .i64 k),(28,.bool b)]) (fun _=> [.live ra.length (Ac AC ra),.live c (Ae sa)]) (fun b=>b=true↔∃h:k<l.length,l[k]=l[k-1]+1) ?_ ?_
  .by_cases h2:k<l.length
   .have h3:=hb' k h2
    have h4:=hb' (k-1) (by omega)
    refine Cm ?_;intro K hK
    refine zk ?_;clear hK K
    exact⟨decide (l[k]=l[k-1]+1),by simp[h2],Wk.fr (by simp[Ad])⟩
   .refine Cm ?_;intro K hK
    refine zk ?_;clear hK K
    exact⟨false,by simp[h2],Wk.fr (by simp[Ad])⟩
  .intro b hbb
   refine zc ?_ ?_<;>intro h
   .refine W.skip ?_
    obtain⟨h2,h3⟩:=hbb.1 (by assumption)
    refine zb ?_
    refine zs ?_
    refine⟨k+1,by omega,⟨by omega,by omega,fun j hj h4 h5=>?_⟩,Wk.fr (by simp[Ad])⟩
    by_cases e:j=k
    .subst e;exact h3
    .exact hrun j hj h4 (by omega)
   .refine W.exit ?_
    have hend:∀h:k<l.length,l[k]≠l[k-1]+1:=fun h2 h3=>by simp_all
    have hrl:=Oi hik hk hrun hend
    have hpa:=P8 (by omega) hrl hik hk
    refine zs ?_
    refine zc ?_ ?_<;>intro h
    .rw[if_pos (by omega)] at hpa
     refine z1 ?_;intro K hK
     refine zk ?_;clear hK K
     refine zs ?_
     refine⟨(k,ra++[(l[i],((k-i:Nat):Int))],sa,c),by simp;omega,⟨hk,by simp;omega,by simp;omega,?_⟩,Wk.cutM (k:=2) (by simp[Ad]) ?_ (by simp) (by simp) (by simp) (by simp)⟩
     .rw[hinv,hpa];simp
     .simp[Ck,Ax,AC];omega
    .rw[if_neg (by omega)] at hpa
     refine zs ?_
     refine zs ?_
     refine⟨(k,ra,sa++(l.drop i).take (k-i),c+1),by simp;omega,⟨hk,by simp;omega,by simp;omega,?_⟩,Wk.cutM (k:=2) (by simp[Ad];omega) ?_ (by simp) (by simp) (by simp) (by simp)⟩
     .rw[hinv,hpa];simp
     .simp[Cj]
 .refine W.exit ?_
  refine zs ?_
  refine zr ?_
  rw[hinv]
  simp[Oj,List.drop_of_length_le h,Am]
theorem Ws (xs ys:List (Int×Int)) (hx:xs.length<4611686018427387904):Aa pg 225 [.ro xs.length (Ac AC xs),.ro ys.length (Ac AC ys)] [] (fun r _=>r= .bool (decide (xs=ys))):=by
 refine Aa.start (fn:=Tryz.f225) [.tmp 4] tk rfl rfl rfl (by kernel_rfl) (Nat.le_of_ble_eq_true rfl) rfl (by kernel_rfl) ?_
 rw[At]
 refine zs ?_
 refine zs ?_
 refine zc ?_ ?_<;>intro h
 .refine zs ?_
  refine zr ?_
  intro e;exact h (by rw[e])
 .refine W.skip ?_
  have hl:xs.length=ys.length:=by omega
  refine zs ?_
  (repeat refine W.seq ?_);refine W.block (W.loopS (fun k:Nat=> [(0,.ro xs.length (Ac AC xs)),(1,.ro ys.length (Ac AC ys)),(12,.int .i64 xs.length),(13,.int .i64 k)]) (fun _=> []) (fun k=>xs.length-k) (fun k=>k<=xs.length/\xs.take k=ys.take k) 0 (Wk.fr ?_) (by simp) ?_)
  .simp[Ad]
  .rintro k ⟨hk,ht⟩
   refine zs ?_
   refine zc ?_ ?_<;>intro h
   .refine W.skip ?_
    have hlt:k<xs.length:=by omega
    have hlt' :k<ys.length:=by omega
    refine zb ?_
    refine zs ?_
    (repeat refine W.seq ?_);refine W.regd 0 rfl true Cz (by kernel_rfl) fun K hK=>?_;simp -implicitDefEqProofs (maxSteps:=999999) (disch:=omega) [hlt,hlt',AC]
    refine zk ?_;clear hK K
    refine zc ?_ ?_<;>intro h
    .refine zs ?_
     refine zr ?_
     intro e;subst e;simp at h
    .refine W.skip ?_
     have he:xs[k]=ys[k]:=Prod.ext h.1 h.2
     refine zs ?_
     refine⟨k+1,by omega,⟨by omega,?_⟩,Wk.fr ?_⟩
     .rw[List.take_add_one,List.take_add_one,ht];simp[hlt,hlt',he]
     .simp[Ad]
   .refine W.exit ?_
    have hk' :k=xs.length:=by omega
    subst hk'
    refine zs ?_
    refine zr ?_
    rw[List.take_length,hl,List.take_length] at ht
    simp[ht]
def Ok (o:Option (List (Int×Int)×Nat)):AV:=match o with|some r=> .tup [.own 2 r.1.length (Ac AC r.1),.int .i64 r.2,.bool true] |none=> .tup [.own 2 0 [],.int .i64 0,.bool false]
def GN (bs:List Bool) (p:Nat) (v:Int):Option (List (Int×Int)×Nat):=match A5 bs p with
 |none=>none
 |some x=>if x.1<=16 then CJ bs (x.1-1) true x.2 v else none
theorem SR (b:Dh) (p:Nat) (v:Int) (hb:DH b) (hp:p<50000000000) (hv:0<=v/\v<100000):Aa pg 221 [.agg (CI b),.int .i64 p,.int .i64 v] [] (fun r _=>r=Ok (GN (Aq b) p v)):=by
 have hl:=Cw b
 have h2:=hb.2.1;have h3:=hb.2.2;have h0:=hb.1
 refine Aa.start (fn:=Tryz.f221) [.tmp 6,.tmp 7,.tmp 8] tk rfl rfl rfl (by kernel_rfl) (Nat.le_of_ble_eq_true rfl) rfl (by kernel_rfl) ?_
 rw[Bl]
 refine z1 ?_;intro K hK;refine zk ?_;clear hK K
 refine z0 ?_;intro K hK
 have sp:=G1 b p hb hp
 cases hg:A5 (Aq b) p with
 |none=>
  simp only[hg,Gm] at sp
  refine Ab.eq sp (by simp) (by simp) ?_
  refine zx ?_
  refine zk ?_;clear hK K
  refine z0 ?_;intro K hK;refine zk ?_;clear hK K
  refine zt ?_
  refine z0 ?_;intro K hK;refine zk ?_;clear hK K
  refine zr ?_
  simp[GN,hg,Ok]
 |some x=>
  simp only[hg,Gm] at sp
  obtain⟨hx1,hx2,hx3,hx4,_⟩:=A0 hg
  refine Ab.eq sp (by simp) (by simp) ?_
  refine zx ?_
  refine zk ?_;clear hK K
  refine z0 ?_;intro K hK;refine zk ?_;clear hK K
  refine zc ?_ ?_<;>intro h
  .refine z0 ?_;intro K hK;refine zk ?_;clear hK K
   refine zr ?_
   simp only[GN,hg];rw[if_neg (by omega)];simp[Ok]
  .refine W.skip ?_
   refine z0 ?_;intro K hK;refine zk ?_;clear hK K
   refine z0 ?_;intro K hK;refine zk ?_;clear hK K
   (repeat refine W.seq ?_);refine W.block (W.loopS (fun s:Nat×List (Int×Int)×Nat×Int=> [(3,.ptr 0 0 0),(6,.tok 1 s.1 2 0 s.1),(7,.int .i64 s.2.2.1),(10,.int .i64 s.2.2.2),(32,.int .i64 ((x.1:Int)-1)),(33,.int .i64 s.1)]) (fun s=> [.live 0 (CI b),.live s.1 (Ac AC s.2.1)]) (fun s=>x.1-1-s.1)
     (fun s=>s.1<=x.1-1/\s.2.1.length=s.1/\s.2.2.1<=(Aq b).length/\(-4294967296*((s.1:Int)+1)<=s.2.2.2/\s.2.2.2<=4294967296*((s.1:Int)+1))/\CJ (Aq b) (x.1-1) true x.2 v=(CJ (Aq b) (x.1-1-s.1) (decide (s.1=0)) s.2.2.1 s.2.2.2).map fun r=>(s.2.1++r.1,r.2)) (0,[],x.2,v) ((Wk.nil (t:=6) (s:=2) (by simp)).trans (Wk.fr (by simp[Ad]))) ⟨by omega,rfl,hx4,by simp only;omega,by simp⟩ ?_)
   rintro⟨k,acc,q,last⟩ ⟨hk,hacc,hq,hlast,hinv⟩
   simp only at hk hacc hq hlast hinv
   refine z0 ?_;intro K hK;refine zk ?_;clear hK K
   refine zc ?_ ?_<;>intro h
   .refine W.skip ?_
    obtain⟨m,hm⟩:∃m,x.1-1-k=m+1:=⟨x.1-1-k-1,by omega⟩
    have hm' :x.1-1-(k+1)=m:=by omega
    rw[hm] at hinv
    refine zb ?_
    refine z0 ?_;intro K hK;refine zk ?_;clear hK K
    refine z0 ?_;intro K hK
    have sp:=G1 b q hb (by omega)
    cases hg2:A5 (Aq b) q with
    |none=>
     simp only[hg2,Gm] at sp
     refine Ab.eq sp (by simp) (by simp) ?_
     refine zx ?_
     refine zk ?_;clear hK K
     refine z0 ?_;intro K hK;refine zk ?_;clear hK K
     refine zt ?_
     refine z0 ?_;intro K hK;refine zk ?_;clear hK K
     refine zr ?_
     simp only[CJ,hg2] at hinv
     simp only[GN,hg];rw[if_pos (by omega),hinv];simp[Ok]
    |some y=>
     simp only[hg2,Gm] at sp
     obtain⟨hy1,hy2,hy3,hy4,_⟩:=A0 hg2
     refine Ab.eq sp (by simp) (by simp) ?_
     refine zx ?_
     refine zk ?_;clear hK K
     refine z0 ?_;intro K hK;refine zk ?_;clear hK K
     refine zn ?_
     refine W.skip ?_
     refine z0 ?_;intro K hK
     have sp:=G1 b y.2 hb (by omega)
     cases hg3:A5 (Aq b) y.2 with
     |none=>
      simp only[hg3,Gm] at sp
      refine Ab.eq sp (by simp) (by simp) ?_
      refine zx ?_
      refine zk ?_;clear hK K
      refine z0 ?_;intro K hK;refine zk ?_;clear hK K
      refine zt ?_
      refine z0 ?_;intro K hK;refine zk ?_;clear hK K
      refine zr ?_
      simp only[CJ,hg2,hg3] at hinv
      simp only[GN,hg];rw[if_pos (by omega),hinv];simp[Ok]
     |some w=>
      simp only[hg3,Gm] at sp
      obtain⟨hw1,hw2,hw3,hw4,_⟩:=A0 hg3
      refine Ab.eq sp (by simp) (by simp) ?_
      refine zx ?_
      refine zk ?_;clear hK K
      refine z0 ?_;intro K hK;refine zk ?_;clear hK K
      refine zn ?_
      refine W.skip ?_
      simp only[CJ,hg2,hg3] at hinv
      have hz:∃z:Int,z=(if k=0 then CO ((y.1:Int)-1) else(y.1:Int))/\-1073741825<=z/\z<=1073741825:=⟨_,rfl,by unfold CO;split<;>(try split)<;>omega,by unfold CO;split<;>(try split)<;>omega⟩
      obtain⟨z,hz,hz1,hz2⟩:=hz
      refine z0 ?_;intro K hK;refine zk ?_;clear hK K
      (repeat refine W.seq ?_);refine W.midS (fun _:Unit=> [(3,.ptr 0 0 0),(6,.tok 1 k 2 0 k),(10,.int .i64 last),(12,.int .i64 z),(13,.int .i64 w.2),(15,.int .i64 w.1),(32,.int .i64 ((x.1:Int)-1)),(33,.int .i64 k)]) (fun _=> [.live 0 (CI b),.live k (Ac AC acc)]) (fun _=>True) ?_ ?_
      .refine zc ?_ ?_<;>intro h
       .refine z0 ?_;intro K hK
        refine Ab.eq (P7 ((y.1:Int)-1) (by omega) (by omega)) (by simp) (by simp) ?_
        refine zx ?_
        refine zk ?_;clear hK K
        exact⟨(),trivial,Wk.fr (by simp[Ad,hz,h])⟩
       .refine W.skip ?_
        exact⟨(),trivial,Wk.fr (by simp[Ad,hz,h])⟩
      .rintro _ _
       have hzz:(if decide (k=0)=true then CO ((y.1:Int)-1) else(y.1:Int))=z:=by rw[hz];simp
       rw[hzz,hm'.symm] at hinv
       refine z1 ?_;intro K hK;refine zk ?_;clear hK K
       (repeat refine W.seq ?_);refine W.regd 1 rfl true Cz (by kernel_rfl) fun K hK=>?_;simp -implicitDefEqProofs (maxSteps:=999999) (disch:=omega)
       refine zk ?_;clear hK K
       refine z0 ?_;intro K hK;refine zk ?_;clear hK K
       refine⟨(k+1,acc++[(last+z,(w.1:Int)-1+3)],w.2,last+z+((w.1:Int)-1+3)),by simp;omega,⟨by simp;omega,by simp;omega,hw4,by simp only;omega,?_⟩,Wk.cutM (k:=2) (by simp[Ad]) (by simp[Ck,Ax,AC]) (by simp) (by simp) (by simp) (by simp)⟩
       rw[hinv]
       simp only[show decide (k+1=0)=false from by simp]
       cases CJ (Aq b) (x.1-1-(k+1)) false w.2 (last+z+((w.1:Int)-1+3))<;>simp
   .refine W.exit ?_
    refine z0 ?_;intro K hK;refine zk ?_;clear hK K
    refine zr ?_
    have:x.1-1-k=0:=by omega
    rw[this] at hinv
    simp[GN,hg,Ok,hacc]
    rw[if_pos (by omega),hinv]
    simp[CJ,<-hacc]
end Go.Abs
namespace Go.Proofs
open Go.Shelf
def Tryz.lays125_ren:Go.Shelf.Ren:=⟨fun|125=>248|128=>254|129=>255|n=>n,fun|46=>130|3=>3|51=>260|53=>262|4=>4|5=>5|9=>9|n=>n,fun|n=>n⟩
theorem Tryz.lays125:Go.Proofs.Lays.n125 Tryz.prog Tryz.lays125_ren:={
 mixed:=by kernel_rfl
 f125:=Tryz.func248.trans (congrArg some (by kernel_rfl))
 f128:=Tryz.func254.trans (congrArg some (by kernel_rfl))
 f129:=Tryz.func255.trans (congrArg some (by kernel_rfl))
 t3:=Tryz.underlying3
 a3:=Tryz.isAgg3
 z3:=Tryz.sizeOf3
 v3:=Tryz.zeroValue3
 t4:=Tryz.underlying4
 a4:=Tryz.isAgg4
 z4:=Tryz.sizeOf4
 v4:=Tryz.zeroValue4
 t5:=Tryz.underlying5
 a5:=Tryz.isAgg5
 z5:=Tryz.sizeOf5
 v5:=Tryz.zeroValue5
 t9:=Tryz.underlying9
 a9:=Tryz.isAgg9
 z9:=Tryz.sizeOf9
 v9:=Tryz.zeroValue9
 t46:=Tryz.underlying130
 a46:=Tryz.isAgg130
 z46:=Tryz.sizeOf130
 v46:=Tryz.zeroValue130
 t51:=Tryz.underlying260
 a51:=Tryz.isAgg260
 z51:=Tryz.sizeOf260
 v51:=Tryz.zeroValue260
 t53:=Tryz.underlying262
 a53:=Tryz.isAgg262
 z53:=Tryz.sizeOf262
 v53:=Tryz.zeroValue262}
theorem Tryz.bits_Len (x:Int) (w:World) (h0:0<=x) (h1:x<=18446744073709551615):
 Calls Tryz.prog 248 #[.int .u64 x] w fun e w' =>e= .returned (.int .i64 (Lib.bitLen x.toNat))/\w' =w:=Any.bits_Len Tryz.lays125 x w h0 h1
def Tryz.lays189_ren:Go.Shelf.Ren:=⟨fun|189=>245|125=>248|257=>253|128=>254|129=>255|294=>259|295=>260|296=>261|297=>262|298=>263|299=>264|216=>265|300=>266|301=>267|328=>271|329=>272|330=>273|331=>274|332=>275|215=>276|343=>277|n=>n,fun|28=>28|3=>3|46=>130|0=>0|51=>260|53=>262|4=>4|183=>269|182=>268|131=>265|5=>5|9=>9|218=>278|222=>282|228=>284|229=>127|n=>n,fun|n=>n⟩
theorem Tryz.lays189:Go.Proofs.Lays.n189 Tryz.prog Tryz.lays189_ren:={
 mixed:=by kernel_rfl
 f125:=Tryz.func248.trans (congrArg some (by kernel_rfl))
 f128:=Tryz.func254.trans (congrArg some (by kernel_rfl))
 f129:=Tryz.func255.trans (congrArg some (by kernel_rfl))
 f189:=Tryz.func245.trans (congrArg some (by kernel_rfl))
 f215:=Tryz.func276.trans (congrArg some (by kernel_rfl))
 f216:=Tryz.func265.trans (congrArg some (by kernel_rfl))
 f257:=Tryz.func253.trans (congrArg some (by kernel_rfl))
 f294:=Tryz.func259.trans (congrArg some (by kernel_rfl))
 f295:=Tryz.func260.trans (congrArg some (by kernel_rfl))
 f296:=Tryz.func261.trans (congrArg some (by kernel_rfl))
 f297:=Tryz.func262.trans (congrArg some (by kernel_rfl))
 f298:=Tryz.func263.trans (congrArg some (by kernel_rfl))
 f299:=Tryz.func264.trans (congrArg some (by kernel_rfl))
 f300:=Tryz.func266.trans (congrArg some (by kernel_rfl))
 f301:=Tryz.func267.trans (congrArg some (by kernel_rfl))
 f328:=Tryz.func271.trans (congrArg some (by kernel_rfl))
 f329:=Tryz.func272.trans (congrArg some (by kernel_rfl))
 f330:=Tryz.func273.trans (congrArg some (by kernel_rfl))
 f331:=Tryz.func274.trans (congrArg some (by kernel_rfl))
 f332:=Tryz.func275.trans (congrArg some (by kernel_rfl))
 f343:=Tryz.func277.trans (congrArg some (by kernel_rfl))
 t0:=Tryz.underlying0
 a0:=Tryz.isAgg0
 z0:=Tryz.sizeOf0
 v0:=Tryz.zeroValue0
 t3:=Tryz.underlying3
 a3:=Tryz.isAgg3
 z3:=Tryz.sizeOf3
 v3:=Tryz.zeroValue3
 t4:=Tryz.underlying4
 a4:=Tryz.isAgg4
 z4:=Tryz.sizeOf4
 v4:=Tryz.zeroValue4
 t5:=Tryz.underlying5
 a5:=Tryz.isAgg5
 z5:=Tryz.sizeOf5
 v5:=Tryz.zeroValue5
 t9:=Tryz.underlying9
 a9:=Tryz.isAgg9
 z9:=Tryz.sizeOf9
 v9:=Tryz.zeroValue9
 t28:=Tryz.underlying28
 a28:=Tryz.isAgg28
 z28:=Tryz.sizeOf28
 v28:=Tryz.zeroValue28
 t46:=Tryz.underlying130
 a46:=Tryz.isAgg130
 z46:=Tryz.sizeOf130
 v46:=Tryz.zeroValue130
 t51:=Tryz.underlying260
 a51:=Tryz.isAgg260
 z51:=Tryz.sizeOf260
 v51:=Tryz.zeroValue260
 t53:=Tryz.underlying262
 a53:=Tryz.isAgg262
 z53:=Tryz.sizeOf262
 v53:=Tryz.zeroValue262
 t131:=Tryz.underlying265
 a131:=Tryz.isAgg265
 z131:=Tryz.sizeOf265
 v131:=Tryz.zeroValue265
 t182:=Tryz.underlying268
 a182:=Tryz.isAgg268
 z182:=Tryz.sizeOf268
 v182:=Tryz.zeroValue268
 t183:=Tryz.underlying269
 a183:=Tryz.isAgg269
 z183:=Tryz.sizeOf269
 v183:=Tryz.zeroValue269
 t218:=Tryz.underlying278
 a218:=Tryz.isAgg278
 z218:=Tryz.sizeOf278
 v218:=Tryz.zeroValue278
 t222:=Tryz.underlying282
 a222:=Tryz.isAgg282
 z222:=Tryz.sizeOf282
 v222:=Tryz.zeroValue282
 t228:=Tryz.underlying284
 a228:=Tryz.isAgg284
 z228:=Tryz.sizeOf284
 v228:=Tryz.zeroValue284
 t229:=Tryz.underlying127
 a229:=Tryz.isAgg127
 z229:=Tryz.sizeOf127
 v229:=Tryz.zeroValue127}
open Go.Sort Go.RowKit in
theorem Tryz.slices_Sort_int (blk off cap:Nat) (zs:List Int) (w:World) (hH:Holds (Value.int .i64) w blk off zs.toArray) (hblk:blk<w.heap.size) (hsz:zs.length<4611686018427387904):
 Calls Tryz.prog 245 #[.slice (some ⟨blk,off,none⟩) zs.length cap] w fun e w' =>
  e= .returned (.tuple #[])/\∃n os,w' =grow (putRow (Value.int .i64) (Sort.ahead w n) blk off (zs.mergeSort fun x y=>decide (x<=y)).toArray) os:=Any.slices_Sort_int Tryz.lays189 blk off cap zs w hH hblk hsz
end Go.Proofs
set_option maxRecDepth 100000
namespace Go.Abs
open Go.Proofs
theorem Lk {f:Nat} {fn:Func} (h:pg.funcs[f]?=some fn) (h1:(fn.name== "runtime.NumGoroutine")=false) (h2:fn.body.isNone=false):I9 pg f:=⟨fn,h,h1,h2⟩
theorem Ol (n:Nat) (h:n<9223372036854775808):Aa pg 248 [.int .u64 n] [] (fun r _=>r= .int .i64 (Lib.bitLen n)):=
 PT (Lk (fn:=Tryz.f248) rfl (by kernel_rfl) rfl) fun w=>by
  have:=Tryz.bits_Len (n:Int) w (by omega) (by omega)
  simpa using this
theorem ay (v:Nat):Aa pg 259 [.tok 0 v 1 0 0,.int .i64 0,.int .i64 0] [.live v []] (fun r M=>r= .tup []/\M=[.live v []]):=by
 refine Aa.start (fn:=Tryz.f259) [] tk rfl rfl rfl (by kernel_rfl) (Nat.le_of_ble_eq_true rfl) rfl (by kernel_rfl) ?_
 rw[Bl]
 refine z0 ?_;intro K hK
 refine zk ?_;clear hK K
 refine zb ?_
 refine W.loopS (fun _:Unit=> [(0,.tok 0 v 1 0 0),(1,.int .i64 0),(2,.int .i64 0),(6,.int .i64 1)]) (fun _=> [.live v []]) (fun _=>0) (fun _=>True) () (Wk.fr (by simp[Ad])) trivial ?_
 rintro _ _
 refine zs ?_
 refine zn ?_
 refine W.exit ?_
 (try simp only[Cs,Ct,Dk,Dl,if_true]);refine Fw (d:=0) ?_;simp -implicitDefEqProofs (maxSteps:=999999) (disch:=omega)
theorem az (v:Nat):Aa pg 253 [.tok 0 v 1 0 0,.int .i64 0,.int .i64 0,.int .i64 0] [.live v []] (fun r M=>r= .tup []/\M=[.live v []]):=by
 refine Aa.start (fn:=Tryz.f253) [] tk rfl rfl rfl (by kernel_rfl) (Nat.le_of_ble_eq_true rfl) rfl (by kernel_rfl) ?_
 rw[Iz]
 refine zs ?_
 refine zs ?_
 refine zb ?_
 refine W.loopS (fun _:Unit=> [(0,.tok 0 v 1 0 0),(1,.int .i64 0),(2,.int .i64 0),(3,.int .i64 0)]) (fun _=> [.live v []]) (fun _=>0) (fun _=>True) () (Wk.fr (by simp[Ad])) trivial ?_
 rintro _ _
 refine zb ?_
 refine zs ?_
 refine zs ?_
 refine zt ?_
 refine z0 ?_;intro K hK
 refine Ab.pass [0] (ay v) (by simp) (by simp) (by simp) (by simp) ?_
 rintro _ M ⟨rfl,rfl⟩ _
 refine zx ?_
 refine zk ?_;clear hK K
 exact zR
theorem Y2 (v:Nat):Aa pg 245 [.tok 0 v 1 0 0] [.live v []] (fun r M=>r= .tup []/\M=[.live v []]):=by
 refine Aa.start (fn:=Tryz.f245) [] tk rfl rfl rfl (by kernel_rfl) (Nat.le_of_ble_eq_true rfl) rfl (by kernel_rfl) ?_
 rw[Ay]
 refine zs ?_
 refine z0 ?_;intro K hK
 refine Ab.eq (Ol 0 (by omega)) (by simp;rfl) (by simp) ?_
 rw[show Lib.bitLen 0=0 from rfl]
 refine zx ?_
 refine Ab.pass [0] (az v) (by simp) (by simp) (by simp) (by simp) ?_
 rintro _ M ⟨rfl,rfl⟩ _
 refine zx ?_
 refine zk ?_;clear hK K
 (try simp only[Cs,Ct,Dk,Dl,if_true]);refine Fw (d:=0) ?_;simp -implicitDefEqProofs (maxSteps:=999999) (disch:=omega)
theorem UG (xs:List Int) (v:Nat) (hx:xs.length<4611686018427387904):Aa pg 245 [.tok 0 v 1 0 xs.length] [.live v (Ae xs)] (fun r M=>r= .tup []/\M=[.live v (Ae (B6 xs))]):=by
 cases xs with
 |nil=>simpa[B6] using Y2 v
 |cons x xs=>exact QE (Lk (fn:=Tryz.f245) rfl (by kernel_rfl) rfl) (fun blk off cap zs w h1 h2 h3=>Tryz.slices_Sort_int blk off cap zs w h1 h2 h3) (x::xs) v hx (by simp)
theorem FW (l:List Int):(B6 l).length=l.length:=List.length_mergeSort _
def Rz (rest:List Int) (o:Option (List Int)):AV:=match o with
 |none=> .tup [.own 1 0 [],.bool false]
 |some l=> .tup [.own 1 (B6 (rest++l)).length (Ae (B6 (rest++l))),.bool (decide (AJ rest/\AJ (B6 (rest++l))))]
theorem Y3 (r:List (Int×Int)) (rest:List Int) (hr:r.length<1000000) (hrest:rest.length<1000000) (hb:∀q∈r,(-1000000000000<q.1/\q.1<1000000000000)/\(-1000000000000<q.2/\q.2<1000000000000)):
 Aa pg 223 [.ro r.length (Ac AC r),.ro rest.length (Ae rest)] [] (fun x _=>x=Rz rest (DB r (-1))):=by
 refine Aa.start (fn:=Tryz.f223) [.tmp 4,.tmp 5] tk rfl rfl rfl (by kernel_rfl) (Nat.le_of_ble_eq_true rfl) rfl (by kernel_rfl) ?_
 rw[At]
 refine zs ?_
 refine z0 ?_;intro K hK
 refine Ab.eq (Hh rest (by omega)) (by simp) (by simp) ?_
 refine zx ?_
 refine zk ?_;clear hK K
 refine zs ?_
 refine zs ?_
 (repeat refine W.seq ?_);refine W.block (W.loopS (fun s:Nat×List Int×Int×Nat=> [(1,.ro rest.length (Ae rest)),(6,.tok 0 s.2.2.2 1 0 s.2.1.length),(7,.int .i64 s.2.2.1),(13,.ro r.length (Ac AC r)),(14,.int .i64 r.length),(15,.int .i64 s.1)]) (fun s=> [.live s.2.2.2 (Ae s.2.1)]) (fun s=>r.length-s.1)
   (fun s=>s.1<=r.length/\s.2.1.length<=rest.length+16*s.1/\(-1<=s.2.2.1/\s.2.2.1<=40)/\(DB r (-1)).map (rest++·)=(DB (r.drop s.1) s.2.2.1).map (s.2.1++·)) (0,rest,-1,0) (Wk.fr (by simp[Ad])) (by simp) ?_)
 rintro⟨k,acc,e,c⟩ ⟨hk,hacc,he,hinv⟩
 simp only at hk hacc he hinv
 refine zs ?_
 refine zc ?_ ?_<;>intro h
 .refine W.skip ?_
  have hlt:k<r.length:=by omega
  have hbk:=hb _ (List.getElem_mem hlt)
  have hd:=List.drop_eq_getElem_cons hlt
  rw[hd] at hinv
  generalize hq:r[k]=q at*
  obtain⟨a,n⟩:=q
  simp only at hbk
  refine zb ?_
  (repeat refine W.seq ?_);refine W.reg 1 rfl fun K hK=>?_;simp -implicitDefEqProofs (maxSteps:=999999) (disch:=omega) [hlt,hq,AC]
  refine zk ?_;clear hK K
  (repeat refine W.seq ?_);refine W.midS (fun b:Bool=> [(1,.ro rest.length (Ae rest)),(6,.tok 0 c 1 0 acc.length),(7,.int .i64 e),(9,.ptr 1 0 0),(13,.ro r.length (Ac AC r)),(14,.int .i64 r.length),(15,.int .i64 k),(48,.bool b)]) (fun _=> [.live c (Ae acc),.live 0 [.int .i64 a,.int .i64 n]]) (fun b=>b=true↔n<3\/16<n\/a<=e\/¬(0<=a/\a<16)\/¬(0<=a+n-1/\a+n-1<16)) ?_ ?_
  .by_cases c1:n<3
   .refine z0 ?_;intro K hK
    refine zk ?_;clear hK K
    exact⟨true,by simp[c1],Wk.fr (by simp[Ad])⟩
   by_cases c2:16<n
   .refine z0 ?_;intro K hK
    refine zk ?_;clear hK K
    exact⟨true,by simp[c2],Wk.fr (by simp[Ad])⟩
   by_cases c3:a<=e
   .refine z0 ?_;intro K hK
    refine zk ?_;clear hK K
    exact⟨true,by simp[c3],Wk.fr (by simp[Ad])⟩
   by_cases c4:¬(0<=a/\a<16)
   .refine z0 ?_;intro K hK
    refine Ab.eq (P4 a) (by simp) (by simp) ?_
    rw[decide_eq_false c4]
    refine zx ?_
    refine zk ?_;clear hK K
    exact⟨true,by simp;omega,Wk.fr (by simp[Ad])⟩
   .refine z0 ?_;intro K hK
    refine Ab.eq (P4 a) (by simp) (by simp) ?_
    rw[decide_eq_true (Classical.not_not.1 c4)]
    refine zx ?_
    refine Ab.eq (P4 (a+n-1)) (by simp) (by simp) ?_
    by_cases c5:0<=a+n-1/\a+n-1<16
    .rw[decide_eq_true c5]
     refine zx ?_
     refine zk ?_;clear hK K
     exact⟨false,by simp;omega,Wk.fr (by simp[Ad])⟩
    .rw[decide_eq_false c5]
     refine zx ?_
     refine zk ?_;clear hK K
     exact⟨true,by simp;omega,Wk.fr (by simp[Ad])⟩
  .intro b hbb
   refine zc ?_ ?_<;>intro h
   .have hbad:=hbb.1 (by assumption)
    refine zs ?_
    refine zr ?_
    simp only[DB] at hinv
    rw[if_pos hbad] at hinv
    simp at hinv
    simp[hinv,Rz]
   .have hgood:¬(n<3\/16<n\/a<=e\/¬(0<=a/\a<16)\/¬(0<=a+n-1/\a+n-1<16)):=fun h=>by
     have h1:=hbb.2 h
     have h2:b=false:=by assumption
     rw[h1] at h2;cases h2
    simp only[DB] at hinv
    rw[if_neg hgood] at hinv
    refine W.skip ?_
    refine zs ?_
    refine zs ?_
    (repeat refine W.seq ?_);refine W.block (W.loopS (fun j:Nat=> [(1,.ro rest.length (Ae rest)),(6,.tok 0 (c+j) 1 0 (acc.length+j)),(7,.int .i64 (a+n)),(10,.int .i64 (a+j)),(13,.ro r.length (Ac AC r)),(14,.int .i64 r.length),(15,.int .i64 k)]) (fun j=> [.live (c+j) (Ae (acc++(List.range j).map fun i=>a+(i:Nat)))]) (fun j=>n.toNat-j) (fun j=>(j:Int)<=n) 0 (Wk.cutM (k:=1) (by simp[Ad]) (by simp) (by simp) (by simp) (by simp) (by simp)) (by omega) ?_)
    intro j hj
    refine zs ?_
    refine zc ?_ ?_<;>intro h
    .refine W.skip ?_
     refine zb ?_
     refine z1 ?_;intro K hK
     refine zk ?_;clear hK K
     refine zs ?_
     refine⟨j+1,by omega,by omega,Wk.cutM (k:=1) (by simp[Ad];omega) (by simp[Cj,List.range_succ];simp[Ae];omega) (by simp) (by simp) (by simp) (by simp)⟩
    .refine W.exit ?_
     have hjn:j=n.toNat:=by omega
     subst hjn
     refine zs ?_
     refine⟨(k+1,acc++(List.range n.toNat).map (fun i=>a+(i:Nat)),a+n,c+n.toNat),by omega,⟨by omega,by simp;omega,show-1<=a+n/\a+n<=40 by omega,?_⟩,Wk.fr (by simp[Ad])⟩
     rw[hinv]
     cases DB (r.drop (k+1)) (a+n)<;>simp
 .refine W.exit ?_
  have hkk:k=r.length:=by omega
  subst hkk
  simp[DB] at hinv
  obtain⟨l,hl,hacc2⟩:=hinv
  subst hacc2
  have hst:(B6 (rest++l)).take (rest.length+l.length)=B6 (rest++l):=by rw[List.take_of_length_le];rw[FW];simp
  refine z0 ?_;intro K hK
  refine Ab.pass [0] (UG (rest++l) c (by omega)) (by simp) (by simp) (by simp) (by simp) ?_
  rintro _ M ⟨rfl,rfl⟩ _
  refine zx ?_
  refine zk ?_;clear hK K
  refine z0 ?_;intro K hK
  refine Ab.eq (OJ rest (by omega)) (by simp) (by simp) ?_
  by_cases hm:AJ rest
  .rw[decide_eq_true hm]
   refine zx ?_
   refine Ab.eq (OJ (B6 (rest++l)) (by rw[FW];omega)) (by simp[FW,hst]) (by simp) ?_
   refine zx ?_
   refine zk ?_;clear hK K
   refine zr ?_
   simp[hl,Rz,hm,FW,hst]
  .rw[decide_eq_false hm]
   refine zx ?_
   refine zk ?_;clear hK K
   refine zr ?_
   simp[hl,Rz,hm,FW,hst]
end Go.Abs
