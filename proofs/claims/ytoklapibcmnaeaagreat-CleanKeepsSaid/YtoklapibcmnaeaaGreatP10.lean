/- References: gamma codes written and read. -/
import Derived.Test.YtoklapibcmnaeaaGreatP9
set_option linter.unusedVariables false
set_option linter.unusedSimpArgs false
set_option maxRecDepth 100000
namespace Go.Abs
open Go.Proofs
theorem FQ (xs:List Bool) (u n:Nat) (hx:xs.length<100000000) (h1:1<=n) (h2:n<1099511627776):Aa pg 166 [.tok 0 u 1 0 xs.length,.int .i64 2,.int .i64 n] [.live u (A8 xs)] (fun r M=>r= .own 1 (xs.length+(AD n).length) (A8 (xs++AD n))/\M=[.dead]):=by
 have hlg:=(Nat.log2_lt (n:=n) (k:=40) (by omega)).2 (by omega)
 have hgl:=Dz n
 obtain⟨q,hq⟩:∃q,q=Nat.log2 n:=⟨_,rfl⟩
 have spl:=bQ n h1 h2
 rw[<-hq] at spl hlg hgl
 refine Aa.start (fn:=Tryz.f166) [.tmp 6] tk rfl rfl rfl (by kernel_rfl) (Nat.le_of_ble_eq_true rfl) rfl (by kernel_rfl) ?_
 rw[Bl]
 refine zs ?_
 refine zs ?_
 refine zb ?_
 refine zs ?_
 refine zn ?_
 refine zs ?_
 refine zt ?_
 refine z0 ?_;intro K hK
 refine Ab.eq spl (by simp) (by simp) ?_
 refine zx ?_
 refine Ab.pass [0] (W0 xs u 0 q (by omega) (by omega) (by omega)) (by simp) (by simp) (by simp) (by simp) ?_
 rintro r M ⟨rfl,rfl⟩ _
 refine zx ?_
 refine Ab.eq spl (by simp) (by simp) ?_
 refine zx ?_
 have sp2:=W0 (xs++A9 0 q) 0 n (q+1) (by simp;omega) (by omega) (by omega)
 refine Ab.pass [1] sp2 (by simp) (by simp) (by simp) (by simp) ?_
 rintro r M ⟨rfl,rfl⟩ _
 refine zx ?_
 refine zk ?_;clear hK K
 refine zr ?_
 have hgb:AD n=A9 0 q++A9 n (q+1):=by rw[AD,hq]
 exact⟨by omega,by rw[List.take_of_length_le (by simp;omega),hgb]⟩
theorem Zo (n:Int):Aa pg 181 [.int .i64 2,.int .i64 n] [] (fun r _=>r= .bool (decide (1<=n/\n<=1073741824))):=by
 refine Aa.start (fn:=Tryz.f181) [.tmp 4] tk rfl rfl rfl (by kernel_rfl) (Nat.le_of_ble_eq_true rfl) rfl (by kernel_rfl) ?_
 rw[At]
 refine zs ?_
 refine zs ?_
 refine zn ?_
 refine W.skip ?_
 refine z0 ?_;intro K hK
 refine Ab.eq (Fh 2 2 5) (by simp) (by simp) ?_
 rw[decide_eq_true (by omega)]
 refine zx ?_
 refine Ab.eq (Fh n 1 1073741824) (by simp) (by simp) ?_
 refine zx ?_
 refine zk ?_;clear hK K
 exact zR
def FR (o:Option (Nat×Nat)):AV:=match o with|some x=> .tup [.int .i64 x.1,.int .i64 x.2] |none=> .tup [.int .i64 (-1),.int .i64 0]
theorem Fk (l:List Bool) (p:Nat) (hl:l.length<1000000000) (hp:p<=l.length):Aa pg 143 [.ro l.length (A8 l),.int .i64 p,.int .i64 2] [] (fun r _=>r=FR (A5 l p)):=by
 have spz:=Zc l p (by omega) hp
 refine Aa.start (fn:=Tryz.f143) [.tmp 6,.tmp 7] tk rfl rfl rfl (by kernel_rfl) (Nat.le_of_ble_eq_true rfl) rfl (by kernel_rfl) ?_
 rw[Bl]
 refine zs ?_
 refine z0 ?_;intro K hK
 refine Ab.eq spz (by simp) (by simp) ?_
 cases ha:ahead l p with
 |none=>
  have hg:A5 l p=none:=by unfold A5;rw[ha]
  simp only[Fa];simp -implicitDefEqProofs (maxSteps:=999999) (disch:=omega) [nb]
  refine zk ?_;clear hK K
  refine zs ?_
  refine zt ?_
  refine zs ?_
  refine zr ?_
  rw[hg];rfl
 |some q=>
  have hql:p+q<l.length:=by
   have:=List.findIdx?_eq_some_iff_findIdx_eq.1 ha
   simp at this;omega
  simp only[Fa];simp -implicitDefEqProofs (maxSteps:=999999) (disch:=omega) [nb]
  refine zk ?_;clear hK K
  refine zs ?_
  refine zn ?_
  refine W.skip ?_
  refine z0 ?_;intro K hK
  refine zk ?_;clear hK K
  refine zs ?_
  refine zb ?_
  refine zs ?_
  refine zn ?_
  refine zs ?_
  refine zt ?_
  by_cases c:q<=30/\p+2*q+1<=l.length
  rotate_left
  .have hg:A5 l p=none:=by unfold A5;rw[ha];simp only;rw[if_neg c]
   by_cases c1:q<=30
   .have c2:¬p+2*q+1<=l.length:=fun h=>c ⟨c1,h⟩
    have c3:(l.length:Int)<(p:Int)+2*q+1:=by omega
    have c4:¬(30:Int)<(q:Int):=by omega
    refine Af (an c3 c4) ?_;intro K hK
    refine zk ?_;clear hK K
    refine zt ?_
    refine zs ?_
    refine zr ?_
    rw[hg];rfl
   .have c4:(30:Int)<(q:Int):=by omega
    refine Af c4 ?_;intro K hK
    refine zk ?_;clear hK K
    refine zt ?_
    refine zs ?_
    refine zr ?_
    rw[hg];rfl
  have c4:¬(30:Int)<(q:Int):=by omega
  have c3:¬(l.length:Int)<(p:Int)+2*q+1:=by omega
  refine Af (an c3 c4) ?_;intro K hK
  refine zk ?_;clear hK K
  refine zn ?_
  refine W.skip ?_
  have spg:=bP l (p+q) (q+1) (by omega) (by omega) (by omega)
  have hgr:A5 l p=if BH ((l.drop (p+q)).take (q+1))<=1073741824 then some (BH ((l.drop (p+q)).take (q+1)),p+2*q+1) else none:=by
   unfold A5;rw[ha];simp only;rw[if_pos c]
  have hpos:1<=BH ((l.drop (p+q)).take (q+1)):=by
   obtain⟨r,hr⟩:=H5 ha
   have e1:(l.drop (p+q)).take (q+1)=true::r.take q:=by
    rw[<-List.drop_drop,hr,List.drop_append];simp
   rw[e1,Ff]
   have:0<2^(r.take q).length:=Nat.pow_pos (by omega)
   simp only[Bool.toNat_true,Nat.one_mul];omega
  generalize BH ((l.drop (p+q)).take (q+1))=v at*
  refine z0 ?_;intro K hK
  refine Ab.eq spg (by simp) (by simp) ?_
  refine zx ?_
  refine zk ?_;clear hK K
  refine z0 ?_;intro K hK
  refine Ab.eq (Zo v) (by simp) (by simp) ?_
  by_cases cv:v<=1073741824
  .rw[decide_eq_true (by omega)]
   refine zx ?_
   refine zk ?_;clear hK K
   refine zn ?_
   refine W.skip ?_
   refine zs ?_
   refine zr ?_
   rw[hgr,if_pos cv]
   simp[FR]
  .rw[decide_eq_false (by omega)]
   refine zx ?_
   refine zk ?_;clear hK K
   refine zt ?_
   refine zs ?_
   refine zr ?_
   rw[hgr,if_neg cv];rfl
theorem Nv {bs:List Bool}:∀(k:Nat) (f:Bool) (p:Nat) (last:Int) (r:List Int×Nat),Dw bs k f p last=some r->r.1.Pairwise (·<·)/\(f=false->∀x∈r.1,last<x)
 |0,f,p,last,r,h=>by simp[Dw] at h;subst h;simp
 |k+1,f,p,last,r,h=>by
  simp only[Dw] at h
  split at h
  .simp at h
  .rename_i x hx
   obtain⟨h1,h2,h3,h4,_⟩:=A0 hx
   split at h
   .rename_i q hq
    simp at h;subst h
    obtain⟨g1,g2⟩:=Nv k false x.2 _ q hq
    refine⟨?_,?_⟩
    .simp only[List.pairwise_cons];exact⟨fun z hz=>g2 rfl z hz,g1⟩
    .intro hf z hz
     subst hf
     have g3:=g2 rfl
     simp only[Bool.false_eq_true,if_false] at g3 hz
     simp only[List.mem_cons] at hz
     rcases hz with rfl|hz
     .omega
     .have:=g3 z hz;omega
   .simp at h
theorem K3 {bs:List Bool}:∀(k:Nat) (f:Bool) (p:Nat) (last:Int),Cd bs k f p last=match Dw bs k f p last with|some r=>if∀x∈r.1,0<=x/\x<16 then some r else none|none=>none
 |0,f,p,last=>by simp[Cd,Dw]
 |k+1,f,p,last=>by
  simp only[Cd,Dw]
  cases hx:A5 bs p with
  |none=>rfl
  |some x=>
   simp only
   generalize (last+(if f=true then CO ((x.1:Int)-1) else(x.1:Int)))=y
   rw[K3 k false x.2 y]
   cases Dw bs k false x.2 y with
   |none=>simp
   |some r=>
    simp only[List.mem_cons,forall_eq_or_imp]
    by_cases h1:0<=y/\y<16
    .by_cases h2:∀x∈r.1,0<=x/\x<16
     .rw[if_pos h1,if_pos h2,if_pos ⟨h1,h2⟩]
     .rw[if_pos h1,if_neg h2,if_neg (fun g=>h2 g.2)]
    .rw[if_neg h1,if_neg (fun g=>h1 g.1)]
theorem FA (bs:List Bool) (p:Nat) (v:Int):Eh bs p v=DI bs p v:=by
 unfold Eh DI
 cases hx:A5 bs p with
 |none=>rfl
 |some x=>
  simp only
  split
  .rw[K3]
   cases hq:Dw bs (x.1-1) true x.2 v with
   |none=>rfl
   |some r=>
    simp only
    have:=(Nv _ _ _ _ _ hq).1
    by_cases h2:∀x∈r.1,0<=x/\x<16
    .rw[if_pos h2,if_pos ⟨h2,this⟩]
    .rw[if_neg h2,if_neg (fun g=>h2 g.1)]
  .rfl
theorem KF (l:List Bool) (p:Nat):Fg l p p=[]:=by simp[Fg]
theorem OR {f:Bool} {last v:Int} {n:Nat} (h:1<=n) (hv:f=true->last=v):(if f=true then BX (last+(if f=true then CO ((n:Int)-1) else(n:Int))-v)+1 else last+(if f=true then CO ((n:Int)-1) else(n:Int))-last).toNat=n:=by
 cases f
 .simp;omega
 .have:=hv rfl;subst this
  simp only[if_true]
  have:last+CO ((n:Int)-1)-last=CO ((n:Int)-1):=by omega
  rw[this,YU _ (by omega)];omega
theorem LT {bs:List Bool} (v:Int):∀(k:Nat) (f:Bool) (p:Nat) (last:Int) (r:List Int×Nat),(f=true->last=v)->p<=bs.length->Cd bs k f p last=some r->p<=r.2/\r.2<=bs.length/\Fg bs p r.2=B3 v r.1 f last
 |0,f,p,last,r,hv,hp,h=>by simp[Cd] at h;subst h;simp[B3,KF,hp]
 |k+1,f,p,last,r,hv,hp,h=>by
  simp only[Cd] at h
  split at h
  .simp at h
  .rename_i x hx
   obtain⟨h1,h2,h3,h4,h5⟩:=A0 hx
   have hc:=OR h1 hv
   generalize (last+(if f=true then CO ((x.1:Int)-1) else(x.1:Int)))=y at h hc
   split at h
   .split at h
    .rename_i q hq
     simp at h;subst h
     obtain⟨g1,g2,g3⟩:=LT v k false x.2 _ q (by simp) h4 hq
     refine⟨by simp only;omega,g2,?_⟩
     simp only[B3]
     rw[hc,<-h5,<-g3,DO (by omega) g1]
    .simp at h
   .simp at h
theorem QU (v:Int) (l:List Int) (e e' :Int):B3 v l true e=B3 v l true e' :=by cases l<;>simp[B3]
theorem M6 (v:Int) (l:List (Int×Int)) (e e' :Int):BL v l true e=BL v l true e' :=by cases l<;>simp[BL]
theorem Nw {bs:List Bool} {p:Nat} {v:Int} {r:List Int×Nat} (h:DI bs p v=some r):p<=r.2/\r.2<=bs.length/\Fg bs p r.2=Cx v r.1:=by
 unfold DI at h
 split at h
 .simp at h
 .rename_i x hx
  obtain⟨h1,h2,h3,h4,h5⟩:=A0 hx
  split at h
  .obtain⟨g1,g2,g3⟩:=LT v _ _ _ _ _ (fun _=>rfl) h4 h
   have h6:=(H7 _ _ _ _ _ h4 h).1
   refine⟨by omega,g2,?_⟩
   rw[Cx,h6,show x.1-1+1=x.1 by omega,<-h5,QU v r.1 0 v,<-g3,DO (by omega) g1]
  .simp at h
theorem IK {bs:List Bool} (v:Int):∀(k:Nat) (f:Bool) (p:Nat) (e:Int) (r:List (Int×Int)×Nat),(f=true->e=v)->p<=bs.length->CJ bs k f p e=some r->r.1.length=k/\p<=r.2/\r.2<=bs.length/\Fg bs p r.2=BL v r.1 f e
 |0,f,p,e,r,hv,hp,h=>by simp[CJ] at h;subst h;simp[BL,KF,hp]
 |k+1,f,p,e,r,hv,hp,h=>by
  simp only[CJ] at h
  split at h
  .simp at h
  .rename_i x hx
   obtain⟨h1,h2,h3,h4,h5⟩:=A0 hx
   have hc:=OR h1 hv
   generalize (e+(if f=true then CO ((x.1:Int)-1) else(x.1:Int)))=a at h hc
   split at h
   .simp at h
   .rename_i y hy
    obtain⟨i1,i2,i3,i4,i5⟩:=A0 hy
    split at h
    .rename_i q hq
     simp at h;subst h
     obtain⟨g0,g1,g2,g3⟩:=IK v k false y.2 _ q (by simp) i4 hq
     refine⟨by simp[g0],by simp only;omega,g2,?_⟩
     simp only[BL]
     rw[hc,show((y.1:Int)-1+3-3+1).toNat=y.1 by omega,<-h5,<-i5,<-g3,DO (by omega) (by omega),DO (by omega) g1]
    .simp at h
def Lr:List Int->Bool->Int->Prop
 | [],_,_=>True
 |x::l,f,e=>(f=true\/e<x)/\Lr l false x
def FG:List (Int×Int)->Bool->Int->Prop
 | [],_,_=>True
 | (a,n)::l,f,e=>(f=true\/e<a)/\3<=n/\FG l false (a+n)
theorem OS {f:Bool} {v e a b:Int} {s t:List Bool} (ha:f=true\/e<a) (hb:f=true\/e<b) (h:AD (if f=true then BX (a-v)+1 else a-e).toNat++s=AD (if f=true then BX (b-v)+1 else b-e).toNat++t):a=b/\s=t:=by
 cases f
 .simp only[Bool.false_eq_true,if_false,false_or] at*
  obtain⟨h1,h2⟩:=G0 (by omega) (by omega) h
  exact⟨by omega,h2⟩
 .simp only[if_true] at*
  have z1:=Dv (a-v)
  have z2:=Dv (b-v)
  obtain⟨h1,h2⟩:=G0 (by omega) (by omega) h
  have:=YV (a:=a-v) (b:=b-v) (by omega)
  exact⟨by omega,h2⟩
theorem Nx (v:Int):∀(l m:List Int) (f:Bool) (e:Int) (s t:List Bool),l.length=m.length->Lr l f e->Lr m f e->B3 v l f e++s=B3 v m f e++t->l=m/\s=t
 | [],[],f,e,s,t,_,_,_,h=>by simpa[B3] using h
 | [],_::_,f,e,s,t,hl,_,_,h=>by simp at hl
 |_::_,[],f,e,s,t,hl,_,_,h=>by simp at hl
 |x::l,y::m,f,e,s,t,hl,h1,h2,h=>by
  simp only[B3,List.append_assoc,Lr] at*
  obtain⟨rfl,h3⟩:=OS h1.1 h2.1 h
  obtain⟨rfl,h4⟩:=Nx v l m false x s t (by simpa using hl) h1.2 h2.2 h3
  exact⟨rfl,h4⟩
theorem Ny (v:Int):∀(l m:List (Int×Int)) (f:Bool) (e:Int) (s t:List Bool),l.length=m.length->FG l f e->FG m f e->BL v l f e++s=BL v m f e++t->l=m/\s=t
 | [],[],f,e,s,t,_,_,_,h=>by simpa[BL] using h
 | [],_::_,f,e,s,t,hl,_,_,h=>by simp at hl
 |_::_,[],f,e,s,t,hl,_,_,h=>by simp at hl
 | (x,n)::l,(y,k)::m,f,e,s,t,hl,h1,h2,h=>by
   simp only[BL,List.append_assoc,FG] at*
   obtain⟨rfl,h3⟩:=OS h1.1 h2.1 h
   obtain⟨h5,h3⟩:=G0 (by omega) (by omega) h3
   have:n=k:=by omega
   subst this
   obtain⟨rfl,h4⟩:=Ny v l m false (x+n) s t (by simpa using hl) h1.2.2 h2.2.2 h3
   exact⟨rfl,h4⟩
theorem In:∀(l:List Int) (f:Bool) (e:Int),l.Pairwise (·<·)->(f=true\/∀x∈l,e<x)->Lr l f e
 | [],_,_,_,_=>trivial
 |x::l,f,e,h,he=>by
  rw[List.pairwise_cons] at h
  exact⟨he.imp id fun g=>g x (by simp),In l false x h.2 (.inr h.1)⟩
theorem GE:∀(l:List Int) (x:Int),(x::l).Pairwise (·<·)->∀y∈(x::l).drop (AZ (x::l)),x+(AZ (x::l):Nat)<y
 | [],x,_,y,hy=>by simp[AZ] at hy
 |z::t,x,h,y,hy=>by
  rw[List.pairwise_cons] at h
  have hz:=h.1 z (by simp)
  simp only[AZ] at hy |-
  split at hy
  .rename_i e
   subst e
   simp only[List.drop_succ_cons] at hy
   have:=GE t (x+1) h.2 y hy
   simp only[if_true]
   omega
  .rename_i e
   rw[if_neg e]
   simp only[List.drop_succ_cons,List.drop_zero] at hy
   have h2:=h.2
   rw[List.pairwise_cons] at h2
   simp only[List.mem_cons] at hy
   rcases hy with rfl|hy
   .omega
   .have:=h2.1 y hy;omega
theorem D1:∀(n:Nat) (l:List Int) (f:Bool) (e:Int),l.length<=n->l.Pairwise (·<·)->(f=true\/∀x∈l,e<x)->FG (Am l).1 f e/\3*(Am l).1.length<=l.length/\(Am l).2.Pairwise (·<·)/\∀x∈(Am l).2,x∈l
 |_,[],_,_,_,_,_=>by simp[Am,FG]
 |0,x::l,_,_,h,_,_=>by simp at h
 |n+1,x::l,f,e,h,hp,he=>by
  have h1:=EL x l
  have h2:=Fb (x::l)
  have h3:((x::l).drop (AZ (x::l))).length=(x::l).length-AZ (x::l):=by simp
  have hd:=hp.sublist (List.drop_sublist (AZ (x::l)) (x::l))
  have hn:=GE l x hp
  have hm:∀y∈(x::l).drop (AZ (x::l)),y∈x::l:=fun y hy=>List.mem_of_mem_drop hy
  rw[Am]
  split
  .rename_i hk
   obtain⟨a1,a2,a3,a4⟩:=D1 n ((x::l).drop (AZ (x::l))) false (x+(AZ (x::l):Nat)) (by omega) hd (.inr hn)
   refine⟨⟨he.imp id fun g=>g x (by simp),by omega,a1⟩,?_,a3,fun y hy=>hm y (a4 y hy)⟩
   simp only[List.length_cons] at*;omega
  .obtain⟨a1,a2,a3,a4⟩:=D1 n ((x::l).drop (AZ (x::l))) f e (by omega) hd (he.imp id fun g y hy=>g y (hm y hy))
   refine⟨a1,by show 3*(Am ((x::l).drop (AZ (x::l)))).1.length<=_;omega,?_,fun y hy=>?_⟩
   .rw[List.pairwise_append]
    refine⟨hp.sublist (List.take_sublist _ _),a3,fun y hy z hz=>?_⟩
    have hp' :((x::l).take (AZ (x::l))++(x::l).drop (AZ (x::l))).Pairwise (·<·):=by rw[List.take_append_drop];exact hp
    rw[List.pairwise_append] at hp'
    exact hp'.2.2 y hy z (a4 z hz)
   .simp only[List.mem_append] at hy
    rcases hy with hy|hy
    .exact List.mem_of_mem_take hy
    .exact hm y (a4 y hy)
theorem Io:∀(l m:List Int),l.Pairwise (·<·)->m.Pairwise (·<·)->(∀x,x∈l↔x∈m)->l=m
 | [],[],_,_,_=>rfl
 | [],y::m,_,_,h=>by have:=(h y).2 (by simp);simp at this
 |x::l,[],_,_,h=>by have:=(h x).1 (by simp);simp at this
 |x::l,y::m,h1,h2,h=>by
  rw[List.pairwise_cons] at h1 h2
  have e:x=y:=by
   have a:=(h x).1 (by simp)
   have b:=(h y).2 (by simp)
   simp only[List.mem_cons] at a b
   rcases a with a|a
   .exact a
   .rcases b with b|b
    .exact b.symm
    .have:=h2.1 x a;have:=h1.1 y b;omega
  subst e
  congr 1
  refine Io l m h1.2 h2.2 fun z=>⟨fun hz=>?_,fun hz=>?_⟩
  .have a:=(h z).1 (by simp[hz])
   simp only[List.mem_cons] at a
   rcases a with rfl|a
   .have:=h1.1 z hz;omega
   .exact a
  .have a:=(h z).2 (by simp[hz])
   simp only[List.mem_cons] at a
   rcases a with rfl|a
   .have:=h2.1 z hz;omega
   .exact a
theorem HN (p:Int->Bool) (x:Int):x∈H2 p↔(0<=x/\x<16)/\p x=true:=by
 simp only[H2,List.mem_filter,List.mem_map,List.mem_range]
 constructor
 .rintro⟨⟨i,hi,rfl⟩,h⟩;exact⟨by omega,h⟩
 .rintro⟨h,hp⟩;exact⟨⟨x.toNat,by omega,by omega⟩,hp⟩
theorem IL (p:Int->Bool):(H2 p).Pairwise (·<·):=by
 unfold H2
 refine List.Pairwise.filter _ (List.pairwise_map.2 ?_)
 exact(List.pairwise_lt_range).imp fun h=>by omega
theorem Nz (p:Int->Bool):AJ (H2 p):=⟨fun x hx=>((HN p x).1 hx).1,IL p⟩
theorem LU (l:List Int):(B6 l).Perm l:=List.mergeSort_perm _ _
theorem FS (l:List Int) (x:Int):x∈B6 l↔x∈l:=(LU l).mem_iff
theorem UX (l:List Int):(B6 l).Pairwise (·<=·):=by
 have:=List.pairwise_mergeSort (le:=fun x y:Int=>decide (x<=y)) (fun a b c h1 h2=>by simp at*;omega) (fun a b=>by simp;omega) l
 exact this.imp fun h=>by simpa using h
theorem OT (l:List Int):(B6 l).Pairwise (·<·)↔l.Nodup:=by
 rw[<-(LU l).nodup_iff]
 constructor
 .intro h;exact h.imp fun h=>by omega
 .intro h
  exact(UX l).imp₂ (fun a b h1 h2=>by have:a≠b:=h2;omega) h
theorem Hm (l:List Int):AJ (B6 l)↔(∀x∈l,0<=x/\x<16)/\l.Nodup:=by
 unfold AJ
 rw[OT]
 simp only[FS]
theorem E1 {l:List Int} (h:l.Pairwise (·<·)):l.Nodup:=h.imp fun h=>by omega
theorem K4:∀(r:List (Int×Int)) (e:Int) (W:List Int),DB r e=some W->Dx r e
 | [],_,_,_=>trivial
 | (a,n)::rs,e,W,h=>by
   simp only[DB] at h
   split at h
   .simp at h
   .split at h
    .rename_i l hl
     exact⟨by omega,by omega,by omega,by omega,by omega,K4 rs (a+n) l hl⟩
    .simp at h
theorem GF:∀(r:List (Int×Int)) (e:Int),Dx r e->∃W,DB r e=some W/\W.Pairwise (·<·)/\(∀x∈W,e<x)/\(∀x,x∈W↔Bu r x=true)/\∀x∈W,0<=x/\x<16
 | [],e,_=>⟨[],rfl,by simp,by simp,by simp[Bu],by simp⟩
 | (a,n)::rs,e,h=>by
   obtain⟨h1,h2,h3,h4,h5,h6⟩:=h
   obtain⟨W,a1,a2,a3,a4,a5⟩:=GF rs (a+n) h6
   have hmem:∀x:Int,x∈(List.range n.toNat).map (fun i=>a+(i:Nat))↔a<=x/\x<a+n:=by
    intro x
    simp only[List.mem_map,List.mem_range]
    constructor
    .rintro⟨i,hi,rfl⟩;omega
    .intro hx;exact⟨(x-a).toNat,by omega,by omega⟩
   refine⟨_,by simp only[DB];rw[if_neg (by omega),a1],?_,?_,?_,?_⟩
   .rw[List.pairwise_append]
    refine⟨List.pairwise_map.2 (List.pairwise_lt_range.imp fun h=>by omega),a2,fun x hx y hy=>?_⟩
    have:=(hmem x).1 hx;have:=a3 y hy;omega
   .intro x hx
    rcases List.mem_append.1 hx with hx|hx
    .have:=(hmem x).1 hx;omega
    .have:=a3 x hx;omega
   .intro x
    rw[List.mem_append,hmem,a4]
    simp[Bu]
   .intro x hx
    rcases List.mem_append.1 hx with hx|hx
    .have:=(hmem x).1 hx;omega
    .exact a5 x hx
theorem IM (r:List (Int×Int)) (g:List Int) (hg:AJ g) (l:List Int):EQ r g=some l↔DJ r g=some l:=by
 unfold EQ DJ
 constructor
 .intro h
  split at h
  .simp at h
  .rename_i W hW
   have hr:=K4 _ _ _ hW
   obtain⟨W',b1,b2,b3,b4,b5⟩:=GF r (-1) hr
   rw[hW] at b1;simp at b1;subst b1
   split at h
   .rename_i hm
    simp at h;subst h
    have hd:=(Hm _).1 hm.2
    rw[List.nodup_append] at hd
    rw[if_pos]
    .congr 1
     refine Io _ _ (IL _) hm.2.2 fun x=>?_
     rw[HN,FS,List.mem_append,b4]
     simp only[Bool.or_eq_true,List.contains_eq_mem,decide_eq_true_eq]
     constructor
     .rintro⟨_,h|h⟩
      .exact .inr h
      .exact .inl h
     .intro h
      refine⟨hd.1 x (by rw[List.mem_append,b4];exact h),h.symm⟩
    .refine⟨hm.1,hr,fun x hx=>?_⟩
     cases hi:Bu r x with
     |false=>rfl
     |true=>exact absurd rfl (hd.2.2.2 x hx x ((b4 x).2 hi))
   .simp at h
 .intro h
  split at h
  .rename_i hc
   simp at h;subst h
   obtain⟨W,b1,b2,b3,b4,b5⟩:=GF r (-1) hc.2.1
   rw[b1]
   simp only
   have hm:AJ (B6 (g++W)):=by
    rw[Hm]
    refine⟨fun x hx=>?_,?_⟩
    .rcases List.mem_append.1 hx with hx|hx
     .exact hg.1 x hx
     .exact b5 x hx
    .rw[List.nodup_append]
     refine⟨E1 hg.2,E1 b2,fun x hx y hy e=>?_⟩
     subst e
     have:=hc.2.2 x hx
     rw[(b4 x).1 hy] at this;simp at this
   rw[if_pos ⟨hg,hm⟩]
   congr 1
   refine Io _ _ hm.2 (IL _) fun x=>?_
   rw[HN,FS,List.mem_append,b4]
   simp only[Bool.or_eq_true,List.contains_eq_mem,decide_eq_true_eq]
   constructor
   .intro h
    refine⟨(Hm _).1 hm|>.1 x (by rw[List.mem_append,b4];exact h),h.symm⟩
   .rintro⟨_,h|h⟩
    .exact .inr h
    .exact .inl h
  .simp at h
theorem GG {bs:List Bool}:∀(k:Nat) (f:Bool) (p:Nat) (e:Int) (r:List (Int×Int)×Nat),Ce bs k f p e=some r↔CJ bs k f p e=some r/\∀q∈r.1,q.2<=18
 |0,f,p,e,r=>by
  simp only[Ce,CJ,Option.some.injEq]
  constructor
  .rintro rfl;simp
  .exact fun h=>h.1
 |k+1,f,p,e,r=>by
  simp only[Ce,CJ]
  cases hx:A5 bs p with
  |none=>simp
  |some x=>
   simp only
   cases hy:A5 bs x.2 with
   |none=>simp
   |some y=>
    simp only
    generalize (e+(if f=true then CO ((x.1:Int)-1) else(x.1:Int)))=a
    have ih:=GG (bs:=bs) k false y.2 (a+((y.1:Int)-1+3))
    constructor
    .intro h
     split at h
     .split at h
      .rename_i q hq
       simp at h;subst h
       rw[((ih q).1 hq).1]
       refine⟨rfl,fun w hw=>?_⟩
       simp only[List.mem_cons] at hw
       rcases hw with rfl|hw
       .simp only;omega
       .exact((ih q).1 hq).2 w hw
      .simp at h
     .simp at h
    .rintro⟨h,hb⟩
     split at h
     .rename_i q hq
      simp at h;subst h
      have:=hb _ (List.mem_cons_self ..)
      simp only at this
      rw[if_pos (by omega),(ih q).2 ⟨hq,fun w hw=>hb w (List.mem_cons_of_mem _ hw)⟩]
     .simp at h
theorem LV:∀(r:List (Int×Int)) (e:Int),Dx r e->∀q∈r,q.2<=16
 | [],_,_,q,hq=>by simp at hq
 | (a,n)::rs,e,h,q,hq=>by
   obtain⟨h1,h2,h3,h4,h5,h6⟩:=h
   simp only[List.mem_cons] at hq
   rcases hq with rfl|hq
   .simp only;omega
   .exact LV rs _ h6 q hq
theorem LW:∀(r:List (Int×Int)) (f:Bool) (e:Int),Dx r e->FG r f e
 | [],_,_,_=>trivial
 | (a,n)::rs,f,e,h=>by
   obtain⟨h1,h2,h3,h4,h5,h6⟩:=h
   exact⟨.inr h5,h3,LW rs false _ h6⟩
theorem Zp {r:List (Int×Int)} {e e' :Int} (h:FG r true e):FG r true e' :=by
 cases r with
 |nil=>trivial
 |cons q r=>exact⟨.inl rfl,h.2⟩
theorem GH (bs:List Bool) (p:Nat) (v:Int):BU bs p v=De bs p v:=by
 unfold BU De
 cases hx:A5 bs p with
 |none=>rfl
 |some x=>
  simp only
  obtain⟨h1,h2,h3,h4,h5⟩:=A0 hx
  cases hr:CJ bs (x.1-1) true x.2 v with
  |none=>
   have:Ce bs (x.1-1) true x.2 v=none:=by
    cases h:Ce bs (x.1-1) true x.2 v with
    |none=>rfl
    |some r=>have:=((GG _ _ _ _ _).1 h).1;rw[hr] at this;simp at this
   rw[this];simp
  |some r=>
   obtain⟨r1,r2,r3,r4⟩:=IK v _ _ _ _ _ (fun _=>rfl) h4 hr
   simp only
   have href:Ce bs (x.1-1) true x.2 v=if∀q∈r.1,q.2<=18 then some r else none:=by
    split
    .rename_i hb;exact(GG _ _ _ _ _).2 ⟨hr,hb⟩
    .rename_i hb
     cases h:Ce bs (x.1-1) true x.2 v with
     |none=>rfl
     |some r' =>
      have:=(GG _ _ _ _ _).1 h
      rw[hr] at this
      have e:=this.1
      simp at e;subst e
      exact absurd this.2 hb
   rw[href]
   cases hg:DI bs r.2 v with
   |none=>simp only[FA];split<;>split<;>first|rfl|simp_all
   |some g=>
    obtain⟨g1,g2,g3⟩:=Nw hg
    have gm:=(Jn hg).2.1
    have hj:DJ r.1 g.1=EQ r.1 g.1:=Option.ext fun l=>(IM r.1 g.1 gm l).symm
    have hseg:Fg bs p g.2=AD (r.1.length+1)++(BL v r.1 true 0++Cx v g.1):=by
     rw[r1,show x.1-1+1=x.1 by omega,<-h5,M6 v r.1 0 v,<-r4,<-g3,DO r2 g1,DO (by omega) (by omega)]
    have hlen:=YT (l:=bs) (p:=p) (x:=g.2) g2
    cases hw:EQ r.1 g.1 with
    |none=>split<;>(try split)<;>simp_all[FA]
    |some l=>
     have hrun:Dx r.1 (-1):=by
      have h:=(IM _ _ gm l).1 hw
      unfold DJ at h
      split at h
      .rename_i hc;exact hc.2.1
      .simp at h
     have hm:AJ l:=by
      have h:=(IM _ _ gm l).1 hw
      unfold DJ at h
      split at h
      .simp at h;subst h;exact Nz _
      .simp at h
     have hall:∀q∈r.1,q.2<=18:=fun q hq=>by have:=LV _ _ hrun q hq;omega
     rw[if_pos hall]
     have key:(x.1<=16/\Am l=(r.1,g.1))↔(x.1<=17/\(AY v l).length=g.2-p/\(bs.drop p).take (AY v l).length=AY v l):=by
      constructor
      .rintro⟨k1,k2⟩
       have hb:AY v l=Fg bs p g.2:=by rw[AY,k2,hseg,List.append_assoc]
       refine⟨by omega,by rw[hb,hlen],?_⟩
       rw[hb,hlen];rfl
      .rintro⟨k1,k2,k3⟩
       rw[k2] at k3
       have hb:AY v l=Fg bs p g.2:=k3.symm
       rw[hseg,AY,List.append_assoc] at hb
       obtain⟨c1,c2⟩:=G0 (by omega) (by omega) hb
       obtain⟨p1,p2,p3,p4⟩:=D1 l.length l true 0 (Nat.le_refl _) hm.2 (.inl rfl)
       obtain⟨d1,d2⟩:=Ny v _ _ true 0 _ _ (by omega) p1 (Zp (LW r.1 true (-1) hrun)) c2
       simp only[Cx] at d2
       obtain⟨c3,c4⟩:=G0 (by omega) (by omega) d2
       have d3:=(Nx v (Am l).2 g.1 true 0 [] [] (by omega) (In _ _ _ p3 (.inl rfl)) (In _ _ _ gm.2 (.inl rfl)) (by simpa using c4)).1
       have hl:=Bq hm
       refine⟨by rw[d1] at p2;omega,Prod.ext d1 d3⟩
     simp only[FA,hg,hj,hw]
     by_cases hk:x.1<=16/\Am l=(r.1,g.1)
     .have hk' :=key.1 hk
      rw[if_pos hk'.1,if_pos hk.1,if_pos hk.2,if_pos hk'.2]
     .have hk' :=fun g=>hk (key.2 g)
      by_cases a1:x.1<=16
      .rw[if_pos a1,if_pos (by omega),if_neg (fun h=>hk ⟨a1,h⟩),if_neg (fun h=>hk' ⟨by omega,h⟩)]
      .rw[if_neg a1]
       by_cases a2:x.1<=17
       .rw[if_pos a2,if_neg (fun h=>hk' ⟨a2,h⟩)]
       .rw[if_neg a2]
theorem IN:∀(bl left:List Int) (i:Bool) (W:List Int),Bi bl left i=some W->W.Sublist left/\∀n∈bl,0<=n/\n<=left.length
 | [],left,i,W,h=>by
   simp only[Bi,Option.some.injEq] at h
   subst h
   refine⟨?_,by simp⟩
   split
   .exact List.Sublist.refl _
   .exact List.nil_sublist _
 |n::bs,left,i,W,h=>by
  simp only[Bi] at h
  split at h
  .simp at h
  .split at h
   .rename_i l hl
    simp at h;subst h
    obtain⟨a1,a2⟩:=IN bs _ _ l hl
    refine⟨?_,fun m hm=>?_⟩
    .have e:left=left.take n.toNat++left.drop n.toNat:=(List.take_append_drop _ _).symm
     conv=>rhs;rw[e]
     refine List.Sublist.append ?_ a1
     split
     .exact List.Sublist.refl _
     .exact List.nil_sublist _
    .simp only[List.mem_cons] at hm
     rcases hm with rfl|hm
     .omega
     .have:=a2 m hm
      simp at this;omega
   .simp at h
theorem NA (ref bl rest:List Int) (hr:AJ ref) (hs:AJ rest) (hb:bl.length<=16):EM ref bl rest=Cv ref bl rest:=by
 unfold EM Cv
 rw[if_neg (fun h=>h ⟨hr,hs,hb⟩)]
 cases hc:Bi bl ref true with
 |none=>rfl
 |some W=>
  simp only
  obtain⟨a1,a2⟩:=IN _ _ _ _ hc
  have hW:∀x∈W,0<=x/\x<16:=fun x hx=>hr.1 x (a1.subset hx)
  have hall:∀x∈rest++W,0<=x/\x<16:=fun x hx=>by
   rcases List.mem_append.1 hx with h|h
   .exact hs.1 x h
   .exact hW x h
  have eqm:AJ (B6 (rest++W))->(H2 fun i=>W.contains i||rest.contains i)=B6 (rest++W):=by
   intro hm
   refine Io _ _ (IL _) hm.2 fun x=>?_
   rw[HN,FS,List.mem_append]
   simp only[Bool.or_eq_true,List.contains_eq_mem,decide_eq_true_eq]
   constructor
   .rintro⟨_,h|h⟩
    .exact .inr h
    .exact .inl h
   .intro h;exact⟨hall x (List.mem_append.2 h),h.symm⟩
  by_cases hm:AJ (B6 (rest++W))
  .rw[eqm hm]
   by_cases h2:blocks ref (B6 (rest++W))=bl/\Bh ref (B6 (rest++W))=rest
   .rw[if_pos h2,if_pos ⟨hm,h2⟩]
   .rw[if_neg h2,if_neg (fun h=>h2 h.2)]
  .conv=>rhs;rw[if_neg (fun h=>hm h.1)]
   rw[if_neg]
   rintro⟨_,h2⟩
   apply hm
   rw[Hm]
   refine⟨hall,?_⟩
   rw[List.nodup_append]
   refine⟨E1 hs.2,(E1 hr.2).sublist a1,fun x hx y hy e=>?_⟩
   subst e
   rw[<-h2] at hx
   simp only[Bh,List.mem_filter] at hx
   have h3:=a1.subset hy
   have h4:=hx.2
   simp[h3] at h4
theorem OU {bs:List Bool}:∀(k:Nat) (f:Bool) (p:Nat) (r:List Int×Nat),p<=bs.length->B9 bs k f p=some r->r.1.length=k/\p<=r.2/\r.2<=bs.length
 |0,f,p,r,hp,h=>by simp[B9] at h;subst h;simp;exact hp
 |k+1,f,p,r,hp,h=>by
  simp only[B9] at h
  split at h
  .simp at h
  .rename_i x hx
   obtain⟨h1,h2,h3,h4,_⟩:=A0 hx
   split at h
   .rename_i q hq
    simp at h;subst h
    have:=OU k false x.2 q h4 hq
    exact⟨by simp[this.1],by simp only;omega,this.2.2⟩
   .simp at h
theorem Ib {bs:List Bool}:∀(k:Nat) (f:Bool) (p:Nat) (r:List Int×Nat),(∀n∈r.1,n<=16)->(BM bs k f p=some r↔B9 bs k f p=some r)
 |0,f,p,r,_=>by simp[BM,B9]
 |k+1,f,p,r,hr=>by
  simp only[BM,B9]
  cases hx:A5 bs p with
  |none=>simp
  |some x=>
   simp only
   constructor
   .intro h
    split at h
    .split at h
     .rename_i q hq
      simp at h;subst h
      rw[(Ib k false x.2 q (fun n hn=>hr n (by simp[hn]))).1 hq]
     .simp at h
    .simp at h
   .intro h
    split at h
    .rename_i q hq
     simp at h;subst h
     have h1:=hr _ (List.mem_cons_self ..)
     rw[if_pos (by split at h1<;>omega),(Ib k false x.2 q (fun n hn=>hr n (by simp[hn]))).2 hq]
    .simp at h
theorem Ic {bs:List Bool}:∀(k:Nat) (f:Bool) (p:Nat) (r:List Int×Nat),BM bs k f p=some r->B9 bs k f p=some r
 |0,f,p,r,h=>by simpa[BM,B9] using h
 |k+1,f,p,r,h=>by
  simp only[BM] at h
  simp only[B9]
  split at h
  .simp at h
  .rename_i x hx
   split at h
   .split at h
    .rename_i q hq
     rw[Ic k false x.2 q hq];exact h
    .simp at h
   .simp at h
theorem JO {bs:List Bool} {p:Nat} {v:Int} {r:List Int×Nat} (h:De bs p v=some r):AJ r.1:=by
 unfold De at h
 (repeat' split at h)<;>first| (simp at h;done) |skip
 rename_i x hx _ q hq _ g hg _ l hl hp
 simp at h;subst h
 unfold EQ at hl
 (repeat' split at hl)<;>first| (simp at hl;done) |skip
 rename_i hm
 simp at hl;subst hl
 exact hm.2
theorem NB (bs:List Bool) (p:Nat) (v:Int) (ref:List Int) (hr:AJ ref):Ex bs p v ref=CA bs p v ref:=by
 have hl:=Bq hr
 unfold Ex CA
 cases hx:A5 bs p with
 |none=>rfl
 |some x=>
  simp only
  obtain⟨h1,h2,h3,h4,_⟩:=A0 hx
  by_cases hk:x.1<=17
  rotate_left
  .rw[if_neg hk,if_neg hk]
  rw[if_pos hk,if_pos hk]
  cases hn:B9 bs (x.1-1) true x.2 with
  |none=>
   have:BM bs (x.1-1) true x.2=none:=by
    cases h:BM bs (x.1-1) true x.2 with
    |none=>rfl
    |some r=>have:=Ic _ _ _ _ h;rw[hn] at this;simp at this
   rw[this]
  |some q=>
   have hq:=OU _ _ _ _ h4 hn
   simp only
   by_cases hb:∀n∈q.1,n<=16
   .rw[(Ib _ _ _ q hb).2 hn]
    simp only[GH]
    cases hs:De bs q.2 v with
    |none=>rfl
    |some r=>
     simp only
     rw[NA ref q.1 r.1 hr (JO hs) (by omega)]
   .have hcw:∀r:List Int,Cv ref q.1 r=none:=by
     intro r
     unfold Cv
     split
     .rfl
     .rename_i W hW
      exact absurd (fun n hn=>by have:=(IN _ _ _ _ hW).2 n hn;omega) hb
    have:BM bs (x.1-1) true x.2=none\/BM bs (x.1-1) true x.2=some q:=by
     cases h:BM bs (x.1-1) true x.2 with
     |none=>exact .inl rfl
     |some r=>have:=Ic _ _ _ _ h;rw[hn] at this;simp at this;subst this;exact .inr rfl
    have hjc:∀r:List Int,AJ r->EM ref q.1 r=none:=fun r hm=>by rw[NA ref q.1 r hr hm (by omega),hcw]
    rcases this with h|h
    .rw[h]
     simp only[hcw]
     split<;>rfl
    .rw[h]
     simp only[GH,hcw]
     split
     .rfl
     .rename_i r hs
      rw[hjc _ (JO hs)]
theorem HO {g:Gr} (h:A3 g) (v:Int):AJ (AH g v):=by
 unfold AH
 rw[List.getD_eq_getElem?_getD]
 cases hx:g.out[v.toNat]? with
 |none=>simp[AJ]
 |some l=>exact(h.2.2.2.1 l (List.mem_of_getElem? hx)).1
theorem OV (bs:List Bool):Fc bs=BD bs:=by
 unfold Fc BD
 have:BU bs=De bs:=funext fun p=>funext fun v=>GH bs p v
 rw[this]
theorem OW (a:Gr) (bs:List Bool) (h:A3 a):H3 a bs=BK a bs:=by
 unfold H3 BK
 congr 1
 exact funext fun p=>funext fun v=>NB bs p v _ (HO h v)
theorem IP (v:Int):∀(l:List Int) (i:Nat) (f:Bool) (e:Int) (h:i<l.length),B3 v (l.take (i+1)) f e=B3 v (l.take i) f e++AD (if i=0 then(if f=true then BX (l[i]-v)+1 else l[i]-e) else l[i]-l[i-1]).toNat
 | [],i,f,e,h=>by simp at h
 |x::t,0,f,e,h=>by simp[B3]
 |x::t,i+1,f,e,h=>by
  have ih:=IP v t i false x (by simpa using h)
  simp only[List.take_succ_cons,B3,List.getElem_cons_succ,Nat.add_sub_cancel] at ih |-
  rw[ih,List.append_assoc]
  congr 3
  cases i with
  |zero=>simp
  |succ i=>simp
theorem DP (n:Nat) (h:n<1099511627776):(AD n).length<=81:=by
 have:=Dz n
 by_cases h0:n=0
 .subst h0;simp[AD,A9]
 .have:=(Nat.log2_lt (n:=n) (k:=40) h0).2 (by omega)
  omega
theorem Zq (xs:List Bool) (u:Nat) (v:Int) (l:List Int) (hx:xs.length<10000000) (hv:0<=v/\v<=16) (hl:AJ l):Aa pg 206 [.tok 0 u 1 0 xs.length,.int .i64 v,.ro l.length (Ae l)] [.live u (A8 xs)] (fun r M=>r= .own 1 (xs++Cx v l).length (A8 (xs++Cx v l))/\M=[.dead]):=by
 have hll:=Bq hl
 refine Aa.start (fn:=Tryz.f206) [.tmp 6] tk rfl rfl rfl (by kernel_rfl) (Nat.le_of_ble_eq_true rfl) rfl (by kernel_rfl) ?_
 rw[Bl]
 refine zs ?_
 have hg0:=DP (l.length+1) (by omega)
 refine z0 ?_;intro K hK
 refine Ab.pass [0] (FQ xs u (l.length+1) (by omega) (by omega) (by omega)) (by simp) (by simp) (by simp) (by simp) ?_
 rintro r M ⟨rfl,rfl⟩ _
 refine zx ?_
 refine zk ?_;clear hK K
 refine zs ?_
 (repeat refine W.seq ?_);refine W.block (W.loopS (fun z:Nat×List Bool=> [(0,.tok 1 0 1 0 z.2.length),(1,.int .i64 v),(2,.ro l.length (Ae l)),(7,.int .i64 (z.1:Nat))]) (fun z=> [.dead,.live 0 (A8 z.2)]) (fun z=>l.length-z.1) (fun z=>z.1<=l.length/\z.2=xs++(AD (l.length+1)++B3 v (l.take z.1) true 0)/\z.2.length<=xs.length+81*(z.1+1)) (0,xs++AD (l.length+1)) (Wk.fr (by simp[Ad])) ⟨by simp,by simp[B3],by simp;omega⟩ ?_)
 rintro⟨i,B⟩ ⟨hi,hB,hBl⟩
 simp only at hi hB hBl
 refine zs ?_
 refine zc ?_ ?_<;>intro h
 .refine W.skip ?_
  have hlt:i<l.length:=by omega
  have hto:=IP v l i true 0 hlt
  have hbd:=hl.1 _ (List.getElem_mem hlt)
  refine zb ?_
  by_cases h0:i=0
  .subst h0
   have hz:=Dv (l[0]-v)
   have hz2:BX (l[0]-v)<=100:=by unfold BX;split<;>omega
   obtain⟨c,hc⟩:=Int.eq_ofNat_of_zero_le (show 0<=BX (l[0]-v)+1 by omega)
   have hcl:=DP c (by omega)
   refine z0 ?_;intro K hK
   refine zk ?_;clear hK K
   refine zt ?_
   (repeat refine W.seq ?_);refine W.reg 0 rfl fun K hK=>?_;simp -implicitDefEqProofs (maxSteps:=999999) (disch:=omega) [hlt]
   refine Ab.eq (WZ (l[0]-v) (by omega)) (by simp) (by simp) ?_
   refine AX hc ?_
   refine Ab.pass [1] (FQ B 0 c (by omega) (by omega) (by omega)) (by simp) (by simp) (by simp) (by simp) ?_
   rintro r M ⟨rfl,rfl⟩ _
   refine zx ?_
   refine zk ?_;clear hK K
   refine zs ?_
   refine⟨(1,B++AD c),by simp only;omega,⟨by simp only;omega,?_,by simp;omega⟩,?_⟩
   .simp only[hto,if_true,hc,Int.toNat_natCast]
    rw[hB];simp[B3]
   .simp only[List.length_append]
    exact Wk.sink (k:=1) (j:=2) (by rfl) (by simp) (by omega) (by simp) (by simp[Ad]) (by simp) (by simp) (by simp)
  .have hup:=List.pairwise_iff_getElem.1 hl.2 (i-1) i (by omega) hlt (by omega)
   have hbd2:=hl.1 _ (List.getElem_mem (show i-1<l.length by omega))
   obtain⟨c,hc⟩:=Int.eq_ofNat_of_zero_le (show 0<=l[i]-l[i-1] by omega)
   have hcl:=DP c (by omega)
   refine Af h0 ?_;intro K hK
   refine zk ?_;clear hK K
   refine zn ?_
   (repeat refine W.seq ?_);refine W.regdS 0 11 rfl true Cz (by kernel_rfl) fun K hK=>?_;simp -implicitDefEqProofs (maxSteps:=999999) (disch:=omega) [hlt,hc]
   refine⟨by omega,?_⟩
   refine Ab.pass [1] (FQ B 0 c (by omega) (by omega) (by omega)) (by simp) (by simp) (by simp) (by simp) ?_
   rintro r M ⟨rfl,rfl⟩ _
   refine zx ?_
   refine zk ?_;clear hK K
   refine zs ?_
   refine⟨(i+1,B++AD c),by simp only;omega,⟨by simp only;omega,?_,by simp;omega⟩,?_⟩
   .simp only[hto,if_neg h0,hc,Int.toNat_natCast]
    rw[hB];simp
   .simp only[List.length_append]
    exact Wk.sink (k:=1) (j:=2) (by rfl) (by simp) (by omega) (by simp) (by simp[Ad]) (by simp) (by simp) (by simp)
 .refine W.exit ?_
  have hi' :i=l.length:=by omega
  subst hi'
  rw[List.take_length] at hB
  have hB' :B=xs++Cx v l:=hB
  subst hB'
  refine zs ?_
  refine zr ?_
  rw[List.take_of_length_le (by simp)]
theorem Xa (l:List Int) (hl:l.length<1000000000) (hb:∀x∈l,-1000000000000<x/\x<1000000000000):Aa pg 204 [.ro l.length (Ae l)] [] (fun r _=>r=Oj (Am l)):=by
 have hb' :∀i (h:i<l.length),-1000000000000<l[i]/\l[i]<1000000000000:=fun i h=>hb _ (List.getElem_mem h)
 refine Aa.start (fn:=Tryz.f204) [.tmp 2,.tmp 3] tk rfl rfl rfl (by kernel_rfl) (Nat.le_of_ble_eq_true rfl) rfl (by kernel_rfl) ?_
 rw[Ay]
 refine zs ?_
 refine zs ?_
 refine zs ?_
 refine zs ?_
 (repeat refine W.seq ?_);refine W.block (W.loopS (fun s:Nat×List (Int×Int)×List Int×Nat=> [(0,.ro l.length (Ae l)),(4,.tok 0 s.2.1.length 2 0 s.2.1.length),(5,.tok 1 s.2.2.2 1 0 s.2.2.1.length),(6,.int .i64 s.1)]) (fun s=> [.live s.2.1.length (Ac AC s.2.1),.live s.2.2.2 (Ae s.2.2.1)]) (fun s=>l.length-s.1)
   (fun s=>s.1<=l.length/\s.2.1.length<=s.1/\s.2.2.1.length<=s.1/\Am l=(s.2.1++(Am (l.drop s.1)).1,s.2.2.1++(Am (l.drop s.1)).2)) (0,[],[],0) ((Wk.nil (t:=4) (s:=2) (by simp)).trans ((Wk.nil (t:=5) (s:=1) (by simp)).trans (Wk.fr (by simp[Ad])))) (by simp) ?_)
 rintro⟨i,ra,sa,c⟩ ⟨hi,hra,hsa,hinv⟩
 simp only at hi hra hsa hinv
 refine zs ?_
 refine zc ?_ ?_<;>intro h
 .refine W.skip ?_
  refine zb ?_
  refine zs ?_
  (repeat refine W.seq ?_);refine W.block (W.loopS (fun k:Nat=> [(0,.ro l.length (Ae l)),(4,.tok 0 ra.length 2 0 ra.length),(5,.tok 1 c 1 0 sa.length),(6,.int .i64 i),(7,.int .i64 k)]) (fun _=> [.live ra.length (Ac AC ra),.live c (Ae sa)]) (fun k=>l.length-k)
    (fun k=>i<k/\k<=l.length/\∀j (h:j<l.length),i<j->j<k->l[j]=l[j-1]+1) (i+1) (Wk.fr (by simp[Ad])) ⟨by omega,by omega,fun j h h1 h2=>by omega⟩ ?_)
  rintro k ⟨hik,hk,hrun⟩
  (repeat refine W.seq ?_);refine W.midS (fun b:Bool=> [(0,.ro l.length (Ae l)),(4,.tok 0 ra.length 2 0 ra.length),(5,.tok 1 c 1 0 sa.length),(6,.int .i64 i),(7,.int .i64 k),(30,.bool b)]) (fun _=> [.live ra.length (Ac AC ra),.live c (Ae sa)]) (fun b=>b=true↔∃h:k<l.length,l[k]=l[k-1]+1) ?_ ?_
  .by_cases h2:k<l.length
   .have h3:=hb' k h2
    have h4:=hb' (k-1) (by omega)
    refine Cm ?_;intro K hK
    refine zk ?_;clear hK K
    exact⟨decide (l[k]=l[k-1]+1),by simp[h2],Wk.fr (by simp[Ad])⟩
   .refine Cm ?_;intro K hK
    refine zk ?_;clear hK K
    exact⟨false,by simp[h2],Wk.fr (by simp[Ad])⟩
  .intro b hbb
   refine zc ?_ ?_<;>intro h
   .refine W.skip ?_
    obtain⟨h2,h3⟩:=hbb.1 (by assumption)
    refine zb ?_
    refine zs ?_
    refine⟨k+1,by omega,⟨by omega,by omega,fun j hj h4 h5=>?_⟩,Wk.fr (by simp[Ad])⟩
    by_cases e:j=k
    .subst e;exact h3
    .exact hrun j hj h4 (by omega)
   .refine W.exit ?_
    have hend:∀h:k<l.length,l[k]≠l[k-1]+1:=fun h2 h3=>by simp_all
    have hrl:=Oi hik hk hrun hend
    have hpa:=P8 (by omega) hrl hik hk
    refine zs ?_
    refine zc ?_ ?_<;>intro h
    .rw[if_pos (by omega)] at hpa
     refine z1 ?_;intro K hK
     refine zk ?_;clear hK K
     refine zs ?_
     refine⟨(k,ra++[(l[i],((k-i:Nat):Int))],sa,c),by simp;omega,⟨hk,by simp;omega,by simp;omega,?_⟩,Wk.cutM (k:=2) (by simp[Ad]) ?_ (by simp) (by simp) (by simp) (by simp)⟩
     .rw[hinv,hpa];simp
     .simp[Ck,Ax,AC];omega
    .rw[if_neg (by omega)] at hpa
     refine zs ?_
     refine zs ?_
     refine⟨(k,ra,sa++(l.drop i).take (k-i),c+1),by simp;omega,⟨hk,by simp;omega,by simp;omega,?_⟩,Wk.cutM (k:=2) (by simp[Ad];omega) ?_ (by simp) (by simp) (by simp) (by simp)⟩
     .rw[hinv,hpa];simp
     .simp[Cj]
 .refine W.exit ?_
  refine zs ?_
  refine zr ?_
  rw[hinv]
  simp[Oj,List.drop_of_length_le h,Am]
@[simp] theorem UY {n:Int} (h0:0<=n) (h1:n<=18446744073709551615):IntKind.u64.wrap n=n:=by
  simp[IntKind.wrap,IntKind.bits,IntKind.signed]
  omega
theorem JP (x:Nat) (hx:x<4294967296):CN .and (.int .u64 x) (.int .u64 4294967295)=some (.int .u64 x):=by
 rw[Nm]
 have e (n:Nat) (h:n<18446744073709551616):(BitVec.ofInt IntKind.u64.bits (n:Int)).toNat=n:=by
  rw[BitVec.toNat_ofInt];simp[IntKind.bits] at*;omega
 have e1:(BitVec.ofInt IntKind.u64.bits (x:Int)&&&BitVec.ofInt IntKind.u64.bits ((4294967295:Nat):Int)).toNat=x&&&4294967295:=by
  rw[BitVec.toNat_and,e x (by omega),e 4294967295 (by omega)]
 have e2:x&&&4294967295=x:=by
  rw[show 4294967295=2^32-1 by rfl,Nat.and_two_pow_sub_one_eq_mod];omega
 have e3:((4294967295:Int))=((4294967295:Nat):Int):=rfl
 rw[e3,e1,e2,UY (by omega) (by omega)]
theorem Xb (n:Nat) (hn:n<1000):Aa pg 269 [.int .u64 1,.int .u64 n] [] (fun r _=>r= .tup [.int .u64 0,.int .u64 n]):=by
 refine Aa.start (fn:=Tryz.f269) [.tmp 4,.tmp 5] tk rfl rfl rfl (by kernel_rfl) (Nat.le_of_ble_eq_true rfl) rfl (by kernel_rfl) ?_
 rw[At]
 have a1:CN .and (.int .u64 1) (.int .u64 4294967295)=some (.int .u64 1):=JP 1 (by omega)
 have a0:CN .and (.int .u64 0) (.int .u64 4294967295)=some (.int .u64 0):=JP 0 (by omega)
 have an:=JP n (by omega)
 have dn:(n:Int)/4294967296=0:=by omega
 refine zs ?_
 refine Af a1 ?_;intro K hK
 refine zk ?_;clear hK K
 refine zs ?_
 refine Af an ?_;intro K hK
 refine zk ?_;clear hK K
 refine Af dn ?_;intro K hK
 refine zk ?_;clear hK K
 refine zs ?_
 refine Af dn ?_;intro K hK
 refine zk ?_;clear hK K
 refine Af a0 ?_;intro K hK
 refine zk ?_;clear hK K
 refine zs ?_
 refine zs ?_
 refine zs ?_
 refine zs ?_
 exact zR
theorem W.condF {P:Program} {T:Nat->Option TI} {p:Nat} {F:Fr} {M:List Ag} {Q:Cn} {x y:Code} (h:W P T p y F M Q):W P T p (.cond (.const (.bool false)) x y) F M Q:=fun tk C hC hp hb=>by
 simp only[CY,Bool.and_eq_true] at hb
 exact AW.cond false (fun t e=>by cases e) rfl (fun h=>by cases h) (fun _=>h tk C hC hp hb.2)
theorem aP (n:Nat) (hn:n<1000):Aa pg 256 [.int .u64 1,.int .u64 n] [] (fun r _=>r= .tup [.int .u64 0,.int .u64 n]):=by
 refine Aa.start (fn:=Tryz.f256) [.tmp 4,.tmp 5] tk rfl rfl rfl (by kernel_rfl) (Nat.le_of_ble_eq_true rfl) rfl (by kernel_rfl) ?_
 rw[At]
 refine zs ?_
 (repeat refine W.seq ?_);refine W.condF (W.skip ?_)
 refine z0 ?_;intro K hK
 refine Ab.eq (Xb n hn) (by simp) (by simp) ?_
 refine zx ?_
 refine zk ?_;clear hK K
 refine zs ?_
 exact zR
def BT:Prop:=∀n:Nat,1<=n->n<1000->Aa pg 250 [.ro 1 [.int .i64 (-1)],.int .i64 n] [] (fun r _=>r= .own 1 n (Ae (List.replicate n (-1))))
theorem OX (k:Nat):Kt (k+1)=Kt k++[(k:Int)]:=by simp[Kt,List.range_succ]
@[simp] theorem fB (k:Nat):(Kt k).length=k:=by simp[Kt]
theorem Xc (hR:BT) (g:Gr) (k a:Int) (hm:A3 g) (hk:DK g k a=0):Aa pg 238 [.agg (Ba false g),.int .i64 k,.int .i64 a] [] (fun r _=>r= .agg (B4 true (CC g k a))):=by
 obtain⟨n,hn⟩:=Int.eq_ofNat_of_zero_le hm.1
 have hn16:n<=16:=by have:=hm.2.1;omega
 have hk16:1<=k/\k<=6:=by
  unfold DK at hk
  split at hk
  .simp at hk
  .omega
 have hka:named k=true->0<=a/\a<g.n:=by
  intro hnm
  unfold DK at hk
  split at hk
  .simp at hk
  .split at hk
   .simp at hk
   .rename_i h;exact Classical.byContradiction fun g=>h ⟨hnm,g⟩
 refine Aa.start (fn:=Tryz.f238) [.cell 6 53] tk rfl rfl rfl (by kernel_rfl) (Nat.le_of_ble_eq_true rfl) rfl (by kernel_rfl) ?_
 rw[Bl]
 refine z2 ?_;intro K hK;refine zk ?_;clear hK K
 refine z1 ?_;intro K hK;refine zk ?_;clear hK K
 refine z0 ?_;intro K hK
 refine Ab.eq (RF k) (by simp) (by simp) ?_
 cases hnm:named k
 .refine zx ?_
  refine zk ?_;clear hK K
  refine zn ?_
  refine W.skip ?_
  have h4:¬k=4:=fun e=>by simp[named,e] at hnm
  refine zs ?_
  refine zb ?_
  refine Af h4 ?_;intro K hK
  refine zk ?_;clear hK K
  refine zn ?_
  by_cases h5:k=5
  .refine Af h5 ?_;intro K hK
   refine zk ?_;clear hK K
   refine zt ?_
   refine W.weak (Wk.thaw (B:=2) (v:=0) (j:=4) (s:=1) (n:=0) (xs:=[]) rfl rfl) ?_
   refine W.weak (Wk.thaw (B:=2) (v:=0) (j:=5) (s:=1) (n:=0) (xs:=[]) rfl rfl) ?_
   refine Af hn ?_;intro K hK
   refine zk ?_;clear hK K
   (repeat refine W.seq ?_);refine W.block (W.loopS (fun i:Nat=> [(6,.ptr 1 0 0),(7,.ptr 2 0 0),(33,.int .i64 n),(34,.int .i64 i)]) (fun i=> [.live 0 [.int .i64 n,Ev false g.out],.live 0 [.int .i64 0,.int .i64 0,.int .i64 0,.bool false,.own 1 0 [],.own 1 0 []],.live 0 [.int .i64 5,.int .i64 0,.int .i64 0,.bool false,.tok 3 0 1 0 0,.tok 4 i 1 0 i],.live 0 [],.live i (Ae (Kt i))]) (fun i=>n-i) (fun i=>i<=n) 0 (Wk.fr ?_) (Nat.zero_le _) ?_)
   .simp[Ad]
   intro i hi
   refine zs ?_
   refine zc ?_ ?_<;>intro h
   .refine W.skip ?_
    refine zb ?_
    refine zs ?_
    refine z1 ?_;intro K hK
    refine⟨by omega,by omega,?_⟩
    refine zk ?_;clear hK K
    refine zs ?_
    refine⟨i+1,by omega,by omega,Wk.cutM (k:=5) (by simp[Ad]) ?_ (by simp) (by simp) (by simp) (by simp)⟩
    rw[OX]
    simp[Cj,Ae]
   .refine W.exit ?_
    have:i=n:=by omega
    subst this
    refine z0 ?_;intro K hK
    refine zk ?_;clear hK K
    refine zr ?_
    simp[CC,hnm,h4,h5,hn]
    exact⟨by simp[named],by rw[List.take_of_length_le (by simp)]⟩
  .refine Af h5 ?_;intro K hK
   refine zk ?_;clear hK K
   refine zn ?_
   refine W.skip ?_
   refine W.weak (Wk.thaw (B:=2) (v:=0) (j:=4) (s:=1) (n:=0) (xs:=[]) rfl rfl) ?_
   refine W.weak (Wk.thaw (B:=2) (v:=0) (j:=5) (s:=1) (n:=0) (xs:=[]) rfl rfl) ?_
   refine z0 ?_;intro K hK
   refine zk ?_;clear hK K
   refine zr ?_
   simp[CC,hnm,h4,h5]
 .have ha:=hka hnm
  obtain⟨b,rfl⟩:=Int.eq_ofNat_of_zero_le ha.1
  have hbn:b<n:=by omega
  refine zx ?_
  refine zk ?_;clear hK K
  refine zt ?_
  refine zs ?_
  refine zs ?_
  refine zb ?_
  by_cases h4:k=4
  .refine Af h4 ?_;intro K hK
   refine zk ?_;clear hK K
   refine zt ?_
   refine z2 ?_;intro K hK
   refine Ab.eq (hR n (by omega) (by omega)) (by simp[hn]) (by simp) ?_
   refine zx ?_
   refine zk ?_;clear hK K
   refine Af hbn ?_;intro K hK
   refine⟨by omega,?_⟩
   have es:(Ae (List.replicate n (-1))).set b (.int .i64 0)=Ae ((List.replicate n (-1)).set b 0):=by simp[Ae]
   rw[es]
   refine zk ?_;clear hK K
   refine z0 ?_;intro K hK
   refine zk ?_;clear hK K
   refine zr ?_
   simp[CC,hnm,h4,hn,si,Ae]
   exact⟨by simp[named],List.take_of_length_le (by simp)⟩
  .have h5:¬k=5:=fun e=>by simp[named,e] at hnm
   refine Af h4 ?_;intro K hK
   refine zk ?_;clear hK K
   refine zn ?_
   refine Af h5 ?_;intro K hK
   refine zk ?_;clear hK K
   refine zn ?_
   refine W.skip ?_
   refine W.weak (Wk.thaw (B:=2) (v:=0) (j:=4) (s:=1) (n:=0) (xs:=[]) rfl rfl) ?_
   refine W.weak (Wk.thaw (B:=2) (v:=0) (j:=5) (s:=1) (n:=0) (xs:=[]) rfl rfl) ?_
   refine z0 ?_;intro K hK
   refine zk ?_;clear hK K
   refine zr ?_
   simp[CC,hnm,h4,h5]
theorem QV (hR:BT) (g:Gr) (k a:Int) (hg:FL g) (hm:A3 g):Aa pg 217 [.agg (Ba false g),.int .i64 k,.int .i64 a] [] (fun r _=>r= .tup [.agg (B4 true (if DK g k a=0 then CC g k a else CS)),.int .i64 (DK g k a)]):=by
 refine Aa.start (fn:=Tryz.f217) [.cell 6 53,.tmp 7] tk rfl rfl rfl (by kernel_rfl) (Nat.le_of_ble_eq_true rfl) rfl (by kernel_rfl) ?_
 rw[Bl]
 refine z2 ?_;intro K hK;refine zk ?_;clear hK K
 refine z0 ?_;intro K hK
 refine Ab.eq (Za g k a hg hm) (by simp) (by simp) ?_
 refine zx ?_
 refine zk ?_;clear hK K
 by_cases h:DK g k a=0
 .refine Af h ?_;intro K hK
  refine zk ?_;clear hK K
  refine zn ?_
  refine W.skip ?_
  refine z0 ?_;intro K hK
  refine Ab.eq (Xc hR g k a hm h) (by simp) (by simp) ?_
  refine zx ?_
  refine zk ?_;clear hK K
  refine zr ?_
  simp[h]
 .refine Af h ?_;intro K hK
  refine zk ?_;clear hK K
  refine zt ?_
  refine zs ?_
  refine W.weak (Wk.thaw (B:=1) (v:=0) (j:=4) (s:=1) (n:=0) (xs:=[]) rfl rfl) ?_
  refine W.weak (Wk.thaw (B:=1) (v:=0) (j:=5) (s:=1) (n:=0) (xs:=[]) rfl rfl) ?_
  refine zr ?_
  simp[h,CS]
def Hn (l:List Int):Nat:=l.countP fun x=>decide (x<0)
structure Gl (g:Gr) (j:Cu):Prop where
 k1:1<=j.kind
 k2:j.kind<=6
 na:named j.kind=true->0<=j.a/\j.a<g.n
 a0:0<=j.at_
 an:j.at_<=g.n
 ls:j.kind≠4->j.list=[]
 c1:j.kind=1->j.at_<=1/\j.out.length<=16
 c2:j.kind=2->(j.out.length:Int)<=j.at_
 c3:j.kind=3->j.out.length<=17/\∀x∈j.out,0<=x/\x<=j.at_
 c4:j.kind=4->(j.out.length:Int)=g.n/\Hn j.out+j.list.length=j.out.length/\j.at_<=j.list.length/\(∀x∈j.list,0<=x/\x<g.n/\0<=gi j.out x)/\∀x∈j.out,x<j.list.length
 c5:j.kind=5->(j.out.length:Int)=g.n/\∀x∈j.out,0<=x/\x<g.n
 c6:j.kind=6->(j.out.length:Int)<=32*j.at_
theorem OY {l:List Int} {i:Int} (h0:0<=i) (h:i<l.length):gi l i∈l:=by
 have e:gi l i=l[i.toNat]'(by omega):=by simp[gi,List.getD_eq_getElem?_getD,List.getElem?_eq_getElem (show i.toNat<l.length by omega)]
 rw[e];exact List.getElem_mem _
theorem DF {l:List Int} {i:Nat} (h:i<l.length):gi l (i:Int)=l[i]:=by
 simp[gi,List.getD_eq_getElem?_getD,List.getElem?_eq_getElem h]
theorem JQ (l:List Int) (i x:Int):(si l i x).length=l.length:=by simp[si]
theorem JR {l:List Int} {i x y:Int} (h:y∈si l i x):y∈l\/y=x:=List.mem_or_eq_of_mem_set h
theorem Ls:∀(l:List Int) (i:Nat) (x:Int) (h:i<l.length),Fd (l.set i x)+(l[i]).toNat=Fd l+x.toNat
 | [],i,x,h=>by simp at h
 |y::l,0,x,h=>by simp[Fd];omega
 |y::l,i+1,x,h=>by
  have:=Ls l i x (by simpa using h)
  simp[Fd] at*
  omega
theorem Lt:∀(l:List Int) (i:Nat) (x:Int) (h:i<l.length),l[i]<0->0<=x->Hn (l.set i x)+1=Hn l
 | [],i,x,h,_,_=>by simp at h
 |y::l,0,x,h,h1,h2=>by
  simp at h1
  simp[Hn,List.countP_cons,h1]
  omega
 |y::l,i+1,x,h,h1,h2=>by
  have:=Lt l i x (by simpa using h) (by simpa using h1) h2
  simp[Hn,List.countP_cons] at*
  omega
theorem FT {g:Gr} (hg:A3 g) {v x:Int} (h:x∈AH g v):0<=x/\x<g.n:=by
 unfold AH at h
 rw[List.getD_eq_getElem?_getD] at h
 cases hx:g.out[v.toNat]? with
 |none=>rw[hx] at h;simp at h
 |some l=>
  rw[hx] at h
  have:=hg.2.2.2.1 l (List.mem_of_getElem? hx)
  exact⟨(this.1.1 x h).1,this.2 x h⟩
theorem Cp {g:Gr} (hg:A3 g) (v:Int):(AH g v).length<=16:=Bq (HO hg v)
theorem UZ {v w x:Int} {s:List Int×List Int} (hx0:0<=x) (hw0:0<=w) (h0:0<=gi s.1 v) (hx:0<=gi s.1 x):0<=gi (Bj v s w).1 x:=by
 unfold Bj
 split
 .rename_i hn
  have hne:w≠x:=fun e=>by subst e;omega
  simp only[gi,si,List.getD_eq_getElem?_getD]
  rw[List.getElem?_set_ne (by omega)]
  rw[gi,List.getD_eq_getElem?_getD] at hx
  exact hx
 .exact hx
theorem U0 {n v w:Int} {s:List Int×List Int} (hv:0<=v/\v<n) (hw:0<=w/\w<n) (h0:0<=gi s.1 v) (h1:(s.1.length:Int)=n) (h2:Hn s.1+s.2.length=s.1.length) (h3:∀x∈s.2,0<=x/\x<n/\0<=gi s.1 x) (h4:∀x∈s.1,x<s.2.length):
 0<=gi (Bj v s w).1 v/\((Bj v s w).1.length:Int)=n/\Hn (Bj v s w).1+(Bj v s w).2.length=(Bj v s w).1.length/\(∀x∈(Bj v s w).2,0<=x/\x<n/\0<=gi (Bj v s w).1 x)/\(∀x∈(Bj v s w).1,x<(Bj v s w).2.length)/\s.2.length<=(Bj v s w).2.length:=by
 have keep:=fun x hx0=>UZ (v:=v) (w:=w) (x:=x) (s:=s) hx0 hw.1 h0
 have k0:=keep v hv.1 h0
 have k3:∀x∈s.2,0<=x/\x<n/\0<=gi (Bj v s w).1 x:=fun x hx=>⟨(h3 x hx).1,(h3 x hx).2.1,keep x (h3 x hx).1 (h3 x hx).2.2⟩
 refine⟨k0,?_⟩
 clear k0
 unfold Bj at*
 split
 .rename_i hn
  rw[if_pos hn] at k3
  have hwl:w.toNat<s.1.length:=by omega
  have e:gi s.1 w=s.1[w.toNat]:=by simp[gi,List.getD_eq_getElem?_getD,List.getElem?_eq_getElem hwl]
  have hx:=Lt s.1 w.toNat (gi s.1 v+1) hwl (by rw[<-e];exact hn) (by omega)
  have hvm:=h4 _ (OY (l:=s.1) hv.1 (by omega))
  refine⟨by simp only[JQ];exact h1,?_,?_,?_,by simp⟩
  .simp only[List.length_append,List.length_singleton,si,List.length_set]
   omega
  .intro x hx
   simp only[List.mem_append,List.mem_singleton] at hx
   rcases hx with hx|rfl
   .exact k3 x hx
   .refine⟨hw.1,hw.2,?_⟩
    simp only[gi,si,List.getD_eq_getElem?_getD]
    rw[List.getElem?_set_self hwl]
    simp only[Option.getD_some]
    rw[gi,List.getD_eq_getElem?_getD] at h0;omega
  .intro x hx
   simp only[List.length_append,List.length_singleton]
   rcases JR hx with hx|rfl
   .have:=h4 x hx;omega
   .omega
 .exact⟨h1,h2,h3,h4,Nat.le_refl _⟩
theorem IQ {n v:Int} (hv:0<=v/\v<n):∀(ws:List Int) (s:List Int×List Int),(∀w∈ws,0<=w/\w<n)->0<=gi s.1 v->(s.1.length:Int)=n->Hn s.1+s.2.length=s.1.length->(∀x∈s.2,0<=x/\x<n/\0<=gi s.1 x)->(∀x∈s.1,x<s.2.length)->
 0<=gi (ws.foldl (Bj v) s).1 v/\((ws.foldl (Bj v) s).1.length:Int)=n/\Hn (ws.foldl (Bj v) s).1+(ws.foldl (Bj v) s).2.length=(ws.foldl (Bj v) s).1.length/\(∀x∈(ws.foldl (Bj v) s).2,0<=x/\x<n/\0<=gi (ws.foldl (Bj v) s).1 x)/\(∀x∈(ws.foldl (Bj v) s).1,x<(ws.foldl (Bj v) s).2.length)/\s.2.length<=(ws.foldl (Bj v) s).2.length
 | [],s,_,h0,h1,h2,h3,h4=>⟨h0,h1,h2,h3,h4,Nat.le_refl _⟩
 |w::ws,s,hw,h0,h1,h2,h3,h4=>by
  obtain⟨a0,a1,a2,a3,a4,a5⟩:=U0 hv (hw w (by simp)) h0 h1 h2 h3 h4
  obtain⟨b0,b1,b2,b3,b4,b5⟩:=IQ hv ws (Bj v s w) (fun x hx=>hw x (by simp[hx])) a0 a1 a2 a3 a4
  exact⟨b0,b1,b2,b3,b4,by simp only[List.foldl_cons];omega⟩
theorem S3 {n v w:Int} {s:List Int×Bool} (hv:0<=v/\v<n) (hw:0<=w/\w<n) (h1:(s.1.length:Int)=n) (h2:∀x∈s.1,0<=x/\x<n):
 ((Bv v s w).1.length:Int)=n/\(∀x∈(Bv v s w).1,0<=x/\x<n)/\(((Bv v s w).2=s.2/\Fd (Bv v s w).1=Fd s.1)\/Fd (Bv v s w).1<Fd s.1):=by
 have hvl:v.toNat<s.1.length:=by omega
 have hwl:w.toNat<s.1.length:=by omega
 have ev:gi s.1 v=s.1[v.toNat]:=by simp[gi,List.getD_eq_getElem?_getD,List.getElem?_eq_getElem hvl]
 have ew:gi s.1 w=s.1[w.toNat]:=by simp[gi,List.getD_eq_getElem?_getD,List.getElem?_eq_getElem hwl]
 have bv:=h2 _ (List.getElem_mem hvl)
 have bw:=h2 _ (List.getElem_mem hwl)
 rw[<-ev] at bv
 rw[<-ew] at bw
 have g1:=Ls s.1 v.toNat (min (gi s.1 v) (gi s.1 w)) hvl
 have g2:=Ls (s.1.set v.toNat (min (gi s.1 v) (gi s.1 w))) w.toNat (min (gi s.1 v) (gi s.1 w)) (by simpa using hwl)
 rw[List.getElem_set] at g2
 refine⟨by simp only[Bv,JQ];exact h1,?_,?_⟩
 .intro x hx
  simp only[Bv] at hx
  rcases JR hx with hx|rfl
  .rcases JR hx with hx|rfl
   .exact h2 x hx
   .omega
  .omega
 .simp only[Bv,si]
  by_cases e:gi s.1 v=gi s.1 w
  .left
   refine⟨by simp[e],?_⟩
   rw[<-ev] at g1
   split at g2
   .omega
   .rw[<-ew] at g2;omega
  .right
   rw[<-ev] at g1
   split at g2
   .rename_i h;exfalso;apply e;simp only[gi];rw[h]
   .rw[<-ew] at g2;omega
theorem HP {n v:Int} (hv:0<=v/\v<n):∀(ws:List Int) (s:List Int×Bool),(∀w∈ws,0<=w/\w<n)->(s.1.length:Int)=n->(∀x∈s.1,0<=x/\x<n)->
 ((ws.foldl (Bv v) s).1.length:Int)=n/\(∀x∈(ws.foldl (Bv v) s).1,0<=x/\x<n)/\(((ws.foldl (Bv v) s).2=s.2/\Fd (ws.foldl (Bv v) s).1=Fd s.1)\/Fd (ws.foldl (Bv v) s).1<Fd s.1)
 | [],s,_,h1,h2=>⟨h1,h2,.inl ⟨rfl,rfl⟩⟩
 |w::ws,s,hw,h1,h2=>by
  obtain⟨a1,a2,a3⟩:=S3 hv (hw w (by simp)) h1 h2
  obtain⟨b1,b2,b3⟩:=HP hv ws (Bv v s w) (fun x hx=>hw x (by simp[hx])) a1 a2
  refine⟨b1,b2,?_⟩
  simp only[List.foldl_cons]
  rcases a3 with⟨a3,a4⟩ |a3
  .rcases b3 with⟨b3,b4⟩ |b3
   .exact .inl ⟨by rw[b3,a3],by rw[b4,a4]⟩
   .exact .inr (by omega)
  .rcases b3 with⟨b3,b4⟩ |b3
   .exact .inr (by omega)
   .exact .inr (by omega)
theorem OZ (l:List Int) (n:Nat):(Dy l n).length=max l.length (n+1):=by simp[Dy];omega
theorem Lu {l:List Int} {n:Nat} {x:Int} (h:x∈Dy l n):x∈l\/x=0:=by
 simp only[Dy,List.mem_append,List.mem_replicate] at h
 rcases h with h|h
 .exact .inl h
 .exact .inr h.2
theorem IR {g:Gr} {j:Cu} (hg:A3 g) (h:Gl g j) (ho:BY g j=false):Gl g (Bc g j)/\FK g (Bc g j)<FK g j:=by
 have hn:=hg.2.1
 have hN:j.kind≠4->j.at_<g.n:=by
  intro h4
  unfold BY at ho
  split at ho
  .rename_i e
   have:=h.na (by rw[e];rfl)
   simp at ho;omega
  .simp at ho
   simpa[h4] using ho
 by_cases e1:j.kind=1
 .have hv:Bc g j={j with at_:=j.at_+1,out:=AH g j.a}:=by simp[Bc,e1]
  simp[BY,e1] at ho
  have:=h.na (by rw[e1];rfl)
  have h0:=h.a0
  rw[hv]
  refine⟨⟨h.k1,h.k2,h.na,by show 0<=j.at_+1;omega,by show j.at_+1<=g.n;omega,h.ls,fun _=>⟨by show j.at_+1<=1;omega,Cp hg _⟩,fun e=>?_,fun e=>?_,fun e=>?_,fun e=>?_,fun e=>?_⟩,?_⟩
  rotate_right
  .simp[FK,e1];omega
  all_goals exact absurd (e1.symm.trans e) (by decide)
 by_cases e2:j.kind=2
 .have hv:Bc g j={j with at_:=j.at_+1,out:=j.out++if (AH g j.at_).contains j.a=true then [j.at_] else []}:=by simp[Bc,e2]
  have h0:=h.a0
  have h1:=hN (by omega)
  rw[hv]
  refine⟨⟨h.k1,h.k2,h.na,by show 0<=j.at_+1;omega,by show j.at_+1<=g.n;omega,h.ls,fun e=>?_,fun _=>?_,fun e=>?_,fun e=>?_,fun e=>?_,fun e=>?_⟩,?_⟩
  rotate_right
  .simp[FK,e2];omega
  .exact absurd (e2.symm.trans e) (by decide)
  .have:=h.c2 e2
   simp only[List.length_append]
   split<;>simp<;>omega
  all_goals exact absurd (e2.symm.trans e) (by decide)
 by_cases e3:j.kind=3
 .have hv:Bc g j={j with at_:=j.at_+1,out:=si (Dy j.out (AH g j.at_).length) (AH g j.at_).length (gi (Dy j.out (AH g j.at_).length) (AH g j.at_).length+1)}:=by simp[Bc,e3]
  have h0:=h.a0
  have h1:=hN (by omega)
  obtain⟨c1,c2⟩:=h.c3 e3
  have hb:=Cp hg j.at_
  rw[hv]
  refine⟨⟨h.k1,h.k2,h.na,by show 0<=j.at_+1;omega,by show j.at_+1<=g.n;omega,h.ls,fun e=>?_,fun e=>?_,fun _=>⟨?_,fun x hx=>?_⟩,fun e=>?_,fun e=>?_,fun e=>?_⟩,?_⟩
  rotate_right
  .simp[FK,e3];omega
  .exact absurd (e3.symm.trans e) (by decide)
  .exact absurd (e3.symm.trans e) (by decide)
  .simp only[JQ,OZ];omega
  .have hm:=OY (l:=Dy j.out (AH g j.at_).length) (i:=((AH g j.at_).length:Int)) (by omega) (by rw[OZ];omega)
   have hu:∀y∈Dy j.out (AH g j.at_).length,0<=y/\y<=j.at_:=fun y hy=>by
    rcases Lu hy with hy|rfl
    .exact c2 y hy
    .omega
   show 0<=x/\x<=j.at_+1
   rcases JR hx with hx|rfl
   .have:=hu x hx;omega
   .have:=hu _ hm;omega
  all_goals exact absurd (e3.symm.trans e) (by decide)
 by_cases e4:j.kind=4
 .have hv:Bc g j={j with at_:=j.at_+1,out:=((AH g (gi j.list j.at_)).foldl (Bj (gi j.list j.at_)) (j.out,j.list)).1,list:=((AH g (gi j.list j.at_)).foldl (Bj (gi j.list j.at_)) (j.out,j.list)).2}:=by simp[Bc,e4]
  have h0:=h.a0
  obtain⟨c1,c2,c3,c4,c5⟩:=h.c4 e4
  simp[BY,e4] at ho
  have hm:=c4 _ (OY (l:=j.list) h0 ho)
  obtain⟨f1,f2,f3,f4,f5,f6⟩:=IQ (n:=g.n) (v:=gi j.list j.at_) ⟨hm.1,hm.2.1⟩ (AH g (gi j.list j.at_)) (j.out,j.list) (fun w hw=>FT hg hw) hm.2.2 c1 c2 c4 c5
  generalize (AH g (gi j.list j.at_)).foldl (Bj (gi j.list j.at_)) (j.out,j.list)=q at*
  rw[hv]
  refine⟨⟨h.k1,h.k2,h.na,by show 0<=j.at_+1;omega,by show j.at_+1<=g.n;simp only at f6;omega,fun e=>absurd e4 e,fun e=>?_,fun e=>?_,fun e=>?_,fun _=>⟨f2,f3,by show j.at_+1<=q.2.length;simp only at f6;omega,f4,f5⟩,fun e=>?_,fun e=>?_⟩,?_⟩
  rotate_right
  .simp[FK,e4];omega
  all_goals exact absurd (e4.symm.trans e) (by decide)
 by_cases e5:j.kind=5
 .have h0:=h.a0
  have h1:=hN (by omega)
  obtain⟨c1,c2⟩:=h.c5 e5
  obtain⟨f1,f2,f3⟩:=HP (n:=g.n) (v:=j.at_) ⟨h0,h1⟩ (AH g j.at_) (j.out,j.move) (fun w hw=>FT hg hw) c1 c2
  have hv:Bc g j=if j.at_+1=g.n/\((AH g j.at_).foldl (Bv j.at_) (j.out,j.move)).2=true then{j with at_:=0,move:=false,out:=((AH g j.at_).foldl (Bv j.at_) (j.out,j.move)).1} else{j with at_:=j.at_+1,move:=((AH g j.at_).foldl (Bv j.at_) (j.out,j.move)).2,out:=((AH g j.at_).foldl (Bv j.at_) (j.out,j.move)).1}:=by simp[Bc,e5]
  generalize (AH g j.at_).foldl (Bv j.at_) (j.out,j.move)=q at*
  simp only at f3
  have hmul:Fd q.1<Fd j.out->Fd q.1*(2*g.n.toNat+2)+(2*g.n.toNat+2)<=Fd j.out*(2*g.n.toNat+2):=fun h=>by
   have:=Nat.mul_le_mul_right (2*g.n.toNat+2) (Nat.succ_le_of_lt h)
   rw[Nat.succ_mul] at this;exact this
  rw[hv]
  split
  .rename_i hc
   refine⟨⟨h.k1,h.k2,h.na,by show(0:Int)<=0;omega,by show 0<=g.n;omega,h.ls,fun e=>?_,fun e=>?_,fun e=>?_,fun e=>?_,fun _=>⟨f1,f2⟩,fun e=>?_⟩,?_⟩
   rotate_right
   .simp only[FK,e5]
    simp only[show¬((5:Int)=1) by decide,if_false,if_true,Bool.false_eq_true]
    rcases f3 with⟨f3,f4⟩ |f3
    .rw[f4,<-f3,hc.2];simp only[if_true];omega
    .have:=hmul f3
     split<;>omega
   all_goals exact absurd (e5.symm.trans e) (by decide)
  .rename_i hc
   refine⟨⟨h.k1,h.k2,h.na,by show 0<=j.at_+1;omega,by show j.at_+1<=g.n;omega,h.ls,fun e=>?_,fun e=>?_,fun e=>?_,fun e=>?_,fun _=>⟨f1,f2⟩,fun e=>?_⟩,?_⟩
   rotate_right
   .simp only[FK,e5]
    simp only[show¬((5:Int)=1) by decide,if_false,if_true]
    rcases f3 with⟨f3,f4⟩ |f3
    .rw[f4,f3];split<;>omega
    .have:=hmul f3
     split<;>split<;>omega
   all_goals exact absurd (e5.symm.trans e) (by decide)
 have e6:j.kind=6:=by have:=h.k1;have:=h.k2;omega
 have hv:Bc g j={j with at_:=j.at_+1,out:=j.out++((AH g j.at_).map fun w=> [j.at_,w]).flatten}:=by simp[Bc,e6]
 have h0:=h.a0
 have h1:=hN (by omega)
 rw[hv]
 refine⟨⟨h.k1,h.k2,h.na,by show 0<=j.at_+1;omega,by show j.at_+1<=g.n;omega,h.ls,fun e=>?_,fun e=>?_,fun e=>?_,fun e=>?_,fun e=>?_,fun _=>?_⟩,?_⟩
 rotate_right
 .simp[FK,e6];omega
 rotate_right
 .have:=h.c6 e6
  have hb:=Cp hg j.at_
  have hl:∀ws:List Int,(ws.map fun w=> [j.at_,w]).flatten.length=2*ws.length:=by
   intro ws;induction ws with
   |nil=>rfl
   |cons w ws ih=>simp only[List.map_cons,List.flatten_cons,List.length_append,ih,List.length_cons,List.length_nil];omega
  simp only[List.length_append,hl]
  show((j.out.length+2*(AH g j.at_).length:Nat):Int)<=32*(j.at_+1)
  omega
 all_goals exact absurd (e6.symm.trans e) (by decide)
theorem O0 {g:Gr} {k a:Int} (hg:A3 g) (h:DK g k a=0):Gl g (CC g k a):=by
 have hn:=hg.2.1
 have hn0:=hg.1
 unfold DK at h
 split at h
 .simp at h
 .rename_i hk
  split at h
  .simp at h
  .rename_i ha
   have hk' :1<=k/\k<=6:=by omega
   have ha' :named k=true->0<=a/\a<g.n:=fun e=>by
    by_cases c:0<=a/\a<g.n
    .exact c
    .exact absurd ⟨e,c⟩ ha
   refine⟨hk'.1,hk'.2,fun e=>?_,Int.le_refl _,hn0,fun e=>?_,fun e=>?_,fun e=>?_,fun e=>?_,fun e=>?_,fun e=>?_,fun e=>?_⟩
   .have e' :named k=true:=e
    simp only[CC,e',if_true];exact ha' e'
   .have e' :k≠4:=e
    simp[CC,e']
   all_goals (have e' :k=_:=e)
   .subst e';simp[CC]
   .subst e';simp[CC]
   .subst e';simp[CC]
   .subst e'
    have ha2:=ha' rfl
    have hlen:(List.replicate g.n.toNat (-1:Int)).length=g.n.toNat:=by simp
    have hl:a.toNat<(List.replicate g.n.toNat (-1:Int)).length:=by omega
    simp only[CC,if_true]
    have ngl:∀n:Nat,Hn (List.replicate n (-1:Int))=n:=fun n=>by simp[Hn,List.countP_replicate]
    have hneg:=Lt (List.replicate g.n.toNat (-1:Int)) a.toNat 0 hl (by simp) (by omega)
    rw[ngl] at hneg
    refine⟨by rw[JQ,hlen];omega,by rw[JQ,hlen];simp only[si,List.length_singleton];omega,by simp,fun x hx=>?_,fun x hx=>?_⟩
    .simp only[List.mem_singleton] at hx
     subst hx
     refine⟨ha2.1,ha2.2,?_⟩
     simp only[gi,si,List.getD_eq_getElem?_getD]
     rw[List.getElem?_set_self hl];simp
    .rcases JR hx with hx|rfl
     .have:=(List.mem_replicate.1 hx).2;subst this;simp
     .simp
   .subst e'
    simp only[CC,if_true,show¬((5:Int)=4) by decide,if_false]
    refine⟨by simp[Kt];omega,fun x hx=>?_⟩
    simp only[Kt,List.mem_map,List.mem_range] at hx
    obtain⟨i,hi,rfl⟩:=hx
    omega
   .subst e';simp[CC]
def E2 (g:Gr) (j x:Cu):Bool:=GM g j (FK g x+1) x
theorem IS {g:Gr} {j:Cu} (hg:A3 g):∀(k:Nat) (x:Cu),Gl g x->FK g x<k->GM g j k x=E2 g j x
 |0,x,_,h=>by omega
 |k+1,x,hx,h=>by
  unfold E2
  simp only[GM]
  by_cases e:x=j
  .rw[if_pos e,if_pos e]
  .rw[if_neg e,if_neg e]
   cases ho:BY g x with
   |true=>rfl
   |false=>
    simp only[Bool.false_eq_true,if_false]
    obtain⟨h1,h2⟩:=IR hg hx ho
    rw[IS hg k _ h1 (by omega),IS hg (FK g x) _ h1 h2]
theorem QW {g:Gr} {j x:Cu} (h:x=j):E2 g j x=true:=by unfold E2;simp only[GM];rw[if_pos h]
theorem NC {g:Gr} {j x:Cu} (h:x≠j) (ho:BY g x=true):E2 g j x=false:=by unfold E2;simp only[GM];rw[if_neg h,if_pos ho]
theorem QX {g:Gr} {j x:Cu} (hg:A3 g) (hx:Gl g x) (h:x≠j) (ho:BY g x=false):E2 g j x=E2 g j (Bc g x):=by
 conv=>lhs;unfold E2;simp only[GM]
 rw[if_neg h,ho]
 simp only[Bool.false_eq_true,if_false]
 obtain⟨h1,h2⟩:=IR hg hx ho
 exact IS hg _ _ h1 h2
theorem Lv (g:Gr) (j:Cu):Du g j=(decide (DK g j.kind j.a=0)&&E2 g j (CC g j.kind j.a)):=rfl
theorem Gl.small {g:Gr} {j:Cu} (hg:A3 g) (h:Gl g j):j.list.length<=16/\j.out.length<=512:=by
 have hn:=hg.2.1
 have:=h.an
 by_cases e4:j.kind=4
 .have c:=h.c4 e4;omega
 .refine⟨by rw[h.ls e4];simp,?_⟩
  have k1:=h.k1;have k2:=h.k2
  have:j.kind=1\/j.kind=2\/j.kind=3\/j.kind=5\/j.kind=6:=by omega
  rcases this with e|e|e|e|e
  .have:=h.c1 e;omega
  .have:=h.c2 e;omega
  .have:=(h.c3 e).1;omega
  .have:=(h.c5 e).1;omega
  .have:=h.c6 e;omega
theorem DQ (xs:List Int) (i:Nat) (x:Int):(Ae xs).set i (.int .i64 x)=Ae (xs.set i x):=by simp[Ae]
theorem G8 {α β:Type} (f:β->α->β) (s:β) (ws:List α) (k:Nat) (h:k<ws.length):(ws.take (k+1)).foldl f s=f ((ws.take k).foldl f s) ws[k]:=by
 rw[List.take_add_one,List.getElem?_eq_getElem h,List.foldl_append]
 rfl
theorem Zr (g:Gr) (j:Cu) (hgi:FL g) (hg:A3 g) (h:Gl g j) (h5:j.kind=5) (ho:BY g j=false):Aa pg 239 [.agg (Ba false g),.ptr 0 0 0] [.live 0 (B4 true j)] (fun r M=>r= .tup []/\M=[.live 0 (B4 true (Bc g j))]):=by
 obtain⟨c1,c2⟩:=h.c5 h5
 obtain⟨n,hn⟩:=Int.eq_ofNat_of_zero_le hg.1
 obtain⟨v,hv⟩:=Int.eq_ofNat_of_zero_le h.a0
 have hn16:n<=16:=by have:=hg.2.1;omega
 have hvn:v<n:=by
  simp[BY,h5] at ho;omega
 have hlo:j.out.length=n:=by omega
 have hout:g.out.length=n:=by have:=hg.2.2.1;omega
 have hvl:v<g.out.length:=by omega
 have hb:AH g j.at_=g.out[v]:=by rw[hv];simp[AH,List.getD_eq_getElem?_getD,List.getElem?_eq_getElem hvl]
 have hws:∀w∈g.out[v],0<=w/\w<g.n:=fun w hw=>FT hg (v:=j.at_) (by rw[hb];exact hw)
 have hwl:g.out[v].length<=16:=by rw[<-hb];exact Cp hg _
 have hf:=fun k=>HP (n:=g.n) (v:=(v:Int)) ⟨by omega,by omega⟩ (g.out[v].take k) (j.out,j.move) (fun w hw=>hws w (List.mem_of_mem_take hw)) c1 c2
 refine Aa.start (fn:=Tryz.f239) [] tk rfl rfl rfl (by kernel_rfl) (Nat.le_of_ble_eq_true rfl) rfl (by kernel_rfl) ?_
 rw[At]
 refine W.weak (Wk.thaw (B:=0) (v:=0) (j:=5) (s:=1) (n:=j.out.length) (xs:=Ae j.out) rfl rfl) ?_
 refine z1 ?_;intro K hK;refine zk ?_;clear hK K
 refine z0 ?_;intro K hK;refine zk ?_;clear hK K
 refine Af (an hv hvl) ?_;intro K hK
 refine zk ?_;clear hK K
 (repeat refine W.seq ?_);refine W.block (W.loopS (fun k:Nat=> [(1,.ptr 0 0 0),(2,.ptr 2 0 0),(4,.int .i64 v),(16,.ro g.out[v].length (Ae g.out[v])),(17,.int .i64 g.out[v].length),(18,.int .i64 k)]) (fun k=> [.live 0 [.int .i64 j.kind,.int .i64 j.a,.int .i64 v,.bool ((g.out[v].take k).foldl (Bv v) (j.out,j.move)).2,.own 1 j.list.length (Ae j.list),.tok 1 0 1 0 n],.live 0 (Ae ((g.out[v].take k).foldl (Bv v) (j.out,j.move)).1),.live 0 (Ba false g)]) (fun k=>g.out[v].length-k) (fun k=>k<=g.out[v].length) 0 ?_ (by simp) ?_)
 .rw[hlo]
  exact Wk.fr (by simp[Ad])
 .intro k hk
  refine zs ?_
  refine zc ?_ ?_<;>intro h
  .refine W.skip ?_
   have hlt:k<g.out[v].length:=by omega
   have hst:=G8 (Bv (v:Int)) (j.out,j.move) g.out[v] k hlt
   obtain⟨f1,f2,_⟩:=hf k
   have hw:=hws _ (List.getElem_mem hlt)
   generalize (g.out[v].take k).foldl (Bv v) (j.out,j.move)=s at*
   obtain⟨w,hwe⟩:=Int.eq_ofNat_of_zero_le hw.1
   rw[hwe] at hst hw
   have hl1:v<s.1.length:=by omega
   have hl2:w<s.1.length:=by omega
   have hmin:min s.1[v] s.1[w]=if s.1[w]<s.1[v] then s.1[w] else s.1[v]:=by split<;>omega
   have hps:Bv (v:Int) s w=((s.1.set v (if s.1[w]<s.1[v] then s.1[w] else s.1[v])).set w (if s.1[w]<s.1[v] then s.1[w] else s.1[v]),s.2||!decide (s.1[v]=s.1[w])):=by
    simp only[Bv,DF hl1,DF hl2,si,hmin];rfl
   rw[hps] at hst
   refine zb ?_
   refine Af (an hlt hwe) ?_;intro K hK
   refine zk ?_;clear hK K
   refine Bx (an hl1 hl2) ?_;intro K hK
   refine zk ?_;clear hK K
   cases hm:s.2
   .refine Bx (an hl1 (an hl2 hm)) ?_;intro K hK
    refine zk ?_;clear hK K
    rw[hm] at hst
    refine Bx (an hl1 hl2) ?_;intro K hK
    refine zk ?_;clear hK K
    rw[DQ,DQ]
    refine zs ?_
    refine⟨k+1,by omega,by omega,?_⟩
    rw[hst]
    exact Wk.fr (by simp[Ad])
   .refine Bx (an hl1 (an hl2 hm)) ?_;intro K hK
    refine zk ?_;clear hK K
    rw[hm] at hst
    refine Bx (an hl1 hl2) ?_;intro K hK
    refine zk ?_;clear hK K
    rw[DQ,DQ]
    refine zs ?_
    refine⟨k+1,by omega,by omega,?_⟩
    rw[hst]
    exact Wk.fr (by simp[Ad])
  .refine W.exit ?_
   have hk' :k=g.out[v].length:=by omega
   subst hk'
   rw[List.take_length]
   have hvis:Bc g j=(if (v:Int)+1=n/\(g.out[v].foldl (Bv v) (j.out,j.move)).2=true then{j with at_:=0,move:=false,out:=(g.out[v].foldl (Bv v) (j.out,j.move)).1} else{j with at_:=(v:Int)+1,move:=(g.out[v].foldl (Bv v) (j.out,j.move)).2,out:=(g.out[v].foldl (Bv v) (j.out,j.move)).1}):=by
    rw[hv] at hb;simp[Bc,h5,hb,hv,hn]
   have hfin:=(hf g.out[v].length).1
   rw[List.take_length] at hfin
   rw[hvis]
   generalize g.out[v].foldl (Bv v) (j.out,j.move)=s at*
   have hsl:s.1.length=n:=by omega
   refine z0 ?_;intro K hK
   refine zk ?_;clear hK K
   refine W.weak (Wk.intern (B:=0) (v:=0) (j:=5) (T:=1) (u:=0) (s:=1) (off:=0) (n:=n) (xs:=Ae s.1) (by rfl) (by rfl) (by rfl) (by simp) (by simp;omega) (by simp)) ?_
   by_cases hvn1:(v:Int)+1=n
   .cases hm:s.2
    .refine Bx (an hvn1 (an hn hm)) ?_;intro K hK
     refine zk ?_;clear hK K
     refine zn ?_
     refine W.skip ?_
     (try simp only[Cs,Ct,Dk,Dl,if_true]);refine Fw (d:=0) ?_;simp -implicitDefEqProofs (maxSteps:=999999) (disch:=omega)
     exact⟨hvn1.symm,hsl.symm,by rw[List.take_of_length_le (by omega)]⟩
    .refine Bx (an hvn1 (an hn hm)) ?_;intro K hK
     refine zk ?_;clear hK K
     refine zt ?_
     refine z0 ?_;intro K hK
     refine zk ?_;clear hK K
     (try simp only[Cs,Ct,Dk,Dl,if_true]);refine Fw (d:=0) ?_;simp -implicitDefEqProofs (maxSteps:=999999) (disch:=omega)
     simp[hvn1,hsl]
     rw[List.take_of_length_le (by omega)]
   .refine Bx (an hvn1 hn) ?_;intro K hK
    refine zk ?_;clear hK K
    refine zn ?_
    refine W.skip ?_
    (try simp only[Cs,Ct,Dk,Dl,if_true]);refine Fw (d:=0) ?_;simp -implicitDefEqProofs (maxSteps:=999999) (disch:=omega)
    simp[hvn1,hsl]
    rw[List.take_of_length_le (by omega)]
theorem BC {g:Gr} {v:Nat} (h:v<g.out.length):AH g (v:Int)=g.out[v]:=by simp[AH,List.getD_eq_getElem?_getD,List.getElem?_eq_getElem h]
def Ft (v:Int) (ws:List Int):List Int:=(ws.map fun w=> [v,w]).flatten
theorem O1 (v:Int) (ws:List Int) (w:Int):Ft v (ws++[w])=Ft v ws++[v,w]:=by simp[Ft]
theorem KG (v:Int) (ws:List Int):(Ft v ws).length=2*ws.length:=by
 unfold Ft
 induction ws with
 |nil=>rfl
 |cons w ws ih=>simp only[List.map_cons,List.flatten_cons,List.length_append,ih,List.length_cons,List.length_nil];omega
theorem Xd (g:Gr) (j:Cu) (hgi:FL g) (hg:A3 g) (h:Gl g j) (ho:BY g j=false):Aa pg 219 [.agg (Ba false g),.ptr 0 0 0] [.live 0 (B4 true j)] (fun r M=>r= .tup []/\M=[.live 0 (B4 true (Bc g j))]):=by
 obtain⟨n,hn⟩:=Int.eq_ofNat_of_zero_le hg.1
 obtain⟨v,hv⟩:=Int.eq_ofNat_of_zero_le h.a0
 have hn16:n<=16:=by have:=hg.2.1;omega
 have hvn:v<=n:=by have:=h.an;omega
 have hout:g.out.length=n:=by have:=hg.2.2.1;omega
 have hk1:=h.k1
 have hk2:=h.k2
 have hsm:=h.small hg
 have hwl:∀i (hi:i<g.out.length),g.out[i].length<=16:=fun i hi=>by rw[<-BC hi];exact Cp hg _
 by_cases h5:j.kind=5
 .refine Aa.start (fn:=Tryz.f219) [] tk rfl rfl rfl (by kernel_rfl) (Nat.le_of_ble_eq_true rfl) rfl (by kernel_rfl) ?_
  rw[At]
  refine z1 ?_;intro K hK;refine zk ?_;clear hK K
  refine Af h5 ?_;intro K hK
  refine zk ?_;clear hK K
  refine zt ?_
  refine z0 ?_;intro K hK
  refine Ab.pass [0] (Zr g j hgi hg h h5 ho) (by simp) (by simp[h5]) (by simp) (by simp) ?_
  rintro r M ⟨rfl,rfl⟩ _
  refine zx ?_
  refine zk ?_;clear hK K
  exact zR
 by_cases h1:j.kind=1
 .have ha:=h.na (by rw[h1];rfl)
  obtain⟨a,hae⟩:=Int.eq_ofNat_of_zero_le ha.1
  have hal:a<g.out.length:=by omega
  have hvis:Bc g j={j with at_:=(v:Int)+1,out:=g.out[a]}:=by
   simp[Bc,h1,hv,hae,BC hal]
  rw[hvis]
  refine Aa.start (fn:=Tryz.f219) [] tk rfl rfl rfl (by kernel_rfl) (Nat.le_of_ble_eq_true rfl) rfl (by kernel_rfl) ?_
  rw[At]
  refine z1 ?_;intro K hK;refine zk ?_;clear hK K
  refine Af h1 ?_;intro K hK
  refine zk ?_;clear hK K
  refine zn ?_
  refine W.skip ?_
  refine z0 ?_;intro K hK;refine zk ?_;clear hK K
  refine Af hv ?_;intro K hK
  refine zk ?_;clear hK K
  refine Af h1 ?_;intro K hK
  refine zk ?_;clear hK K
  (repeat refine W.seq ?_);refine W.block (W.late ?_)
  refine Af h1 ?_;intro K hK
  refine zk ?_;clear hK K
  refine zt ?_
  refine Bx (an hae hal) ?_;intro K hK
  refine Ah.eq (Hh g.out[a] (by have:=hwl a hal;omega)) (by simp) (by simp) ?_
  refine zx ?_
  refine zk ?_;clear hK K
  refine⟨_,_,Wk.intern (B:=0) (v:=0) (j:=5) (T:=2) (u:=0) (s:=1) (off:=0) (n:=g.out[a].length) (xs:=Ae g.out[a]) (by rfl) (by rfl) (by rfl) (by simp) (by simp) (by simp),?_⟩
  (try simp only[Cs,Ct,Dk,Dl,if_true]);refine Fw (d:=0) ?_;simp -implicitDefEqProofs (maxSteps:=999999) (disch:=omega)
  exact⟨h1.symm,hae.symm⟩
 have hvn2:j.kind≠4->v<n:=by
  intro h4
  unfold BY at ho
  simp[h1,h4] at ho
  omega
 by_cases h2:j.kind=2
 .have hvl:v<g.out.length:=by have:=hvn2 (by omega);omega
  have hc2:=h.c2 h2
  have hvis:Bc g j={j with at_:=(v:Int)+1,out:=j.out++if g.out[v].contains j.a=true then [(v:Int)] else []}:=by
   simp[Bc,h2,hv,BC hvl]
  rw[hvis]
  refine Aa.start (fn:=Tryz.f219) [] tk rfl rfl rfl (by kernel_rfl) (Nat.le_of_ble_eq_true rfl) rfl (by kernel_rfl) ?_
  rw[At]
  refine z1 ?_;intro K hK;refine zk ?_;clear hK K
  refine Af h2 ?_;intro K hK
  refine zk ?_;clear hK K
  refine zn ?_
  refine W.skip ?_
  refine z0 ?_;intro K hK;refine zk ?_;clear hK K
  refine Af hv ?_;intro K hK
  refine zk ?_;clear hK K
  refine Af h2 ?_;intro K hK
  refine zk ?_;clear hK K
  (repeat refine W.seq ?_);refine W.block (W.late ?_)
  refine Af h2 ?_;intro K hK
  refine zk ?_;clear hK K
  refine zn ?_
  refine Af h2 ?_;intro K hK
  refine zk ?_;clear hK K
  refine zt ?_
  (repeat refine W.seq ?_);refine W.regd 0 rfl true Cz (by kernel_rfl) fun K hK=>?_;simp -implicitDefEqProofs (maxSteps:=999999) (disch:=omega) [hvl]
  refine Ah.eq (Gj g.out[v] j.a (by have:=hwl v hvl;omega)) (by simp) (by simp) ?_
  cases hc:g.out[v].contains j.a
  .refine AX hc ?_
   refine zk ?_;clear hK K
   refine zn ?_
   refine W.skip ?_
   refine⟨_,_,Wk.refl,?_⟩
   (try simp only[Cs,Ct,Dk,Dl,if_true]);refine Fw (d:=0) ?_;simp -implicitDefEqProofs (maxSteps:=999999) (disch:=omega)
   have hc' :¬j.a∈g.out[v]:=by simpa using hc
   simp[h2,hc']
  .refine AX hc ?_
   refine zk ?_;clear hK K
   refine zt ?_
   refine W.weak (Wk.thaw (B:=0) (v:=0) (j:=5) (s:=1) (n:=j.out.length) (xs:=Ae j.out) (by rfl) (by rfl)) ?_
   refine z1 ?_;intro K hK
   refine⟨by omega,by omega,?_⟩
   refine zk ?_;clear hK K
   have e:Ae j.out++[AV.int .i64 v]=Ae (j.out++[(v:Int)]):=by simp[Ae]
   rw[e]
   refine⟨_,_,Wk.intern (B:=0) (v:=0) (j:=5) (T:=2) (u:=1) (s:=1) (off:=0) (n:=(j.out.length+1)) (xs:=Ae (j.out++[(v:Int)])) (by rfl) (by rfl) (by rfl) (by simp) (by simp) (by simp),?_⟩
   (try simp only[Cs,Ct,Dk,Dl,if_true]);refine Fw (d:=0) ?_;simp -implicitDefEqProofs (maxSteps:=999999) (disch:=omega)
   have hc' :j.a∈g.out[v]:=by simpa using hc
   simp[h2,hc']
   rw[List.take_of_length_le (by simp)]
 by_cases h3:j.kind=3
 .have hvl:v<g.out.length:=by have:=hvn2 (by omega);omega
  obtain⟨hc3,hc3b⟩:=h.c3 h3
  obtain⟨m,hm⟩:∃m,m=g.out[v].length:=⟨_,rfl⟩
  have hm16:m<=16:=by have:=hwl v hvl;omega
  have hvis:Bc g j={j with at_:=(v:Int)+1,out:=si (Dy j.out m) m (gi (Dy j.out m) m+1)}:=by
   simp[Bc,h3,hv,BC hvl,hm]
  rw[hvis]
  refine Aa.start (fn:=Tryz.f219) [] tk rfl rfl rfl (by kernel_rfl) (Nat.le_of_ble_eq_true rfl) rfl (by kernel_rfl) ?_
  rw[At]
  refine z1 ?_;intro K hK;refine zk ?_;clear hK K
  refine Af h3 ?_;intro K hK
  refine zk ?_;clear hK K
  refine zn ?_
  refine W.skip ?_
  refine z0 ?_;intro K hK;refine zk ?_;clear hK K
  refine Af hv ?_;intro K hK
  refine zk ?_;clear hK K
  refine Af h3 ?_;intro K hK
  refine zk ?_;clear hK K
  (repeat refine W.seq ?_);refine W.block (W.late ?_)
  refine Af h3 ?_;intro K hK
  refine zk ?_;clear hK K
  refine zn ?_
  refine Af h3 ?_;intro K hK
  refine zk ?_;clear hK K
  refine zn ?_
  refine Af h3 ?_;intro K hK
  refine zk ?_;clear hK K
  refine zt ?_
  refine W.weak (Wk.thaw (B:=0) (v:=0) (j:=5) (s:=1) (n:=j.out.length) (xs:=Ae j.out) (by rfl) (by rfl)) ?_
  rw[show Ae j.out=Ae (j.out++List.replicate 0 0) by simp]
  (repeat refine W.seq ?_);refine W.block (W.loopS (fun k:Nat=> [(1,.ptr 0 0 0),(2,.ptr 1 0 0),(4,.int .i64 v)]) (fun k=> [.live 0 [.int .i64 3,.int .i64 j.a,.int .i64 ((v:Int)+1),.bool j.move,.own 1 j.list.length (Ae j.list),.tok 2 k 1 0 (j.out.length+k)],.live 0 (Ba false g),.live k (Ae (j.out++List.replicate k 0))]) (fun k=>m+1-(j.out.length+k)) (fun k=>k=0\/j.out.length+k<=m+1) 0 (Wk.fr (by simp[Ad])) (.inl rfl) ?_)
  intro k hk
  by_cases hle:j.out.length+k<=g.out[v].length
  .refine Bx (an hvl hle) ?_;intro K hK
   refine zk ?_;clear hK K
   refine zt ?_
   refine W.skip ?_
   refine zb ?_
   refine z1 ?_;intro K hK
   refine⟨by omega,by omega,?_⟩
   refine zk ?_;clear hK K
   have e:Ae (j.out++List.replicate k 0)++[AV.int .i64 0]=Ae (j.out++List.replicate (k+1) 0):=by rw[List.replicate_succ'];simp[Ae]
   refine⟨k+1,by omega,.inr (by omega),Wk.cutM (k:=3) (by simp[Ad]) ?_ (by simp) (by simp) (by simp) (by simp)⟩
   rw[<-e];rfl
  .refine Bx (an hvl hle) ?_;intro K hK
   refine zk ?_;clear hK K
   refine zn ?_
   refine W.exit ?_
   have hU:j.out++List.replicate k 0=Dy j.out m:=by rw[Dy,show m+1-j.out.length=k by omega]
   have hUl:(Dy j.out m).length=j.out.length+k:=by rw[<-hU];simp
   have hml:m<(Dy j.out m).length:=by omega
   have hUb:∀y∈Dy j.out m,0<=y/\y<=j.at_:=fun y hy=>by
    rcases Lu hy with hy|rfl
    .exact hc3b y hy
    .exact⟨Int.le_refl _,h.a0⟩
   have hb:=hUb _ (List.getElem_mem hml)
   rw[hU,DF hml,si]
   simp only[Int.toNat_natCast]
   generalize Dy j.out m=U at*
   subst hm
   refine Bx (an hvl hml) ?_;intro K hK
   refine zk ?_;clear hK K
   rw[DQ]
   refine⟨_,_,Wk.intern (B:=0) (v:=0) (j:=5) (T:=2) (u:=k) (s:=1) (off:=0) (n:=(j.out.length+k)) (xs:=Ae (U.set g.out[v].length (U[g.out[v].length]+1))) (by rfl) (by rfl) (by simp[Aj]) (by simp) (by simp;try omega) (by simp),?_⟩
   (try simp only[Cs,Ct,Dk,Dl,if_true]);refine Fw (d:=0) ?_;simp -implicitDefEqProofs (maxSteps:=999999) (disch:=omega)
   simp[h3,hUl]
   rw[List.take_of_length_le (by simp;omega)]
 by_cases h6:j.kind=6
 .have hvl:v<g.out.length:=by have:=hvn2 (by omega);omega
  have hc6:=h.c6 h6
  have hvis:Bc g j={j with at_:=(v:Int)+1,out:=j.out++Ft v g.out[v]}:=by
   simp[Bc,h6,hv,BC hvl,Ft]
  rw[hvis]
  refine Aa.start (fn:=Tryz.f219) [] tk rfl rfl rfl (by kernel_rfl) (Nat.le_of_ble_eq_true rfl) rfl (by kernel_rfl) ?_
  rw[At]
  refine z1 ?_;intro K hK;refine zk ?_;clear hK K
  refine Af h6 ?_;intro K hK
  refine zk ?_;clear hK K
  refine zn ?_
  refine W.skip ?_
  refine z0 ?_;intro K hK;refine zk ?_;clear hK K
  refine Af hv ?_;intro K hK
  refine zk ?_;clear hK K
  refine Af h6 ?_;intro K hK
  refine zk ?_;clear hK K
  (repeat refine W.seq ?_);refine W.block (W.late ?_)
  refine Af h6 ?_;intro K hK
  refine zk ?_;clear hK K
  refine zn ?_
  refine Af h6 ?_;intro K hK
  refine zk ?_;clear hK K
  refine zn ?_
  refine Af h6 ?_;intro K hK
  refine zk ?_;clear hK K
  refine zn ?_
  refine Af h6 ?_;intro K hK
  refine zk ?_;clear hK K
  refine zn ?_
  refine Af h6 ?_;intro K hK
  refine zk ?_;clear hK K
  refine zt ?_
  refine W.weak (Wk.thaw (B:=0) (v:=0) (j:=5) (s:=1) (n:=j.out.length) (xs:=Ae j.out) (by rfl) (by rfl)) ?_
  (repeat refine W.seq ?_);refine W.reg 0 rfl fun K hK=>?_;simp -implicitDefEqProofs (maxSteps:=999999) (disch:=omega) [hvl]
  refine zk ?_;clear hK K
  rw[show Ae j.out=Ae (j.out++Ft v (g.out[v].take 0)) by simp[Ft]]
  have hvv:=hwl v hvl
  (repeat refine W.seq ?_);refine W.block (W.loopS (fun k:Nat=> [(1,.ptr 0 0 0),(2,.ptr 1 0 0),(4,.int .i64 v),(163,.ro g.out[v].length (Ae g.out[v])),(164,.int .i64 g.out[v].length),(165,.int .i64 k)]) (fun k=> [.live 0 [.int .i64 6,.int .i64 j.a,.int .i64 ((v:Int)+1),.bool j.move,.own 1 j.list.length (Ae j.list),.tok 2 k 1 0 (j.out.length+2*k)],.live 0 (Ba false g),.live k (Ae (j.out++Ft v (g.out[v].take k)))]) (fun k=>g.out[v].length-k) (fun k=>k<=g.out[v].length) 0 (Wk.fr (by simp[Ad])) (by simp) ?_)
  intro k hk
  refine zs ?_
  refine zc ?_ ?_<;>intro h
  .refine W.skip ?_
   have hlt:k<g.out[v].length:=by omega
   have hto:g.out[v].take (k+1)=g.out[v].take k++[g.out[v][k]]:=by rw[List.take_add_one];simp[hlt]
   refine zb ?_
   have hr2:CF 2 [AV.int .i64 0]=[AV.int .i64 0,AV.int .i64 0]:=rfl
   have hpk:(Ft v (g.out[v].take k)).length=2*k:=by rw[KG];simp;omega
   (repeat refine W.seq ?_);refine W.reg 0 rfl fun K hK=>?_;simp -implicitDefEqProofs (maxSteps:=999999) (disch:=omega) [hlt]
   refine zk ?_;clear hK K
   refine MG (an hr2 hpk) ?_;intro K hK
   refine⟨by omega,by omega,?_⟩
   refine zk ?_;clear hK K
   refine zs ?_
   have e:Ae (j.out++Ft v (g.out[v].take k))++[AV.int .i64 v,AV.int .i64 g.out[v][k]]=Ae (j.out++Ft v (g.out[v].take (k+1))):=by rw[hto,O1];simp[Ae]
   refine⟨k+1,by omega,by omega,Wk.cutM (k:=3) (by simp[Ad]) ?_ (by simp) (by simp) (by simp) (by simp)⟩
   rw[<-e];rfl
  .refine W.exit ?_
   have hk' :k=g.out[v].length:=by omega
   subst hk'
   rw[List.take_length]
   have hfl:=KG (v:Int) g.out[v]
   refine⟨_,_,Wk.intern (B:=0) (v:=0) (j:=5) (T:=2) (u:=g.out[v].length) (s:=1) (off:=0) (n:=(j.out.length+2*g.out[v].length)) (xs:=Ae (j.out++Ft v g.out[v])) (by rfl) (by rfl) (by simp[Aj]) (by simp) (by simp only[Wl,List.length_append,hfl];omega) (by simp),?_⟩
   (try simp only[Cs,Ct,Dk,Dl,if_true]);refine Fw (d:=0) ?_;simp -implicitDefEqProofs (maxSteps:=999999) (disch:=omega)
   refine⟨h6.symm,?_,?_⟩
   .rw[hfl]
   .rw[List.take_of_length_le (by rw[List.length_append,hfl];exact Nat.le_refl _)]
 have h4:j.kind=4:=by omega
 obtain⟨c1,c2,c3,c4,c5⟩:=h.c4 h4
 have hvl:v<j.list.length:=by simp[BY,h4] at ho;omega
 have hm:=c4 _ (List.getElem_mem hvl)
 obtain⟨u,hu⟩:=Int.eq_ofNat_of_zero_le hm.1
 rw[hu] at hm
 have hul:u<g.out.length:=by omega
 have hul2:=hwl u hul
 have hws:∀w∈g.out[u],0<=w/\w<g.n:=fun w hw=>FT hg (v:=(u:Int)) (by rw[BC hul];exact hw)
 have hf:=fun k=>IQ (n:=g.n) (v:=(u:Int)) ⟨hm.1,hm.2.1⟩ (g.out[u].take k) (j.out,j.list) (fun w hw=>hws w (List.mem_of_mem_take hw)) hm.2.2 c1 c2 c4 c5
 have hvis:Bc g j={j with at_:=(v:Int)+1,out:=(g.out[u].foldl (Bj u) (j.out,j.list)).1,list:=(g.out[u].foldl (Bj u) (j.out,j.list)).2}:=by
  have e:gi j.list (v:Int)=(u:Int):=by rw[DF hvl,hu]
  simp[Bc,h4,hv,e,BC hul]
 rw[hvis]
 refine Aa.start (fn:=Tryz.f219) [] tk rfl rfl rfl (by kernel_rfl) (Nat.le_of_ble_eq_true rfl) rfl (by kernel_rfl) ?_
 rw[At]
 refine z1 ?_;intro K hK;refine zk ?_;clear hK K
 refine Af h4 ?_;intro K hK
 refine zk ?_;clear hK K
 refine zn ?_
 refine W.skip ?_
 refine z0 ?_;intro K hK;refine zk ?_;clear hK K
 refine Af hv ?_;intro K hK
 refine zk ?_;clear hK K
 refine Af h4 ?_;intro K hK
 refine zk ?_;clear hK K
 (repeat refine W.seq ?_);refine W.block (W.late ?_)
 refine Af h4 ?_;intro K hK
 refine zk ?_;clear hK K
 refine zn ?_
 refine Af h4 ?_;intro K hK
 refine zk ?_;clear hK K
 refine zn ?_
 refine Af h4 ?_;intro K hK
 refine zk ?_;clear hK K
 refine zn ?_
 refine Af h4 ?_;intro K hK
 refine zk ?_;clear hK K
 refine zt ?_
 refine W.weak (Wk.thaw (B:=0) (v:=0) (j:=4) (s:=1) (n:=j.list.length) (xs:=Ae j.list) (by rfl) (by rfl)) ?_
 refine W.weak (Wk.thaw (B:=0) (v:=0) (j:=5) (s:=1) (n:=j.out.length) (xs:=Ae j.out) (by rfl) (by rfl)) ?_
 refine Af (an hvl hu) ?_;intro K hK
 refine zk ?_;clear hK K
 (repeat refine W.seq ?_);refine W.reg 0 rfl fun K hK=>?_;simp -implicitDefEqProofs (maxSteps:=999999) (disch:=omega) [hul]
 refine zk ?_;clear hK K
 rw[show j.out.length=n by omega]
 (repeat refine W.seq ?_);refine W.block (W.loopS (fun k:Nat=> [(1,.ptr 0 0 0),(2,.ptr 1 0 0),(4,.int .i64 u),(118,.ro g.out[u].length (Ae g.out[u])),(119,.int .i64 g.out[u].length),(120,.int .i64 k)]) (fun k=> [.live 0 [.int .i64 4,.int .i64 j.a,.int .i64 ((v:Int)+1),.bool j.move,.tok 2 (((g.out[u].take k).foldl (Bj u) (j.out,j.list)).2.length-j.list.length) 1 0 ((g.out[u].take k).foldl (Bj u) (j.out,j.list)).2.length,.tok 3 0 1 0 n],.live 0 (Ba false g),.live (((g.out[u].take k).foldl (Bj u) (j.out,j.list)).2.length-j.list.length) (Ae ((g.out[u].take k).foldl (Bj u) (j.out,j.list)).2),.live 0 (Ae ((g.out[u].take k).foldl (Bj u) (j.out,j.list)).1)]) (fun k=>g.out[u].length-k) (fun k=>k<=g.out[u].length) 0 ?_ (by simp) ?_)
 .have e:((g.out[u].take 0).foldl (Bj u) (j.out,j.list))=(j.out,j.list):=rfl
  rw[e]
  simp only[Nat.sub_self]
  exact Wk.fr (by simp[Ad])
 intro k hk
 refine zs ?_
 refine zc ?_ ?_<;>intro h
 .refine W.skip ?_
  have hlt:k<g.out[u].length:=by omega
  have hst:=G8 (Bj (u:Int)) (j.out,j.list) g.out[u] k hlt
  obtain⟨f0,f1,f2,f3,f4,f5⟩:=hf k
  have hw:=hws _ (List.getElem_mem hlt)
  generalize (g.out[u].take k).foldl (Bj u) (j.out,j.list)=s at*
  simp only at f5
  obtain⟨w,hwe⟩:=Int.eq_ofNat_of_zero_le hw.1
  rw[hwe] at hw hst
  have hl1:u<s.1.length:=by omega
  have hl2:w<s.1.length:=by omega
  rw[DF hl1] at f0
  have hub:=f4 _ (List.getElem_mem hl1)
  have hs2:s.2.length<=16:=by omega
  refine zb ?_
  refine Af (an hlt hwe) ?_;intro K hK
  refine zk ?_;clear hK K
  by_cases hneg:s.1[w]<0
  .have hps:Bj (u:Int) s w=(s.1.set w (s.1[u]+1),s.2++[(w:Int)]):=by
    simp only[Bj,DF hl1,DF hl2,si]
    rw[if_pos hneg];rfl
   rw[hps] at hst
   refine Af (an hl2 hneg) ?_;intro K hK
   refine zk ?_;clear hK K
   refine zt ?_
   (repeat refine W.seq ?_);refine W.regdX 1 [(132,149),(132,151),(133,149),(133,151),(134,149),(134,151),(138,149),(138,151),(139,149),(139,151),(140,149),(140,151),(141,149),(141,151),(142,149),(142,151),(143,149),(143,151)] rfl true Cz (by kernel_rfl) fun K hK=>?_;simp -implicitDefEqProofs (maxSteps:=999999) (disch:=omega) [hl1,hl2]
   (repeat refine⟨by first|assumption|omega,?_⟩);refine hK _ _ (by simp(disch:=omega)) ?_;clear hK K
   rw[DQ]
   refine zs ?_
   refine⟨k+1,by omega,by omega,?_⟩
   rw[hst]
   have hver:(s.2++[(w:Int)]).length-j.list.length=s.2.length-j.list.length+1:=by simp;omega
   have e:Ae s.2++[AV.int .i64 w]=Ae (s.2++[(w:Int)]):=by simp[Ae]
   simp only[hver]
   refine Wk.cutM (k:=4) (by simp[Ad]) ?_ (by simp) (by simp) (by simp) (by simp)
   rw[e]
   simp
  .have hps:Bj (u:Int) s w=s:=by
    simp only[Bj,DF hl2]
    rw[if_neg hneg]
   rw[hps] at hst
   refine Af (an hl2 hneg) ?_;intro K hK
   refine zk ?_;clear hK K
   refine zn ?_
   refine W.skip ?_
   refine zs ?_
   refine⟨k+1,by omega,by omega,?_⟩
   rw[hst]
   exact Wk.fr (by simp[Ad])
 .refine W.exit ?_
  have hk' :k=g.out[u].length:=by omega
  subst hk'
  rw[List.take_length]
  obtain⟨f0,f1,f2,f3,f4,f5⟩:=hf g.out[u].length
  rw[List.take_length] at f1
  generalize g.out[u].foldl (Bj u) (j.out,j.list)=s at*
  refine⟨_,_,(Wk.intern (B:=0) (v:=0) (j:=4) (T:=2) (u:=s.2.length-j.list.length) (s:=1) (off:=0) (n:=s.2.length) (xs:=Ae s.2) (by rfl) (by rfl) (by simp[Aj]) (by simp) (by simp) (by simp)).trans (Wk.intern (B:=0) (v:=0) (j:=5) (T:=3) (u:=0) (s:=1) (off:=0) (n:=n) (xs:=Ae s.1) (by rfl) (by rfl) (by rfl) (by simp) (by simp;omega) (by simp)),?_⟩
  (try simp only[Cs,Ct,Dk,Dl,if_true]);refine Fw (d:=0) ?_;simp -implicitDefEqProofs (maxSteps:=999999) (disch:=omega)
  exact⟨h4.symm,by omega,by rw[List.take_of_length_le (by omega)]⟩
def ij (j:Cu):Prop:=j.list.length<1000000000/\j.out.length<1000000000
theorem S4 (hR:BT) (g:Gr) (j:Cu) (hgi:FL g) (hg:A3 g) (hj:j.list.length<1000000000/\j.out.length<1000000000):Aa pg 193 [.agg (Ba false g),.agg (B4 false j)] [] (fun r _=>r= .bool (Du g j)):=by
 refine Aa.start (fn:=Tryz.f193) [.tmp 4] tk rfl rfl rfl (by kernel_rfl) (Nat.le_of_ble_eq_true rfl) rfl (by kernel_rfl) ?_
 rw[At]
 refine z2 ?_;intro K hK;refine zk ?_;clear hK K
 refine W.scope (fun _ _ _ h=>h) ?_
 by_cases hk:DK g j.kind j.a=0
 rotate_left
 .have sp:=QV hR g j.kind j.a hgi hg
  rw[if_neg hk] at sp
  refine z1 ?_;intro K hK
  refine Ab.eq sp (by simp) (by simp) ?_
  refine zx ?_
  refine zk ?_;clear hK K
  refine Af hk ?_;intro K hK
  refine zk ?_;clear hK K
  refine zt ?_
  refine zs ?_
  refine zr ?_
  simp[Du,hk]
 have sp:=QV hR g j.kind j.a hgi hg
 rw[if_pos hk] at sp
 have hb:=O0 hg hk
 have hx0:Du g j=E2 g j (CC g j.kind j.a):=by rw[Lv,decide_eq_true hk,Bool.true_and]
 refine z1 ?_;intro K hK
 refine Ab.eq sp (by simp) (by simp) ?_
 generalize CC g j.kind j.a=x0 at*
 refine zx ?_
 refine zk ?_;clear hK K
 have hsm:=hb.small hg
 refine W.weak (Wk.intern (B:=2) (v:=0) (j:=4) (T:=3) (u:=0) (s:=1) (off:=0) (n:=x0.list.length) (xs:=Ae x0.list) (by rfl) (by rfl) (by rfl) (by simp) (by simp) (by simp)) ?_
 refine W.weak (Wk.intern (B:=2) (v:=0) (j:=5) (T:=4) (u:=0) (s:=1) (off:=0) (n:=x0.out.length) (xs:=Ae x0.out) (by rfl) (by rfl) (by rfl) (by simp) (by simp) (by simp)) ?_
 refine Af hk ?_;intro K hK
 refine zk ?_;clear hK K
 refine zn ?_
 refine W.skip ?_
 refine W.seq ?_
 refine W.label ?_
 (repeat refine W.seq ?_);refine W.block (W.loopS (fun x:Cu=> [(2,.ptr 0 0 0),(3,.ptr 1 0 0),(5,.ptr 2 0 0)]) (fun x=> [.live 0 (Ba false g),.live 0 (B4 false j),.live 0 (B4 true x)]) (fun x=>FK g x) (fun x=>Gl g x/\E2 g j x=E2 g j x0) x0 (Wk.cutM (k:=3) (by simp[Ad]) (by simp) (by simp) (by simp) (by simp) (by simp)) ⟨hb,rfl⟩ ?_)
 rintro x ⟨hx,hxj⟩
 refine zb ?_
 refine zb ?_
 refine W.weak (Wk.thaw (B:=2) (v:=0) (j:=4) (s:=1) (n:=x.list.length) (xs:=Ae x.list) (by rfl) (by rfl)) ?_
 refine W.weak (Wk.thaw (B:=2) (v:=0) (j:=5) (s:=1) (n:=x.out.length) (xs:=Ae x.out) (by rfl) (by rfl)) ?_
 have hsx:=hx.small hg
 by_cases e:x=j
 .refine z0 ?_;intro K hK
  refine Ab.eq (UR x j (by omega)) (by simp) (by simp) ?_
  refine AX e ?_
  refine zk ?_;clear hK K
  refine zt ?_
  refine zs ?_
  refine zr ?_
  rw[hx0,<-hxj,QW e]
 .refine z0 ?_;intro K hK
  refine Ab.eq (UR x j (by omega)) (by simp) (by simp) ?_
  refine AX e ?_
  refine zk ?_;clear hK K
  refine zn ?_
  refine z0 ?_;intro K hK
  refine Ab.eq (Qf g x (by omega)) (by simp) (by simp) ?_
  cases ho:BY g x
  .refine zx ?_
   refine zk ?_;clear hK K
   refine zn ?_
   refine W.skip ?_
   refine W.weak (Wk.intern (B:=2) (v:=0) (j:=4) (T:=3) (u:=0) (s:=1) (off:=0) (n:=x.list.length) (xs:=Ae x.list) (by rfl) (by rfl) (by rfl) (by simp) (by simp) (by simp)) ?_
   refine W.weak (Wk.intern (B:=2) (v:=0) (j:=5) (T:=4) (u:=0) (s:=1) (off:=0) (n:=x.out.length) (xs:=Ae x.out) (by rfl) (by rfl) (by rfl) (by simp) (by simp) (by simp)) ?_
   refine z0 ?_;intro K hK
   refine Ab.pass [2] (Xd g x hgi hg hx ho) (by simp) (by simp) (by simp) (by simp) ?_
   rintro r M ⟨rfl,rfl⟩ _
   refine zx ?_
   refine zk ?_;clear hK K
   obtain⟨h1,h2⟩:=IR hg hx ho
   refine⟨Bc g x,h2,⟨h1,by rw[<-QX hg hx e ho];exact hxj⟩,Wk.cutM (k:=3) (by simp[Ad]) (by simp) (by simp) (by simp) (by simp) (by simp)⟩
  .refine zx ?_
   refine zk ?_;clear hK K
   refine zt ?_
   refine W.exit ?_
   refine zs ?_
   refine zr ?_
   rw[hx0,<-hxj,NC e ho]
end Go.Abs
