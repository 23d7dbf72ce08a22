/- Gaps and runs that were read: their bounds. No program. -/
import Derived.Test.YtoklapibcmnaeaaGreatP7
set_option linter.unusedVariables false
set_option linter.unusedSimpArgs false
namespace Go.Abs
theorem H7 {bs:List Bool}:∀(k:Nat) (f:Bool) (p:Nat) (last:Int) (r:List Int×Nat),p<=bs.length->Cd bs k f p last=some r->r.1.length=k/\(∀x∈r.1,0<=x/\x<16)/\p<=r.2/\r.2<=bs.length
 |0,f,p,last,r,hp,h=>by simp[Cd] at h;subst h;simp;exact hp
 |k+1,f,p,last,r,hp,h=>by
  simp only[Cd] at h
  split at h
  .simp at h
  .rename_i x hx
   obtain⟨h1,h2,h3,h4,_⟩:=A0 hx
   generalize (last+(if f=true then CO ((x.1:Int)-1) else(x.1:Int)))=y at h
   split at h
   .rename_i hy
    split at h
    .rename_i q hq
     simp at h;subst h
     obtain⟨g1,g2,g3,g4⟩:=H7 k false x.2 _ q h4 hq
     refine⟨by simp[g1],fun z hz=>?_,by simp only;omega,g4⟩
     simp at hz
     rcases hz with rfl|hz
     .exact hy
     .exact g2 z hz
    .simp at h
   .simp at h
theorem Om {bs:List Bool}:∀(k:Nat) (p:Nat) (last:Int) (r:List Int×Nat),Cd bs k false p last=some r->r.1.Pairwise (·<·)/\∀x∈r.1,last<x
 |0,p,last,r,h=>by simp[Cd] at h;subst h;simp
 |k+1,p,last,r,h=>by
  simp only[Cd,Bool.false_eq_true,if_false] at h
  split at h
  .simp at h
  .rename_i x hx
   obtain⟨h1,h2,h3,h4,_⟩:=A0 hx
   split at h
   .split at h
    .rename_i q hq
     simp at h;subst h
     obtain⟨g1,g2⟩:=Om k x.2 _ q hq
     refine⟨?_,fun z hz=>?_⟩
     .simp only[List.pairwise_cons]
      exact⟨fun z hz=>by have:=g2 z hz;simpa using this,g1⟩
     .simp at hz
      rcases hz with rfl|hz
      .omega
      .have:=g2 z hz;omega
    .simp at h
   .simp at h
theorem SS {bs:List Bool} {k:Nat} {f:Bool} {p:Nat} {last:Int} {r:List Int×Nat} (hp:p<=bs.length) (h:Cd bs k f p last=some r):AJ r.1:=by
 refine⟨(H7 k f p last r hp h).2.1,?_⟩
 cases k with
 |zero=>simp[Cd] at h;subst h;simp
 |succ k=>
  simp only[Cd] at h
  split at h
  .simp at h
  .rename_i x hx
   generalize (last+(if f=true then CO ((x.1:Int)-1) else(x.1:Int)))=y at h
   split at h
   .split at h
    .rename_i q hq
     simp at h;subst h
     obtain⟨g1,g2⟩:=Om k _ _ q hq
     simp only[List.pairwise_cons]
     exact⟨fun z hz=>by have:=g2 z hz;simpa using this,g1⟩
    .simp at h
   .simp at h
theorem Jn {bs:List Bool} {p:Nat} {v:Int} {r:List Int×Nat} (h:DI bs p v=some r):r.1.length<=16/\AJ r.1/\p<r.2/\r.2<=bs.length:=by
 unfold DI at h
 split at h
 .simp at h
 .rename_i x hx
  obtain⟨h1,h2,h3,h4,_⟩:=A0 hx
  split at h
  .have h5:=H7 _ _ _ _ _ h4 h
   exact⟨by omega,SS h4 h,by omega,h5.2.2.2⟩
  .simp at h
theorem Kw {bs:List Bool}:∀(k:Nat) (f:Bool) (p:Nat) (e:Int) (r:List (Int×Int)×Nat) (B:Int),p<=bs.length->-B<=e->e<=B->CJ bs k f p e=some r->r.1.length=k/\(∀q∈r.1,-(B+4294967296*(k:Int))<=q.1/\q.1<=B+4294967296*(k:Int)/\3<=q.2/\q.2<=2147483648)/\p<=r.2/\r.2<=bs.length
 |0,f,p,e,r,B,hp,_,_,h=>by simp[CJ] at h;subst h;simp;exact hp
 |k+1,f,p,e,r,B,hp,hB1,hB2,h=>by
  simp only[CJ] at h
  split at h
  .simp at h
  .rename_i x hx
   obtain⟨h1,h2,h3,h4,_⟩:=A0 hx
   split at h
   .simp at h
   .rename_i y hy
    obtain⟨i1,i2,i3,i4,_⟩:=A0 hy
    split at h
    .rename_i q hq
     simp at h;subst h
     have hz:∃z:Int,z=(if f=true then CO ((x.1:Int)-1) else(x.1:Int))/\-1073741825<=z/\z<=1073741825:=⟨_,rfl,by unfold CO;split<;>(try split)<;>omega,by unfold CO;split<;>(try split)<;>omega⟩
     obtain⟨z,hz,hz1,hz2⟩:=hz
     rw[<-hz] at hq |-
     obtain⟨g1,g2,g3,g4⟩:=Kw k false y.2 _ q (B+4294967296) i4 (by omega) (by omega) hq
     refine⟨by simp[g1],fun w hw=>?_,by simp only;omega,g4⟩
     simp only[List.mem_cons] at hw
     rcases hw with rfl|hw
     .simp only;omega
     .have:=g2 w hw;omega
    .simp at h
theorem P9:∀(l:List Int) (b:Int),(∀x∈l,b<=x/\x<16)->l.Pairwise (·<·)->l.length<=(16-b).toNat
 | [],b,_,_=>by simp
 |x::t,b,h,hp=>by
  rw[List.pairwise_cons] at hp
  have h1:=h x (by simp)
  have:=P9 t (x+1) (fun y hy=>⟨by have:=hp.1 y hy;omega,(h y (by simp[hy])).2⟩) hp.2
  simp;omega
theorem Bq {l:List Int} (h:AJ l):l.length<=16:=P9 l 0 h.1 h.2
theorem Oo:∀(n:Nat) (l:List Int),l.length<=n->(Am l).1.length<=l.length/\(Am l).2.length<=l.length
 |_,[],_=>by simp[Am]
 |0,x::l,h=>by simp at h
 |n+1,x::l,h=>by
  have h1:=EL x l
  have h2:=Fb (x::l)
  have h3:((x::l).drop (AZ (x::l))).length=(x::l).length-AZ (x::l):=by simp
  have ih:=Oo n ((x::l).drop (AZ (x::l))) (by omega)
  rw[Am]
  split
  .simp only[List.length_cons] at*;omega
  .simp only[List.length_append,List.length_take] at*;omega
theorem Jo {bs:List Bool} {p:Nat} {v:Int} {r:List Int×Nat} (hv:-100000<=v/\v<=100000) (h:De bs p v=some r):AJ r.1/\r.1.length<=16/\p<r.2/\r.2<=bs.length:=by
 unfold De at h
 split at h
 .simp at h
 .rename_i x hx
  obtain⟨h1,h2,h3,h4,_⟩:=A0 hx
  split at h
  .split at h
   .simp at h
   .rename_i r0 hr0
    have g0:=Kw _ _ _ _ _ 100000 h4 hv.1 hv.2 hr0
    split at h
    .simp at h
    .rename_i g hg
     have g1:=Jn hg
     split at h
     .simp at h
     .rename_i l hl
      unfold EQ at hl
      split at hl
      .simp at hl
      .split at hl
       .rename_i hm
        simp at hl
        split at h
        .simp at h;subst h
         rw[hl] at hm
         exact⟨hm.2,Bq hm.2,by simp only;omega,g1.2.2.2⟩
        .simp at h
       .simp at hl
  .simp at h
set_option maxRecDepth 100000
open Go.Proofs
def Kx (o:Option (List Int×Nat)) (r:AV):Prop:=match o with
 |some q=>r= .tup [.own 1 q.1.length (Ae q.1),.int .i64 q.2,.bool true]
 |none=>∃(xs:List Int) (a:Int),r= .tup [.own 1 xs.length (Ae xs),.int .i64 a,.bool false]
theorem MJ (b:Dh) (p:Nat) (v:Int) (hb:DH b) (hp:p<50000000000) (hv:0<=v/\v<100000):Aa pg 199 [.agg (CI b),.int .i64 p,.int .i64 v] [] (fun r _=>Kx (De (Aq b) p v) r):=by
 have hl:=Cw b
 have h2:=hb.2.1;have h3:=hb.2.2;have h0:=hb.1
 have e0:De (Aq b) p v=match GN (Aq b) p v with
  |none=>none
  |some r=>match DI (Aq b) r.2 v with
   |none=>none
   |some g=>match EQ r.1 g.1 with
    |none=>none
    |some l=>if Am l=(r.1,g.1) then some (l,g.2) else none:=by
  unfold De GN
  cases A5 (Aq b) p with
  |none=>rfl
  |some x=>simp only;split<;>rfl
 refine Aa.start (fn:=Tryz.f199) [.tmp 6,.tmp 7,.tmp 8] tk rfl rfl rfl (by kernel_rfl) (Nat.le_of_ble_eq_true rfl) rfl (by kernel_rfl) ?_
 rw[Bl]
 refine z1 ?_;intro K hK;refine zk ?_;clear hK K
 refine z0 ?_;intro K hK
 have sp:=SR b p v hb hp hv
 cases hr:GN (Aq b) p v with
 |none=>
  simp only[hr,Ok] at sp e0
  refine Ab.eq sp (by simp) (by simp) ?_
  refine zx ?_
  refine zk ?_;clear hK K
  refine z0 ?_;intro K hK;refine zk ?_;clear hK K
  refine zt ?_
  refine z0 ?_;intro K hK;refine zk ?_;clear hK K
  refine zr ?_
  rw[e0]
  exact⟨[],0,rfl⟩
 |some r=>
  simp only[hr,Ok] at sp e0
  obtain⟨i1,i2,i3,i4,i5⟩:r.1.length<=15/\(∀q∈r.1,(-1000000000000<q.1/\q.1<1000000000000)/\(-1000000000000<q.2/\q.2<1000000000000))/\r.2<=(Aq b).length/\True/\True:=by
   unfold GN at hr
   split at hr
   .simp at hr
   .rename_i x hx
    obtain⟨j1,j2,j3,j4,_⟩:=A0 hx
    split at hr
    .have:=Kw _ _ _ _ _ 100000 j4 (by omega) (by omega) hr
     refine⟨by omega,fun q hq=>?_,this.2.2.2,trivial,trivial⟩
     have:=this.2.1 q hq
     omega
    .simp at hr
  refine Ab.eq sp (by simp) (by simp) ?_
  refine zx ?_
  refine zk ?_;clear hK K
  refine z0 ?_;intro K hK;refine zk ?_;clear hK K
  refine zn ?_
  refine W.skip ?_
  refine z0 ?_;intro K hK
  have sp:=SQ b r.2 v hb (by omega) hv
  cases hg:DI (Aq b) r.2 v with
  |none=>
   simp only[hg,DA] at sp e0
   refine Ab.eq sp (by simp) (by simp) ?_
   refine zx ?_
   refine zk ?_;clear hK K
   refine z0 ?_;intro K hK;refine zk ?_;clear hK K
   refine zt ?_
   refine z0 ?_;intro K hK;refine zk ?_;clear hK K
   refine zr ?_
   rw[e0]
   exact⟨[],0,rfl⟩
  |some g=>
   obtain⟨g1,g2,g3,g4⟩:=Jn hg
   simp only[hg,DA] at sp e0
   refine Ab.eq sp (by simp) (by simp) ?_
   refine zx ?_
   refine zk ?_;clear hK K
   refine z0 ?_;intro K hK;refine zk ?_;clear hK K
   refine zn ?_
   refine W.skip ?_
   refine z0 ?_;intro K hK
   have sp:=Y3 r.1 g.1 (by omega) (by omega) i2
   cases hw:DB r.1 (-1) with
   |none=>
    simp only[hw,Rz,EQ] at sp e0
    refine Ab.eq sp (by simp) (by simp) ?_
    refine zx ?_
    refine zk ?_;clear hK K
    refine z0 ?_;intro K hK;refine zk ?_;clear hK K
    refine zt ?_
    refine z0 ?_;intro K hK;refine zk ?_;clear hK K
    refine zr ?_
    rw[e0]
    exact⟨[],0,rfl⟩
   |some l=>
    simp only[hw,Rz,EQ] at sp e0
    generalize B6 (g.1++l)=L at sp e0
    by_cases hm:AJ g.1/\AJ L
    .rw[if_pos hm] at e0
     rw[decide_eq_true hm] at sp
     have hll:=Bq hm.2
     have hpl:=Oo _ L (Nat.le_refl _)
     simp only at e0
     refine Ab.eq sp (by simp) (by simp) ?_
     refine zx ?_
     refine zk ?_;clear hK K
     refine z0 ?_;intro K hK;refine zk ?_;clear hK K
     refine zn ?_
     refine W.skip ?_
     refine z0 ?_;intro K hK
     have sp:=Ry L (by omega) (fun x hx=>by have:=hm.2.1 x hx;omega)
     refine Ab.eq sp (by simp) (by simp[Oj]) ?_
     simp only[Oj]
     refine zx ?_
     refine zk ?_;clear hK K
     refine z0 ?_;intro K hK
     refine Ab.eq (Ws (Am L).1 r.1 (by omega)) (by simp) (by simp) ?_
     by_cases c1:(Am L).1=r.1
     .rw[decide_eq_true c1]
      refine zx ?_
      refine Ab.eq (IE (Am L).2 g.1 (by omega)) (by simp) (by simp) ?_
      by_cases c2:(Am L).2=g.1
      .rw[decide_eq_true c2]
       refine zx ?_
       refine zk ?_;clear hK K
       refine zr ?_
       have c3:Am L=(r.1,g.1):=Prod.ext c1 c2
       rw[e0,if_pos c3]
       rfl
      .rw[decide_eq_false c2]
       refine zx ?_
       refine zk ?_;clear hK K
       refine zr ?_
       rw[e0,if_neg (fun e=>c2 (by rw[e]))]
       exact⟨L,g.2,rfl⟩
     .rw[decide_eq_false c1]
      refine zx ?_
      refine zk ?_;clear hK K
      refine zr ?_
      rw[e0,if_neg (fun e=>c1 (by rw[e]))]
      exact⟨L,g.2,rfl⟩
    .rw[if_neg hm] at e0
     rw[decide_eq_false hm] at sp
     refine Ab.eq sp (by simp) (by simp) ?_
     refine zx ?_
     refine zk ?_;clear hK K
     refine z0 ?_;intro K hK;refine zk ?_;clear hK K
     refine zt ?_
     refine z0 ?_;intro K hK;refine zk ?_;clear hK K
     refine zr ?_
     rw[e0]
     exact⟨[],0,rfl⟩
def GO (l:List Nat):List Int:=l.map fun n=>((n:Nat):Int)
theorem UH (a b:List Nat):GO (a++b)=GO a++GO b:=by simp[GO]
@[simp] theorem cK (a:List Nat):(GO a).length=a.length:=by simp[GO]
def UI (q:List Int×List Int):AV:= .tup [.own 1 q.1.length (Ae q.1),.own 1 q.2.length (Ae q.2)]
theorem Qa (ref l:List Int) (h1:ref.length<1000000000) (h2:l.length<1000000000):Aa pg 235 [.ro ref.length (Ae ref),.ro l.length (Ae l)] [] (fun r _=>r=UI (blocks ref l,Bh ref l)):=by
 refine Aa.start (fn:=Tryz.f235) [.tmp 4,.tmp 5] tk rfl rfl rfl (by kernel_rfl) (Nat.le_of_ble_eq_true rfl) rfl (by kernel_rfl) ?_
 rw[At]
 refine zs ?_
 refine zs ?_
 refine zs ?_
 (repeat refine W.seq ?_);refine W.block (W.loopS (fun s:Nat×List Nat×Bool×Nat=> [(0,.ro ref.length (Ae ref)),(1,.ro l.length (Ae l)),(4,.tok 0 s.2.1.length 1 0 s.2.1.length),(5,.tok 1 0 1 0 0),(6,.bool s.2.2.1),(7,.int .i64 s.2.2.2),(12,.ro ref.length (Ae ref)),(13,.int .i64 ref.length),(14,.int .i64 s.1)]) (fun s=> [.live s.2.1.length (Ae (GO s.2.1)),.live 0 []]) (fun s=>ref.length-s.1)
   (fun s=>s.1<=ref.length/\s.2.1.length<=s.1/\s.2.2.2<=s.1/\AU l ref true 0=s.2.1++AU l (ref.drop s.1) s.2.2.1 s.2.2.2) (0,[],true,0) ((Wk.nil (t:=4) (s:=1) (by simp)).trans ((Wk.nil (t:=5) (s:=1) (by simp)).trans (Wk.fr (by simp[Ad])))) (by simp) ?_)
 rintro⟨k,acc,i,n⟩ ⟨hk,hacc,hn,hinv⟩
 simp only at hk hacc hn hinv
 refine zs ?_
 refine zc ?_ ?_<;>intro h
 .refine W.skip ?_
  have hlt:k<ref.length:=by omega
  rw[List.drop_eq_getElem_cons hlt] at hinv
  simp only[AU] at hinv
  refine zb ?_
  refine zs ?_
  refine z0 ?_;intro K hK
  refine Ab.eq (Gj l ref[k] (by omega)) (by simp) (by simp) ?_
  by_cases hc:l.contains ref[k]=i
  .rw[hc]
   refine zx ?_
   refine zk ?_;clear hK K
   refine zn ?_
   refine W.skip ?_
   refine zs ?_
   refine zs ?_
   rw[if_pos hc] at hinv
   refine⟨(k+1,acc,i,n+1),by simp;omega,⟨by simp;omega,by simp;omega,by simp;omega,hinv⟩,Wk.fr (by simp[Ad])⟩
  .have hc' :l.contains ref[k]= !i:=by cases i<;>simp_all
   rw[hc']
   refine zx ?_
   refine zk ?_;clear hK K
   refine zt ?_
   refine z1 ?_;intro K hK
   refine zk ?_;clear hK K
   refine zs ?_
   refine zs ?_
   refine zs ?_
   rw[if_neg hc] at hinv
   refine⟨(k+1,acc++[n],!i,1),by simp;omega,⟨by simp;omega,by simp;omega,by simp,?_⟩,Wk.cutM (k:=2) (by simp[Ad]) (by simp[UH,Cj];simp[GO,Ae]) (by simp) (by simp) (by simp) (by simp)⟩
   rw[hinv];simp
 .refine W.exit ?_
  have:ref.drop k=[]:=List.drop_of_length_le (by omega)
  rw[this] at hinv
  simp[AU] at hinv
  subst hinv
  refine zs ?_
  (repeat refine W.seq ?_);refine W.block (W.loopS (fun s:Nat×List Int=> [(0,.ro ref.length (Ae ref)),(4,.tok 0 (AU l ref true 0).length 1 0 (AU l ref true 0).length),(5,.tok 1 s.2.length 1 0 s.2.length),(32,.ro l.length (Ae l)),(33,.int .i64 l.length),(34,.int .i64 s.1)]) (fun s=> [.live (AU l ref true 0).length (Ae (GO (AU l ref true 0))),.live s.2.length (Ae s.2)]) (fun s=>l.length-s.1)
    (fun s=>s.1<=l.length/\s.2.length<=s.1/\Bh ref l=s.2++Bh ref (l.drop s.1)) (0,[]) (Wk.fr (by simp[Ad])) (by simp) ?_)
  rintro⟨j,oc⟩ ⟨hj,hoc,hio⟩
  simp only at hj hoc hio
  refine zs ?_
  refine zc ?_ ?_<;>intro h
  .refine W.skip ?_
   have hlt:j<l.length:=by omega
   rw[List.drop_eq_getElem_cons hlt] at hio
   refine zb ?_
   refine zs ?_
   refine z0 ?_;intro K hK
   refine Ab.eq (Gj ref l[j] (by omega)) (by simp) (by simp) ?_
   by_cases hc:ref.contains l[j]=true
   .rw[hc]
    refine zx ?_
    refine zk ?_;clear hK K
    refine zn ?_
    refine W.skip ?_
    refine zs ?_
    refine⟨(j+1,oc),by simp;omega,⟨by simp;omega,by simp;omega,?_⟩,Wk.fr (by simp[Ad])⟩
    rw[hio,Bh,List.filter_cons_of_neg (by rw[hc];decide)];rfl
   .have hc:ref.contains l[j]=false:=by simpa using hc
    rw[hc]
    refine zx ?_
    refine zk ?_;clear hK K
    refine zt ?_
    refine z1 ?_;intro K hK
    refine zk ?_;clear hK K
    refine zs ?_
    refine⟨(j+1,oc++[l[j]]),by simp;omega,⟨by simp;omega,by simp;omega,?_⟩,Wk.cutM (k:=2) (by simp[Ad]) (by simp[Cj];simp[Ae]) (by simp) (by simp) (by simp) (by simp)⟩
    rw[hio,Bh,List.filter_cons_of_pos (by rw[hc];decide)];simp[Bh]
  .refine W.exit ?_
   have:l.drop j=[]:=List.drop_of_length_le (by omega)
   rw[this] at hio
   simp[Bh] at hio
   refine zs ?_
   refine zr ?_
   simp[UI,blocks,Bh,hio,GO]
   rw[List.take_of_length_le (by simp)]
def kT (ref bl rest:List Int):Option (List Int):=match Bi bl ref true with
 |none=>none
 |some l=>if AJ (B6 (rest++l)) then some (B6 (rest++l)) else none
theorem HG (l:List Int):∀(ref:List Int) (i:Bool) (n:Nat),(AU l ref i n).length<=ref.length
 | [],i,n=>by simp[AU]
 |x::ref,i,n=>by
  simp only[AU]
  split
  .have:=HG l ref i (n+1);simp;omega
  .have:=HG l ref (!i) 1;simp;omega
theorem Wt (ref bl rest:List Int) (h1:ref.length<1000000) (h2:bl.length<1000000) (h3:rest.length<1000000) (hb:∀x∈bl,-1000000000000<x/\x<1000000000000):
 Aa pg 227 [.ro ref.length (Ae ref),.ro bl.length (Ae bl),.ro rest.length (Ae rest)] [] (fun r _=>match Cv ref bl rest with
  |some l=>r= .tup [.own 1 l.length (Ae l),.bool true]
  |none=>∃xs:List Int,r= .tup [.own 1 xs.length (Ae xs),.bool false]):=by
 refine Aa.start (fn:=Tryz.f227) [.tmp 6,.tmp 7] tk rfl rfl rfl (by kernel_rfl) (Nat.le_of_ble_eq_true rfl) rfl (by kernel_rfl) ?_
 rw[Bl]
 refine zs ?_
 refine z0 ?_;intro K hK
 refine Ab.eq (Hh rest (by omega)) (by simp) (by simp) ?_
 refine zx ?_
 refine zk ?_;clear hK K
 refine zs ?_
 refine zs ?_
 refine zs ?_
 (repeat refine W.seq ?_);refine W.block (W.loopS (fun s:Nat×List Int×List Int×Bool×Nat=> [(0,.ro ref.length (Ae ref)),(1,.ro bl.length (Ae bl)),(2,.ro rest.length (Ae rest)),(8,.tok 0 s.2.2.2.2 1 0 s.2.1.length),(9,.ro s.2.2.1.length (Ae s.2.2.1)),(10,.bool s.2.2.2.1),(18,.ro bl.length (Ae bl)),(19,.int .i64 bl.length),(20,.int .i64 s.1)]) (fun s=> [.live s.2.2.2.2 (Ae s.2.1)]) (fun s=>bl.length-s.1)
   (fun s=>s.1<=bl.length/\s.2.1.length+s.2.2.1.length<=rest.length+ref.length/\(Bi bl ref true).map (rest++·)=(Bi (bl.drop s.1) s.2.2.1 s.2.2.2.1).map (s.2.1++·)) (0,rest,ref,true,0) (Wk.fr (by simp[Ad])) (by simp) ?_)
 rintro⟨k,acc,left,i,c⟩ ⟨hk,hacc,hinv⟩
 simp only at hk hacc hinv
 refine zs ?_
 refine zc ?_ ?_<;>intro h
 .refine W.skip ?_
  have hlt:k<bl.length:=by omega
  have hbk:=hb _ (List.getElem_mem hlt)
  rw[List.drop_eq_getElem_cons hlt] at hinv
  simp only[Bi] at hinv
  generalize hn:bl[k]=n at hinv hbk
  refine zb ?_
  refine Af (an hlt hn) ?_;intro K hK
  refine zk ?_;clear hK K
  by_cases hbad:n<0\/(left.length:Int)<n
  .rw[if_pos hbad] at hinv
   have hcg:Bi bl ref true=none:=by simpa using hinv
   have hcw:Cv ref bl rest=none:=by simp[Cv,hcg]
   (repeat refine W.seq ?_);refine W.midS (fun _:Unit=> [(31,.bool true)]) (fun _=> []) (fun _=>True) ?_ ?_
   .by_cases hz:n<0
    .refine z0 ?_;intro K hK
     refine zk ?_;clear hK K
     exact⟨(),trivial,Wk.cutM (k:=0) (by simp[Ad]) (by simp) (by simp) (by simp) (by simp) (by simp)⟩
    .refine z0 ?_;intro K hK
     refine zk ?_;clear hK K
     exact⟨(),trivial,Wk.cutM (k:=0) (by simp[Ad]) (by simp) (by simp) (by simp) (by simp) (by simp)⟩
   .rintro _ _
    refine zt ?_
    refine zs ?_
    refine zr ?_
    rw[hcw]
    exact⟨[],rfl,rfl⟩
  .rw[if_neg hbad] at hinv
   refine z0 ?_;intro K hK
   refine zk ?_;clear hK K
   refine zn ?_
   refine W.skip ?_
   refine zs ?_
   have hle:n.toNat<=left.length:=by omega
   have htk:(left.drop n.toNat).take (left.length-n.toNat)=left.drop n.toNat:=List.take_of_length_le (by simp)
   cases i with
   |true=>
    refine zt ?_
    refine zs ?_
    refine zs ?_
    refine zs ?_
    refine⟨(k+1,acc++left.take n.toNat,left.drop n.toNat,false,c+1),by simp;omega,⟨by simp;omega,by simp;omega,?_⟩,Wk.cutM (k:=1) (by simp[Ad,htk];try omega) (by simp[Cj]) (by simp) (by simp) (by simp) (by simp)⟩
    rw[hinv]
    simp only[Bool.not_true]
    cases Bi (bl.drop (k+1)) (left.drop n.toNat) false<;>simp
   |false=>
    refine zn ?_
    refine W.skip ?_
    refine zs ?_
    refine zs ?_
    refine⟨(k+1,acc,left.drop n.toNat,true,c),by simp;omega,⟨by simp;omega,by simp;omega,?_⟩,Wk.fr (by simp[Ad,htk];try omega)⟩
    rw[hinv]
    simp only[Bool.not_false]
    cases Bi (bl.drop (k+1)) (left.drop n.toNat) true<;>simp
 .refine W.exit ?_
  have hkk:bl.drop k=[]:=List.drop_of_length_le (by omega)
  rw[hkk] at hinv
  simp only[Bi,Option.map_some] at hinv
  obtain⟨e,he,hee⟩:∃e,Bi bl ref true=some e/\rest++e=acc++(if i=true then left else []):=by
   cases hc:Bi bl ref true with
   |none=>rw[hc] at hinv;simp at hinv
   |some e=>rw[hc] at hinv;simp at hinv;exact⟨e,rfl,hinv⟩
  refine zs ?_
  (repeat refine W.seq ?_);refine W.midS (fun c:Nat=> [(0,.ro ref.length (Ae ref)),(1,.ro bl.length (Ae bl)),(2,.ro rest.length (Ae rest)),(8,.tok 0 c 1 0 (rest++e).length)]) (fun c=> [.live c (Ae (rest++e))]) (fun _=>True) ?_ ?_
  .cases i with
   |true=>
    refine zt ?_
    refine z0 ?_;intro K hK
    refine zk ?_;clear hK K
    exact⟨c+1,trivial,Wk.cutM (k:=1) (by simp[Ad,hee]) (by simp[hee,Cj]) (by simp) (by simp) (by simp) (by simp)⟩
   |false=>
    refine zn ?_
    refine W.skip ?_
    exact⟨c,trivial,Wk.cutM (k:=1) (by simp[Ad,hee]) (by simp[hee]) (by simp) (by simp) (by simp) (by simp)⟩
  .rintro c _
   have hel:(rest++e).length<=rest.length+ref.length:=by rw[hee];split<;>simp<;>omega
   generalize hX:rest++e=X at hel
   have hln:=FW X
   generalize hL:B6 X=L at hln
   refine z0 ?_;intro K hK
   refine Ab.pass [0] (UG X c (by omega)) (by simp) (by simp) (by simp) (by simp) ?_
   rw[hL]
   rintro _ M ⟨rfl,rfl⟩ _
   rw[<-hln]
   refine zx ?_
   refine zk ?_;clear hK K
   refine z0 ?_;intro K hK
   refine Ab.eq (OJ L (by omega)) (by simp) (by simp) ?_
   have hcw:Cv ref bl rest=if AJ L/\blocks ref L=bl/\Bh ref L=rest then some L else none:=by simp only[Cv,he,hX,hL]
   by_cases hm:AJ L
   .rw[decide_eq_true hm]
    refine zx ?_
    refine zk ?_;clear hK K
    refine zn ?_
    refine W.skip ?_
    have hll:=Bq hm
    refine z0 ?_;intro K hK
    refine Ab.eq (Qa ref L (by omega) (by omega)) (by simp) (by simp[UI]) ?_
    simp only[UI]
    refine zx ?_
    refine zk ?_;clear hK K
    refine z0 ?_;intro K hK
    refine Ab.eq (IE (blocks ref L) bl (by have:=HG L ref true 0;simp[blocks];omega)) (by simp) (by simp) ?_
    by_cases c1:blocks ref L=bl
    .rw[decide_eq_true c1]
     refine zx ?_
     refine Ab.eq (IE (Bh ref L) rest (by have:=List.length_filter_le (fun x=> !ref.contains x) L;simp only[Bh];omega)) (by simp) (by simp) ?_
     by_cases c2:Bh ref L=rest
     .rw[decide_eq_true c2]
      refine zx ?_
      refine zk ?_;clear hK K
      refine zr ?_
      rw[hcw,if_pos ⟨hm,c1,c2⟩]
      exact⟨rfl,rfl⟩
     .rw[decide_eq_false c2]
      refine zx ?_
      refine zk ?_;clear hK K
      refine zr ?_
      rw[hcw,if_neg (fun h=>c2 h.2.2)]
      exact⟨L,rfl,rfl⟩
    .rw[decide_eq_false c1]
     refine zx ?_
     refine zk ?_;clear hK K
     refine zr ?_
     rw[hcw,if_neg (fun h=>c1 h.2.1)]
     exact⟨L,rfl,rfl⟩
   .rw[decide_eq_false hm]
    refine zx ?_
    refine zk ?_;clear hK K
    refine zt ?_
    refine zs ?_
    refine zr ?_
    rw[hcw,if_neg (fun h=>hm h.1)]
    exact⟨[],rfl,rfl⟩
theorem Oq {bs:List Bool}:∀(k:Nat) (f:Bool) (p:Nat) (r:List Int×Nat),p<=bs.length->B9 bs k f p=some r->r.1.length=k/\(∀x∈r.1,0<=x/\x<=1073741824)/\r.2<=bs.length
 |0,f,p,r,hp,h=>by simp[B9] at h;subst h;simp;exact hp
 |k+1,f,p,r,hp,h=>by
  simp only[B9] at h
  split at h
  .simp at h
  .rename_i x hx
   obtain⟨h1,h2,h3,h4,_⟩:=A0 hx
   split at h
   .rename_i q hq
    simp at h;subst h
    obtain⟨g1,g2,g3⟩:=Oq k false x.2 q h4 hq
    refine⟨by simp[g1],fun z hz=>?_,g3⟩
    simp only[List.mem_cons] at hz
    rcases hz with rfl|hz
    .split<;>omega
    .exact g2 z hz
   .simp at h
theorem Qb (b:Dh) (p:Nat) (v:Int) (ref:List Int) (hb:DH b) (hp:p<50000000000) (hv:0<=v/\v<100000) (href:ref.length<1000000):Aa pg 201 [.agg (CI b),.int .i64 p,.int .i64 v,.ro ref.length (Ae ref)] [] (fun r _=>Kx (CA (Aq b) p v ref) r):=by
 have hl:=Cw b
 have h2:=hb.2.1;have h3:=hb.2.2;have h0:=hb.1
 refine Aa.start (fn:=Tryz.f201) [.tmp 8,.tmp 9,.tmp 10] tk rfl rfl rfl (by kernel_rfl) (Nat.le_of_ble_eq_true rfl) rfl (by kernel_rfl) ?_
 rw[Iz]
 refine z1 ?_;intro K hK;refine zk ?_;clear hK K
 refine z0 ?_;intro K hK
 have sp:=G1 b p hb hp
 cases hg:A5 (Aq b) p with
 |none=>
  simp only[hg,Gm] at sp
  refine Ab.eq sp (by simp) (by simp) ?_
  refine zx ?_
  refine zk ?_;clear hK K
  refine z0 ?_;intro K hK;refine zk ?_;clear hK K
  refine zt ?_
  refine z0 ?_;intro K hK;refine zk ?_;clear hK K
  refine zr ?_
  simp only[CA,hg]
  exact⟨[],0,rfl⟩
 |some x=>
  simp only[hg,Gm] at sp
  obtain⟨hx1,hx2,hx3,hx4,_⟩:=A0 hg
  refine Ab.eq sp (by simp) (by simp) ?_
  refine zx ?_
  refine zk ?_;clear hK K
  refine z0 ?_;intro K hK;refine zk ?_;clear hK K
  refine zc ?_ ?_<;>intro h
  .refine z0 ?_;intro K hK;refine zk ?_;clear hK K
   refine zr ?_
   simp only[CA,hg];rw[if_neg (by omega)]
   exact⟨[],0,rfl⟩
  .refine W.skip ?_
   refine z0 ?_;intro K hK;refine zk ?_;clear hK K
   refine z0 ?_;intro K hK;refine zk ?_;clear hK K
   (repeat refine W.seq ?_);refine W.block (W.loopS (fun s:Nat×List Int×Nat=> [(2,.int .i64 v),(3,.ro ref.length (Ae ref)),(4,.ptr 0 0 0),(8,.own 1 0 []),(9,.int .i64 s.2.2),(12,.tok 1 s.1 1 0 s.1),(30,.int .i64 ((x.1:Int)-1)),(31,.int .i64 s.1)]) (fun s=> [.live 0 (CI b),.live s.1 (Ae s.2.1)]) (fun s=>x.1-1-s.1)
     (fun s=>s.1<=x.1-1/\s.2.1.length=s.1/\s.2.2<=(Aq b).length/\B9 (Aq b) (x.1-1) true x.2=(B9 (Aq b) (x.1-1-s.1) (decide (s.1=0)) s.2.2).map fun r=>(s.2.1++r.1,r.2)) (0,[],x.2) ((Wk.nil (t:=12) (s:=1) (by simp)).trans (Wk.fr (by simp[Ad]))) ⟨by omega,rfl,hx4,by simp⟩ ?_)
   rintro⟨k,acc,q⟩ ⟨hk,hacc,hq,hinv⟩
   simp only at hk hacc hq hinv
   refine z0 ?_;intro K hK;refine zk ?_;clear hK K
   refine zc ?_ ?_<;>intro h
   .refine W.skip ?_
    obtain⟨m,hm⟩:∃m,x.1-1-k=m+1:=⟨x.1-1-k-1,by omega⟩
    have hm' :x.1-1-(k+1)=m:=by omega
    rw[hm] at hinv
    refine zb ?_
    refine z0 ?_;intro K hK;refine zk ?_;clear hK K
    refine z0 ?_;intro K hK;refine zk ?_;clear hK K
    refine z0 ?_;intro K hK
    have sp:=G1 b q hb (by omega)
    cases hg2:A5 (Aq b) q with
    |none=>
     simp only[hg2,Gm] at sp
     refine Ab.eq sp (by simp) (by simp) ?_
     refine zx ?_
     refine zk ?_;clear hK K
     refine z0 ?_;intro K hK;refine zk ?_;clear hK K
     refine zt ?_
     refine z0 ?_;intro K hK;refine zk ?_;clear hK K
     refine zr ?_
     simp only[B9,hg2] at hinv
     simp only[CA,hg];rw[if_pos (by omega),hinv]
     exact⟨[],0,rfl⟩
    |some y=>
     simp only[hg2,Gm] at sp
     obtain⟨hy1,hy2,hy3,hy4,_⟩:=A0 hg2
     refine Ab.eq sp (by simp) (by simp) ?_
     refine zx ?_
     refine zk ?_;clear hK K
     refine z0 ?_;intro K hK;refine zk ?_;clear hK K
     refine zn ?_
     refine W.skip ?_
     simp only[B9,hg2] at hinv
     have hz:∃z:Int,z=(if k=0 then(y.1:Int)-1 else(y.1:Int)):=⟨_,rfl⟩
     obtain⟨z,hz⟩:=hz
     refine z0 ?_;intro K hK;refine zk ?_;clear hK K
     (repeat refine W.seq ?_);refine W.midS (fun _:Unit=> [(2,.int .i64 v),(3,.ro ref.length (Ae ref)),(4,.ptr 0 0 0),(8,.own 1 0 []),(9,.int .i64 y.2),(12,.tok 1 k 1 0 k),(14,.int .i64 z),(30,.int .i64 ((x.1:Int)-1)),(31,.int .i64 k)]) (fun _=> [.live 0 (CI b),.live k (Ae acc)]) (fun _=>True) ?_ ?_
     .refine zc ?_ ?_<;>intro h
      .refine z0 ?_;intro K hK
       refine zk ?_;clear hK K
       exact⟨(),trivial,Wk.fr (by simp[Ad,hz,h])⟩
      .refine W.skip ?_
       exact⟨(),trivial,Wk.fr (by simp[Ad,hz,h])⟩
     .rintro _ _
      have hzz:(if decide (k=0)=true then(y.1:Int)-1 else(y.1:Int))=z:=by rw[hz];simp
      rw[hzz,hm'.symm] at hinv
      refine z1 ?_;intro K hK;refine zk ?_;clear hK K
      refine z0 ?_;intro K hK;refine zk ?_;clear hK K
      refine⟨(k+1,acc++[z],y.2),by simp;omega,⟨by simp;omega,by simp;omega,hy4,?_⟩,Wk.cutM (k:=2) (by simp[Ad]) (by simp[Cj,Ae]) (by simp) (by simp) (by simp) (by simp)⟩
      rw[hinv]
      simp only[show decide (k+1=0)=false from by simp]
      cases B9 (Aq b) (x.1-1-(k+1)) false y.2<;>simp
   .refine W.exit ?_
    have hk0:x.1-1-k=0:=by omega
    rw[hk0] at hinv
    simp only[B9,Option.map_some,List.append_nil] at hinv
    have hno:=Oq _ _ _ _ hx4 hinv
    have hcr:CA (Aq b) p v ref=match De (Aq b) q v with
     |none=>none
     |some r=>match Cv ref acc r.1 with
      |some l=>some (l,r.2)
      |none=>none:=by
     simp only[CA,hg];rw[if_pos (by omega),hinv]
     rfl
    simp only at hno
    subst hacc
    refine z0 ?_;intro K hK
    have sp:=MJ b q v hb (by omega) hv
    cases hr:De (Aq b) q v with
    |none=>
     simp only[hr,Kx] at sp hcr
     refine Ab.bor sp (by simp) ?_
     rintro _ ⟨xs,a,rfl⟩
     refine⟨by simp,?_⟩
     refine zx ?_
     refine zk ?_;clear hK K
     refine z0 ?_;intro K hK;refine zk ?_;clear hK K
     refine zt ?_
     refine z0 ?_;intro K hK;refine zk ?_;clear hK K
     refine zr ?_
     rw[hcr]
     exact⟨[],0,rfl⟩
    |some r=>
     simp only[hr,Kx] at sp hcr
     refine Ab.eq sp (by simp) (by simp) ?_
     refine zx ?_
     refine zk ?_;clear hK K
     refine z0 ?_;intro K hK;refine zk ?_;clear hK K
     refine zn ?_
     refine W.skip ?_
     refine z0 ?_;intro K hK
     have sp:=Wt ref acc r.1 href (by omega) (by have:=Jo (by omega) hr;omega) (fun z hz=>by have:=hno.2.1 z hz;omega)
     cases hc:Cv ref acc r.1 with
     |none=>
      simp only[hc] at sp hcr
      refine Ab.bor sp (by simp) ?_
      rintro _ ⟨xs,rfl⟩
      refine⟨by simp,?_⟩
      refine zx ?_
      refine zk ?_;clear hK K
      refine z0 ?_;intro K hK;refine zk ?_;clear hK K
      refine zr ?_
      rw[hcr]
      exact⟨xs,r.2,rfl⟩
     |some l=>
      simp only[hc] at sp hcr
      refine Ab.eq sp (by simp) (by simp) ?_
      refine zx ?_
      refine zk ?_;clear hK K
      refine z0 ?_;intro K hK;refine zk ?_;clear hK K
      refine zr ?_
      rw[hcr]
      rfl
def FL (g:Gr):Prop:=g.out.length<1000000000/\∀l∈g.out,l.length<1000000000
theorem MK (out:List (List Int)) (k:Nat):C8 (out.take k)<=C8 out:=by
 have:C8 out=C8 (out.take k)+C8 (out.drop k):=by rw[C8,C8,C8,<-List.sum_append,<-List.map_append,List.take_append_drop]
 omega
theorem ML {out:List (List Int)} {k:Nat} (hk:k<out.length):C8 (out.take (k+1))=C8 (out.take k)+out[k].length:=by
 have e:out.take (k+1)=out.take k++[out[k]]:=by rw[List.take_add_one,List.getElem?_eq_getElem hk];rfl
 rw[e,C8,List.map_append,List.sum_append];simp[C8]
theorem aA (g:Gr) (h1:g.out.length<1000000000) (h2:C8 g.out<4611686018427387904):Aa pg 216 [.agg (Ba false g)] [] (fun r _=>r= .int .i64 (C8 g.out)):=by
 refine Aa.start (fn:=Tryz.f216) [.tmp 2] tk rfl rfl rfl (by kernel_rfl) (Nat.le_of_ble_eq_true rfl) rfl (by kernel_rfl) ?_
 rw[Ay]
 refine z1 ?_;intro K hK;refine zk ?_;clear hK K
 refine zs ?_
 refine zs ?_
 (repeat refine W.seq ?_);refine W.block (W.loopS (fun k:Nat=> [(3,.int .i64 (C8 (g.out.take k))),(7,Ev false g.out),(8,.int .i64 g.out.length),(9,.int .i64 k)]) (fun _=> []) (fun k=>g.out.length-k) (fun k=>k<=g.out.length) 0 (Wk.cutM (k:=0) (by simp[Ad,C8]) (by simp) (by simp) (by simp) (by simp) (by simp)) (by simp) ?_)
 intro k hk
 refine zs ?_
 refine zc ?_ ?_<;>intro h
 .refine W.skip ?_
  have hlt:k<g.out.length:=by omega
  have hs:=ML hlt
  have ht:=MK g.out (k+1)
  refine zb ?_
  refine z0 ?_;intro K hK
  refine zk ?_;clear hK K
  refine zs ?_
  refine zs ?_
  refine⟨k+1,by omega,by omega,Wk.fr (by simp[Ad,hs])⟩
 .refine W.exit ?_
  have:k=g.out.length:=by omega
  subst this
  refine zs ?_
  exact zR
theorem WW (g:Gr) (v:Int):Aa pg 228 [.agg (Ba false g),.int .i64 v] [] (fun r _=>r= .bool (decide (0<=v/\v<g.n))):=by
 refine Aa.start (fn:=Tryz.f228) [.tmp 4] tk rfl rfl rfl (by kernel_rfl) (Nat.le_of_ble_eq_true rfl) rfl (by kernel_rfl) ?_
 rw[At]
 refine z1 ?_;intro K hK;refine zk ?_;clear hK K
 by_cases h:0<=v
 .refine z0 ?_;intro K hK
  refine zk ?_;clear hK K
  exact zR
 .refine z0 ?_;intro K hK
  refine zk ?_;clear hK K
  exact zR
theorem Qc (n:Nat):CF n [AV.own 1 0 []]=AA true (List.replicate n []):=by
 induction n with
 |zero=>rfl
 |succ n ih=>rw[List.replicate_succ,D8,<-ih];rfl
theorem Y4 (n:Nat) (hn:n<1000000):Aa pg 125 [.int .i64 n] [] (fun r _=>r= .agg (Ba true ⟨n,List.replicate n []⟩)):=by
 refine Aa.start (fn:=Tryz.f125) [.cell 2 51] tk rfl rfl rfl (by kernel_rfl) (Nat.le_of_ble_eq_true rfl) rfl (by kernel_rfl) ?_
 rw[Ay]
 refine z1 ?_;intro K hK;refine zk ?_;clear hK K
 refine z1 ?_;intro K hK
 refine zk ?_;clear hK K
 refine zr ?_
 simp[Qc]
def Gk (n:Int) (l:List Int):Prop:=AJ l/\∀x∈l,x<n
instance (n:Int) (l:List Int):Decidable (Gk n l):=inferInstanceAs (Decidable (_/\_))
theorem Ot {n:Int} {l:List Int} (hm:AJ l) (h:0<l.length):Gk n l↔l[l.length-1]<n:=by
 constructor
 .intro⟨_,h2⟩;exact h2 _ (List.getElem_mem _)
 .intro h2
  refine⟨hm,fun x hx=>?_⟩
  obtain⟨i,hi,rfl⟩:=List.mem_iff_getElem.1 hx
  by_cases e:i=l.length-1
  .subst e;exact h2
  .have:=List.pairwise_iff_getElem.1 hm.2 i (l.length-1) hi (by omega) (by omega)
   omega
theorem JE {α:Type} {l:List α} {k:Nat} (hk:k<l.length) (x:α):x∈l.take (k+1)↔x∈l.take k\/x=l[k]:=by
 have e:l.take (k+1)=l.take k++[l[k]]:=by rw[List.take_add_one,List.getElem?_eq_getElem hk];rfl
 rw[e,List.mem_append,List.mem_singleton]
theorem Ky {n:Int}:∀{out:List (List Int)},(∀l∈out,Gk n l)->C8 out<=16*out.length
 | [],_=>by simp[C8]
 |l::out,h=>by
  have h1:=Bq (h l (by simp)).1
  have h2:=Ky (out:=out) fun x hx=>h x (by simp[hx])
  simp[C8] at*;omega
theorem MN (g:Gr) (hg:FL g):Aa pg 192 [.agg (Ba false g)] [] (fun r _=>r= .bool (decide (A3 g))):=by
 obtain⟨h1,h2⟩:=hg
 refine Aa.start (fn:=Tryz.f192) [.tmp 2] tk rfl rfl rfl (by kernel_rfl) (Nat.le_of_ble_eq_true rfl) rfl (by kernel_rfl) ?_
 rw[Ay]
 refine z1 ?_;intro K hK;refine zk ?_;clear hK K
 by_cases hbad:¬(0<=g.n/\g.n<=16/\(g.out.length:Int)=g.n)
 .have hm:¬A3 g:=fun h=>hbad ⟨h.1,h.2.1,h.2.2.1⟩
  (repeat refine W.seq ?_);refine W.midS (fun _:Unit=> [(20,.bool true)]) (fun _=> []) (fun _=>True) ?_ ?_
  .by_cases c1:g.n<0
   .refine z0 ?_;intro K hK
    refine zk ?_;clear hK K
    exact⟨(),trivial,Wk.cutM (k:=0) (by simp[Ad]) (by simp) (by simp) (by simp) (by simp) (by simp)⟩
   by_cases c2:16<g.n
   .refine z0 ?_;intro K hK
    refine zk ?_;clear hK K
    exact⟨(),trivial,Wk.cutM (k:=0) (by simp[Ad]) (by simp) (by simp) (by simp) (by simp) (by simp)⟩
   .have c3:¬(g.out.length:Int)=g.n:=fun e=>hbad ⟨by omega,by omega,e⟩
    refine Af c3 ?_;intro K hK
    refine zk ?_;clear hK K
    exact⟨(),trivial,Wk.cutM (k:=0) (by simp[Ad]) (by simp) (by simp) (by simp) (by simp) (by simp)⟩
  .rintro _ _
   refine zt ?_
   refine zs ?_
   refine zr ?_
   exact hm
 .have hbad:=Classical.not_not.1 hbad
  refine Af hbad.2.2 ?_;intro K hK
  refine zk ?_;clear hK K
  refine zn ?_
  refine W.skip ?_
  refine zs ?_
  (repeat refine W.seq ?_);refine W.block (W.loopS (fun k:Nat=> [(1,.ptr 0 0 0),(22,Ev false g.out),(23,.int .i64 g.out.length),(24,.int .i64 k)]) (fun _=> [.live 0 (Ba false g)]) (fun k=>g.out.length-k) (fun k=>k<=g.out.length/\∀l∈g.out.take k,Gk g.n l) 0 (Wk.fr (by simp[Ad])) (by simp) ?_)
  rintro k ⟨hk,hinv⟩
  refine zs ?_
  refine zc ?_ ?_<;>intro h
  .refine W.skip ?_
   have hlt:k<g.out.length:=by omega
   have hl2:=h2 _ (List.getElem_mem hlt)
   have hmem:=List.getElem_mem hlt
   refine zb ?_
   refine z0 ?_;intro K hK
   refine zk ?_;clear hK K
   have hmi:=JE hlt
   generalize g.out[k]=l at hl2 hmem hmi
   (repeat refine W.seq ?_);refine W.midS (fun b:Bool=> [(1,.ptr 0 0 0),(22,Ev false g.out),(23,.int .i64 g.out.length),(24,.int .i64 k),(46,.bool b)]) (fun _=> [.live 0 (Ba false g)]) (fun b=>b=false↔Gk g.n l) ?_ ?_
   .refine Cm ?_;intro K hK
    refine Ah.eq (OJ l (by omega)) (by simp) (by simp) ?_
    by_cases hm:AJ l
    .rw[decide_eq_true hm]
     by_cases h0:0<l.length
     .have hla:=Ot (n:=g.n) hm h0
      refine zx ?_
      refine zk ?_;clear hK K
      exact⟨decide (g.n<=l[l.length-1]),by rw[hla];simp,Wk.fr (by simp[Ad])⟩
     .have hl0:l=[]:=List.eq_nil_of_length_eq_zero (by omega)
      subst hl0
      refine zx ?_
      refine zk ?_;clear hK K
      exact⟨false,by simp[Gk,AJ],Wk.fr (by simp[Ad])⟩
    .rw[decide_eq_false hm]
     refine zx ?_
     refine zk ?_;clear hK K
     exact⟨true,by simp[Gk,hm],Wk.fr (by simp[Ad])⟩
   .intro b hb
    refine zc ?_ ?_<;>intro h
    .refine zs ?_
     refine zr ?_
     intro h'
     have h3:=h'.2.2.2.1 l hmem
     have h4:=hb.2 h3
     have h5:b=true:=by assumption
     rw[h4] at h5;cases h5
    .refine W.skip ?_
     refine zs ?_
     refine⟨k+1,by omega,⟨by omega,fun x hx=>?_⟩,Wk.fr (by simp[Ad])⟩
     rcases(hmi x).1 hx with h6|h6
     .exact hinv x h6
     .rw[h6];exact hb.1 (by assumption)
  .refine W.exit ?_
   have:k=g.out.length:=by omega
   subst this
   rw[List.take_length] at hinv
   refine z0 ?_;intro K hK
   refine Ab.eq (aA g h1 (by have:=Ky hinv;omega)) (by simp) (by simp) ?_
   refine zx ?_
   refine zk ?_;clear hK K
   refine zr ?_
   exact⟨fun h=>⟨hbad.1,hbad.2.1,hbad.2.2,hinv,by omega⟩,fun h=>by have:=h.2.2.2.2;omega⟩
def RA (o:Option (Nat×Nat)):AV:=match o with|some x=> .tup [.int .i64 ((x.1:Int)-1),.int .i64 x.2,.bool true] |none=> .tup [.int .i64 0,.int .i64 0,.bool false]
def GP (bs:List Bool):Option (Nat×Nat):=match A5 bs 0 with|some x=>if x.1<=17 then some x else none|none=>none
theorem UJ (b:Dh) (hb:DH b):Aa pg 196 [.agg (CI b)] [] (fun r _=>r=RA (GP (Aq b))):=by
 refine Aa.start (fn:=Tryz.f196) [.tmp 2,.tmp 3,.tmp 4] tk rfl rfl rfl (by kernel_rfl) (Nat.le_of_ble_eq_true rfl) rfl (by kernel_rfl) ?_
 rw[Ay]
 refine z1 ?_;intro K hK;refine zk ?_;clear hK K
 refine z0 ?_;intro K hK
 have sp:=G1 b 0 hb (by omega)
 cases hg:A5 (Aq b) 0 with
 |none=>
  simp only[hg,Gm] at sp
  refine Ab.eq sp (by simp) (by simp) ?_
  refine zx ?_
  refine zk ?_;clear hK K
  refine z0 ?_;intro K hK;refine zk ?_;clear hK K
  refine zt ?_
  refine z0 ?_;intro K hK;refine zk ?_;clear hK K
  refine zr ?_
  simp[GP,hg,RA]
 |some x=>
  simp only[hg,Gm] at sp
  obtain⟨hx1,hx2,hx3,hx4,_⟩:=A0 hg
  refine Ab.eq sp (by simp) (by simp) ?_
  refine zx ?_
  refine zk ?_;clear hK K
  refine z0 ?_;intro K hK;refine zk ?_;clear hK K
  refine zc ?_ ?_<;>intro h
  .refine z0 ?_;intro K hK;refine zk ?_;clear hK K
   refine zr ?_
   simp only[GP,hg];rw[if_neg (by omega)];rfl
  .refine W.skip ?_
   refine z0 ?_;intro K hK;refine zk ?_;clear hK K
   refine zr ?_
   simp only[GP,hg];rw[if_pos (by omega)];rfl
def Wu (f:Nat) (caps:List AV) (rd:Rd) (n:Nat):Prop:=∀(p:Nat) (v:Int),p<=n->0<=v/\v<1000->Aa pg f ([.int .i64 p,.int .i64 v]++caps) [] fun r _=>Kx (rd p v) r
def RB (n:Nat) (o:Option (List (List Int)×Nat)):AV:=match o with
 |some q=> .tup [.agg (Ba true ⟨n,q.1⟩),.int .i64 q.2,.bool (decide (A3 ⟨n,q.1⟩))]
 |none=> .tup [.agg (Ba true AI),.int .i64 0,.bool false]
theorem RC (f:Nat) (caps:List AV) (rd:Rd) (n p m:Nat) (hn:n<=16) (hp:p<=m) (hm:m<10000000000) (hf:Wu f caps rd m) (hrd:∀p v r,rd p v=some r->0<=v->v<1000->p<=m->r.1.length<=16/\r.2<=m) (hcv:∀M,caps.map (vw M)=caps) (hnm:∀k,Dg k caps=true):
 Aa pg 197 [.int .i64 n,.int .i64 n,.int .i64 p,.fn f caps] [] (fun r _=>r=RB n (Be rd n 0 p)):=by
 refine Aa.start (fn:=Tryz.f197) [.cell 8 51,.tmp 9,.tmp 10] tk rfl rfl rfl (by kernel_rfl) (Nat.le_of_ble_eq_true rfl) rfl (by kernel_rfl) ?_
 rw[Iz]
 refine z1 ?_;intro K hK;refine zk ?_;clear hK K
 refine z1 ?_;intro K hK
 refine Ab.eq (Y4 n (by omega)) (by simp) (by simp) ?_
 refine zx ?_
 refine zk ?_;clear hK K
 refine z0 ?_;intro K hK
 refine zk ?_;clear hK K
 (repeat refine W.seq ?_);refine W.block (W.loopS (fun s:Nat×List (List Int)×Nat=> [(2,.int .i64 s.2.2),(3,.fn f caps),(8,.ptr 0 0 0),(11,.ptr 1 0 0),(18,.int .i64 n),(19,.int .i64 s.1)]) (fun s=> [.live 0 [.int .i64 0,.own 1 0 []],.live 0 [.int .i64 n,.tok 2 0 1 0 n],.live 0 (AA true (s.2.1++List.replicate (n-s.1) []))]) (fun s=>n-s.1)
   (fun s=>s.1<=n/\s.2.1.length=s.1/\s.2.2<=m/\(∀l∈s.2.1,l.length<=16)/\Be rd n 0 p=(Be rd (n-s.1) s.1 s.2.2).map fun r=>(s.2.1++r.1,r.2)) (0,[],p) (Wk.fr (by simp[Ad])) ⟨by omega,rfl,hp,by simp,by simp⟩ ?_)
 rintro⟨k,acc,q⟩ ⟨hk,hacc,hq,hl16,hinv⟩
 simp only at hk hacc hq hl16 hinv
 refine zs ?_
 refine zc ?_ ?_<;>intro h
 .refine W.skip ?_
  obtain⟨d,hd⟩:∃d,n-k=d+1:=⟨n-k-1,by omega⟩
  have hd' :n-(k+1)=d:=by omega
  rw[hd] at hinv
  simp only[Be] at hinv
  refine zb ?_
  refine zs ?_
  refine z0 ?_;intro K hK
  have sp:=hf q k hq (by omega)
  cases hr:rd q k with
  |none=>
   simp only[hr,Kx] at sp hinv
   refine Ab.bor sp (by simp[hcv]) ?_
   rintro _ ⟨xs,a,rfl⟩
   refine⟨by simp,?_⟩
   refine zx ?_
   refine zk ?_;clear hK K
   refine zs ?_
   refine zt ?_
   refine zs ?_
   refine W.weak (Wk.thaw (B:=0) (v:=0) (j:=1) (s:=1) (n:=0) (cs:=[.int .i64 0,.own 1 0 []]) (xs:=[]) rfl rfl) ?_
   refine zr ?_
   rw[hinv];rfl
  |some r=>
   simp only[hr,Kx] at sp hinv
   have hr2:=hrd _ _ _ hr (by omega) (by omega) hq
   refine Ab.eq sp (by simp[hcv]) (by simp) ?_
   refine zx ?_
   refine zk ?_;clear hK K
   refine zs ?_
   refine zn ?_
   refine W.skip ?_
   refine z0 ?_;intro K hK
   refine zk ?_;clear hK K
   refine zs ?_
   have hln:(AA true (acc++List.replicate (n-k) [])).length=n:=by simp;omega
   refine⟨(k+1,acc++[r.1],r.2),by simp;omega,⟨by simp;omega,by simp;omega,hr2.2,?_,?_⟩,(Wk.intern (B:=2) (v:=0) (j:=k) (T:=3) (u:=0) (s:=1) (off:=0) (n:=r.1.length) (cs:=(AA true (acc++List.replicate (n-k) [])).set k (AV.tok 3 0 1 0 r.1.length)) (xs:=Ae r.1) (by simp) ?_ (by simp) (by simp) (by simp) (by simp)).trans (Wk.cutM (k:=3) (by simp[Ad]) ?_ (by simp) (by simp[hnm]) (by simp) (by simp))⟩
   .intro l hl
    simp at hl
    rcases hl with hl|rfl
    .exact hl16 l hl
    .exact hr2.1
   .rw[hinv,hd']
    simp only[Int.natCast_add,Int.cast_ofNat_Int]
    cases Be rd d ((k:Int)+1) r.2<;>simp
   .rw[List.getElem?_set_self (by omega)]
   .have e:n-k=(n-(k+1))+1:=by omega
    rw[e,List.replicate_succ]
    simp[AA,<-hacc,Ae];rw[List.take_of_length_le (by simp)]
 .refine W.exit ?_
  have hkn:k=n:=by omega
  subst hkn
  simp[Be] at hinv
  subst hacc
  refine Cm ?_;intro K hK
  refine Ah.eq (MN ⟨acc.length,acc⟩ ⟨by simp;omega,fun l hl=>by have:=hl16 l hl;omega⟩) (by simp) (by simp) ?_
  refine zx ?_
  refine zk ?_;clear hK K
  refine zr ?_
  rw[hinv]
  simp[RB]
def Ou (o:Option Gr) (r:AV):Prop:=match o with
 |some g=>r= .tup [.agg (Ba true g),.bool true]
 |none=>∃g:Gr,r= .tup [.agg (Ba true g),.bool false]
theorem Ov (bs:List Bool) (rd:Rd):CK bs rd=match GP bs with
 |none=>none
 |some x=>match Be rd (x.1-1) 0 x.2 with
  |none=>none
  |some r=>if r.2=bs.length/\A3 ⟨(x.1:Int)-1,r.1⟩ then some ⟨(x.1:Int)-1,r.1⟩ else none:=by
 unfold CK GP
 cases A5 bs 0 with
 |none=>rfl
 |some x=>simp only;split<;>rfl
theorem Wv (b:Dh) (hb:DH b):Wu 198 [.rptr (CI b)] (De (Aq b)) (Aq b).length:=by
 intro p v hp hv
 have hl:=Cw b
 have h2:=hb.2.1;have h3:=hb.2.2;have h0:=hb.1
 refine Aa.start (fn:=Tryz.f198) [.tmp 5,.tmp 6,.tmp 7] tk rfl rfl rfl (by kernel_rfl) (Nat.le_of_ble_eq_true rfl) rfl (by kernel_rfl) ?_
 simp only[List.cons_append,List.nil_append]
 rw[Bl]
 refine zs ?_
 refine z0 ?_;intro K hK
 have sp:=MJ b p v hb (by omega) (by omega)
 cases hr:De (Aq b) p v with
 |none=>
  simp only[hr,Kx] at sp
  refine Ab.bor sp (by simp) ?_
  rintro _ ⟨xs,a,rfl⟩
  refine⟨by simp,?_⟩
  refine zx ?_
  refine zk ?_;clear hK K
  refine zr ?_
  rw[hr]
  exact⟨xs,a,rfl⟩
 |some r=>
  simp only[hr,Kx] at sp
  refine Ab.eq sp (by simp) (by simp) ?_
  refine zx ?_
  refine zk ?_;clear hK K
  refine zr ?_
  rw[hr]
  rfl
theorem Y5 (b:Dh) (hb:DH b):Aa pg 164 [.agg (CI b)] [] (fun r _=>Ou (BD (Aq b)) r):=by
 have hl:=Cw b
 have h2:=hb.2.1;have h3:=hb.2.2;have h0:=hb.1
 have e0:=Ov (Aq b) (De (Aq b))
 refine Aa.start (fn:=Tryz.f164) [.cell 2 51,.tmp 3] tk rfl rfl rfl (by kernel_rfl) (Nat.le_of_ble_eq_true rfl) rfl (by kernel_rfl) ?_
 rw[Ay]
 refine z2 ?_;intro K hK;refine zk ?_;clear hK K
 refine z0 ?_;intro K hK
 have sp:=UJ b hb
 cases hh:GP (Aq b) with
 |none=>
  simp only[hh,RA] at sp e0
  refine Ab.eq sp (by simp) (by simp) ?_
  refine zx ?_
  refine zk ?_;clear hK K
  refine zs ?_
  refine zt ?_
  refine zs ?_
  refine W.weak (Wk.thaw (B:=1) (v:=0) (j:=1) (s:=1) (n:=0) (cs:=[.int .i64 0,.own 1 0 []]) (xs:=[]) rfl rfl) ?_
  refine zr ?_
  rw[BD,e0]
  exact⟨AI,rfl⟩
 |some x=>
  have hx:x.1<=17/\A5 (Aq b) 0=some x:=by
   unfold GP at hh
   split at hh
   .rename_i y hy
    split at hh
    .simp at hh;subst hh;exact⟨by assumption,hy⟩
    .simp at hh
   .simp at hh
  obtain⟨hx1,hx2,hx3,hx4,_⟩:=A0 hx.2
  have ex:(x.1:Int)-1=((x.1-1:Nat):Int):=by omega
  simp only[hh,RA] at sp e0
  rw[ex] at sp e0
  refine Ab.eq sp (by simp) (by simp) ?_
  refine zx ?_
  refine zk ?_;clear hK K
  refine zs ?_
  refine zn ?_
  refine W.skip ?_
  refine z1 ?_;intro K hK
  have sp:=RC 198 [.rptr (CI b)] (De (Aq b)) (x.1-1) x.2 (Aq b).length (by omega) (by omega) (by omega) (Wv b hb) (fun p v r h h1 h2 h3=>by have:=Jo (by omega) h;exact⟨this.2.1,this.2.2.2⟩) (by simp) (by simp)
  cases hli:Be (De (Aq b)) (x.1-1) 0 x.2 with
  |none=>
   simp only[hli,RB] at sp e0
   refine Ab.eq sp (by simp) (by simp[AI]) ?_
   refine zx ?_
   refine zk ?_;clear hK K
   (repeat refine W.seq ?_);refine W.regdX 0 [(31,2),(31,27)] rfl true Cz (by kernel_rfl) fun K hK=>?_;simp -implicitDefEqProofs (maxSteps:=999999) (disch:=omega)
   (repeat refine⟨by first|assumption|omega,?_⟩);refine hK _ _ (by simp(disch:=omega)) ?_;clear hK K
   refine zr ?_
   rw[BD,e0]
   exact⟨AI,rfl⟩
  |some q=>
   simp only[hli,RB] at sp e0
   refine Ab.eq sp (by simp) (by simp) ?_
   by_cases hm:A3 ⟨((x.1-1:Nat):Int),q.1⟩
   .rw[decide_eq_true hm]
    refine zx ?_
    refine zk ?_;clear hK K
    (repeat refine W.seq ?_);refine W.regdX 0 [(31,2),(31,27)] rfl true Cz (by kernel_rfl) fun K hK=>?_;simp -implicitDefEqProofs (maxSteps:=999999) (disch:=omega)
    (repeat refine⟨by first|assumption|omega,?_⟩);refine hK _ _ (by simp(disch:=omega)) ?_;clear hK K
    refine zr ?_
    rw[BD,e0]
    by_cases hq:q.2=(Aq b).length
    .rw[if_pos ⟨hq,hm⟩]
     simp[Ou]
     omega
    .rw[if_neg (fun h=>hq h.1)]
     refine⟨⟨((x.1-1:Nat):Int),q.1⟩,?_⟩
     simp
     omega
   .rw[decide_eq_false hm]
    refine zx ?_
    refine zk ?_;clear hK K
    (repeat refine W.seq ?_);refine W.regdX 0 [(31,2),(31,27)] rfl true Cz (by kernel_rfl) fun K hK=>?_;simp -implicitDefEqProofs (maxSteps:=999999) (disch:=omega)
    (repeat refine⟨by first|assumption|omega,?_⟩);refine hK _ _ (by simp(disch:=omega)) ?_;clear hK K
    refine zr ?_
    rw[BD,e0,if_neg (fun h=>hm h.2)]
    exact⟨⟨((x.1-1:Nat):Int),q.1⟩,by simp⟩
theorem RD (g:Gr) (v:Int) (h0:0<=v) (hg:(g.out.length:Int)=g.n):Aa pg 202 [.agg (Ba false g),.int .i64 v] [] (fun r _=>r= .ro (AH g v).length (Ae (AH g v))\/AH g v=[]/\r= .own 1 0 []):=by
 refine Aa.start (fn:=Tryz.f202) [.tmp 4] tk rfl rfl rfl (by kernel_rfl) (Nat.le_of_ble_eq_true rfl) rfl (by kernel_rfl) ?_
 rw[At]
 refine z1 ?_;intro K hK;refine zk ?_;clear hK K
 refine z0 ?_;intro K hK
 refine Ab.eq (WW g v) (by simp) (by simp) ?_
 by_cases h:0<=v/\v<g.n
 .rw[decide_eq_true h]
  refine zx ?_
  refine zk ?_;clear hK K
  refine zn ?_
  refine W.skip ?_
  obtain⟨n,rfl⟩:=Int.eq_ofNat_of_zero_le h.1
  have hlt:n<g.out.length:=by omega
  (repeat refine W.seq ?_);refine W.reg 0 rfl fun K hK=>?_;simp -implicitDefEqProofs (maxSteps:=999999) (disch:=omega) [hlt]
  refine zk ?_;clear hK K
  refine zr ?_
  simp[AH,List.getD,hlt]
 .rw[decide_eq_false h]
  refine zx ?_
  refine zk ?_;clear hK K
  refine zt ?_
  refine zs ?_
  refine zr ?_
  show AH g v=[]
  unfold AH
  rw[List.getD_eq_getElem?_getD,List.getElem?_eq_none (by omega)]
  rfl
theorem MO {bs:List Bool} {p:Nat} {v:Int} {ref:List Int} {r:List Int×Nat} (hv:-100000<=v/\v<=100000) (h:CA bs p v ref=some r):AJ r.1/\r.1.length<=16/\r.2<=bs.length:=by
 unfold CA at h
 split at h
 .simp at h
 .split at h
  .split at h
   .simp at h
   .split at h
    .simp at h
    .rename_i r0 hr0
     have g0:=Jo hv hr0
     split at h
     .rename_i l hl
      simp at h;subst h
      unfold Cv at hl
      split at hl
      .simp at hl
      .split at hl
       .rename_i hm
        simp at hl;subst hl
        exact⟨hm.1,Bq hm.1,g0.2.2.2⟩
       .simp at hl
     .simp at h
  .simp at h
theorem Ww (b:Dh) (g:Gr) (hb:DH b) (hg:A3 g):Wu 200 [.rptr (CI b),.rptr (Ba false g)] (fun p v=>CA (Aq b) p v (AH g v)) (Aq b).length:=by
 intro p v hp hv
 have hl:=Cw b
 have h2:=hb.2.1;have h3:=hb.2.2;have h0:=hb.1
 have hbl:(AH g v).length<=16:=by
  unfold AH
  rw[List.getD_eq_getElem?_getD]
  cases hq:g.out[v.toNat]? with
  |none=>simp
  |some l=>exact Bq (hg.2.2.2.1 l (List.mem_of_getElem? hq)).1
 refine Aa.start (fn:=Tryz.f200) [.tmp 6,.tmp 7,.tmp 8] tk rfl rfl rfl (by kernel_rfl) (Nat.le_of_ble_eq_true rfl) rfl (by kernel_rfl) ?_
 simp only[List.cons_append,List.nil_append]
 rw[Iz]
 refine zs ?_
 refine Cm ?_;intro K hK
 refine⟨_,_,RD g v hv.1 hg.2.2.1,.inr ⟨by simp,?_⟩⟩
 have sp:=Qb b p v (AH g v) hb (by omega) (by omega) (by omega)
 rintro r hr
 cases hc:CA (Aq b) p v (AH g v) with
 |none=>
  simp only[hc,Kx] at sp
  rcases hr with rfl| ⟨h1,rfl⟩
  .refine zx ?_
   refine⟨_,_,sp,.inr ⟨by simp,?_⟩⟩
   rintro _ ⟨xs,a,rfl⟩
   refine zx ?_
   refine zk ?_;clear hK K
   refine zr ?_
   rw[hc]
   exact⟨xs,a,rfl⟩
  .refine zx ?_
   rw[h1] at sp
   refine⟨_,_,sp,.inl ⟨rfl,⟨[],by simp[Bw]⟩,?_⟩⟩
   rintro _ ⟨xs,a,rfl⟩
   refine⟨by simp,?_⟩
   refine zx ?_
   refine zk ?_;clear hK K
   refine zr ?_
   rw[hc]
   exact⟨xs,a,rfl⟩
 |some q=>
  simp only[hc,Kx] at sp
  rcases hr with rfl| ⟨h1,rfl⟩
  .refine zx ?_
   refine Ah.eqr sp (by simp) ?_
   refine zx ?_
   refine zk ?_;clear hK K
   refine zr ?_
   rw[hc]
   rfl
  .refine zx ?_
   rw[h1] at sp
   refine Ah.eq sp (by simp) (by simp) ?_
   refine zx ?_
   refine zk ?_;clear hK K
   refine zr ?_
   rw[hc]
   rfl
theorem Y6 (b:Dh) (g:Gr) (hb:DH b) (hg:A3 g):Aa pg 165 [.agg (Ba false g),.agg (CI b)] [] (fun r _=>Ou (BK g (Aq b)) r):=by
 have hl:=Cw b
 have h2:=hb.2.1;have h3:=hb.2.2;have h0:=hb.1
 have e0:=Ov (Aq b) (fun p v=>CA (Aq b) p v (AH g v))
 refine Aa.start (fn:=Tryz.f165) [.cell 4 51,.tmp 5] tk rfl rfl rfl (by kernel_rfl) (Nat.le_of_ble_eq_true rfl) rfl (by kernel_rfl) ?_
 rw[At]
 refine z3 ?_;intro K hK;refine zk ?_;clear hK K
 refine z0 ?_;intro K hK
 have sp:=UJ b hb
 cases hh:GP (Aq b) with
 |none=>
  simp only[hh,RA] at sp e0
  refine Ab.eq sp (by simp) (by simp) ?_
  refine zx ?_
  refine zk ?_;clear hK K
  refine zs ?_
  refine zt ?_
  refine zs ?_
  refine W.weak (Wk.thaw (B:=2) (v:=0) (j:=1) (s:=1) (n:=0) (cs:=[.int .i64 0,.own 1 0 []]) (xs:=[]) rfl rfl) ?_
  refine zr ?_
  rw[BK,e0]
  exact⟨AI,rfl⟩
 |some x=>
  have hx:x.1<=17/\A5 (Aq b) 0=some x:=by
   unfold GP at hh
   split at hh
   .rename_i y hy
    split at hh
    .simp at hh;subst hh;exact⟨by assumption,hy⟩
    .simp at hh
   .simp at hh
  obtain⟨hx1,hx2,hx3,hx4,_⟩:=A0 hx.2
  have ex:(x.1:Int)-1=((x.1-1:Nat):Int):=by omega
  simp only[hh,RA] at sp e0
  rw[ex] at sp e0
  refine Ab.eq sp (by simp) (by simp) ?_
  refine zx ?_
  refine zk ?_;clear hK K
  refine zs ?_
  refine zn ?_
  refine W.skip ?_
  refine z1 ?_;intro K hK
  have sp:=RC 200 [.rptr (CI b),.rptr (Ba false g)] (fun p v=>CA (Aq b) p v (AH g v)) (x.1-1) x.2 (Aq b).length (by omega) (by omega) (by omega) (Ww b g hb hg) (fun p v r h h1 h2 h3=>by have:=MO (by omega) h;exact⟨this.2.1,this.2.2⟩) (by simp) (by simp)
  cases hli:Be (fun p v=>CA (Aq b) p v (AH g v)) (x.1-1) 0 x.2 with
  |none=>
   simp only[hli,RB] at sp e0
   refine Ab.eq sp (by simp) (by simp[AI]) ?_
   refine zx ?_
   refine zk ?_;clear hK K
   (repeat refine W.seq ?_);refine W.regdX 0 [(33,4),(33,29)] rfl true Cz (by kernel_rfl) fun K hK=>?_;simp -implicitDefEqProofs (maxSteps:=999999) (disch:=omega)
   (repeat refine⟨by first|assumption|omega,?_⟩);refine hK _ _ (by simp(disch:=omega)) ?_;clear hK K
   refine zr ?_
   rw[BK,e0]
   exact⟨AI,rfl⟩
  |some q=>
   simp only[hli,RB] at sp e0
   refine Ab.eq sp (by simp) (by simp) ?_
   by_cases hm:A3 ⟨((x.1-1:Nat):Int),q.1⟩
   .rw[decide_eq_true hm]
    refine zx ?_
    refine zk ?_;clear hK K
    (repeat refine W.seq ?_);refine W.regdX 0 [(33,4),(33,29)] rfl true Cz (by kernel_rfl) fun K hK=>?_;simp -implicitDefEqProofs (maxSteps:=999999) (disch:=omega)
    (repeat refine⟨by first|assumption|omega,?_⟩);refine hK _ _ (by simp(disch:=omega)) ?_;clear hK K
    refine zr ?_
    rw[BK,e0]
    by_cases hq:q.2=(Aq b).length
    .rw[if_pos ⟨hq,hm⟩]
     simp[Ou]
     omega
    .rw[if_neg (fun h=>hq h.1)]
     refine⟨⟨((x.1-1:Nat):Int),q.1⟩,?_⟩
     simp
     omega
   .rw[decide_eq_false hm]
    refine zx ?_
    refine zk ?_;clear hK K
    (repeat refine W.seq ?_);refine W.regdX 0 [(33,4),(33,29)] rfl true Cz (by kernel_rfl) fun K hK=>?_;simp -implicitDefEqProofs (maxSteps:=999999) (disch:=omega)
    (repeat refine⟨by first|assumption|omega,?_⟩);refine hK _ _ (by simp(disch:=omega)) ?_;clear hK K
    refine zr ?_
    rw[BK,e0,if_neg (fun h=>hm h.2)]
    exact⟨⟨((x.1-1:Nat):Int),q.1⟩,by simp⟩
theorem MP (xs:List Obj) (f:Nat) (caps:List AV) (p:Obj->Bool) (hx:xs.length<1000000000000) (hf:∀x∈xs,Aa pg f ([.agg (As x)]++caps) [] fun r _=>r= .bool (p x)) (hcv:∀M,caps.map (vw M)=caps):
 Aa pg 210 [.ro xs.length (Ac As xs),.fn f caps] [] (fun r _=>r= .int .i64 (AL p xs)):=by
 refine Aa.start (fn:=Tryz.f210) [.tmp 4] tk rfl rfl rfl (by kernel_rfl) (Nat.le_of_ble_eq_true rfl) rfl (by kernel_rfl) ?_
 rw[At]
 refine zs ?_
 refine zs ?_
 (repeat refine W.seq ?_);refine W.block (W.loopS (fun k:Nat=> [(0,.ro xs.length (Ac As xs)),(1,.fn f caps),(7,.int .i64 xs.length),(8,.int .i64 k)]) (fun _=> []) (fun k=>xs.length-k) (fun k=>k<=xs.length/\∀i (h:i<xs.length),i<k->p xs[i]=false) 0 (Wk.fr ?_) (by simp) ?_)
 .simp[Ad]
 .rintro k ⟨hk,ht⟩
  refine zs ?_
  refine zc ?_ ?_<;>intro h
  .refine W.skip ?_
   have hlt:k<xs.length:=by omega
   refine zb ?_
   refine zs ?_
   (repeat refine W.seq ?_);refine W.reg 0 rfl fun K hK=>?_;simp -implicitDefEqProofs (maxSteps:=999999) (disch:=omega) [hlt]
   have sp:=hf xs[k] (List.getElem_mem hlt)
   refine Ab.eq sp (by simp[hcv]) (by simp) ?_
   refine zx ?_
   refine zk ?_;clear hK K
   cases hp:p xs[k]
   .refine zn ?_
    refine W.skip ?_
    refine zs ?_
    refine⟨k+1,by omega,⟨by omega,?_⟩,Wk.fr (by simp[Ad])⟩
    intro i hi hik
    by_cases e:i=k
    .subst e;exact hp
    .exact ht i hi (by omega)
   .refine zt ?_
    refine zs ?_
    refine zr ?_
    exact(Ei hlt hp fun i hi hik=>ht i hi hik).symm
  .refine W.exit ?_
   refine zs ?_
   refine zr ?_
   exact(EC fun i hi=>ht i hi (by omega)).symm
theorem Jp (xs:List AM) (f:Nat) (caps:List AV) (p:AM->Bool) (hx:xs.length<1000000000000) (hf:∀x∈xs,Aa pg f ([.agg (Au x)]++caps) [] fun r _=>r= .bool (p x)) (hcv:∀M,caps.map (vw M)=caps):
 Aa pg 123 [.ro xs.length (Ac Au xs),.fn f caps] [] (fun r _=>r= .int .i64 (AL p xs)):=by
 refine Aa.start (fn:=Tryz.f123) [.tmp 4] tk rfl rfl rfl (by kernel_rfl) (Nat.le_of_ble_eq_true rfl) rfl (by kernel_rfl) ?_
 rw[At]
 refine zs ?_
 refine zs ?_
 (repeat refine W.seq ?_);refine W.block (W.loopS (fun k:Nat=> [(0,.ro xs.length (Ac Au xs)),(1,.fn f caps),(7,.int .i64 xs.length),(8,.int .i64 k)]) (fun _=> []) (fun k=>xs.length-k) (fun k=>k<=xs.length/\∀i (h:i<xs.length),i<k->p xs[i]=false) 0 (Wk.fr ?_) (by simp) ?_)
 .simp[Ad]
 .rintro k ⟨hk,ht⟩
  refine zs ?_
  refine zc ?_ ?_<;>intro h
  .refine W.skip ?_
   have hlt:k<xs.length:=by omega
   refine zb ?_
   refine zs ?_
   (repeat refine W.seq ?_);refine W.reg 0 rfl fun K hK=>?_;simp -implicitDefEqProofs (maxSteps:=999999) (disch:=omega) [hlt]
   have sp:=hf xs[k] (List.getElem_mem hlt)
   refine Ab.eq sp (by simp[hcv]) (by simp) ?_
   refine zx ?_
   refine zk ?_;clear hK K
   cases hp:p xs[k]
   .refine zn ?_
    refine W.skip ?_
    refine zs ?_
    refine⟨k+1,by omega,⟨by omega,?_⟩,Wk.fr (by simp[Ad])⟩
    intro i hi hik
    by_cases e:i=k
    .subst e;exact hp
    .exact ht i hi (by omega)
   .refine zt ?_
    refine zs ?_
    refine zr ?_
    exact(Ei hlt hp fun i hi hik=>ht i hi hik).symm
  .refine W.exit ?_
   refine zs ?_
   refine zr ?_
   exact(EC fun i hi=>ht i hi (by omega)).symm
theorem ST (xs:List CZ) (f:Nat) (caps:List AV) (p:CZ->Bool) (hx:xs.length<1000000000000) (hf:∀x∈xs,Aa pg f ([.agg ((Az false) x)]++caps) [] fun r _=>r= .bool (p x)) (hcv:∀M,caps.map (vw M)=caps):
 Aa pg 189 [.ro xs.length (Ac (Az false) xs),.fn f caps] [] (fun r _=>r= .int .i64 (AL p xs)):=by
 refine Aa.start (fn:=Tryz.f189) [.tmp 4] tk rfl rfl rfl (by kernel_rfl) (Nat.le_of_ble_eq_true rfl) rfl (by kernel_rfl) ?_
 rw[At]
 refine zs ?_
 refine zs ?_
 (repeat refine W.seq ?_);refine W.block (W.loopS (fun k:Nat=> [(0,.ro xs.length (Ac (Az false) xs)),(1,.fn f caps),(7,.int .i64 xs.length),(8,.int .i64 k)]) (fun _=> []) (fun k=>xs.length-k) (fun k=>k<=xs.length/\∀i (h:i<xs.length),i<k->p xs[i]=false) 0 (Wk.fr ?_) (by simp) ?_)
 .simp[Ad]
 .rintro k ⟨hk,ht⟩
  refine zs ?_
  refine zc ?_ ?_<;>intro h
  .refine W.skip ?_
   have hlt:k<xs.length:=by omega
   refine zb ?_
   refine zs ?_
   (repeat refine W.seq ?_);refine W.reg 0 rfl fun K hK=>?_;simp -implicitDefEqProofs (maxSteps:=999999) (disch:=omega) [hlt]
   have sp:=hf xs[k] (List.getElem_mem hlt)
   refine Ab.eq sp (by simp[hcv]) (by simp) ?_
   refine zx ?_
   refine zk ?_;clear hK K
   cases hp:p xs[k]
   .refine zn ?_
    refine W.skip ?_
    refine zs ?_
    refine⟨k+1,by omega,⟨by omega,?_⟩,Wk.fr (by simp[Ad])⟩
    intro i hi hik
    by_cases e:i=k
    .subst e;exact hp
    .exact ht i hi (by omega)
   .refine zt ?_
    refine zs ?_
    refine zr ?_
    exact(Ei hlt hp fun i hi hik=>ht i hi hik).symm
  .refine W.exit ?_
   refine zs ?_
   refine zr ?_
   exact(EC fun i hi=>ht i hi (by omega)).symm
theorem OC (xs:List AM) (f:Nat) (caps:List AV) (p:AM->Bool) (hx:xs.length<1000000000000) (hf:∀x∈xs,Aa pg f ([.agg (Au x)]++caps) [] fun r _=>r= .bool (p x)) (hcv:∀M,caps.map (vw M)=caps) (hcc:∀M k,caps.map (CG M k)=caps):
 Aa pg 131 [.ro xs.length (Ac Au xs),.fn f caps] [] (fun r _=>r= .bool (xs.any p)):=by
 refine Aa.start (fn:=Tryz.f131) [.tmp 4] tk rfl rfl rfl (by kernel_rfl) (Nat.le_of_ble_eq_true rfl) rfl (by kernel_rfl) ?_
 rw[At]
 refine zs ?_
 refine z0 ?_;intro K hK
 refine Ab.eq (Jp xs f caps p hx hf hcv) (by simp[hcc]) (by simp) ?_
 refine zx ?_
 refine zk ?_;clear hK K
 refine zr ?_
 rw[Bool.eq_iff_iff]
 simp[CM]
theorem Y7 (o:Obj) (id:Int):Aa pg 214 ([.agg (As o)]++[.rptr [.int .i64 id]]) [] (fun r _=>r= .bool (decide (o.id=id))):=by
 refine Aa.start (fn:=Tryz.f214) [.tmp 3] tk rfl rfl rfl (by kernel_rfl) (Nat.le_of_ble_eq_true rfl) rfl (by kernel_rfl) ?_
 simp only[List.cons_append,List.nil_append]
 rw[At]
 refine z1 ?_;intro K hK;refine zk ?_;clear hK K
 refine zs ?_
 exact zR
theorem MQ (xs:List Obj) (id:Int) (hx:xs.length<1000000000000):Aa pg 177 [.ro xs.length (Ac As xs),.int .i64 id] [] (fun r _=>r= .int .i64 (AL (fun o=>decide (o.id=id)) xs)):=by
 refine Aa.start (fn:=Tryz.f177) [.tmp 4] tk rfl rfl rfl (by kernel_rfl) (Nat.le_of_ble_eq_true rfl) rfl (by kernel_rfl) ?_
 rw[At]
 refine z1 ?_;intro K hK;refine zk ?_;clear hK K
 refine z0 ?_;intro K hK
 refine Ab.eq (MP xs 214 [.rptr [.int .i64 id]] (fun o=>decide (o.id=id)) hx (fun o _=>Y7 o id) (by simp)) (by simp) (by simp) ?_
 refine zx ?_
 refine zk ?_;clear hK K
 exact zR
theorem Wx (x y:Nat) (hx:x<256) (hy:y<256):CN .and (.int .u8 x) (.int .u8 y)=some (.int .u8 ((x&&&y:Nat):Int)):=by
 rw[Nm]
 have e (n:Nat) (h:n<256):(BitVec.ofInt IntKind.u8.bits (n:Int)).toNat=n:=by
  rw[BitVec.toNat_ofInt];simp[IntKind.bits] at*;omega
 have e1:(BitVec.ofInt IntKind.u8.bits (x:Int)&&&BitVec.ofInt IntKind.u8.bits (y:Int)).toNat=x&&&y:=by
  rw[BitVec.toNat_and,e x hx,e y hy]
 have h4:x&&&y<256:=Nat.lt_of_le_of_lt Nat.and_le_left hx
 rw[e1]
 simp[IntKind.wrap,IntKind.bits,IntKind.signed]
 omega
theorem UK:∀x:Fin 256,∀l:Fin 8,((x.val&&&(255/2^l.val))=0↔∀j:Fin 8,l<=j->x.val/2^(7-j.val)%2≠1):=by decide+kernel
theorem UL {b:Dh} (h0:0<=b.n) (h1:b.n<=6000) (h:(b.data.size:Int)=(b.n+8-1)/8) (h2:¬b.n%8=0):Di b↔(Db b.data (b.data.size-1)&&&(255/2^(b.n%8).toNat))=0:=by
 have hl:=UK ⟨_,H6 b.data (b.data.size-1)⟩ ⟨(b.n%8).toNat,by omega⟩
 simp only at hl
 rw[hl]
 refine⟨fun g j hj=>?_,fun g=>⟨h0,h1,by omega,fun i hi hn=>?_⟩⟩
 .have hj2:=Fin.le_def.1 hj
  simp only at hj2
  have:=g.2.2.2 (8*(b.data.size-1)+j) (by omega) (by omega)
  simp only[EK,decide_eq_false_iff_not] at this
  rw[show(8*(b.data.size-1)+j.val)/8=b.data.size-1 by omega,show(8*(b.data.size-1)+j.val)%8=j.val by omega] at this
  exact this
 .have:=g ⟨i%8,by omega⟩ (Fin.le_def.2 (by simp only;omega))
  simp only[EK,decide_eq_false_iff_not]
  rw[show i/8=b.data.size-1 by omega]
  exact this
theorem UM (b:Dh) (h3:b.data.size<1000000000):Aa pg 118 [.agg (CI b)] [] (fun r _=>r= .bool (decide (Di b))):=by
 refine Aa.start (fn:=Tryz.f118) [.tmp 2] tk rfl rfl rfl (by kernel_rfl) (Nat.le_of_ble_eq_true rfl) rfl (by kernel_rfl) ?_
 rw[Ay]
 refine z1 ?_;intro K hK;refine zk ?_;clear hK K
 by_cases h0:b.n<0
 .refine Af h0 ?_;intro K hK
  refine zk ?_;clear hK K
  refine zt ?_
  refine zs ?_
  refine zr ?_
  intro h;have:=h.1;omega
 .by_cases h1:b.n<=6000
  .refine Af (an h0 h1) ?_;intro K hK
   refine zk ?_;clear hK K
   refine zc ?_ ?_<;>intro h
   .refine zs ?_
    refine zr ?_
    intro g;have:=g.2.2.1;omega
   .refine W.skip ?_
    refine zs ?_
    by_cases h2:b.n%8=0
    .refine Bx h2 ?_;intro K hK
     refine zk ?_;clear hK K
     refine zr ?_
     refine⟨by omega,h1,by omega,fun i hi hn=>by omega⟩
    .have e:((255:Int)/2^(b.n%8).toNat)=((255/2^(b.n%8).toNat:Nat):Int):=by simp
     have h8:255/2^(b.n%8).toNat<256:=Nat.lt_of_le_of_lt (Nat.div_le_self _ _) (by omega)
     refine Bx h2 ?_;intro K hK
     refine⟨by omega,?_⟩
     rw[e,Wx _ _ (H6 _ _) h8]
     simp
     refine zk ?_;clear hK K
     refine zr ?_
     rw[UL (by omega) h1 h h2]
  .refine Af (an h0 h1) ?_;intro K hK
   refine zk ?_;clear hK K
   refine zt ?_
   refine zs ?_
   refine zr ?_
   intro h;have:=h.2.1;omega
theorem aB {α:Type} (f:α->Int) (l:List α):l.Pairwise (fun a b=>f a<f b)↔∀k (h:k<l.length),0<k->f (l[k-1]'(by omega))<f l[k]:=by
 constructor
 .intro h k hk h0
  exact List.pairwise_iff_getElem.1 h (k-1) k (by omega) hk (by omega)
 .intro h
  rw[List.pairwise_iff_getElem]
  intro i j hi hj hij
  induction j with
  |zero=>omega
  |succ j ih=>
   have h1:=h (j+1) hj (by omega)
   simp only[Nat.add_sub_cancel] at h1
   by_cases e:i=j
   .subst e;exact h1
   .have:=ih (by omega) (by omega);omega
def En (l:List Obj):Prop:=l.length<1000000000000/\∀o∈l,o.data.data.size<1000000000
def MR (l:List Obj) (o:Obj):Prop:=1<=o.id/\o.id<=1048576/\Di o.data/\o.base≠o.id/\(o.base=0\/∃q∈l,q.id=o.base)
theorem LJ (l:List Obj):Ca l↔l.length<=12/\∀k (h:k<l.length),MR l l[k]/\(0<k->l[k-1].id<l[k].id):=by
 unfold Ca
 rw[aB (fun o:Obj=>o.id)]
 constructor
 .rintro⟨h1,h2,h3⟩
  exact⟨h1,fun k h=>⟨h2 _ (List.getElem_mem h),h3 k h⟩⟩
 .rintro⟨h1,h2⟩
  refine⟨h1,fun o ho=>?_,fun k h=>(h2 k h).2⟩
  obtain⟨k,hk,rfl⟩:=List.mem_iff_getElem.1 ho
  exact(h2 k hk).1
theorem UN (xs:List Obj) (hx:En xs):Aa pg 172 [.ro xs.length (Ac As xs)] [] (fun r _=>r= .bool (decide (Ca xs))):=by
 have hx1:=hx.1
 refine Aa.start (fn:=Tryz.f172) [.tmp 2] tk rfl rfl rfl (by kernel_rfl) (Nat.le_of_ble_eq_true rfl) rfl (by kernel_rfl) ?_
 rw[Ay]
 refine zs ?_
 refine zs ?_
 refine zc ?_ ?_<;>intro h
 .refine zs ?_
  refine zr ?_
  intro g;have:=g.1;omega
 .refine W.skip ?_
  refine zs ?_
  (repeat refine W.seq ?_);refine W.block (W.loopS (fun k:Nat=> [(0,.ro xs.length (Ac As xs)),(8,.ro xs.length (Ac As xs)),(9,.int .i64 xs.length),(10,.int .i64 k)]) (fun _=> []) (fun k=>xs.length-k) (fun k=>k<=xs.length/\∀i (h:i<xs.length),i<k->MR xs xs[i]/\(0<i->xs[i-1].id<xs[i].id)) 0 (Wk.fr ?_) (by simp) ?_)
  .simp[Ad]
  .rintro k ⟨hk,ht⟩
   refine zs ?_
   refine zc ?_ ?_<;>intro h
   .refine W.skip ?_
    have hlt:k<xs.length:=by omega
    have hB:=UM xs[k].data (hx.2 _ (List.getElem_mem hlt))
    refine zb ?_
    (repeat refine W.seq ?_);refine W.reg 1 rfl fun K hK=>?_;simp -implicitDefEqProofs (maxSteps:=999999) (disch:=omega) [hlt]
    refine zk ?_;clear hK K
    have bad:¬(MR xs xs[k]/\(0<k->xs[k-1].id<xs[k].id))->¬Ca xs:=fun g h=>g (((LJ xs).1 h).2 k hlt)
    by_cases c1:xs[k].id<1
    .refine Bx c1 ?_;intro K hK
     refine zk ?_;clear hK K
     refine zt ?_
     refine zs ?_
     refine zr ?_
     exact bad fun g=>by have:=g.1.1;omega
    .by_cases c2:xs[k].id<=1048576
     .by_cases c3:0<k/\xs[k].id<=xs[k-1].id
      .have c3a:=c3.1
       have c3b:=c3.2
       refine Bx (an c1 (an c2 (an c3a c3b))) ?_;intro K hK
       refine⟨by omega,?_⟩
       refine zk ?_;clear hK K
       refine zt ?_
       refine zs ?_
       refine zr ?_
       exact bad fun g=>by have:=g.2 c3a;omega
      .have key:(¬0<k/\True)\/(0<k/\¬xs[k].id<=xs[k-1].id):=by
        by_cases c4:0<k
        .exact .inr ⟨c4,fun h=>c3 ⟨c4,h⟩⟩
        .exact .inl ⟨c4,trivial⟩
       rcases key with⟨c4,c5⟩ | ⟨c4,c5⟩
       all_goals
        refine Bx (an c1 (an c2 (an c4 c5))) ?_;intro K hK
        try refine⟨by omega,?_⟩
        try simp -implicitDefEqProofs (maxSteps:=999999) (disch:=omega) [c1,c2,c4,c5]
        refine Ah.eq hB (by simp) (by simp) ?_
        by_cases hb:Di xs[k].data
        .rw[decide_eq_true hb]
         refine zx ?_
         refine zk ?_;clear hK K
         refine zn ?_
         refine W.skip ?_
         by_cases d1:xs[k].base=xs[k].id
         .refine Af d1 ?_;intro K hK
          refine zk ?_;clear hK K
          refine zt ?_
          refine zs ?_
          refine zr ?_
          exact bad fun g=>g.1.2.2.2.1 d1
         .by_cases d2:xs[k].base=0
          .refine Af (an d1 d2) ?_;intro K hK
           refine zk ?_;clear hK K
           refine zn ?_
           refine W.skip ?_
           refine zs ?_
           refine⟨k+1,by omega,⟨by omega,fun i hi hik=>?_⟩,Wk.cutM (k:=0) (by simp[Ad]) (by simp) (by simp) (by simp) (by simp) (by simp)⟩
           by_cases e:i=k
           .subst e;exact⟨⟨by omega,c2,hb,d1,.inl d2⟩,fun _=>by omega⟩
           .exact ht i hi (by omega)
          .refine Af (an d1 d2) ?_;intro K hK
           refine Ab.eq (MQ xs xs[k].base hx1) (by simp) (by simp) ?_
           by_cases d3:∃q∈xs,q.id=xs[k].base
           .have d4:0<=AL (fun o:Obj=>decide (o.id=xs[k].base)) xs:=CM.2 (by simpa using d3)
            refine AX d4 ?_
            refine zk ?_;clear hK K
            refine zn ?_
            refine W.skip ?_
            refine zs ?_
            refine⟨k+1,by omega,⟨by omega,fun i hi hik=>?_⟩,Wk.cutM (k:=0) (by simp[Ad]) (by simp) (by simp) (by simp) (by simp) (by simp)⟩
            by_cases e:i=k
            .subst e;exact⟨⟨by omega,c2,hb,d1,.inr d3⟩,fun _=>by omega⟩
            .exact ht i hi (by omega)
           .have d4:AL (fun o:Obj=>decide (o.id=xs[k].base)) xs<0:=by
             apply Classical.byContradiction
             intro g
             exact d3 (by simpa using CM.1 (by omega:0<=AL (fun o:Obj=>decide (o.id=xs[k].base)) xs))
            refine AX d4 ?_
            refine zk ?_;clear hK K
            refine zt ?_
            refine zs ?_
            refine zr ?_
            exact bad fun g=>by
             rcases g.1.2.2.2.2 with g|g
             .exact d2 g
             .exact d3 g
        .rw[decide_eq_false hb]
         refine zx ?_
         refine zk ?_;clear hK K
         refine zt ?_
         refine zs ?_
         refine zr ?_
         exact bad fun g=>hb g.1.2.2.1
     .refine Bx (an c1 c2) ?_;intro K hK
      refine zk ?_;clear hK K
      refine zt ?_
      refine zs ?_
      refine zr ?_
      exact bad fun g=>by have:=g.1.2.1;omega
   .refine W.exit ?_
    refine zs ?_
    refine zr ?_
    rw[LJ]
    exact⟨by omega,fun i hi=>ht i hi (by omega)⟩
theorem ED {l:List Obj} {id:Int} {o:Obj} (h:A7 l id=some o):∃k,∃hk:k<l.length,AL (fun o:Obj=>decide (o.id=id)) l=(k:Int)/\l[k]=o/\o.id=id:=by
 unfold A7 at h
 obtain⟨h1,k,hk,h2,h3⟩:=List.find?_eq_some_iff_getElem.1 h
 refine⟨k,hk,Ei hk (by rw[h2];exact h1) (fun i hi hik=>by simpa using h3 i hik),h2,by simpa using h1⟩
theorem MT {l:List Obj} {id:Int} (h:A7 l id=none):AL (fun o:Obj=>decide (o.id=id)) l=-1:=
 EC fun i hi=>by
  have:=List.find?_eq_none.1 h l[i] (List.getElem_mem hi)
  simpa using this
theorem Jq {l:List Obj} {id:Int} (h:∃q∈l,q.id=id):∃o,A7 l id=some o:=by
 cases h' :A7 l id with
 |some o=>exact⟨o,rfl⟩
 |none=>
  obtain⟨q,hq,he⟩:=h
  have:=List.find?_eq_none.1 h' q hq
  simp[he] at this
theorem D9 {l:List Obj} {id:Int} {o:Obj} (h:A7 l id=some o):o∈l:=List.mem_of_find?_eq_some h
theorem IF (l:List Obj):∀(k:Nat) (id:Int),(AQ l k id).length<=k
 |0,id=>by simp[AQ]
 |k+1,id=>by
  unfold AQ
  split
  .simp
  .split
   .simp;exact IF l k _
   .simp
theorem SU (xs:List Obj) (id:Int) (m:Nat) (hx:En xs) (hm:m<=1000) (hb:∀o∈xs,o.base=0\/∃q∈xs,q.id=o.base) (Bw:id=0\/∃q∈xs,q.id=id):Aa pg 163 [.ro xs.length (Ac As xs),.int .i64 id,.int .i64 m] [] (fun r _=>r= .own 4 (AQ xs m id).length (Ac As (AQ xs m id))):=by
 have hx1:=hx.1
 refine Aa.start (fn:=Tryz.f163) [.tmp 6] tk rfl rfl rfl (by kernel_rfl) (Nat.le_of_ble_eq_true rfl) rfl (by kernel_rfl) ?_
 rw[Bl]
 refine zs ?_
 (repeat refine W.seq ?_);refine W.block (W.loopS (fun s:List Obj×Int=> [(0,.ro xs.length (Ac As xs)),(1,.int .i64 s.2),(2,.int .i64 m),(6,.tok 0 s.1.length 4 0 s.1.length)]) (fun s=> [.live s.1.length (Ac As s.1)]) (fun s=>m-s.1.length) (fun s=>s.1.length<=m/\(s.2=0\/∃q∈xs,q.id=s.2)/\AQ xs m id=s.1++AQ xs (m-s.1.length) s.2) ([],id) ((Wk.nil (t:=6) (s:=4) ?_).trans (Wk.fr ?_)) ⟨by simp,Bw,by simp⟩ ?_)
 .simp
 .simp[Ad]
 .rintro⟨acc,q⟩ ⟨hk,hq,hw⟩
  simp only at hk hq hw
  by_cases h0:q=0
  .refine Af h0 ?_;intro K hK
   refine zk ?_;clear hK K
   refine zn ?_
   refine W.exit ?_
   refine zs ?_
   refine zr ?_
   have:AQ xs m id=acc:=by
    rw[hw,h0]
    cases m-acc.length<;>simp[AQ]
   rw[this]
   simp
  .by_cases h1:acc.length<m
   .obtain⟨o,ho⟩:=Jq (by rcases hq with h|h;exact absurd h h0;exact h)
    obtain⟨k,hlt,hi,hko,hoi⟩:=ED ho
    refine Af (an h0 h1) ?_;intro K hK
    refine zk ?_;clear hK K
    refine zt ?_
    refine W.skip ?_
    refine zb ?_
    refine z1 ?_;intro K hK
    refine Ab.eq (MQ xs q hx1) (by simp) (by simp) ?_
    rw[hi]
    refine AX (an hlt hko) ?_
    refine zk ?_;clear hK K
    (repeat refine W.seq ?_);refine W.regd 1 rfl true Cz (by kernel_rfl) fun K hK=>?_;simp -implicitDefEqProofs (maxSteps:=999999) (disch:=omega)
    refine⟨by omega,by omega,?_⟩
    refine zk ?_;clear hK K
    refine⟨(acc++[o],o.base),by simp;omega,⟨by simp;omega,hb o (D9 ho),?_⟩,Wk.cutM (k:=1) (by simp[Ad]) (by simp[Ck,Ax]) (by simp) (by simp) (by simp) (by simp)⟩
    rw[hw]
    obtain⟨d,hd⟩:∃d,m-acc.length=d+1:=⟨m-acc.length-1,by omega⟩
    rw[hd]
    simp only[AQ,if_neg h0,ho]
    simp
    congr 1
    omega
   .refine Af (an h0 h1) ?_;intro K hK
    refine zk ?_;clear hK K
    refine zn ?_
    refine W.exit ?_
    refine zs ?_
    refine zr ?_
    have:AQ xs m id=acc:=by
     rw[hw,show m-acc.length=0 by omega]
     simp[AQ]
    rw[this]
    simp
theorem UO (xs:List Obj) (id:Int) (hx:En xs) (hb:∀o∈xs,o.base=0\/∃q∈xs,q.id=o.base):Aa pg 161 [.ro xs.length (Ac As xs),.int .i64 id] [] (fun r _=>r= .tup [.int .i64 (AE xs id).1,.int .i64 (AE xs id).2]):=by
 have hx1:=hx.1
 refine Aa.start (fn:=Tryz.f161) [.tmp 4,.tmp 5] tk rfl rfl rfl (by kernel_rfl) (Nat.le_of_ble_eq_true rfl) rfl (by kernel_rfl) ?_
 rw[At]
 refine zs ?_
 refine z0 ?_;intro K hK
 refine Ab.eq (MQ xs id hx1) (by simp) (by simp) ?_
 cases ho:A7 xs id with
 |none=>
  rw[MT ho]
  refine zx ?_
  refine zk ?_;clear hK K
  refine zt ?_
  refine zs ?_
  refine zr ?_
  simp[AE,ho]
 |some o=>
  obtain⟨k,hlt,hi,hko,hoi⟩:=ED ho
  rw[hi]
  refine zx ?_
  refine zk ?_;clear hK K
  refine zn ?_
  refine W.skip ?_
  have hw:=IF xs 4 id
  refine z0 ?_;intro K hK
  refine Ab.eq (SU xs id 4 hx (by omega) hb (.inr ⟨o,D9 ho,hoi⟩)) (by simp) (by simp) ?_
  refine zx ?_
  refine zk ?_;clear hK K
  by_cases h4:3<(AQ xs 4 id).length
  .refine Af h4 ?_;intro K hK
   refine zk ?_;clear hK K
   refine zt ?_
   refine zs ?_
   refine zr ?_
   simp[AE,ho,h4]
  .refine Af h4 ?_;intro K hK
   refine zk ?_;clear hK K
   refine zn ?_
   refine W.skip ?_
   refine zs ?_
   refine zr ?_
   simp[AE,ho,h4]
theorem SV (w:World) (x:Value):Calls pg 162 #[x] w fun e w' =>e= .returned (.func (.func 195) #[] #[.pointer (some ⟨w.heap.size,0,none⟩)])/\w' =w.alloc (.cells x.cells 65):=by
 refine(callsIn_wide (n:=0)).1 (callsIn_of_wp (n:=0) (fn:=Tryz.f162) rfl rfl trivial ?_)
 refine wpIn_seq (wpIn_region_lit ?_)
 simp[wpListIn,Region.wanted,Oper.wpIn,Oper.semAt,Fence.wide,execOp,Instr.box,newVar,newRow,Act.eval,Act.put,Oper.uponIn_value,Tryz.f162]
 show Code.wpIn _ _ _ _ _ _ _
 refine wpIn_seq (wpIn_region_lit ?_)
 simp[wpListIn,Region.wanted,Oper.wpIn,Oper.semAt,execOp,Act.eval,Act.put,Oper.uponIn_value]
 show Code.wpIn _ _ _ _ _ _ _
 refine wpIn_ret ?_
 simp[bodyPost,results]
 exact⟨rfl,rfl⟩
def Np (o:Obj):Value:= .agg #[.int .i64 o.id,.int .i64 o.base,.string o.data.data,.int .i64 o.data.n]
theorem Y8 (w:World) (sh:Nat->Prop) (σ:Nat->Nat->Option St) (o:Obj):VR w sh σ (.agg (As o)) (Np o) (fun _=>0):=by
 simp only[VR,As,Np]
 exact⟨_,rfl,_,_,_,_,rfl,⟨rfl,fun _=>rfl⟩,⟨_,_,_,_,rfl,⟨rfl,fun _=>rfl⟩,⟨_,_,_,_,rfl,⟨rfl,fun _=>rfl⟩,⟨_,_,_,_,rfl,⟨rfl,fun _=>rfl⟩,⟨rfl,fun _=>rfl⟩,fun _=>rfl⟩,fun _=>rfl⟩,fun _=>rfl⟩,fun _=>rfl⟩
theorem Y9 {w:World} {sh:Nat->Prop} {σ:Nat->Nat->Option St} {o:Obj} {x:Value} {fp:Nat->Nat} (h:VR w sh σ (.agg (As o)) x fp):x=Np o:=by
 simp only[VR,As,Aw] at h
 obtain⟨cs,rfl,_,_,_,_,h0,⟨rfl,_⟩,⟨_,_,_,_,rfl,⟨rfl,_⟩,⟨_,_,_,_,rfl,⟨rfl,_⟩,⟨_,_,_,_,rfl,⟨rfl,_⟩,⟨rfl,_⟩,_⟩,_⟩,_⟩,_⟩:=h
 unfold Np
 congr 1
 exact Array.ext' (by simpa using h0)
def WX (h:Nat) (ws:List Obj) (W:World):Prop:=∃sh:Nat->Prop,(∀g,sh g->g<W.heap.size)/\VR W sh σ0 (.rptr [.ro ws.length (Ac As ws)]) (.pointer (some ⟨h,0,none⟩)) (fun _=>0)
def Qd (l h:Nat) (i:Int) (a:Act):Prop:=a.tmps.size=19/\a.defers=[]/\a.tmps.getD 0 undef= .func (.yield l) #[] #[]/\a.tmps.getD 1 undef= .pointer (some ⟨h,0,none⟩)/\a.tmps.getD 3 undef= .int .i64 i
theorem BA {a:Act} {d t:Nat} {v:Value} (hd:t≠d):(a.put (some d) v).tmps.getD t undef=a.tmps.getD t undef:=by
 have:¬d=t:=fun e=>hd e.symm
 by_cases ht:t<a.tmps.size<;>simp[Act.put,Array.getD,ht,Array.getElem_setIfInBounds,this]
theorem EN {a:Act} {d:Nat} {v:Value} (hd:d<a.tmps.size):(a.put (some d) v).tmps.getD d undef=v:=by
 simp[Act.put,Array.getD,hd]
theorem Qd.put {l h:Nat} {i:Int} {a:Act} (s:Qd l h i a) {d:Nat} (h0:d≠0) (h1:d≠1) (h3:d≠3) (v:Value):Qd l h i (a.put (some d) v):=
 ⟨by simp[Act.put,s.1],s.2.1,by rw[BA (Ne.symm h0)];exact s.2.2.1,by rw[BA (Ne.symm h1)];exact s.2.2.2.1,by rw[BA (Ne.symm h3)];exact s.2.2.2.2⟩
def Fi (ws:List Obj) (i:Int):Fr:=fun t=>if t=1 then .rptr [.ro ws.length (Ac As ws)] else if t=3 then .int .i64 i else .any
theorem Qd.rel {l h:Nat} {i:Int} {a:Act} {ws:List Obj} {W:World} (s:Qd l h i a) (v:WX h ws W):∃sh,AK ⟨pg,19,sh,W,fun _=>none,σ0,0,none,[]⟩ (Fi ws i) [] a W σ0 (fun _=>none):=by
 obtain⟨sh,h1,h2⟩:=v
 refine⟨sh,s.1,s.2.1,fun t ht=>?_,Gw _ _,fun g hg=>⟨rfl,h1 g hg⟩,Fx.refl _ _,fun _ _ _ h=>by simp at h⟩
 simp only[Fi]
 by_cases e1:t=1
 .subst e1;rw[if_pos rfl,s.2.2.2.1];exact h2
 .rw[if_neg e1]
  by_cases e3:t=3
  .subst e3;rw[if_pos rfl,s.2.2.2.2];exact⟨rfl,fun _=>rfl⟩
  .rw[if_neg e3];intro g;rfl
theorem Wy {ops:Array Oper} {Q:Exit->Act->World->Prop} {a:Act} {W:World} {d t ty:Nat} {pos:String} {af:Array Edge} {rest:List Oper} {x:Value} (hx:a.tmps.getD t undef=x) (h:wpListIn Fence.wide 0 pg ops Q rest (a.put (some d) x) W):
 wpListIn Fence.wide 0 pg ops Q ({dst:=some d,op:= .move (.tmp t),type:=ty,pos:=pos,after:=af,guard:=none}::rest) a W:=by
 simp only[wpListIn]
 rw[if_pos (by simp[Region.wanted])]
 refine⟨fun _ _=>trivial,?_⟩
 have e:Sem.run pg (execOp a.eval {dst:=some d,op:= .move (.tmp t),type:=ty,pos:=pos,after:=af,guard:=none}) W= .ok (.value x) W:=by
  have:a.eval (.tmp t)=x:=hx
  simp[execOp,this]
 rw[Oper.semAt_eq _ _ _ (by intro c h;cases h),e]
 exact h
theorem UP {ops:Array Oper} {Q:Exit->Act->World->Prop} {a:Act} {W:World} {d t t1 t2 ty:Nat} {pos:String} {af:Array Edge} {ats:Array TypeId} {rest:List Oper} {l:Nat} {x y:Value} {f:FuncId} {tm:Array Value} {asg bd:Code} {RR:Ending->World->Prop} (h0:a.tmps.getD t undef= .func (.yield l) #[] #[]) (h1:a.tmps.getD t1 undef=x) (h2:a.tmps.getD t2 undef=y)
 (hy:(Instr.yield l #[x,y]).run pg W= .ok (.round l f tm asg bd) W) (hr:RoundIn Fence.wide 0 pg l f tm asg bd W RR) (h:∀e W',RR e W' ->∃v,e= .returned v/\wpListIn Fence.wide 0 pg ops Q rest (a.put (some d) v) W'):
 wpListIn Fence.wide 0 pg ops Q ({dst:=some d,op:= .call {callee:= .value (.tmp t),args:= #[.tmp t1,.tmp t2],argTypes:=ats},type:=ty,pos:=pos,after:=af,guard:=none}::rest) a W:=by
 simp only[wpListIn]
 rw[if_pos (by simp[Region.wanted])]
 refine⟨fun _ _=>trivial,?_⟩
 have e0:a.eval (.tmp t)= .func (.yield l) #[] #[]:=h0
 have e1:a.eval (.tmp t1)=x:=h1
 have e2:a.eval (.tmp t2)=y:=h2
 have e:Sem.run pg (execOp a.eval {dst:=some d,op:= .call {callee:= .value (.tmp t),args:= #[.tmp t1,.tmp t2],argTypes:=ats},type:=ty,pos:=pos,after:=af,guard:=none}) W= .ok (.round l f tm asg bd) W:=by
  simp[execOp,resolve,e0,e1,e2,Deferred.ofValue,invoke,hy]
 rw[Oper.semAt_eq _ _ _ (by intro c h;cases h),e]
 refine⟨fun h=>absurd h (by simp[Fence.wide]),RoundIn.mono hr ?_⟩
 intro e W' hR
 obtain⟨v,rfl,hk⟩:=h e W' hR
 exact hk
theorem aC {a:Act} {W:World} {F:Fr} (hs:a.tmps.size=19) (hd:a.defers=[]) (hF:∀t,VR W (fun _=>False) σ0 (F t) (a.tmps.getD t undef) (fun _=>0)):AK ⟨pg,19,fun _=>False,W,fun _=>none,σ0,0,none,[]⟩ F [] a W σ0 (fun _=>none):=
 ⟨hs,hd,fun t _=>hF t,Gw _ _,fun g hg=>hg.elim,Fx.refl _ _,fun _ _ _ h=>by simp at h⟩
theorem Ow {P:Program} {c:Code} {Q:Exit->Act->World->Prop} (n:Nat) (I:Nat->Act->World->Prop) (step:∀k a W,k<=n->I k a W->c.wpIn Fence.wide 0 P (Exit.then (fun a W=>k<n/\I (k+1) a W) Q) a W):
 ∀m k a W,k+m=n->I k a W->Code.roundsIn Fence.wide 0 P c Q (m+1) a W
 |0,k,a,W,hk,hI=>wpIn_mono (step k a W (by omega) hI) fun e a W h=>by
  cases e<;>first|exact h| (have:=h.1;omega)
 |m+1,k,a,W,hk,hI=>wpIn_mono (step k a W (by omega) hI) fun e a W h=>by
  cases e<;>first|exact h|exact Ow n I step m (k+1) a W (by omega) h.2
noncomputable abbrev C5 (sh:Nat->Prop) (W:World):Bn:=⟨pg,19,sh,W,fun _=>none,σ0,0,none,[]⟩
theorem Wz (h:Nat) (ws:List Obj) (hn:ws.length<1000000000000):al pg 195 #[.pointer (some ⟨h,0,none⟩)] ws.length (fun k=> #[.int .i64 ((ws.length:Int)-1-k),Np (ws.getD (ws.length-1-k) ⟨0,0,⟨⟨#[]⟩,0⟩⟩)]) (WX h ws):=by
 intro l J Jx w hV hR h0
 have sz:ws.length<=9223372036854775807:=by omega
 generalize hRR:(fun e W' =>(∃v,e=Ending.returned v)/\(J ws.length W' \/Jx W'))=RR
 have key:∀c,Tryz.f195.body=some c->∀a0:Act,a0.tmps.size=19->a0.defers=[]->a0.tmps.getD 0 undef= .func (.yield l) #[] #[]->a0.tmps.getD 1 undef= .pointer (some ⟨h,0,none⟩)->c.wpIn Fence.wide 0 pg (bodyPost pg Tryz.f195 RR) a0 w:=by
  intro c hc a0 h19 hd0 hy0 hp0
  have hc:=Option.some.inj hc
  subst hc
  refine wpIn_seq (wpIn_region_lit ?_)
  obtain⟨sh,hs1,hs2⟩:=hV 0 w h0
  have R:AK (C5 sh w) (fun t=>if t=1 then .rptr [.ro ws.length (Ac As ws)] else .any) [] a0 w σ0 (fun _=>none):=by
   refine⟨h19,hd0,fun t ht=>?_,Gw _ _,fun g hg=>⟨rfl,hs1 g hg⟩,Fx.refl _ _,fun _ _ _ h=>by simp at h⟩
   simp only
   by_cases e1:t=1
   .subst e1;rw[if_pos rfl,hp0];exact hs2
   .rw[if_neg e1];intro g;rfl
  refine DU (C:=C5 sh _) tk R (by kernel_rfl) rfl (by intro c h;cases h) (r:= .ro ws.length (Ac As ws)) (by simp -implicitDefEqProofs (disch:=omega) [pv]) fun u4 hu4 R4=>?_
  refine DU (C:=C5 sh _) tk R4 (by kernel_rfl) rfl (by intro c h;cases h) (r:= .int .i64 ws.length) (by simp -implicitDefEqProofs (disch:=omega) [pv]) fun u5 hu5 R5=>?_
  refine DU (C:=C5 sh _) tk R5 (by kernel_rfl) rfl (by intro c h;cases h) (r:= .int .i64 ((ws.length:Int)-1)) (by simp -implicitDefEqProofs (disch:=omega) [pv]) fun u6 hu6 R6=>?_
  refine DU (C:=C5 sh _) tk R6 (by kernel_rfl) rfl (by intro c h;cases h) (r:= .int .i64 ((ws.length:Int)-1)) (by simp -implicitDefEqProofs (disch:=omega) [pv]) fun u3 hu3 R3=>?_
  refine wpListIn_nil ?_
  have s0:Qd l h ((ws.length:Int)-1) ((((a0.put (some 4) u4).put (some 5) u5).put (some 6) u6).put (some 3) u3):=by
   refine⟨by simp[Act.put,h19],hd0,?_,?_,?_⟩
   .rw[BA (by decide),BA (by decide),BA (by decide),BA (by decide)];exact hy0
   .rw[BA (by decide),BA (by decide),BA (by decide),BA (by decide)];exact hp0
   .rw[EN (by simp[Act.put,h19])];exact hu3.1
  generalize ((((a0.put (some 4) u4).put (some 5) u5).put (some 6) u6).put (some 3) u3)=a1 at s0
  clear R R4 R5 R6 R3 hu4 hu5 hu6 hu3 u4 u5 u6 u3 hs1 hs2 sh h19 hd0 hy0 hp0 a0
  show Code.wpIn _ _ _ _ _ _ _
  refine wpIn_block (wpIn_loop_rounds (ws.length+1) ?_)
  refine Ow ws.length (fun k a W=>Qd l h ((ws.length:Int)-1-k) a/\J k W) (fun k a W hk hI=>?_) ws.length 0 a1 w (by omega) ⟨by simpa using s0,h0⟩
  obtain⟨s,hJ⟩:=hI
  obtain⟨sh,R⟩:=s.rel (hV k W hJ)
  refine wpIn_seq (wpIn_seq (wpIn_region_lit ?_))
  refine DU (C:=C5 sh _) tk R (by kernel_rfl) rfl (by intro c h;cases h) (r:= .int .i64 ((ws.length:Int)-1-k)) (by simp -implicitDefEqProofs (disch:=omega) [pv,Fi]) fun u7 hu7 R7=>?_
  refine DU (C:=C5 sh _) tk R7 (by kernel_rfl) rfl (by intro c h;cases h) (r:= .bool (decide ((0:Int)<=(ws.length:Int)-1-k))) (by simp -implicitDefEqProofs (disch:=omega) [pv,Fi]) fun u8 hu8 R8=>?_
  refine wpListIn_nil ?_
  have s8:=(s.put (d:=7) (by decide) (by decide) (by decide) u7).put (d:=8) (by decide) (by decide) (by decide) u8
  have hc8:((a.put (some 7) u7).put (some 8) u8).eval (.tmp 8)= .bool (decide ((0:Int)<=(ws.length:Int)-1-k)):=by
   show((a.put (some 7) u7).put (some 8) u8).tmps.getD 8 undef=_
   rw[EN (by simp[Act.put,s.1])];exact hu8.1
  generalize ((a.put (some 7) u7).put (some 8) u8)=a2 at s8 hc8
  clear R R7 R8 hu7 hu8 u7 u8 s
  show Code.wpIn _ _ _ _ _ _ _
  refine wpIn_cond_split hc8 (fun hb=>wpIn_skip ?_) (fun hb=>wpIn_exit ?_)
  rotate_left
  .have hb:¬(0:Int)<=(ws.length:Int)-1-k:=of_decide_eq_false hb
   have:k=ws.length:=by omega
   subst this
   show bodyPost pg _ RR .normal a2 W
   refine⟨s8.2.1,.tuple #[],by simp[results,Tryz.f195],?_⟩
   rw[<-hRR]
   exact⟨⟨_,rfl⟩,.inl hJ⟩
  have hb:(0:Int)<=(ws.length:Int)-1-k:=of_decide_eq_true hb
  show Code.wpIn _ _ _ _ _ _ _
  refine wpIn_seq (wpIn_block (wpIn_seq (wpIn_region_lit ?_)))
  obtain⟨sh,R⟩:=s8.rel (hV k W hJ)
  obtain⟨i,hi⟩:∃i:Nat,(ws.length:Int)-1-k=(i:Int):=⟨ws.length-1-k,by omega⟩
  rw[hi] at s8 R
  have hlt:i<ws.length:=by omega
  refine Wy s8.2.2.1 ?_
  have R11:AK (C5 sh W) (Al (Fi ws i) (some 11) .any) [] (a2.put (some 11) (.func (.yield l) #[] #[])) W σ0 (fun _=>none):=R.put (some 11) (fun _=>rfl)
  refine DU (C:=C5 sh _) tk R11 (by kernel_rfl) rfl (by intro c h;cases h) (r:= .int .i64 i) (by simp -implicitDefEqProofs (disch:=omega) [pv,Fi]) fun u12 hu12 R12=>?_
  refine DU (C:=C5 sh _) tk R12 (by kernel_rfl) rfl (by intro c h;cases h) (r:= .ro ws.length (Ac As ws)) (by simp -implicitDefEqProofs (disch:=omega) [pv,Fi]) fun u13 hu13 R13=>?_
  refine DU (C:=C5 sh _) tk R13 (by kernel_rfl) rfl (by intro c h;cases h) (r:= .int .i64 i) (by simp -implicitDefEqProofs (disch:=omega) [pv,Fi]) fun u14 hu14 R14=>?_
  refine DU (C:=C5 sh _) tk R14 (by kernel_rfl) rfl (by intro c h;cases h) (r:= .rptr (As ws[i]++Ac As (ws.drop (i+1)))) (by simp -implicitDefEqProofs (disch:=omega) [pv,Fi,hlt]) fun u15 hu15 R15=>?_
  refine DU (C:=C5 sh _) tk R15 (by kernel_rfl) rfl (by intro c h;cases h) (r:= .agg (As ws[i])) (by simp -implicitDefEqProofs (disch:=omega) [pv,Fi,hlt]) fun u16 hu16 R16=>?_
  have ek:ws.length-1-k=i:=by omega
  have eo:ws.getD (ws.length-1-k) ⟨0,0,⟨⟨#[]⟩,0⟩⟩=ws[i]:=by rw[ek];simp[List.getD,hlt]
  obtain⟨f,tm,asg,bd,hy,hr⟩:=hR k W (by omega) hJ
  simp only[hi,eo] at hy
  have s9:=((((((s8.put (d:=11) (by decide) (by decide) (by decide) (.func (.yield l) #[] #[])).put (d:=12) (by decide) (by decide) (by decide) u12).put (d:=13) (by decide) (by decide) (by decide) u13).put (d:=14) (by decide) (by decide) (by decide) u14).put (d:=15) (by decide) (by decide) (by decide) u15).put (d:=16) (by decide) (by decide) (by decide) u16)
  refine UP (x:= .int .i64 i) (y:=Np ws[i]) ?_ ?_ ?_ hy hr ?_
  .rw[BA (by decide),BA (by decide),BA (by decide),BA (by decide),BA (by decide),EN (by rw[s8.1];decide)]
  .rw[BA (by decide),BA (by decide),BA (by decide),BA (by decide),EN (by simp[Act.put,s8.1])];exact hu12.1
  .rw[EN (by simp[Act.put,s8.1])];exact Y9 hu16
  generalize ((((((a2.put (some 11) (Value.func (.yield l) #[] #[])).put (some 12) u12).put (some 13) u13).put (some 14) u14).put (some 15) u15).put (some 16) u16)=a3 at s9
  clear R R11 R12 R13 R14 R15 R16 hu12 hu13 hu14 hu15 hu16 u12 u13 u14 u15 u16 hy hr s8 hc8
  rintro e W' hq
  obtain⟨b,rfl,hq⟩:∃b,e= .returned (.bool b)/\(if b=true then J (k+1) W' else Jx W'):=by
   rcases hq with⟨rfl,h⟩ | ⟨rfl,h⟩
   .exact⟨true,rfl,h⟩
   .exact⟨false,rfl,h⟩
  refine⟨_,rfl,?_⟩
  have s10:=s9.put (d:=17) (by decide) (by decide) (by decide) (.bool b)
  have R17:=aC (W:=W') (F:=fun t=>if t=17 then .bool b else .any) s10.1 s10.2.1 (fun t=>by
   by_cases e:t=17
   .subst e;simp only[if_true];rw[EN (by rw[s9.1];decide)];exact⟨rfl,fun _=>rfl⟩
   .rw[if_neg e];intro g;rfl)
  refine DU (C:=C5 (fun _=>False) _) tk R17 (by kernel_rfl) rfl (by intro c h;cases h) (r:= .bool (!b)) (by simp -implicitDefEqProofs (disch:=omega) [pv,Fi]) fun u18 hu18 R18=>?_
  refine wpListIn_nil ?_
  have s11:=s10.put (d:=18) (by decide) (by decide) (by decide) u18
  have hc18:(((a3.put (some 17) (.bool b)).put (some 18) u18)).eval (.tmp 18)= .bool (!b):=by
   show((a3.put (some 17) (.bool b)).put (some 18) u18).tmps.getD 18 undef=_
   rw[EN (by rw[s10.1];decide)];exact hu18.1
  generalize ((a3.put (some 17) (.bool b)).put (some 18) u18)=a4 at s11 hc18
  clear R17 R18 hu18 u18 s9 s10
  show Code.wpIn _ _ _ _ _ _ _
  refine wpIn_cond_split hc18 (fun hb=>wpIn_ret ?_) (fun hb=>wpIn_skip ?_)
  .have hb:b=false:=by simpa using hb
   subst hb
   show bodyPost pg _ RR .ret a4 W'
   refine⟨s11.2.1,.tuple #[],by simp[results,Tryz.f195],?_⟩
   rw[<-hRR]
   exact⟨⟨_,rfl⟩,.inr (by simpa using hq)⟩
  .have hb:b=true:=by simpa using hb
   subst hb
   show Code.wpIn _ _ _ _ _ _ _
   refine wpIn_region_lit ?_
   have hq:J (k+1) W' :=by simpa using hq
   obtain⟨sh,R⟩:=s11.rel (hV (k+1) W' hq)
   refine DU (C:=C5 sh _) tk R (by kernel_rfl) rfl (by intro c h;cases h) (r:= .int .i64 i) (by simp -implicitDefEqProofs (disch:=omega) [pv,Fi]) fun u9 hu9 R9=>?_
   refine DU (C:=C5 sh _) tk R9 (by kernel_rfl) rfl (by intro c h;cases h) (r:= .int .i64 ((i:Int)-1)) (by simp -implicitDefEqProofs (disch:=omega) [pv,Fi]) fun u10 hu10 R10=>?_
   refine DU (C:=C5 sh _) tk R10 (by kernel_rfl) rfl (by intro c h;cases h) (r:= .int .i64 ((i:Int)-1)) (by simp -implicitDefEqProofs (disch:=omega) [pv,Fi]) fun u3 hu3 R3=>?_
   refine wpListIn_nil ?_
   show k<ws.length/\_
   refine⟨by omega,?_,hq⟩
   have s12:=(s11.put (d:=9) (by decide) (by decide) (by decide) u9).put (d:=10) (by decide) (by decide) (by decide) u10
   refine⟨by simp[Act.put,s11.1],s11.2.1,?_,?_,?_⟩
   .rw[BA (by decide)];exact s12.2.2.1
   .rw[BA (by decide)];exact s12.2.2.2.1
   .rw[EN (by rw[s12.1];decide),hu3.1]
    congr 1
    omega
 have hf:pg.funcs[(195:Nat)]?=some Tryz.f195:=rfl
 have hn:Tryz.f195.ntmps=19:=rfl
 obtain⟨c,hc⟩:∃c,Tryz.f195.body=some c:=⟨_,rfl⟩
 refine callsIn_of_wp (n:=0) hf hc trivial ?_ rfl
 refine key c hc _ ?_ ?_ ?_ ?_
 .simp[hn]
 .simp only
 .simp
 .simp
end Go.Abs
