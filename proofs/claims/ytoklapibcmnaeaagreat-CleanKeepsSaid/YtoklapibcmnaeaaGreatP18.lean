/- The law CatKeeps. -/
import Derived.Test.YtoklapibcmnaeaaGreatP17
set_option linter.unusedVariables false
set_option linter.unusedSimpArgs false
set_option maxRecDepth 100000
namespace Go.Abs
open Go.Proofs
theorem NT {bs:List Bool} {p:Nat} {v:Int} {r:List Int×Nat} (h:De bs p v=some r):p<=r.2/\r.2<=bs.length/\Fg bs p r.2=AY v r.1/\AJ r.1:=by
 have hm:=JO h
 unfold De at h
 split at h
 .simp at h
 .rename_i x hx
  obtain⟨h1,h2,h3,h4,h5⟩:=A0 hx
  split at h
  .split at h
   .simp at h
   .rename_i q hq
    obtain⟨a0,a1,a2,a3⟩:=IK v _ _ _ _ _ (fun _=>rfl) h4 hq
    split at h
    .simp at h
    .rename_i g hg
     obtain⟨b1,b2,b3⟩:=Nw hg
     split at h
     .simp at h
     .rename_i l hl
      split at h
      .rename_i hp
       simp at h;subst h
       refine⟨by simp only;omega,b2,?_,hm⟩
       simp only[AY]
       rw[hp]
       simp only
       rw[a0,show x.1-1+1=x.1 by omega,<-h5,M6 v q.1 0 v,<-a3,<-b3,DO (by omega) a1,DO (by omega) b1]
      .simp at h
  .simp at h
theorem Mk {bs:List Bool}:∀(k:Nat) (f:Bool) (p:Nat) (r:List Int×Nat),p<=bs.length->B9 bs k f p=some r->r.1.length=k/\p<=r.2/\r.2<=bs.length/\Fg bs p r.2=C7 r.1 f
 |0,f,p,r,hp,h=>by simp[B9] at h;subst h;simp[C7,KF,hp]
 |k+1,f,p,r,hp,h=>by
  simp only[B9] at h
  split at h
  .simp at h
  .rename_i x hx
   obtain⟨h1,h2,h3,h4,h5⟩:=A0 hx
   split at h
   .rename_i q hq
    simp at h;subst h
    obtain⟨g0,g1,g2,g3⟩:=Mk k false x.2 q h4 hq
    refine⟨by simp[g0],by simp only;omega,g2,?_⟩
    simp only[C7]
    have:(if f=true then(if f=true then(x.1:Int)-1 else(x.1:Int))+1 else(if f=true then(x.1:Int)-1 else(x.1:Int))).toNat=x.1:=by cases f<;>simp
    rw[this,<-h5,<-g3,DO (by omega) g1]
   .simp at h
theorem Qu {bs:List Bool} {p:Nat} {v:Int} {ref:List Int} {r:List Int×Nat} (h:CA bs p v ref=some r):p<=r.2/\r.2<=bs.length/\Fg bs p r.2=C3 v ref r.1:=by
 unfold CA at h
 split at h
 .simp at h
 .rename_i x hx
  obtain⟨h1,h2,h3,h4,h5⟩:=A0 hx
  split at h
  .split at h
   .simp at h
   .rename_i q hq
    obtain⟨a0,a1,a2,a3⟩:=Mk _ _ _ _ h4 hq
    split at h
    .simp at h
    .rename_i g hg
     obtain⟨b1,b2,b3,_⟩:=NT hg
     split at h
     .rename_i l hl
      simp at h;subst h
      have hw:blocks ref l=q.1/\Bh ref l=g.1:=by
       unfold Cv at hl
       split at hl
       .simp at hl
       .split at hl
        .rename_i hc
         simp at hl;subst hl;exact⟨hc.2.1,hc.2.2⟩
        .simp at hl
      refine⟨by simp only;omega,b2,?_⟩
      simp only[C3]
      rw[hw.1,hw.2,a0,show x.1-1+1=x.1 by omega,<-h5,<-a3,<-b3,DO (by omega) a1,DO (by omega) b1]
     .simp at h
  .simp at h
theorem Lc {bs:List Bool} {rd:Rd} {f:Int->List Int->List Bool} (hf:∀(p:Nat) (v:Int) (r:List Int×Nat),rd p v=some r->p<=r.2/\r.2<=bs.length/\Fg bs p r.2=f v r.1):∀(k:Nat) (v:Int) (p:Nat) (r:List (List Int)×Nat),p<=bs.length->Be rd k v p=some r->p<=r.2/\r.2<=bs.length/\Fg bs p r.2=Co f v r.1
 |0,v,p,r,hp,h=>by simp[Be] at h;subst h;simp[Co,KF,hp]
 |k+1,v,p,r,hp,h=>by
  simp only[Be] at h
  split at h
  .simp at h
  .rename_i x hx
   obtain⟨h1,h2,h3⟩:=hf p v x hx
   split at h
   .rename_i q hq
    simp at h;subst h
    obtain⟨g1,g2,g3⟩:=Lc hf k (v+1) x.2 q h2 hq
    refine⟨by simp only;omega,g2,?_⟩
    simp only[Co]
    rw[<-h3,<-g3,DO h1 g1]
   .simp at h
theorem Ml {bs:List Bool} {rd:Rd} {f:Int->List Int->List Bool} (hf:∀(p:Nat) (v:Int) (r:List Int×Nat),rd p v=some r->p<=r.2/\r.2<=bs.length/\Fg bs p r.2=f v r.1) {g:Gr} (h:CK bs rd=some g):bs=AD (g.n.toNat+1)++Co f 0 g.out/\A3 g:=by
 unfold CK at h
 split at h
 .simp at h
 .rename_i x hx
  obtain⟨h1,h2,h3,h4,h5⟩:=A0 hx
  split at h
  .split at h
   .simp at h
   .rename_i r hr
    split at h
    .rename_i hc
     simp at h;subst h
     obtain⟨g1,g2,g3⟩:=Lc hf _ _ _ _ h4 hr
     refine⟨?_,hc.2⟩
     have e:((x.1:Int)-1).toNat+1=x.1:=by omega
     simp only
     rw[e,<-h5,<-g3,DO (by omega) g1,hc.1,Fg]
     simp
    .simp at h
  .simp at h
theorem Sc {bs:List Bool} {g:Gr} (h:BD bs=some g):bs=Cr g/\A3 g:=Ml (f:=AY) (fun p v r hr=>let ⟨a,b,c,_⟩:=NT hr;⟨a,b,c⟩) h
theorem Sd {a:Gr} {bs:List Bool} {g:Gr} (h:BK a bs=some g):bs=CE a g/\A3 g:=Ml (f:=fun v l=>C3 v (AH a v) l) (fun p v r hr=>Qu hr) h
theorem iL:∀n:Fin 64,1<=n.val->2*(2*Nat.log2 n.val+1)<=3*n.val:=by decide+kernel
theorem Nf {n:Nat} (h:1<=n) (h2:n<64):2*(AD n).length<=3*n:=by
 rw[Dz];exact iL ⟨n,h2⟩ h
theorem iM {n:Nat} (h:n<8):(AD n).length<=5:=by
 have:=Dz n
 by_cases h0:n=0
 .subst h0;simp[AD,A9]
 .have:=(Nat.log2_lt (n:=n) (k:=3) h0).2 (by omega)
  omega
theorem NU {v:Int}:∀(l:List Int) (e:Int),0<=e->Lr l false e->(∀x∈l,x<=15)->e<=15->2*((B3 v l false e).length:Int)<=3*(15-e)
 | [],e,_,_,_,h=>by simp[B3];omega
 |x::l,e,h0,hp,hx,h=>by
  have hx0:=hx x (by simp)
  have h1:=hp.1
  simp at h1
  have ih:=NU (v:=v) l x (by omega) hp.2 (fun y hy=>hx y (by simp[hy])) hx0
  have:=Nf (n:=(x-e).toNat) (by omega) (by omega)
  simp only[B3,Bool.false_eq_true,if_false,List.length_append]
  omega
theorem ZT {v:Int} {l:List Int} (hv:0<=v/\v<=15) (hl:AJ l):(Cx v l).length<=40:=by
 have hll:=Bq hl
 have h1:=GT (n:=l.length+1) (by omega)
 unfold Cx
 rw[List.length_append]
 cases l with
 |nil=>simp[B3];simp at h1;omega
 |cons x t=>
  have hx:=hl.1 x (by simp)
  have hp:=In (x::t) true 0 hl.2 (.inl rfl)
  have h2:=NU (v:=v) t x (by omega) hp.2 (fun y hy=>by have:=hl.1 y (by simp[hy]);omega) (by omega)
  have h3:=GT (n:=(BX (x-v)+1).toNat) (by unfold BX;split<;>omega)
  simp only[B3,if_true,List.length_append]
  omega
theorem NV {v:Int}:∀(l:List (Int×Int)) (e:Int),0<=e->FG l false e->(∀q∈l,q.1+q.2<=16)->e<=16->2*((BL v l false e).length:Int)<=3*(16-e)
 | [],e,_,_,_,h=>by simp[BL];omega
 | (a,n)::l,e,h0,hp,hx,h=>by
   have hx0:=hx (a,n) (by simp)
   simp only[FG] at hp hx0
   obtain⟨h1,h2,h3⟩:=hp
   simp at h1
   have ih:=NV (v:=v) l (a+n) (by omega) h3 (fun y hy=>hx y (by simp[hy])) hx0
   have g1:=Nf (n:=(a-e).toNat) (by omega) (by omega)
   have g2:=Nf (n:=(n-3+1).toNat) (by omega) (by omega)
   simp only[BL,Bool.false_eq_true,if_false,List.length_append]
   omega
theorem TU {v:Int} {l:List Int} (hv:0<=v/\v<=15) (hl:AJ l):(AY v l).length<=75:=by
 have hle:=Nat.le_refl l.length
 have hll:=Bq hl
 obtain⟨p1,p2,p3,p4⟩:=D1 l.length l true 0 hle hl.2 (.inl rfl)
 have pok:=IY l.length l (-1) hle hl fun x hx=>by have:=(hl.1 x hx).1;omega
 have h1:=iM (n:=(Am l).1.length+1) (by omega)
 have h2:=ZT hv (l:=(Am l).2) ⟨fun x hx=>hl.1 x (p4 x hx),p3⟩
 have hb:∀(r:List (Int×Int)) (e:Int),Dx r e->∀q∈r,q.1+q.2<=16:=by
  intro r
  induction r with
  |nil=>intro e _ q hq;simp at hq
  |cons x r ih=>
   intro e h q hq
   obtain⟨k1,k2,k3,k4,k5,k6⟩:=h
   simp only[List.mem_cons] at hq
   rcases hq with rfl|hq
   .omega
   .exact ih _ k6 q hq
 have hb2:=hb _ _ pok
 unfold AY
 simp only[List.length_append]
 have h3:(BL v (Am l).1 true 0).length<=30:=by
  cases hr:(Am l).1 with
  |nil=>simp[BL]
  |cons x t=>
   obtain⟨a,n⟩:=x
   rw[hr] at p1 pok hb2
   simp only[FG] at p1
   obtain⟨k1,k2,k3,k4,k5,k6⟩:=pok
   have h4:=NV (v:=v) t (a+n) (by omega) p1.2.2 (fun y hy=>hb2 y (by simp[hy])) (by omega)
   have g1:=GT (n:=(BX (a-v)+1).toNat) (by unfold BX;split<;>omega)
   have g2:=Nf (n:=(n-3+1).toNat) (by omega) (by omega)
   simp only[BL,if_true,List.length_append]
   omega
 omega
theorem Hv (l:List Int):∀(ref:List Int) (b:Bool) (n:Nat),(AU l ref b n).sum<=n+ref.length
 | [],b,n=>by simp[AU]
 |x::ref,b,n=>by
  simp only[AU]
  split
  .have:=Hv l ref b (n+1);simp;omega
  .have:=Hv l ref (!b) 1;simp;omega
theorem NW:∀(l:List Nat),(∀n∈l,1<=n/\n<60)->2*(C7 (l.map fun n=>((n:Nat):Int)) false).length<=3*l.sum
 | [],_=>by simp[C7]
 |n::l,h=>by
  have ih:=NW l fun m hm=>h m (by simp[hm])
  have hn:=h n (by simp)
  have:=Nf (n:=n) hn.1 (by omega)
  simp only[List.map_cons,C7,Bool.false_eq_true,if_false,List.length_append,Int.toNat_natCast,List.sum_cons]
  omega
theorem aY {v:Int} {ref l:List Int} (hv:0<=v/\v<=15) (hr:ref.length<=16) (hl:AJ l):(C3 v ref l).length<=109:=by
 have a1:=G9 ref l
 have a2:=GT (n:=(blocks ref l).length+1) (by omega)
 have a4:=TU hv (Ha (ref:=ref) hl)
 have a5:=Hv l ref true 0
 have a3:(C7 (blocks ref l) true).length<=25:=by
  have hbd:=GJ l ref true 0
  unfold blocks
  cases hb:AU l ref true 0 with
  |nil=>simp[C7]
  |cons n t=>
   rw[hb] at a5 hbd
   have h1:=NW t fun m hm=>by
    obtain⟨j,hj,rfl⟩:=List.mem_iff_getElem.1 hm
    have:=hbd (j+1) (by simpa using hj)
    simp at this;omega
   have h0:=(hbd 0 (by simp)).1
   simp at h0 a5
   have h2:=Nf (n:=n+1) (by omega) (by omega)
   simp only[List.map_cons,C7,if_true,List.length_append]
   have e:(((n:Nat):Int)+1).toNat=n+1:=by omega
   rw[e]
   omega
 unfold C3
 simp only[List.length_append]
 omega
theorem Ld {g:Gr} (hg:A3 g):(Cr g).length<=1800:=by
 have h1:=GT (n:=g.n.toNat+1) (by have:=hg.2.1;omega)
 have h2:=GU (f:=AY) (c:=75) g.out 0 (fun i hi=>TU ⟨by omega,by have:=hg.2.1;have:=hg.2.2.1;omega⟩ (hg.2.2.2.1 _ (List.getElem_mem hi)).1)
 have h3:=hg.2.1
 have h4:=hg.2.2.1
 unfold Cr
 rw[List.length_append]
 have:75*g.out.length<=75*16:=Nat.mul_le_mul_left _ (by omega)
 omega
theorem Le {a g:Gr} (ha:A3 a) (hg:A3 g):(CE a g).length<=1800:=by
 have h1:=GT (n:=g.n.toNat+1) (by have:=hg.2.1;omega)
 have h2:=GU (f:=fun v l=>C3 v (AH a v) l) (c:=109) g.out 0 (fun i hi=>aY ⟨by omega,by have:=hg.2.1;have:=hg.2.2.1;omega⟩ (Cp ha _) (hg.2.2.2.1 _ (List.getElem_mem hi)).1)
 have h3:=hg.2.1
 have h4:=hg.2.2.1
 unfold CE
 rw[List.length_append]
 have:109*g.out.length<=109*16:=Nat.mul_le_mul_left _ (by omega)
 omega
theorem VD {l:List Obj} {g:Gr} (b:Int) (hg:A3 g):Cl (GS l b g)<=4:=by
 unfold GS Cl
 rw[Hb]
 split
 .have:=Ld hg;omega
 .have:=Le (Dc l b) hg;omega
theorem TV {l:List Obj} (hl:Ca l) (hall:∀o∈l,(AP l o.id).2=0):∀o∈l,Cl o.data<=4:=by
 intro o ho
 obtain⟨i,hi,rfl⟩:=List.mem_iff_getElem.1 ho
 have hm:=hl.2.1 _ ho
 have hf:=I2 hl.2.2 hi
 have hok:=hall _ ho
 have key:(Aq l[i].data).length<=1800:=by
  by_cases hb:l[i].base=0
  .have:=(EA hf (by omega) hb).2
   rw[this] at hok
   cases e:BD (Aq l[i].data) with
   |none=>rw[e] at hok;simp at hok
   |some g=>
    obtain⟨h1,h2⟩:=Sc e
    rw[h1];exact Ld h2
  .have hh:=(hl.closed _ ho).resolve_left hb
   have:=Mj hf (by omega) hb hh (Dr hok)
   rw[this] at hok
   by_cases hc:(AP l l[i].base).2=0
   .rw[if_pos hc] at hok
    cases e:BK (AP l l[i].base).1 (Aq l[i].data) with
    |none=>rw[e] at hok;simp at hok
    |some g=>
     obtain⟨h1,h2⟩:=Sd e
     rw[h1];exact Le (Dc _ _) h2
   .rw[if_neg hc] at hok;simp at hok
 obtain⟨b1,b2,b3,_⟩:=hm.2.2.1
 have:(Aq l[i].data).length=l[i].data.n.toNat:=by simp[Aq]
 unfold Cl
 omega
def I5 (l:List (Int×Int)) (i:Int):Nat:=l.countP fun x=>decide (i<=x.1)
theorem Pn (l:List (Int×Int)) (i:Int):I5 l (i+1)<=I5 l i:=List.countP_mono_left fun x _ h=>by simp at h |-;omega
theorem TW {l:List (Int×Int)} {i:Int} {x:Int×Int} (hx:x∈l) (e:x.1=i):I5 l (i+1)+1<=I5 l i:=by
 induction l with
 |nil=>simp at hx
 |cons y l ih=>
  have hl:=Pn l i
  unfold I5 at*
  simp only[List.countP_cons]
  rw[List.mem_cons] at hx
  rcases hx with rfl|hx
  .have h1:¬i+1<=x.1:=by omega
   have h2:i<=x.1:=by omega
   simp[h1,h2];omega
  .have:=ih hx
   by_cases h1:i+1<=y.1
   .have h2:i<=y.1:=by omega
    simp[h1,h2];omega
   .simp[h1];omega
theorem Qv {l:List (Int×Int)} {i:Int} (h0:C6 l (i-1)=false) (h1:C6 l i=true):∃x∈l,x.1=i:=by
 unfold C6 at h0 h1
 rw[List.any_eq_true] at h1
 obtain⟨x,hx,h1⟩:=h1
 rw[List.any_eq_false] at h0
 have:=h0 x hx
 refine⟨x,hx,?_⟩
 simp at h1 this
 by_cases c:x.1<=i-1
 .have:=this c;omega
 .omega
theorem J5 {l:List (Int×Int)} (hl:∀x∈l,0<=x.1):∀(t:List Bool) (i a:Int),a<=i->0<=a->(a<i->C6 l (i-1)=false)->(∀j:Nat,j<t.length->t[j]?=some (C6 l (i+j)))->(Bo t i a).length<=I5 l i+1
 | [],i,a,_,_,_,_=>by unfold Bo;split<;>simp
 |b::t,i,a,hai,ha,hf,ht=>by
  have hb:b=C6 l i:=by have:=ht 0 (by simp);simpa using this
  have ht' :∀j:Nat,j<t.length->t[j]?=some (C6 l (i+1+j)):=fun j hj=>by
   have:=ht (j+1) (by simp;omega)
   simp only[List.getElem?_cons_succ] at this
   rw[this];congr 2;omega
  have hle:=Pn l i
  cases b with
  |false=>
   have:=J5 hl t (i+1) a (by omega) ha (fun _=>by rw[show i+1-1=i by omega];exact hb.symm) ht'
   rw[Bo];omega
  |true=>
   have h2:=J5 hl t (i+1) (i+1) (by omega) (by omega) (fun h=>by omega) ht'
   rw[Bo]
   by_cases c:a<i
   .rw[if_pos c]
    obtain⟨x,hx,e⟩:=Qv (hf c) hb.symm
    have:=TW hx e
    simp only[List.length_append,List.length_cons,List.length_nil];omega
   .rw[if_neg c];simp only[List.nil_append];omega
theorem TX {l:List (Int×Int)} {n:Nat} (hl:∀x∈l,0<=x.1):(Bo (BE l n) 0 0).length<=l.length+1:=by
 have:=J5 hl (BE l n) 0 0 (by omega) (by omega) (fun h=>by omega) (fun j hj=>by
  simp only[MV] at hj
  simp[BE,hj])
 have:I5 l 0<=l.length:=List.countP_le_length
 omega
theorem J6:∀(g:List (Int×Int)) (m:Int),(∀x∈g,x.2<=m)->(g.map fun x=>x.2).sum<=m*g.length
 | [],m,_=>by simp
 |x::g,m,h=>by
  have h1:=h x (by simp)
  have h2:=J6 g m fun y hy=>h y (by simp[hy])
  simp only[List.map_cons,List.sum_cons,List.length_cons,Int.natCast_add,Int.mul_add]
  omega
theorem VE:∀(l:List (Int×Int)),(∀x∈l,x.2<=4)->(l.map fun x=>x.2).sum<=4*l.length:=fun l h=>J6 l 4 h
theorem ZU {s:An} (h:A2 s) (hb:7*(s.vers.length:Int)+4<=s.blocks) {m:Int} (hm:m<=4):0<=FD (Av s) s.blocks m:=by
 have hp:=h.2
 have hfree:=XK hp
 have hn:∀x∈Av s,x.2<=4:=fun x hx=>by
  obtain⟨v,hv,rfl⟩:=List.mem_map.1 hx
  exact TV h.1.1.2.2.2.2.2.2 h.1.2.2.1 (Bm v) (List.mem_map.2 ⟨v,hv,rfl⟩)
 have hs:=VE _ hn
 have hlen:(Av s).length=s.vers.length:=by simp[Av]
 unfold RS at hfree
 rw[if_pos hp] at hfree
 have hsum:=congrArg Prod.fst hfree
 simp only at hsum
 have hc:=TX (l:=Av s) (n:=s.blocks.toNat) fun x hx=>(hp.2.2.2.1 x hx).1
 unfold FD
 cases e:(Bo (BE (Av s) s.blocks.toNat) 0 0).find? fun x=>decide (m<=x.2) with
 |some x=>
  have hx:=List.mem_of_find?_eq_some e
  simp only
  have:=(FV _ 0 0 (Int.le_refl _) x hx).2.1
  omega
 |none=>
  exfalso
  have h3:∀x∈Bo (BE (Av s) s.blocks.toNat) 0 0,x.2<=3:=fun x hx=>by
   have:=List.find?_eq_none.1 e x hx
   simp at this;omega
  have:=J6 _ 3 h3
  omega
theorem VF {s:An} (h:(AB s).1=0):∀id∈A4 s false,(BJ s (B2 s id).1 (B2 s id).2).2≠0:=by
 unfold AB at h
 cases e:(A4 s false).find? fun id=>decide ((BJ s (B2 s id).1 (B2 s id).2).2=0) with
 |none=>intro id Bw;simpa using List.find?_eq_none.1 e id Bw
 |some id=>
  rw[e] at h
  simp only at h
  unfold B2 at h
  split at h<;>simp at h
theorem TY {s:An} (h:A2 s) (hb:7*(s.vers.length:Int)+4<=s.blocks) (hf:(AB s).1=0):A4 s false=[]:=by
 rcases List.eq_nil_or_concat (A4 s false) with e| ⟨_,id,e⟩
 .exact e
 exfalso
 have Bw:id∈A4 s false:=by rw[e];simp
 apply VF hf id Bw
 obtain⟨v,hv,hk,e⟩:=(Is s id).1 Bw
 unfold B2
 cases ev:s.vers.find? fun u=>decide (u.base=id) with
 |some u=>
  simp only
  have hu:=List.mem_of_find?_eq_some ev
  have hub:u.base=id:=by simpa using List.find?_some ev
  obtain⟨i,hi,rfl⟩:=List.mem_iff_getElem.1 hu
  have hx:=It h.1.1.2.2.2.2.2.2 hi
  unfold BJ
  rw[if_neg (by simp),hx,if_neg (by omega),if_neg (by omega)]
  have:((i:Int)).toNat=i:=by omega
  rw[this,List.getElem?_eq_getElem hi]
  simp only
  have hvm:=h.1.1.2.2.2.2.2.2.2.1 (Bm v) (List.mem_map.2 ⟨v,hv,rfl⟩)
  have h1:1<=v.id:=hvm.1
  rw[if_neg (by omega)]
  unfold E6
  rw[if_neg]
  have hr:=ZU h hb (m:=Cl (Ep (Ai s) (Bm s.vers[i]) (DS (Ai s) s.vers[i].base)).data) (VD _ (Dc _ _))
  omega
 |none=>
  simp only
  unfold BJ
  obtain⟨i,hi,rfl⟩:=List.mem_iff_getElem.1 hv
  have hx:=It h.1.1.2.2.2.2.2.2 hi
  rw[if_neg (by simp),<-e,hx,if_neg (by omega),if_pos rfl]
  unfold Dd
  rw[hx,if_neg (by omega),if_neg]
  rintro(g|g|g)
  .have hvm:=h.1.1.2.2.2.2.2.2.2.1 (Bm s.vers[i]) (List.mem_map.2 ⟨_,hv,rfl⟩)
   have h1:1<=s.vers[i].id:=hvm.1
   have:=TK h (by omega)
   rw[<-g,e] at this
   exact Vw h Bw this
  .unfold Dp at hk
   rw[g] at hk;simp at hk
  .unfold GV at g
   rw[List.any_eq_true] at g
   obtain⟨u,hu,g⟩:=g
   have:=List.find?_eq_none.1 ev u hu
   rw[e] at g
   exact this g
theorem Qw {s y:An} (hv:y.vers.map (fun v=>(v.id,v.tag,v.gone))=s.vers.map fun v=>(v.id,v.tag,v.gone)) (hs:y.sess=s.sess) (hk:y.keep=s.keep) (w:Bool):A4 y w=A4 s w:=by
 have gen:∀{β:Type} (l:List AM) (f:Int×Bool×Bool->Bool) (g:Int×Bool×Bool->β),(l.filter fun v=>f (v.id,v.tag,v.gone)).map (fun v=>g (v.id,v.tag,v.gone))=((l.map fun v=>(v.id,v.tag,v.gone)).filter f).map g:=fun l f g=>by
  rw[List.filter_map,List.map_map];rfl
 have hse:CT y.vers=CT s.vers:=by
  have a:=gen y.vers (fun x=> !x.2.2) (fun x=>x.1)
  have b:=gen s.vers (fun x=> !x.2.2) (fun x=>x.1)
  rw[hv,<-b] at a
  exact a
 have hla:Ea y=Ea s:=by unfold Ea;rw[hse,hk]
 have hp:∀id,pinned y id=pinned s id:=fun id=>by unfold pinned;rw[hs]
 unfold A4 CU Dp
 rw[hla]
 simp only[hp]
 have a:=gen y.vers (fun x=>(x.2.1|| (Ea s).contains x.1||pinned s x.1)==w) (fun x=>x.1)
 have b:=gen s.vers (fun x=>(x.2.1|| (Ea s).contains x.1||pinned s x.1)==w) (fun x=>x.1)
 rw[hv,<-b] at a
 exact a
def behind (s:An) (n:Nat):An:=(B0 s n).getLast?.getD s
theorem LB (s:An):behind s 0=s:=by simp[behind,B0]
theorem If:∀(n:Nat) (s:An),behind s (n+1)=if (AB (behind s n)).1=0 then behind s n else(BJ (behind s n) (AB (behind s n)).1 (AB (behind s n)).2).1
 |0,s=>by
  rw[LB]
  unfold behind
  rw[B0]
  split
  .simp
  .simp[B0]
 |n+1,s=>by
  have e:∀m,behind s (m+1)=if (AB s).1=0 then s else behind (BJ s (AB s).1 (AB s).2).1 m:=fun m=>by
   unfold behind
   rw[B0]
   split
   .simp
   .rw[List.getLast?_cons]
    cases (B0 (BJ s (AB s).1 (AB s).2).1 m).getLast?<;>simp
  rw[e (n+1),e n]
  by_cases h:(AB s).1=0
  .simp only[if_pos h]
  .simp only[if_neg h]
   exact If n _
theorem TZ {s:An} (hs:AS s) (hx:Br s) (h:A2 s) (n:Nat):AS (behind s n)/\Br (behind s n):=by
 unfold behind
 cases e:(B0 s n).getLast? with
 |none=>exact⟨hs,hx⟩
 |some y=>exact TS n s hs hx h y (List.mem_of_getLast? e)
theorem Lf {s:An} (h:A2 s) {n:Nat} (hn:n<=1000):Fn s n=(behind s n,((B0 s n).length:Int),0):=by
 unfold Fn behind
 rw[if_pos ⟨h,by omega,by omega⟩];rfl
theorem VG {s:An} {id:Int} (he:(Dd s id).2=0):∃j,∃hj:j<s.vers.length,s.vers[j].id=id/\GV s id=false/\Dd s id=({s with vers:=s.vers.eraseIdx j},0):=by
 unfold Dd at he |-
 by_cases c1:AL (fun v=>decide (v.id=id)) s.vers<0
 .rw[if_pos c1] at he;simp at he
 rw[if_neg c1] at he |-
 by_cases c2:id=AN s.vers\/pinned s id=true\/GV s id=true
 .rw[if_pos c2] at he;simp at he
 rw[if_neg c2]
 obtain⟨hj,e⟩:=KO c1
 refine⟨_,hj,e,?_,rfl⟩
 cases g:GV s id with
 |false=>rfl
 |true=>exact absurd (.inr (.inr g)) c2
theorem Se {s:An} {j:Nat} (hj:j<s.vers.length) (hk:Dp s s.vers[j]=false):A4 {s with vers:=s.vers.eraseIdx j} true=A4 s true:=by
 obtain⟨A,B,v,hA,ev,e⟩:∃A B v,s.vers=A++v::B/\v=s.vers[j]/\s.vers.eraseIdx j=A++B:=
  ⟨s.vers.take j,s.vers.drop (j+1),s.vers[j],by rw[<-List.drop_eq_getElem_cons hj,List.take_append_drop],rfl,by rw[List.eraseIdx_eq_take_drop_succ]⟩
 rw[<-ev] at hk
 obtain⟨y,hy⟩:∃y,y={s with vers:=s.vers.eraseIdx j}:=⟨_,rfl⟩
 rw[<-hy]
 have yv:y.vers=A++B:=by rw[hy];exact e
 have yk:y.keep=s.keep:=by rw[hy]
 have hp:∀id,pinned y id=pinned s id:=fun id=>by rw[hy];rfl
 have hla:Ea y=Ea s:=by
  unfold Dp at hk
  simp only[Bool.or_eq_false_iff] at hk
  have hn:=hk.1.2
  have hn:¬v.id∈Ea s:=by simpa using hn
  unfold Ea at hn |-
  rw[yv,yk]
  rw[hA] at hn |-
  unfold CT at hn |-
  simp only[List.filter_append,List.filter_cons,List.map_append] at hn |-
  by_cases g:v.gone=true
  .simp[g]
  .have g:v.gone=false:=by simpa using g
   simp only[g,Bool.not_false,if_true,List.map_cons] at hn |-
   obtain⟨P,hP⟩:∃P,P=(A.filter fun v=> !v.gone).map AM.id:=⟨_,rfl⟩
   obtain⟨Q,hQ⟩:∃Q,Q=(B.filter fun v=> !v.gone).map AM.id:=⟨_,rfl⟩
   rw[<-hP,<-hQ] at hn |-
   have hlt:P.length<(max 0 (((P++v.id::Q).length:Int)-s.keep)).toNat:=by
    refine Nat.lt_of_not_le fun hle=>hn ?_
    rw[List.drop_append_of_le_length hle]
    simp
   simp only[List.length_append,List.length_cons] at hlt |-
   obtain⟨n,hn'⟩:∃n,n=(max 0 (((P.length+(Q.length+1):Nat):Int)-s.keep)).toNat:=⟨_,rfl⟩
   have e1:(max 0 (((P.length+Q.length:Nat):Int)-s.keep)).toNat=n-1:=by omega
   rw[e1,<-hn']
   have hlt:P.length<n:=by rw[hn'];exact hlt
   have d1:P.drop (n-1)=[]:=List.drop_eq_nil_of_le (by omega)
   have d2:P.drop n=[]:=List.drop_eq_nil_of_le (by omega)
   obtain⟨m,hm⟩:∃m,n-P.length=m+1:=⟨n-P.length-1,by omega⟩
   rw[List.drop_append,List.drop_append,d1,d2,hm,List.drop_succ_cons,show n-1-P.length=m by omega]
 have hkb:∀u,Dp y u=Dp s u:=fun u=>by unfold Dp;rw[hla,hp]
 unfold A4 CU
 simp only[hkb]
 rw[yv,hA,List.filter_append,List.filter_append,List.filter_cons,hk]
 simp
def EO (l:List Obj):Int:=(l.map fun o=>(AE l o.id).1).sum
theorem Mm {α:Type}:∀(l:List α) (f g:α->Int),(∀x∈l,f x<=g x)->(l.map f).sum<=(l.map g).sum
 | [],_,_,_=>by simp
 |x::l,f,g,h=>by
  have h1:=h x (by simp)
  have h2:=Mm l f g fun y hy=>h y (by simp[hy])
  simp only[List.map_cons,List.sum_cons];omega
theorem NX {l:List Obj} (hl:Ca l) (hall:∀o∈l,(AP l o.id).2=0):0<=EO l/\EO l<=3*l.length:=by
 have hp:∀o∈l,1<=(AE l o.id).1/\(AE l o.id).1<=3:=fun o ho=>by
  obtain⟨p,hp⟩:=BW.1 ⟨o,ho,rfl⟩
  have:=(hl.2.1 o ho).1
  exact EB hp (by omega) (Dr (hall o ho))
 have h1:=Mm l (fun _=>0) (fun o=>(AE l o.id).1) fun o ho=>by have:=hp o ho;omega
 have h2:=Mm l (fun o=>(AE l o.id).1) (fun _=>3) fun o ho=>by have:=hp o ho;omega
 have e0:∀m:List Obj,(m.map fun _=>(0:Int)).sum=0:=fun m=>by induction m<;>simp_all
 have e3:∀m:List Obj,(m.map fun _=>(3:Int)).sum=3*m.length:=fun m=>by
  induction m with
  |nil=>rfl
  |cons x m ih=>simp only[List.map_cons,List.sum_cons,List.length_cons,Int.natCast_add,Int.mul_add];omega
 rw[e0] at h1;rw[e3] at h2
 exact⟨h1,h2⟩
theorem Po {l:List Obj} (hl:Ca l) (hall:∀o∈l,(AP l o.id).2=0) {j:Nat} (hj:j<l.length) (hb:∀o∈l,o.base≠l[j].id):EO (l.eraseIdx j)<EO l:=by
 have hpw:=hl.2.2
 have hne:∀o∈l.eraseIdx j,o.id≠l[j].id:=fun o ho=>by
  rw[List.eraseIdx_eq_take_drop_succ,List.mem_append] at ho
  rw[List.pairwise_iff_getElem] at hpw
  rcases ho with ho|ho
  .obtain⟨k,hk,rfl⟩:=List.mem_iff_getElem.1 ho
   simp only[List.length_take] at hk
   rw[List.getElem_take]
   have:=hpw k j (by omega) hj (by omega);omega
  .obtain⟨k,hk,rfl⟩:=List.mem_iff_getElem.1 ho
   simp only[List.length_drop] at hk
   rw[List.getElem_drop]
   have:=hpw j (j+1+k) hj (by omega) (by omega);omega
 have hf:∀id,id≠l[j].id->A7 (l.eraseIdx j) id=A7 l id:=fun id h=>Ie hj (fun e=>h e.symm)
 have hw:∀id,id≠l[j].id->AE (l.eraseIdx j) id=AE l id:=fun id h=>by
  unfold AE
  rw[hf id h,<-HS (l:=l) (m:=l.eraseIdx j) (fun id=>id≠l[j].id) (fun id hp _=>(hf id hp).symm) (fun id o _ _ e=>hb o (DM e).1) 4 id h]
 have e1:EO (l.eraseIdx j)=((l.eraseIdx j).map fun o=>(AE l o.id).1).sum:=by
  unfold EO
  congr 1
  exact List.map_congr_left fun o ho=>by rw[hw _ (hne o ho)]
 have hm:=List.getElem_mem hj
 have hpos:=EB (I2 hl.2.2 hj) (by have:=(hl.2.1 _ hm).1;omega) (Dr (hall _ hm))
 rw[e1,List.eraseIdx_eq_take_drop_succ]
 have e2:l=l.take j++l[j]::l.drop (j+1):=by rw[<-List.drop_eq_getElem_cons hj,List.take_append_drop]
 have e3:EO l=((l.take j++l[j]::l.drop (j+1)).map fun o=>(AE l o.id).1).sum:=by rw[<-e2];rfl
 rw[e3]
 simp only[List.map_append,List.map_cons,List.sum_append,List.sum_cons]
 omega
theorem Rh {α:Type} {f g:α->Int} {o:α}:∀{l:List α} {i:Nat} (hi:i<l.length),(∀x∈l,f x<=g x)->f o<g l[i]->((l.set i o).map f).sum<(l.map g).sum
 |x::l,0,_,h,ho=>by
  have:=Mm l f g fun y hy=>h y (by simp[hy])
  simp only[List.getElem_cons_zero] at ho
  simp only[List.set_cons_zero,List.map_cons,List.sum_cons];omega
 |x::l,i+1,hi,h,ho=>by
  have:=Rh (l:=l) (i:=i) (by simpa using hi) (fun y hy=>h y (by simp[hy])) (by simpa using ho)
  have h1:=h x (by simp)
  simp only[List.set_cons_succ,List.map_cons,List.sum_cons];omega
theorem Sf {l:List Obj} {i:Nat} {q:Obj} (hl:Ca l) (hall:∀o∈l,(AP l o.id).2=0) (hi:i<l.length) (hb:l[i].base≠0) (hq:A7 l l[i].base=some q):EO (l.set i (Ep l l[i] q.base))<EO l:=by
 obtain⟨d1,d2,d3,d4⟩:=HU hl hall hi hb hq
 obtain⟨hx,hsame⟩:=La hl hall hi hb hq
 obtain⟨o',ho'⟩:∃o',o' =Ep l l[i] q.base:=⟨_,rfl⟩
 have oi:o'.id=l[i].id:=by rw[ho'];rfl
 have ob:o'.base=q.base:=by rw[ho'];rfl
 rw[<-ho'] at hx hsame |-
 obtain⟨x,ex⟩:∃x,x=l.set i o' :=⟨_,rfl⟩
 have hset:=J3 hl.2.2 hi (o:=o') oi
 rw[<-ex,oi] at hset
 rw[<-ex] at hx hsame |-
 have hm:=List.getElem_mem hi
 have hheld:∀j,Cg l j->Cg x j:=fun j ⟨p,hp,e⟩=>by
  have:=hset j
  obtain⟨r,hr⟩:=BW.1 ⟨p,hp,e⟩
  exact BW.2 (by rw[this];split<;>exact⟨_,by first|rfl|exact hr⟩)
 have key:∀(n:Nat) (j:Int),Cg l j->(AE l j).1<=n->(AE x j).1<=(AE l j).1/\(j=l[i].id->(AE x j).1<(AE l j).1):=by
  intro n
  induction n with
  |zero=>
   intro j hj hn
   obtain⟨p,hp⟩:=BW.1 hj
   obtain⟨pm,pi⟩:=DM hp
   have:=(hl.2.1 p pm).1
   have hd:=Dr (hall p pm)
   rw[pi] at hd
   have:=EB hp (by omega) hd
   omega
  |succ n ih=>
   intro j hj hn
   obtain⟨p,hp⟩:=BW.1 hj
   obtain⟨pm,pi⟩:=DM hp
   have ppos:=(hl.2.1 p pm).1
   have j0:j≠0:=by omega
   have hok:=hall p pm
   rw[pi] at hok
   have hd:=Dr hok
   have hdx:(AE x j).2=0:=Dr (by rw[hsame j hj];exact hok)
   have hs:=hset j
   by_cases c:j=l[i].id
   .have hs:A7 x j=some o' :=by rw[hs,if_pos c]
    refine(fun h:(AE x j).1<(AE l j).1=>⟨by omega,fun _=>h⟩) ?_
    by_cases hb0:q.base=0
    .have e1:=(EA hs j0 (by rw[ob];exact hb0)).1
     have:=d3 hb0
     rw[e1,c];omega
    .obtain⟨k1,k2,k3,k4⟩:=d4 hb0
     rw[<-c] at k4
     have g:=(ih q.base k1 (by omega)).1
     have hdy:=(DR hs j0 (by rw[ob];exact hheld _ k1)).2 hdx
     rw[ob] at hdy
     omega
   .have hs:A7 x j=some p:=by rw[hs,if_neg c];exact hp
    refine⟨?_,fun h=>absurd h c⟩
    by_cases hb0:p.base=0
    .rw[(EA hs j0 hb0).1,(EA hp j0 hb0).1];exact Int.le_refl _
    .have hh:=(hl.closed p pm).resolve_left hb0
     have hdl:=(DR hp j0 hh).2 hd
     have g:=(ih p.base hh (by omega)).1
     have hdy:=(DR hs j0 (hheld _ hh)).2 hdx
     omega
 have kk:∀j,Cg l j->_:=fun j hj=>key (AE l j).1.toNat j hj (by omega)
 have fin:=Rh (f:=fun o=>(AE x o.id).1) (g:=fun o=>(AE l o.id).1) (o:=o') hi (fun o ho=>(kk o.id ⟨o,ho,rfl⟩).1) (by rw[oi];exact(kk _ ⟨_,hm,rfl⟩).2 rfl)
 rw[<-ex] at fin
 exact fin
theorem T0 {s:An} (h:A2 s) (hf:(AB s).1≠0):
 EO (Ai (BJ s (AB s).1 (AB s).2).1)<EO (Ai s)/\A4 (BJ s (AB s).1 (AB s).2).1 true=A4 s true/\(BJ s (AB s).1 (AB s).2).1.vers.length<=s.vers.length:=by
 have hmy:=h.1.1.2.2.2.2.2.2
 have hall:=h.1.2.2.1
 obtain⟨id,Bw,he,ef⟩:∃id,id∈A4 s false/\(BJ s (B2 s id).1 (B2 s id).2).2=0/\AB s=B2 s id:=by
  unfold AB at hf |-
  cases e:(A4 s false).find? fun id=>decide ((BJ s (B2 s id).1 (B2 s id).2).2=0) with
  |none=>rw[e] at hf;simp at hf
  |some id=>exact⟨id,List.mem_of_find?_eq_some e,by simpa using List.find?_some e,rfl⟩
 rw[ef]
 clear ef hf
 unfold B2 at he |-
 cases ev:s.vers.find? fun u=>decide (u.base=id) with
 |some u=>
  rw[ev] at he
  simp only at he |-
  have hu:=List.mem_of_find?_eq_some ev
  have hub:u.base=id:=by simpa using List.find?_some ev
  obtain⟨i,hi,rfl⟩:=List.mem_iff_getElem.1 hu
  obtain⟨v,hv,hk,e⟩:=(Is s id).1 Bw
  have h1:1<=v.id:=(hmy.2.1 (Bm v) (List.mem_map.2 ⟨v,hv,rfl⟩)).1
  have hb0:s.vers[i].base≠0:=by omega
  have hx:=It hmy hi
  have ea:BJ s 2 s.vers[i].id=E6 s (Ep (Ai s) (Bm s.vers[i]) (DS (Ai s) s.vers[i].base)) 0:=by
   unfold BJ
   rw[if_neg (by simp),hx,if_neg (by omega),if_neg (by omega)]
   have:((i:Int)).toNat=i:=by omega
   rw[this,List.getElem?_eq_getElem hi]
   simp only
   rw[if_neg hb0]
  rw[ea] at he |-
  obtain⟨_,r| ⟨y,a,r1,r2,r3,r4⟩⟩:=I4 h hi hb0
  .rw[r] at he;simp at he
  rw[r1]
  simp only
  have hio:i<(Ai s).length:=by simpa[Ai] using hi
  have eo:(Ai s)[i]=Bm s.vers[i]:=by simp[Ai]
  have hbo:(Ai s)[i].base≠0:=by rw[eo];exact hb0
  obtain⟨q,hq⟩:=BW.1 ((hmy.closed _ (List.getElem_mem hio)).resolve_left hbo)
  have hqb:DS (Ai s) s.vers[i].base=q.base:=by
   rw[eo] at hq;unfold DS
   have:A7 (Ai s) s.vers[i].base=some q:=hq
   rw[this]
  have hd:=Sf hmy hall hio hbo hq
  have eob:Ai y=(Ai s).set i (Ep (Ai s) (Ai s)[i] q.base):=by
   rw[r3,eo,hqb]
   exact List.map_set
  refine⟨by rw[eob];exact hd,Qw ?_ (by rw[r3]) (by rw[r3]) true,by rw[r3];simp⟩
  rw[r3]
  simp only[List.map_set]
  refine List.ext_getElem? fun j=>?_
  rw[List.getElem?_set]
  split
  .rename_i h;subst h;simp[hi]
  .rfl
 |none=>
  rw[ev] at he
  simp only at he |-
  have ea:BJ s 1 id=Dd s id:=by
   obtain⟨v,hv,hk,e⟩:=(Is s id).1 Bw
   obtain⟨i,hi,rfl⟩:=List.mem_iff_getElem.1 hv
   have hx:=It hmy hi
   unfold BJ
   rw[if_neg (by simp),<-e,hx,if_neg (by omega),if_pos rfl]
  rw[ea] at he |-
  obtain⟨j,hj,e,hb,et⟩:=VG he
  rw[et]
  have hio:j<(Ai s).length:=by simpa[Ai] using hj
  have eo:(Ai s)[j]=Bm s.vers[j]:=by simp[Ai]
  have eob:Ai {s with vers:=s.vers.eraseIdx j}=(Ai s).eraseIdx j:=by
   unfold Ai
   simp only[List.eraseIdx_eq_take_drop_succ,List.map_append,List.map_take,List.map_drop]
  refine⟨?_,Se hj ?_,by simp only[List.length_eraseIdx];split<;>omega⟩
  .simp only
   rw[eob]
   refine Po hmy hall hio fun o ho hbo=>?_
   obtain⟨u,hu,rfl⟩:=List.mem_map.1 ho
   have:=List.find?_eq_none.1 ev u hu
   rw[eo] at hbo
   have hbo:u.base=s.vers[j].id:=hbo
   rw[e] at hbo
   simp[hbo] at this
  .obtain⟨v,hv,hk,e2⟩:=(Is s id).1 Bw
   obtain⟨i,hi,rfl⟩:=List.mem_iff_getElem.1 hv
   have:=Q1 h hi hj (by rw[e2,e])
   subst this;exact hk
structure Er (s x:An) (n:Nat):Prop where
 ok:A2 x
 sin:AS x
 all:Br x
 ses:x.sess=s.sess
 blk:x.blocks=s.blocks
 kep:x.keep=s.keep
 ids:∀j,j∈x.vers.map (fun v=>v.id)->j∈s.vers.map fun v=>v.id
 gra:∀j,j≠0->j∈x.vers.map (fun v=>v.id)->AP (Ai x) j=AP (Ai s) j
 kpt:A4 x true=A4 s true
 dep:EO (Ai x)+n<=3*s.vers.length
 len:x.vers.length<=s.vers.length
theorem Er.start {s:An} (h:A2 s) (hs:AS s) (hx:Br s):Er s s 0 where
 ok:=h
 sin:=hs
 all:=hx
 ses:=rfl
 blk:=rfl
 kep:=rfl
 ids:=fun _ h=>h
 gra:=fun _ _ _=>rfl
 kpt:=rfl
 dep:=by have:=(NX h.1.1.2.2.2.2.2.2 h.1.2.2.1).2;simp[Ai] at this |-;omega
 len:=Nat.le_refl _
theorem Er.next {s x:An} {n:Nat} (h:Er s x n) (hf:(AB x).1≠0):Er s (BJ x (AB x).1 (AB x).2).1 (n+1)/\(BJ x (AB x).1 (AB x).2).1.vers.length<=x.vers.length/\
 ∀j,j∈(BJ x (AB x).1 (AB x).2).1.vers.map (fun v=>v.id)->j∈x.vers.map fun v=>v.id:=by
 obtain⟨n1,n2,n3⟩:=T0 h.ok hf
 have he:=J4 hf
 obtain⟨a1,a2,a3,a4,a5,a6⟩:=Pk h.ok he
 have hi:=TZ h.sin h.all h.ok 1
 rw[If 0,LB,if_neg hf] at hi
 refine⟨⟨a1,hi.1,hi.2,by rw[a2,h.ses],by rw[a3,h.blk],by rw[a4,h.kep],fun j hj=>h.ids j (a5 j hj),fun j j0 hj=>by rw[a6 j j0 hj,h.gra j j0 (a5 j hj)],by rw[n2,h.kpt],?_,?_⟩,n3,a5⟩
 .have:=h.dep;omega
 .have:=h.len;omega
theorem Er.bound {s x:An} {n:Nat} (h:Er s x n):n<=3*s.vers.length:=by
 have:=(NX h.ok.1.1.2.2.2.2.2.2 h.ok.1.2.2.1).1
 have:=h.dep
 omega
theorem Er.idle {s x:An} {n:Nat} (h:Er s x n) (hn:3*s.vers.length<=n):(AB x).1=0:=by
 by_cases c:(AB x).1=0
 .exact c
 .have:=(h.next c).1.bound;omega
theorem Er.behind {s:An} (h:A2 s) (hs:AS s) (hx:Br s):∀n:Nat,∃m,Er s (behind s n) m/\(m=n\/(AB (Go.Abs.behind s n)).1=0)
 |0=>⟨0,by rw[LB];exact .start h hs hx,.inl rfl⟩
 |n+1=>by
  obtain⟨m,h1,h2⟩:=Er.behind h hs hx n
  rw[If n]
  by_cases c:(AB (Go.Abs.behind s n)).1=0
  .rw[if_pos c];exact⟨m,h1,.inr c⟩
  .rw[if_neg c]
   have:=h2.resolve_right c
   subst this
   exact⟨m+1,(h1.next c).1,.inl rfl⟩
theorem Er.most {s:An} (h:A2 s) (hs:AS s) (hx:Br s):∃m,Er s (Go.Abs.behind s 1000) m/\(AB (Go.Abs.behind s 1000)).1=0:=by
 obtain⟨m,h1,h2⟩:=Er.behind h hs hx 1000
 refine⟨m,h1,?_⟩
 rcases h2 with rfl|h2
 .refine h1.idle ?_
  have:=h.1.1.2.2.2.2.2.2.1
  simp[Ai] at this
  omega
 .exact h2
theorem Er.left {s x:An} {n:Nat} (h:Er s x n) (hb:7*(s.vers.length:Int)+4<=s.blocks) (hf:(AB x).1=0):x.vers.map (fun v=>v.id)=A4 s true:=by
 have he:=TY h.ok (by have:=h.len;rw[h.blk];omega) hf
 rw[<-h.kpt]
 unfold A4 CU at he |-
 rw[List.map_eq_nil_iff,List.filter_eq_nil_iff] at he
 congr 1
 symm
 rw[List.filter_eq_self]
 intro v hv
 have:=he v hv
 cases g:Dp x v with
 |true=>rfl
 |false=>rw[g] at this;simp at this
theorem Pp:∀l:List AM,(∀v∈l,Cl v.data<=4)->(l.length:Int)<=KN l/\KN l<=4*l.length
 | [],_=>by simp[KN]
 |v::l,h=>by
  have h1:=h v (by simp)
  have h2:=Vj v.data
  have h3:=Pp l fun u hu=>h u (by simp[hu])
  rw[KN]
  simp only[List.length_cons,Int.natCast_add]
  omega
theorem ZV {s:An} (h:A2 s):∀v∈s.vers,Cl v.data<=4:=fun v hv=>TV h.1.1.2.2.2.2.2.2 h.1.2.2.1 (Bm v) (List.mem_map.2 ⟨v,hv,rfl⟩)
theorem Er.room {s x:An} {n:Nat} (h:Er s x n) (h0:A2 s) (hb:2*KN s.vers+72<=s.blocks) (hf:(AB x).1=0):x.vers.length=(A4 s true).length:=by
 have h1:=(Pp s.vers (ZV h0)).1
 have h2:s.vers.length<=12:=by have:=h0.1.1.2.2.2.2.2.2.1;simpa[Ai] using this
 rw[<-h.left (by omega) hf,List.length_map]
def El (v:AM):AM:={v with tag:=false}
def D2 (v:AM):AM:={v with tag:=true,gone:=false}
def Ci (s:An):An:=⟨1,100,s.vers.map El,[AR,AR,AR]⟩
def Es (s:An):An:=⟨1,100,s.vers.map D2,[AR,AR,AR]⟩
theorem Pq {f:AM->AM} (hf:∀v,(f v).id=v.id) (l:List AM):AN (l.map f)=AN l:=by
 unfold AN
 rw[List.getLast?_map]
 cases l.getLast?<;>simp[hf]
theorem VH {f:AM->AM} (l:List AM) (hf:∀v,v.gone=false->(f v).gone=false) (h:Cy l=false):Cy (l.map f)=false:=by
 unfold Cy at*
 rw[List.getLast?_map]
 cases e:l.getLast? with
 |none=>rfl
 |some v=>rw[e] at h;exact hf v h
theorem Pr {s:An} {f:AM->AM} (h:A2 s) (hf:∀v,Bm (f v)=Bm v/\(f v).parent=v.parent/\(f v).at_=v.at_/\¬((f v).tag=true/\(f v).gone=true)/\(v.gone=false->(f v).gone=false)):A2 ⟨1,100,s.vers.map f,[AR,AR,AR]⟩:=by
 obtain⟨⟨⟨a1,a2,a3,a4,a5,a6,a7⟩,b,c,d⟩,p1,p2,p3,p4,p5⟩:=h
 obtain⟨y,hy⟩:∃y:An,y=⟨1,100,s.vers.map f,[AR,AR,AR]⟩:=⟨_,rfl⟩
 have eo:Ai y=Ai s:=by
  rw[hy];unfold Ai
  simp only[List.map_map]
  exact List.map_congr_left fun v _=>(hf v).1
 have ep:Av y=Av s:=by
  rw[hy];unfold Av
  simp only[List.map_map]
  refine List.map_congr_left fun v _=>?_
  have h1:(f v).data=v.data:=congrArg Obj.data (hf v).1
  simp only[Function.comp,(hf v).2.2.1,h1]
 rw[<-hy]
 have hk:y.keep=1:=by rw[hy]
 have hb:y.blocks=100:=by rw[hy]
 have hx:y.sess=[AR,AR,AR]:=by rw[hy]
 have hv:y.vers=s.vers.map f:=by rw[hy]
 refine⟨⟨⟨by omega,by omega,by omega,by omega,?_,?_,by rw[eo];exact a7⟩,by rw[hx];rfl,by rw[eo];exact c,?_⟩,by omega,by omega,by rw[ep];exact p3,?_,by rw[ep];exact p5⟩
 .intro v hv'
  rw[hv] at hv'
  obtain⟨u,hu,rfl⟩:=List.mem_map.1 hv'
  obtain⟨k1,k2,_⟩:=a5 u hu
  obtain⟨g1,g2,g3,g4,g5⟩:=hf u
  have:(f u).id=u.id:=congrArg Obj.id g1
  exact⟨by omega,by omega,g4⟩
 .rw[hv];exact VH _ (fun v=>(hf v).2.2.2.2) a6
 .rw[hx]
  intro x hx'
  have:x=AR:=by simpa using hx'
  subst this
  unfold AG
  simp[AR]
 .rw[ep,hb]
  intro x hx'
  have:=p4 x hx'
  exact⟨this.1,this.2.1,by omega⟩
theorem KP {s:An} (h:A2 s):A2 (Ci s):=Pr h fun v=>⟨rfl,rfl,rfl,by simp[El],fun h=>h⟩
theorem XO {s:An} (h:A2 s):A2 (Es s):=Pr h fun v=>⟨rfl,rfl,rfl,by simp[D2],fun _=>rfl⟩
theorem T1 {s:An}:A4 (Es s) false=[]:=by
 unfold A4 CU
 rw[List.map_eq_nil_iff,List.filter_eq_nil_iff]
 intro v hv
 obtain⟨u,_,rfl⟩:=List.mem_map.1 hv
 simp[Dp,D2]
theorem T2 {s:An} (h:A2 s):Fn (Es s) 1000=(Es s,0,0):=by
 have hf:(AB (Es s)).1=0:=by unfold AB;rw[T1];rfl
 have hr:B0 (Es s) 1000=[]:=by rw[B0,if_pos hf]
 have:=Lf (XO h) (n:=1000) (by omega)
 rw[hr] at this
 have hb:behind (Es s) 1000=Es s:=by unfold behind;rw[hr];rfl
 rw[hb] at this
 exact this
theorem T3 {s:An} (h:A2 s) (h0:s.vers≠ []):A4 (Ci s) true=[AN s.vers]:=by
 have hb:=KP h
 obtain⟨v,e⟩:∃v,(Ci s).vers.getLast?=some v:=by
  cases e:(Ci s).vers.getLast? with
  |none=>simp[Ci] at e;exact absurd e h0
  |some v=>exact⟨v,rfl⟩
 have hl:AN (Ci s).vers=v.id:=by unfold AN;rw[e]
 have hl2:AN s.vers=v.id:=by rw[<-hl];exact(Pq (f:=El) (fun _=>rfl) _).symm
 have hg:=hb.1.1.2.2.2.2.2.1
 unfold Cy at hg
 rw[e] at hg
 simp only at hg
 obtain⟨ys,e2⟩:=List.getLast?_eq_some_iff.1 e
 have hla:Ea (Ci s)=[v.id]:=by
  have hs:CT (Ci s).vers=(ys.filter fun v=> !v.gone).map AM.id++[v.id]:=by
   rw[e2,CT,List.filter_append,List.map_append];simp[hg]
  unfold Ea
  rw[hs]
  have:(Ci s).keep=1:=rfl
  rw[this]
  generalize (ys.filter fun v=> !v.gone).map AM.id=A
  have:(max 0 (((A++[v.id]).length:Int)-1)).toNat=A.length:=by simp
  rw[this];simp
 have hk:∀u∈(Ci s).vers,Dp (Ci s) u=decide (u.id=v.id):=fun u hu=>by
  have hm:=hb.1.1.2.2.2.2.2.2.2.1 (Bm u) (List.mem_map.2 ⟨u,hu,rfl⟩)
  have h1:1<=u.id:=hm.1
  unfold Dp
  rw[hla]
  have hp:pinned (Ci s) u.id=false:=by
   unfold pinned Ci
   simp[AR];omega
  have ht:u.tag=false:=by
   obtain⟨w,_,rfl⟩:=List.mem_map.1 hu
   rfl
  rw[hp,ht]
  by_cases g:u.id=v.id<;>simp[g]
 have hup:=Ra hb.1.1.2.2.2.2.2.2
 rw[hl2]
 unfold A4 CU
 rw[e2] at hk hup |-
 rw[List.map_append,List.pairwise_append] at hup
 have h1:ys.filter (fun u=>Dp (Ci s) u==true)=[]:=by
  rw[List.filter_eq_nil_iff]
  intro u hu
  rw[hk u (by simp[hu])]
  have:=hup.2.2 u.id (List.mem_map.2 ⟨u,hu,rfl⟩) v.id (by simp)
  simp;omega
 rw[List.filter_append,h1]
 simp[hk v (by simp)]
theorem T4 {s:An} (h:A2 s) (hs:AS s) (h0:s.vers≠ []) (hx:Br (Ci s)) (hi:AS (Ci s)):
 A2 (behind (Ci s) 1000)/\AS (behind (Ci s) 1000)/\∃v,(behind (Ci s) 1000).vers=[v]/\v.id=AN s.vers/\v.base=0/\AP (Ai (behind (Ci s) 1000)) v.id=AP (Ai (Ci s)) v.id:=by
 obtain⟨m,hl,hf⟩:=Er.most (KP h) hi hx
 have h12:(Ci s).vers.length<=12:=by have:=(KP h).1.1.2.2.2.2.2.2.1;simpa[Ai] using this
 have e:=hl.left (by have:(Ci s).blocks=100:=rfl;omega) hf
 rw[T3 h h0] at e
 refine⟨hl.ok,hl.sin,?_⟩
 have hmy:=hl.ok.1.1.2.2.2.2.2.2
 have hgr:=hl.gra
 generalize Go.Abs.behind (Ci s) 1000=x at*
 cases ev:x.vers with
 |nil=>rw[ev] at e;simp at e
 |cons v t=>
  rw[ev] at e
  simp only[List.map_cons,List.cons.injEq,List.map_eq_nil_iff] at e
  obtain⟨e1,rfl⟩:=e
  have hm:=hmy.2.1 (Bm v) (List.mem_map.2 ⟨v,by rw[ev];simp,rfl⟩)
  have h1:1<=v.id:=hm.1
  refine⟨v,rfl,e1,?_,hgr v.id (by omega) (by rw[ev];simp)⟩
  rcases hm.2.2.2.2 with g| ⟨q,hq,g⟩
  .exact g
  .obtain⟨u,hu,rfl⟩:=List.mem_map.1 hq
   rw[ev] at hu
   have:u=v:=by simpa using hu
   subst this
   exact absurd g.symm hm.2.2.2.1
theorem Ps {s:An} {f:AM->AM} (h:AS s) (hf:∀v,(f v).data=v.data):AS ⟨1,100,s.vers.map f,[AR,AR,AR]⟩/\Br ⟨1,100,s.vers.map f,[AR,AR,AR]⟩:=by
 refine⟨⟨by simpa using h.1,by simp,fun v hv=>?_⟩,fun x hx=>?_⟩
 .obtain⟨u,hu,rfl⟩:=List.mem_map.1 hv
  rw[hf];exact h.2.2 u hu
 .have:x=AR:=by simpa using hx
  subst this
  exact⟨⟨by simp[AR,AI],by simp[AR,AI]⟩,by simp[AR,CS],by simp[AR,CS]⟩
theorem XP {s:An} (h:AS s):AS (Ci s)/\Br (Ci s):=Ps h fun _=>rfl
theorem XQ {s:An} (h:AS s):AS (Es s)/\Br (Es s):=Ps h fun _=>rfl
theorem Ng (b:Bool):∀(l:List AM) (k:Nat) (h:k<l.length),(Ac Au l).set (k*8+6) (.bool b)=Ac Au (l.set k {l[k] with tag:=b})
 | [],k,h=>by simp at h
 |v::t,0,h=>by simp[Ax,Au]
 |v::t,k+1,h=>by
  have ih:=Ng b t k (by simpa using h)
  have hl:(Au v).length=8:=rfl
  rw[Ax,List.set_append_right _ _ (by omega),show(k+1)*8+6-(Au v).length=k*8+6 by omega,ih]
  simp[Ax]
theorem Pt (b:Bool):∀(l:List AM) (k:Nat) (h:k<l.length),(Ac Au l).set (k*8+7) (.bool b)=Ac Au (l.set k {l[k] with gone:=b})
 | [],k,h=>by simp at h
 |v::t,0,h=>by simp[Ax,Au]
 |v::t,k+1,h=>by
  have ih:=Pt b t k (by simpa using h)
  have hl:(Au v).length=8:=rfl
  rw[Ax,List.set_append_right _ _ (by omega),show(k+1)*8+7-(Au v).length=k*8+7 by omega,ih]
  simp[Ax]
def E7 (f:AM->AM) (l:List AM) (k:Nat):List AM:=(l.take k).map f++l.drop k
theorem LC (f:AM->AM) (l:List AM) (k:Nat):(E7 f l k).length=l.length:=by simp[E7];omega
theorem T5 (f:AM->AM) (l:List AM):E7 f l 0=l:=by simp[E7]
theorem Pu (f:AM->AM) (l:List AM):E7 f l l.length=l.map f:=by simp[E7]
theorem Ri {f:AM->AM} {l:List AM} {k:Nat} (h:k<l.length):(E7 f l k)[k]'(by rw[LC];exact h)=l[k]:=by
 simp only[E7]
 rw[List.getElem_append_right (by simp;omega)]
 simp[Nat.min_eq_left (Nat.le_of_lt h)]
theorem NY {f:AM->AM} {l:List AM} {k:Nat} (h:k<l.length):(E7 f l k).set k (f l[k])=E7 f l (k+1):=by
 unfold E7
 have e:((l.take k).map f).length=k:=by simp;omega
 rw[List.set_append_right _ _ (by omega),e,Nat.sub_self,List.take_succ_eq_append_getElem h,List.drop_eq_getElem_cons h,List.set_cons_zero,List.map_append]
 simp
set_option maxHeartbeats 8000000 in
theorem Pv (hR:BT) (S:List An) (L:List (List Obj)) (G:List Gr) (na nn:Nat) (h0:S.length<Bt) (hS:∀s∈S,Lx s) (h1:G.length<Bt) (h2:∀g∈G,JW g) (h3:na<Bt) (h4:nn<Bt) (h5:L.length<Bt) (h6:∀l∈L,l.length<Bt/\∀o∈l,Gq o):Aa pg 8 [.agg (M8 S L G na nn)] [] (fun r _=>r= .bool true):=by
 have spH:=Xr S L G na nn h0 hS h1 h2 h3 h4 h5 (fun l hl=>⟨(h6 l hl).1,fun o ho=>((h6 l hl).2 o ho).1⟩)
 have spW:=TT hR
 simp only[M8,IX,IW,List.cons_append,List.nil_append] at spH |-
 obtain⟨ask,hask⟩:∃ask:List AV,ask=[.ro S.length (Ac (Ao false) S),.ro L.length (DV L),.ro G.length (Ac (Ba false) G),.ro na [],.ro nn []]:=⟨_,rfl⟩
 refine Aa.start (fn:=Tryz.f8) [.tmp 2] tk rfl rfl rfl (by kernel_rfl) (Nat.le_of_ble_eq_true rfl) rfl (by kernel_rfl) ?_
 rw[Ay]
 refine z1 ?_;intro K hK;refine zk ?_;clear hK K
 refine z0 ?_;intro K hK
 refine Ab.bor spH (by simp) ?_
 rintro r ⟨b,rfl,hb⟩
 refine⟨by simp,?_⟩
 cases b
 rotate_left
 .refine zx ?_
  refine zk ?_;clear hK K
  refine zt ?_
  refine zs ?_
  exact zR
 obtain⟨⟨hS1,hS2⟩,⟨hL1,hL2⟩,hG1,hG2⟩:=hb rfl
 refine zx ?_
 refine zk ?_;clear hK K
 refine zn ?_
 refine W.skip ?_
 refine zs ?_
 (repeat refine W.seq ?_);refine W.block (W.loopS (fun i:Nat=> [(1,.ptr 0 0 0),(3,.int .i64 i)]) (fun _=> [.live 0 [.ro S.length (Ac (Ao false) S),.ro L.length (DV L),.ro G.length (Ac (Ba false) G),.ro na [],.ro nn []]]) (fun i=>S.length-i) (fun i=>i<=S.length) 0 (Wk.fr (by simp[Ad])) (by simp) ?_)
 intro i hi
 by_cases c:i<S.length/\i<4
 rotate_left
 . (repeat refine W.seq ?_);refine W.midS (fun _:Unit=> [(23,.bool false)]) (fun _=> []) (fun _=>True) ?_ ?_
   .by_cases d1:i<S.length
    .have d2:¬(i:Int)<4:=by omega
     refine Af (an d1 d2) ?_;intro K hK
     refine zk ?_;clear hK K
     exact⟨(),trivial,Wk.cutM (k:=0) (by simp[Ad]) (by simp) (by simp) (by simp) (by simp) (by simp)⟩
    .refine Af d1 ?_;intro K hK
     refine zk ?_;clear hK K
     exact⟨(),trivial,Wk.cutM (k:=0) (by simp[Ad]) (by simp) (by simp) (by simp) (by simp) (by simp)⟩
   rintro _ _
   refine zn ?_
   refine W.exit ?_
   refine z0 ?_;intro K hK
   refine Ab.eq spW (by simp) (by simp) ?_
   refine zx ?_
   refine zk ?_;clear hK K
   exact zR
 obtain⟨d1,d2⟩:=c
 have d2' :(i:Int)<4:=by omega
 have k0:(Ac (Ao false) S)[i*4]?=some (.int .i64 S[i].keep):=Bk (f:=Ao false) (s:=4) (fun _=>rfl) d1 (i:=0) (by omega)
 have k1:(Ac (Ao false) S)[i*4+1]?=some (.int .i64 S[i].blocks):=Bk (f:=Ao false) (s:=4) (fun _=>rfl) d1 (i:=1) (by omega)
 have k2:(Ac (Ao false) S)[i*4+1+1]?=some (.ro S[i].vers.length (Ac Au S[i].vers)):=Bk (f:=Ao false) (s:=4) (fun _=>rfl) d1 (i:=2) (by omega)
 have k3:(Ac (Ao false) S)[i*4+1+1+1]?=some (.ro S[i].sess.length (Ac (Az false) S[i].sess)):=Bk (f:=Ao false) (s:=4) (fun _=>rfl) d1 (i:=3) (by omega)
 obtain⟨hsi,hsx⟩:=Vd (hS2 _ (List.getElem_mem d1))
 have hsm:=hS2 _ (List.getElem_mem d1)
 obtain⟨s,hsd⟩:∃s,s=S[i]:=⟨_,rfl⟩
 rw[<-hsd] at k0 k1 k2 k3 hsi hsx hsm
 have hvl:=hsm.1
 have spS:=Va s hsi hsx
 have k2' :(Ac (Ao false) S)[i*4+2]?=some (.ro s.vers.length (Ac Au s.vers)):=k2
 refine Af (an d1 d2') ?_;intro K hK
 refine zk ?_;clear hK K
 refine zt ?_
 refine W.skip ?_
 refine zb ?_
 by_cases hok:A2 s
 rotate_left
 .rw[decide_eq_false hok] at spS
  refine Af (an d1 (an k0 (an k1 (an k2 (an k2' k3))))) ?_;intro K hK
  refine Ab.eq spS (by simp) (by simp) ?_
  refine zx ?_
  refine zk ?_;clear hK K
  refine zt ?_
  refine W.exit ?_
  refine zs ?_
  exact⟨i+1,by omega,by omega,Wk.cutM (k:=1) (by simp[Ad]) (by simp) (by simp) (by simp) (by simp) (by simp)⟩
 rw[decide_eq_true hok] at spS
 by_cases c2:s.vers=[]
 .have c2' :(s.vers=[])=True:=eq_true c2
  refine Af (an d1 (an k0 (an k1 (an k2 (an k2' k3))))) ?_;intro K hK
  refine Ab.eq spS (by simp) (by simp) ?_
  refine AX (an d1 (an k0 (an k1 (an k2 (an k2' (an k3 c2')))))) ?_
  refine zk ?_;clear hK K
  refine zt ?_
  refine W.exit ?_
  refine zs ?_
  exact⟨i+1,by omega,by omega,Wk.cutM (k:=1) (by simp[Ad]) (by simp) (by simp) (by simp) (by simp) (by simp)⟩
 have c2' :(s.vers=[])=False:=eq_false c2
 have spC:=QI s hsi hsx
 refine Af (an d1 (an k0 (an k1 (an k2 (an k2' k3))))) ?_;intro K hK
 refine Ab.eq spS (by simp) (by simp) ?_
 refine AX (an d1 (an k0 (an k1 (an k2 (an k2' (an k3 c2')))))) ?_
 refine zk ?_;clear hK K
 refine zn ?_
 refine W.skip ?_
 refine MG (an d1 (an k0 (an k1 (an k2 (an k2' k3))))) ?_;intro K hK
 refine Ab.eq spC (by simp) (by simp) ?_
 refine zx ?_
 refine zk ?_;clear hK K
 refine z0 ?_;intro K hK
 refine zk ?_;clear hK K
 refine z0 ?_;intro K hK
 refine zk ?_;clear hK K
 refine z1 ?_;intro K hK
 refine⟨by show(3:Int)<=9223372036854775807;decide,?_⟩
 have hrep:CF 3 [AV.bool false,AV.int .i64 0,AV.bool false,AV.int .i64 0,AV.int .i64 0,AV.own 1 0 [],AV.int .i64 0,AV.int .i64 0,AV.int .i64 0,AV.bool false,AV.own 1 0 [],AV.own 1 0 []]=Ac (Az true) [AR,AR,AR]:=rfl
 rw[hrep]
 refine zk ?_;clear hK K
 refine zs ?_
 (repeat refine W.seq ?_);refine W.block (W.loopS (fun z:Nat=> [(1,.ptr 0 0 0),(3,.int .i64 i),(4,.ptr 1 0 0),(5,.int .i64 z)]) (fun z=> [.live 0 [.ro S.length (Ac (Ao false) S),.ro L.length (DV L),.ro G.length (Ac (Ba false) G),.ro na [],.ro nn []],.live 0 [.int .i64 1,.int .i64 100,.tok 2 0 8 0 s.vers.length,.tok 4 0 12 0 3],.live 0 (Ac Au (E7 El s.vers z)),.live 0 (Ac (Az true) s.sess),.live 0 (Ac (Az true) [AR,AR,AR])]) (fun z=>s.vers.length-z) (fun z=>z<=s.vers.length) 0 (Wk.fr (by simp[Ad,T5])) (by simp) ?_)
 intro z hz
 by_cases e1:z<s.vers.length
 .have hst:=NY (f:=El) e1
  have hat:=Ri (f:=El) e1
  have hml:=LC El s.vers z
  obtain⟨l,hl⟩:∃l,l=E7 El s.vers z:=⟨_,rfl⟩
  rw[<-hl] at hst hml |-
  have e2:z<l.length:=by omega
  have hset:(Ac Au l).set (z*8+6) (.bool false)=Ac Au (E7 El s.vers (z+1)):=by
   rw[Ng false l z e2,<-hst]
   congr 2
   simp only[<-hl] at hat
   rw[hat];rfl
  have b1:z*8+6<(Ac Au l).length:=by simp;omega
  refine Af e1 ?_;intro K hK
  refine zk ?_;clear hK K
  refine zt ?_
  refine W.skip ?_
  refine zb ?_
  refine Af (an e1 e2) ?_;intro K hK
  refine zk ?_;clear hK K
  rw[hset]
  refine zs ?_
  exact⟨z+1,by omega,by omega,Wk.fr (by simp[Ad])⟩
 have hze:z=s.vers.length:=by omega
 subst hze
 rw[Pu]
 refine Af e1 ?_;intro K hK
 refine zk ?_;clear hK K
 refine zn ?_
 refine W.exit ?_
 obtain⟨hci,hcx⟩:=XP hsi
 obtain⟨xok,xin,v,xv,vid,vb,vg⟩:=T4 hok hsi c2 hcx hci
 have hcok:=KP hok
 have hmb:=Lf hcok (n:=1000) (by omega)
 have sp3:=Rg hR (Ci s) 1000 hci hcx
 have hmb' :Fn (Ci s) 1000=(behind (Ci s) 1000,((B0 (Ci s) 1000).length:Int),0):=hmb
 rw[hmb'] at sp3
 simp only at sp3
 obtain⟨m,hm⟩:∃m:Int,m=((B0 (Ci s) 1000).length:Int):=⟨_,rfl⟩
 obtain⟨x,hx⟩:∃x,x=behind (Ci s) 1000:=⟨_,rfl⟩
 rw[<-hm,<-hx] at sp3
 rw[<-hx] at xok xin xv vg
 have spL:=Nt (Ci s) hci
 have spG1:=Pf x v.id xin xok.1.1.2.2.2.2.2.2
 have spG2:=Pf (Ci s) v.id hci hcok.1.1.2.2.2.2.2.2
 have hll:AN (Ci s).vers=v.id:=by rw[vid];exact Pq (f:=El) (fun _=>rfl) _
 rw[hll] at spL
 rw[vg] at spG1
 have hgm:A3 (if v.id=0 then AI else(AP (Ai (Ci s)) v.id).1):=by
  split
  .exact(by decide:A3 AI)
  .exact Dc _ _
 obtain⟨g,hg⟩:∃g,g=if v.id=0 then AI else(AP (Ai (Ci s)) v.id).1:=⟨_,rfl⟩
 rw[<-hg] at spG1 spG2 hgm
 have spE:=FZ g g hgm.inn
 rw[decide_eq_true rfl] at spE
 have x0:(Ac Au x.vers)[0]?=some (.int .i64 v.id):=by rw[xv];rfl
 have x2:(Ac Au x.vers)[2]?=some (.int .i64 v.base):=by rw[xv];rfl
 have xl:x.vers.length=1:=by rw[xv];rfl
 have ecs:Ao false (Ci s)=[.int .i64 1,.int .i64 100,.ro s.vers.length (Ac Au (s.vers.map El)),.ro 3 (Ac (Az false) [AR,AR,AR])]:=by simp[Ci,Ao,FE,KU,sl]
 rw[ecs] at sp3 spL spG2
 have n0:=Nd 0
 have tk1:List.take s.vers.length (s.vers.map El)=s.vers.map El:=List.take_of_length_le (by simp)
 have tk2:List.take 36 (Ac (Az false) [AR,AR,AR])=Ac (Az false) [AR,AR,AR]:=rfl
 have tk3:List.take 8 (Ac Au x.vers)=Ac Au x.vers:=by rw[xv];rfl
 refine z1 ?_;intro K hK
 refine Ab.eq sp3 (by simp[tk1,tk2]) (by simp) ?_
 refine zx ?_
 refine zk ?_;clear hK K
 refine Bx (an xl (an x0 (an x2 vb))) ?_;intro K hK
 refine Ah.eq n0 (by simp) (by simp) ?_
 refine AX (an xl (an x0 (an x2 vb))) ?_
 refine Ah.eq spL (by simp[tk1,tk2]) (by simp) ?_
 refine AX (an xl (an x0 (an x2 vb))) ?_
 refine Ah.eq spG1 (by simp[xl,tk3]) (by simp) ?_
 refine AX (an xl (an x0 (an x2 vb))) ?_
 refine Ah.eq spL (by simp[tk1,tk2]) (by simp) ?_
 refine AX (an xl (an x0 (an x2 vb))) ?_
 refine Ah.eq spG2 (by simp[tk1,tk2]) (by simp) ?_
 refine AX (an xl (an x0 (an x2 vb))) ?_
 refine Ah.eq spE (by simp) (by simp) ?_
 refine zx ?_
 refine zk ?_;clear hK K
 refine zn ?_
 refine W.skip ?_
 refine zs ?_
 (repeat refine W.seq ?_);refine W.block (W.loopS (fun z:Nat=> [(1,.ptr 0 0 0),(3,.int .i64 i),(4,.ptr 1 0 0),(9,.int .i64 z)]) (fun z=> [.live 0 [.ro S.length (Ac (Ao false) S),.ro L.length (DV L),.ro G.length (Ac (Ba false) G),.ro na [],.ro nn []],.live 0 [.int .i64 1,.int .i64 100,.tok 2 0 8 0 s.vers.length,.tok 4 0 12 0 3],.live 0 (Ac Au (E7 D2 (s.vers.map El) z)),.live 0 (Ac (Az true) s.sess),.live 0 (Ac (Az true) [AR,AR,AR])]) (fun z=>s.vers.length-z) (fun z=>z<=s.vers.length) 0 (Wk.cutM (k:=5) (by simp[Ad]) (by simp[T5]) (by simp) (by simp) (by simp) (by simp)) (by simp) ?_)
 intro z hz
 obtain⟨bs,hbs⟩:∃bs,bs=s.vers.map El:=⟨_,rfl⟩
 have hbl:bs.length=s.vers.length:=by rw[hbs];simp
 rw[<-hbs]
 by_cases e1:z<s.vers.length
 .have e3:z<bs.length:=by omega
  have hst:=NY (f:=D2) e3
  have hat:=Ri (f:=D2) e3
  have hml:=LC D2 bs z
  obtain⟨l,hl⟩:∃l,l=E7 D2 bs z:=⟨_,rfl⟩
  rw[<-hl] at hst hml |-
  have e2:z<l.length:=by omega
  have hset:((Ac Au l).set (z*8+6) (.bool true)).set (z*8+7) (.bool false)=Ac Au (E7 D2 bs (z+1)):=by
   rw[Ng true l z e2,Pt false _ z (by simpa using e2),<-hst]
   simp only[<-hl] at hat
   simp[hat,D2]
  have b1:z*8+6<(Ac Au l).length:=by simp;omega
  have b2:z*8+7<(Ac Au l).length:=by simp;omega
  refine Af e1 ?_;intro K hK
  refine zk ?_;clear hK K
  refine zt ?_
  refine W.skip ?_
  refine zb ?_
  (repeat refine W.seq ?_);refine W.regdX 0 [(120,127),(120,129),(123,127),(123,129)] rfl true Cz (by kernel_rfl) fun K hK=>?_;simp -implicitDefEqProofs (maxSteps:=999999) (disch:=omega) [e1,e2]
  (repeat refine⟨by first|assumption|omega,?_⟩);refine hK _ _ (by simp(disch:=omega)) ?_;clear hK K
  rw[hset]
  refine zs ?_
  exact⟨z+1,by omega,by omega,Wk.fr (by simp[Ad])⟩
 have hze:z=bs.length:=by omega
 rw[hze,Pu,hbl]
 refine z0 ?_;intro K hK
 refine zk ?_;clear hK K
 refine zn ?_
 refine W.exit ?_
 obtain⟨hdi,hdx⟩:=XQ hsi
 have sp4:=Rg hR (Es s) 1000 hdi hdx
 rw[T2 hok] at sp4
 simp only at sp4
 have hbv:bs.map D2=s.vers.map D2:=by rw[hbs];simp[D2,El]
 rw[hbv]
 have edc:Ao false (Es s)=[.int .i64 1,.int .i64 100,.ro s.vers.length (Ac Au (s.vers.map D2)),.ro 3 (Ac (Az false) [AR,AR,AR])]:=by simp[Es,Ao,FE,KU,sl]
 have edt:Ao true (Es s)=[.int .i64 1,.int .i64 100,.own 8 s.vers.length (Ac Au (s.vers.map D2)),.own 12 3 (Ac (Az true) [AR,AR,AR])]:=by simp[Es,Ao,FE,KU,sl]
 have spQ:=UV (Es s) (Es s) (ZS ⟨hdi,hdx⟩)
 rw[decide_eq_true rfl] at spQ
 rw[edc,edt] at sp4
 rw[edc] at spQ
 have tk4:List.take s.vers.length (s.vers.map D2)=s.vers.map D2:=List.take_of_length_le (by simp)
 refine z1 ?_;intro K hK
 refine Ab.eq sp4 (by simp[tk4,tk2]) (by simp) ?_
 refine zx ?_
 refine zk ?_;clear hK K
 refine z0 ?_;intro K hK
 refine Ab.eq n0 (by simp) (by simp) ?_
 refine zx ?_
 refine Ab.eq spQ (by simp[tk4,tk2]) (by simp) ?_
 refine zx ?_
 refine zk ?_;clear hK K
 refine zn ?_
 refine W.skip ?_
 refine zs ?_
 exact⟨i+1,by omega,by omega,Wk.cutM (k:=1) (by simp[Ad]) (by simp) (by simp) (by simp) (by simp) (by simp)⟩
open Go.Proofs Go.ChangeShapes Go.WideShapes Go.ChangeAt Go.RowKit
def J7 (P:Program) (fn:Func) (s:ChangeSpec) (c:OpenClaim):Bool:=
 c.wf (OpenSpec.ofChange s)&&laidOutB P&&mapsRowed P&&
 fn.params.all (fun t=>P.readableRec t)&&namedTie P c.named s.vars&&
 (c.stops==[])&&(P.stops==[])&&(c.knobs==[])&&(P.stopKnobs==[])&&
 (c.maps==(fn.params.toList++s.plain.varTypes P).any (fun t=>P.mapsRec t))&&(c.ifaces==(fn.params.toList++s.plain.varTypes P).any (fun t=>P.ifacesRec t))&&(c.mapsOut==P.mapsAmong fn.resultTypes.toList)&&
 (c.loops==(fn.params.toList++s.plain.varTypes P).any (fun t=>P.loopsFrom t))&&(c.wideKeys==(fn.params.toList++s.plain.varTypes P++fn.resultTypes.toList).any (fun t=>P.wideKeysFrom t))&&
 s.vars.all (fun t=>P.varReadable t)&&fn.resultTypes.all (fun t=>P.readableRec t&&decide (t<P.types.size))&&(c.ifacesOut==fn.resultTypes.toList.any (fun t=>P.ifacesRec t))&&(c.loopsOut==fn.resultTypes.toList.any (fun t=>P.loopsFrom t))&&(c.plainKeys==P.plainKeys)&&c.shortTexts.isNone&&(c.kinds==(if c.domain.isEmpty then [] else fn.params.toList.map fun t=>match P.underlying t with|some (.int k)=>some k|_=>none))&&(c.pinned==c.pinnedBy)&&
 (c.veiled==(fn.params.toList++s.plain.varTypes P++fn.resultTypes.toList).any (fun t=>P.veiledRec t))&&c.veiledFits P fn.params.toList (fn.params.toList++s.plain.varTypes P++fn.resultTypes.toList)
theorem T6 {P:Program} {f:FuncId} {fn:Func} {s:ChangeSpec} {c:OpenClaim} (h1:(c.inPlace==P.inPlace f)=true) (h2:(c.unfollowed==P.unfollowed f)=true) (h3:(c.recurses==P.recurses f)=true) (h4:(c.named==P.varsNamed f)=true)
 (h5:P.stopsHeard=true) (h6:P.mayEnter=true) (h7:(c.lifted==P.liftsFinal)=true) (h8:(P.make==some c.make)=true) (h:J7 P fn s c=true):joinedFacts P f fn s c=true:=by
 simp only[J7,Bool.and_eq_true] at h
 obtain⟨⟨⟨⟨⟨⟨⟨⟨⟨⟨⟨⟨⟨⟨⟨⟨⟨⟨⟨⟨⟨⟨⟨k1,k2⟩,k3⟩,k4⟩,k5⟩,k6⟩,k7⟩,k8⟩,k9⟩,k10⟩,k11⟩,k12⟩,k13⟩,k14⟩,k15⟩,k16⟩,k17⟩,k18⟩,k19⟩,k20⟩,k21⟩,k22⟩,k23⟩,k24⟩:=h
 simp only[joinedFacts,Bool.and_eq_true]
 exact⟨⟨⟨⟨⟨⟨⟨⟨⟨⟨⟨⟨⟨⟨⟨⟨⟨⟨⟨⟨⟨⟨⟨⟨⟨⟨⟨⟨⟨⟨⟨k1,k2⟩,k3⟩,k4⟩,k5⟩,k6⟩,k7⟩,k8⟩,k9⟩,h1⟩,h2⟩,h3⟩,h4⟩,k10⟩,k11⟩,k12⟩,k13⟩,k14⟩,k15⟩,k16⟩,k17⟩,k18⟩,k19⟩,k20⟩,h5⟩,h6⟩,h7⟩,h8⟩,k21⟩,k22⟩,k23⟩,k24⟩
end Go.Abs
