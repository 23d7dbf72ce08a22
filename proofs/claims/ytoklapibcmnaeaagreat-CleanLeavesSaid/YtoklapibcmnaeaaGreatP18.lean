/- The law CatKeeps. -/
import Derived.Test.YtoklapibcmnaeaaGreatP17
set_option linter.unusedVariables false
set_option linter.unusedSimpArgs false
set_option maxRecDepth 100000
namespace Go.Abs
open Go.Proofs
theorem NT {bs:List Bool} {p:Nat} {v:Int} {r:List Int×Nat} (h:Dd bs p v=some r):p<=r.2/\r.2<=bs.length/\E9 bs p r.2=AT v r.1/\AI r.1:=by
 have hm:=JR h
 unfold Dd at h
 split at h
 .simp at h
 .rename_i x hx
  obtain⟨h1,h2,h3,h4,h5⟩:=AX hx
  split at h
  .split at h
   .simp at h
   .rename_i q hq
    obtain⟨a0,a1,a2,a3⟩:=IN v _ _ _ _ _ (fun _=>rfl) h4 hq
    split at h
    .simp at h
    .rename_i g hg
     obtain⟨b1,b2,b3⟩:=Nv hg
     split at h
     .simp at h
     .rename_i l hl
      split at h
      .rename_i hp
       simp at h;subst h
       refine⟨by simp only;omega,b2,?_,hm⟩
       simp only[AT]
       rw[hp]
       simp only
       rw[a0,show x.1-1+1=x.1 by omega,<-h5,M7 v q.1 0 v,<-a3,<-b3,DO (by omega) a1,DO (by omega) b1]
      .simp at h
  .simp at h
theorem Ml {bs:List Bool}:∀(k:Nat) (f:Bool) (p:Nat) (r:List Int×Nat),p<=bs.length->Ca bs k f p=some r->r.1.length=k/\p<=r.2/\r.2<=bs.length/\E9 bs p r.2=C4 r.1 f
 |0,f,p,r,hp,h=>by simp[Ca] at h;subst h;simp[C4,KI,hp]
 |k+1,f,p,r,hp,h=>by
  simp only[Ca] at h
  split at h
  .simp at h
  .rename_i x hx
   obtain⟨h1,h2,h3,h4,h5⟩:=AX hx
   split at h
   .rename_i q hq
    simp at h;subst h
    obtain⟨g0,g1,g2,g3⟩:=Ml k false x.2 q h4 hq
    refine⟨by simp[g0],by simp only;omega,g2,?_⟩
    simp only[C4]
    have:(if f=true then(if f=true then(x.1:Int)-1 else(x.1:Int))+1 else(if f=true then(x.1:Int)-1 else(x.1:Int))).toNat=x.1:=by cases f<;>simp
    rw[this,<-h5,<-g3,DO (by omega) g1]
   .simp at h
theorem Qh {bs:List Bool} {p:Nat} {v:Int} {ref:List Int} {r:List Int×Nat} (h:Cx bs p v ref=some r):p<=r.2/\r.2<=bs.length/\E9 bs p r.2=C0 v ref r.1:=by
 unfold Cx at h
 split at h
 .simp at h
 .rename_i x hx
  obtain⟨h1,h2,h3,h4,h5⟩:=AX hx
  split at h
  .split at h
   .simp at h
   .rename_i q hq
    obtain⟨a0,a1,a2,a3⟩:=Ml _ _ _ _ h4 hq
    split at h
    .simp at h
    .rename_i g hg
     obtain⟨b1,b2,b3,_⟩:=NT hg
     split at h
     .rename_i l hl
      simp at h;subst h
      have hw:blocks ref l=q.1/\Bi ref l=g.1:=by
       unfold Cu at hl
       split at hl
       .simp at hl
       .split at hl
        .rename_i hc
         simp at hl;subst hl;exact⟨hc.2.1,hc.2.2⟩
        .simp at hl
      refine⟨by simp only;omega,b2,?_⟩
      simp only[C0]
      rw[hw.1,hw.2,a0,show x.1-1+1=x.1 by omega,<-h5,<-a3,<-b3,DO (by omega) a1,DO (by omega) b1]
     .simp at h
  .simp at h
theorem Lc {bs:List Bool} {rd:Rd} {f:Int->List Int->List Bool} (hf:∀(p:Nat) (v:Int) (r:List Int×Nat),rd p v=some r->p<=r.2/\r.2<=bs.length/\E9 bs p r.2=f v r.1):∀(k:Nat) (v:Int) (p:Nat) (r:List (List Int)×Nat),p<=bs.length->Be rd k v p=some r->p<=r.2/\r.2<=bs.length/\E9 bs p r.2=Cm f v r.1
 |0,v,p,r,hp,h=>by simp[Be] at h;subst h;simp[Cm,KI,hp]
 |k+1,v,p,r,hp,h=>by
  simp only[Be] at h
  split at h
  .simp at h
  .rename_i x hx
   obtain⟨h1,h2,h3⟩:=hf p v x hx
   split at h
   .rename_i q hq
    simp at h;subst h
    obtain⟨g1,g2,g3⟩:=Lc hf k (v+1) x.2 q h2 hq
    refine⟨by simp only;omega,g2,?_⟩
    simp only[Cm]
    rw[<-h3,<-g3,DO h1 g1]
   .simp at h
theorem Mm {bs:List Bool} {rd:Rd} {f:Int->List Int->List Bool} (hf:∀(p:Nat) (v:Int) (r:List Int×Nat),rd p v=some r->p<=r.2/\r.2<=bs.length/\E9 bs p r.2=f v r.1) {g:Gr} (h:CJ bs rd=some g):bs=AB (g.n.toNat+1)++Cm f 0 g.out/\A2 g:=by
 unfold CJ at h
 split at h
 .simp at h
 .rename_i x hx
  obtain⟨h1,h2,h3,h4,h5⟩:=AX hx
  split at h
  .split at h
   .simp at h
   .rename_i r hr
    split at h
    .rename_i hc
     simp at h;subst h
     obtain⟨g1,g2,g3⟩:=Lc hf _ _ _ _ h4 hr
     refine⟨?_,hc.2⟩
     have e:((x.1:Int)-1).toNat+1=x.1:=by omega
     simp only
     rw[e,<-h5,<-g3,DO (by omega) g1,hc.1,E9]
     simp
    .simp at h
  .simp at h
theorem RK {bs:List Bool} {g:Gr} (h:BE bs=some g):bs=Cp g/\A2 g:=Mm (f:=AT) (fun p v r hr=>let ⟨a,b,c,_⟩:=NT hr;⟨a,b,c⟩) h
theorem RL {a:Gr} {bs:List Bool} {g:Gr} (h:BL a bs=some g):bs=CD a g/\A2 g:=Mm (f:=fun v l=>C0 v (AF a v) l) (fun p v r hr=>Qh hr) h
theorem ie:∀n:Fin 64,1<=n.val->2*(2*Nat.log2 n.val+1)<=3*n.val:=by decide+kernel
theorem Ng {n:Nat} (h:1<=n) (h2:n<64):2*(AB n).length<=3*n:=by
 rw[Dz];exact ie ⟨n,h2⟩ h
theorem ig {n:Nat} (h:n<8):(AB n).length<=5:=by
 have:=Dz n
 by_cases h0:n=0
 .subst h0;simp[AB,A9]
 .have:=(Nat.log2_lt (n:=n) (k:=3) h0).2 (by omega)
  omega
theorem NU {v:Int}:∀(l:List Int) (e:Int),0<=e->Lr l false e->(∀x∈l,x<=15)->e<=15->2*((B3 v l false e).length:Int)<=3*(15-e)
 | [],e,_,_,_,h=>by simp[B3];omega
 |x::l,e,h0,hp,hx,h=>by
  have hx0:=hx x (by simp)
  have h1:=hp.1
  simp at h1
  have ih:=NU (v:=v) l x (by omega) hp.2 (fun y hy=>hx y (by simp[hy])) hx0
  have:=Ng (n:=(x-e).toNat) (by omega) (by omega)
  simp only[B3,Bool.false_eq_true,if_false,List.length_append]
  omega
theorem Zq {v:Int} {l:List Int} (hv:0<=v/\v<=15) (hl:AI l):(Cw v l).length<=40:=by
 have hll:=Bq hl
 have h1:=GT (n:=l.length+1) (by omega)
 unfold Cw
 rw[List.length_append]
 cases l with
 |nil=>simp[B3];simp at h1;omega
 |cons x t=>
  have hx:=hl.1 x (by simp)
  have hp:=Iq (x::t) true 0 hl.2 (.inl rfl)
  have h2:=NU (v:=v) t x (by omega) hp.2 (fun y hy=>by have:=hl.1 y (by simp[hy]);omega) (by omega)
  have h3:=GT (n:=(BX (x-v)+1).toNat) (by unfold BX;split<;>omega)
  simp only[B3,if_true,List.length_append]
  omega
theorem NV {v:Int}:∀(l:List (Int×Int)) (e:Int),0<=e->FD l false e->(∀q∈l,q.1+q.2<=16)->e<=16->2*((BM v l false e).length:Int)<=3*(16-e)
 | [],e,_,_,_,h=>by simp[BM];omega
 | (a,n)::l,e,h0,hp,hx,h=>by
   have hx0:=hx (a,n) (by simp)
   simp only[FD] at hp hx0
   obtain⟨h1,h2,h3⟩:=hp
   simp at h1
   have ih:=NV (v:=v) l (a+n) (by omega) h3 (fun y hy=>hx y (by simp[hy])) hx0
   have g1:=Ng (n:=(a-e).toNat) (by omega) (by omega)
   have g2:=Ng (n:=(n-3+1).toNat) (by omega) (by omega)
   simp only[BM,Bool.false_eq_true,if_false,List.length_append]
   omega
theorem TC {v:Int} {l:List Int} (hv:0<=v/\v<=15) (hl:AI l):(AT v l).length<=75:=by
 have hle:=Nat.le_refl l.length
 have hll:=Bq hl
 obtain⟨p1,p2,p3,p4⟩:=D0 l.length l true 0 hle hl.2 (.inl rfl)
 have pok:=I4 l.length l (-1) hle hl fun x hx=>by have:=(hl.1 x hx).1;omega
 have h1:=ig (n:=(An l).1.length+1) (by omega)
 have h2:=Zq hv (l:=(An l).2) ⟨fun x hx=>hl.1 x (p4 x hx),p3⟩
 have hb:∀(r:List (Int×Int)) (e:Int),Dx r e->∀q∈r,q.1+q.2<=16:=by
  intro r
  induction r with
  |nil=>intro e _ q hq;simp at hq
  |cons x r ih=>
   intro e h q hq
   obtain⟨k1,k2,k3,k4,k5,k6⟩:=h
   simp only[List.mem_cons] at hq
   rcases hq with rfl|hq
   .omega
   .exact ih _ k6 q hq
 have hb2:=hb _ _ pok
 unfold AT
 simp only[List.length_append]
 have h3:(BM v (An l).1 true 0).length<=30:=by
  cases hr:(An l).1 with
  |nil=>simp[BM]
  |cons x t=>
   obtain⟨a,n⟩:=x
   rw[hr] at p1 pok hb2
   simp only[FD] at p1
   obtain⟨k1,k2,k3,k4,k5,k6⟩:=pok
   have h4:=NV (v:=v) t (a+n) (by omega) p1.2.2 (fun y hy=>hb2 y (by simp[hy])) (by omega)
   have g1:=GT (n:=(BX (a-v)+1).toNat) (by unfold BX;split<;>omega)
   have g2:=Ng (n:=(n-3+1).toNat) (by omega) (by omega)
   simp only[BM,if_true,List.length_append]
   omega
 omega
theorem Hv (l:List Int):∀(ref:List Int) (b:Bool) (n:Nat),(AR l ref b n).sum<=n+ref.length
 | [],b,n=>by simp[AR]
 |x::ref,b,n=>by
  simp only[AR]
  split
  .have:=Hv l ref b (n+1);simp;omega
  .have:=Hv l ref (!b) 1;simp;omega
theorem NW:∀(l:List Nat),(∀n∈l,1<=n/\n<60)->2*(C4 (l.map fun n=>((n:Nat):Int)) false).length<=3*l.sum
 | [],_=>by simp[C4]
 |n::l,h=>by
  have ih:=NW l fun m hm=>h m (by simp[hm])
  have hn:=h n (by simp)
  have:=Ng (n:=n) hn.1 (by omega)
  simp only[List.map_cons,C4,Bool.false_eq_true,if_false,List.length_append,Int.toNat_natCast,List.sum_cons]
  omega
theorem am {v:Int} {ref l:List Int} (hv:0<=v/\v<=15) (hr:ref.length<=16) (hl:AI l):(C0 v ref l).length<=109:=by
 have a1:=G9 ref l
 have a2:=GT (n:=(blocks ref l).length+1) (by omega)
 have a4:=TC hv (Ha (ref:=ref) hl)
 have a5:=Hv l ref true 0
 have a3:(C4 (blocks ref l) true).length<=25:=by
  have hbd:=GI l ref true 0
  unfold blocks
  cases hb:AR l ref true 0 with
  |nil=>simp[C4]
  |cons n t=>
   rw[hb] at a5 hbd
   have h1:=NW t fun m hm=>by
    obtain⟨j,hj,rfl⟩:=List.mem_iff_getElem.1 hm
    have:=hbd (j+1) (by simpa using hj)
    simp at this;omega
   have h0:=(hbd 0 (by simp)).1
   simp at h0 a5
   have h2:=Ng (n:=n+1) (by omega) (by omega)
   simp only[List.map_cons,C4,if_true,List.length_append]
   have e:(((n:Nat):Int)+1).toNat=n+1:=by omega
   rw[e]
   omega
 unfold C0
 simp only[List.length_append]
 omega
theorem Ld {g:Gr} (hg:A2 g):(Cp g).length<=1800:=by
 have h1:=GT (n:=g.n.toNat+1) (by have:=hg.2.1;omega)
 have h2:=GU (f:=AT) (c:=75) g.out 0 (fun i hi=>TC ⟨by omega,by have:=hg.2.1;have:=hg.2.2.1;omega⟩ (hg.2.2.2.1 _ (List.getElem_mem hi)).1)
 have h3:=hg.2.1
 have h4:=hg.2.2.1
 unfold Cp
 rw[List.length_append]
 have:75*g.out.length<=75*16:=Nat.mul_le_mul_left _ (by omega)
 omega
theorem Le {a g:Gr} (ha:A2 a) (hg:A2 g):(CD a g).length<=1800:=by
 have h1:=GT (n:=g.n.toNat+1) (by have:=hg.2.1;omega)
 have h2:=GU (f:=fun v l=>C0 v (AF a v) l) (c:=109) g.out 0 (fun i hi=>am ⟨by omega,by have:=hg.2.1;have:=hg.2.2.1;omega⟩ (Cn ha _) (hg.2.2.2.1 _ (List.getElem_mem hi)).1)
 have h3:=hg.2.1
 have h4:=hg.2.2.1
 unfold CD
 rw[List.length_append]
 have:109*g.out.length<=109*16:=Nat.mul_le_mul_left _ (by omega)
 omega
theorem Vh {l:List Obj} {g:Gr} (b:Int) (hg:A2 g):Ce (GS l b g)<=4:=by
 unfold GS Ce
 rw[Hb]
 split
 .have:=Ld hg;omega
 .have:=Le (CW l b) hg;omega
theorem TE {l:List Obj} (hl:Cb l) (hall:∀o∈l,(AP l o.id).2=0):∀o∈l,Ce o.data<=4:=by
 intro o ho
 obtain⟨i,hi,rfl⟩:=List.mem_iff_getElem.1 ho
 have hm:=hl.2.1 _ ho
 have hf:=I7 hl.2.2 hi
 have hok:=hall _ ho
 have key:(Aq l[i].data).length<=1800:=by
  by_cases hb:l[i].base=0
  .have:=(Ev hf (by omega) hb).2
   rw[this] at hok
   cases e:BE (Aq l[i].data) with
   |none=>rw[e] at hok;simp at hok
   |some g=>
    obtain⟨h1,h2⟩:=RK e
    rw[h1];exact Ld h2
  .have hh:=(hl.closed _ ho).resolve_left hb
   have:=Mk hf (by omega) hb hh (Dr hok)
   rw[this] at hok
   by_cases hc:(AP l l[i].base).2=0
   .rw[if_pos hc] at hok
    cases e:BL (AP l l[i].base).1 (Aq l[i].data) with
    |none=>rw[e] at hok;simp at hok
    |some g=>
     obtain⟨h1,h2⟩:=RL e
     rw[h1];exact Le (CW _ _) h2
   .rw[if_neg hc] at hok;simp at hok
 obtain⟨b1,b2,b3,_⟩:=hm.2.2.1
 have:(Aq l[i].data).length=l[i].data.n.toNat:=by simp[Aq]
 unfold Ce
 omega
def Ja (l:List (Int×Int)) (i:Int):Nat:=l.countP fun x=>decide (i<=x.1)
theorem Pk (l:List (Int×Int)) (i:Int):Ja l (i+1)<=Ja l i:=List.countP_mono_left fun x _ h=>by simp at h |-;omega
theorem TF {l:List (Int×Int)} {i:Int} {x:Int×Int} (hx:x∈l) (e:x.1=i):Ja l (i+1)+1<=Ja l i:=by
 induction l with
 |nil=>simp at hx
 |cons y l ih=>
  have hl:=Pk l i
  unfold Ja at*
  simp only[List.countP_cons]
  rw[List.mem_cons] at hx
  rcases hx with rfl|hx
  .have h1:¬i+1<=x.1:=by omega
   have h2:i<=x.1:=by omega
   simp[h1,h2];omega
  .have:=ih hx
   by_cases h1:i+1<=y.1
   .have h2:i<=y.1:=by omega
    simp[h1,h2];omega
   .simp[h1];omega
theorem Qi {l:List (Int×Int)} {i:Int} (h0:C3 l (i-1)=false) (h1:C3 l i=true):∃x∈l,x.1=i:=by
 unfold C3 at h0 h1
 rw[List.any_eq_true] at h1
 obtain⟨x,hx,h1⟩:=h1
 rw[List.any_eq_false] at h0
 have:=h0 x hx
 refine⟨x,hx,?_⟩
 simp at h1 this
 by_cases c:x.1<=i-1
 .have:=this c;omega
 .omega
theorem J8 {l:List (Int×Int)} (hl:∀x∈l,0<=x.1):∀(t:List Bool) (i a:Int),a<=i->0<=a->(a<i->C3 l (i-1)=false)->(∀j:Nat,j<t.length->t[j]?=some (C3 l (i+j)))->(Bn t i a).length<=Ja l i+1
 | [],i,a,_,_,_,_=>by unfold Bn;split<;>simp
 |b::t,i,a,hai,ha,hf,ht=>by
  have hb:b=C3 l i:=by have:=ht 0 (by simp);simpa using this
  have ht' :∀j:Nat,j<t.length->t[j]?=some (C3 l (i+1+j)):=fun j hj=>by
   have:=ht (j+1) (by simp;omega)
   simp only[List.getElem?_cons_succ] at this
   rw[this];congr 2;omega
  have hle:=Pk l i
  cases b with
  |false=>
   have:=J8 hl t (i+1) a (by omega) ha (fun _=>by rw[show i+1-1=i by omega];exact hb.symm) ht'
   rw[Bn];omega
  |true=>
   have h2:=J8 hl t (i+1) (i+1) (by omega) (by omega) (fun h=>by omega) ht'
   rw[Bn]
   by_cases c:a<i
   .rw[if_pos c]
    obtain⟨x,hx,e⟩:=Qi (hf c) hb.symm
    have:=TF hx e
    simp only[List.length_append,List.length_cons,List.length_nil];omega
   .rw[if_neg c];simp only[List.nil_append];omega
theorem TG {l:List (Int×Int)} {n:Nat} (hl:∀x∈l,0<=x.1):(Bn (BF l n) 0 0).length<=l.length+1:=by
 have:=J8 hl (BF l n) 0 0 (by omega) (by omega) (fun h=>by omega) (fun j hj=>by
  simp only[MW] at hj
  simp[BF,hj])
 have:Ja l 0<=l.length:=List.countP_le_length
 omega
theorem J9:∀(g:List (Int×Int)) (m:Int),(∀x∈g,x.2<=m)->(g.map fun x=>x.2).sum<=m*g.length
 | [],m,_=>by simp
 |x::g,m,h=>by
  have h1:=h x (by simp)
  have h2:=J9 g m fun y hy=>h y (by simp[hy])
  simp only[List.map_cons,List.sum_cons,List.length_cons,Int.natCast_add,Int.mul_add]
  omega
theorem Vi:∀(l:List (Int×Int)),(∀x∈l,x.2<=4)->(l.map fun x=>x.2).sum<=4*l.length:=fun l h=>J9 l 4 h
theorem Zr {s:Ao} (h:Ba s) (hb:7*(s.vers.length:Int)+4<=s.blocks) {m:Int} (hm:m<=4):0<=FA (Aw s) s.blocks m:=by
 have hp:=h.2
 have hfree:=Xk hp
 have hn:∀x∈Aw s,x.2<=4:=fun x hx=>by
  obtain⟨v,hv,rfl⟩:=List.mem_map.1 hx
  exact TE h.1.1.2.2.2.2.2.2 h.1.2.2.1 (Bt v) (List.mem_map.2 ⟨v,hv,rfl⟩)
 have hs:=Vi _ hn
 have hlen:(Aw s).length=s.vers.length:=by simp[Aw]
 unfold RA at hfree
 rw[if_pos hp] at hfree
 have hsum:=congrArg Prod.fst hfree
 simp only at hsum
 have hc:=TG (l:=Aw s) (n:=s.blocks.toNat) fun x hx=>(hp.2.2.2.1 x hx).1
 unfold FA
 cases e:(Bn (BF (Aw s) s.blocks.toNat) 0 0).find? fun x=>decide (m<=x.2) with
 |some x=>
  have hx:=List.mem_of_find?_eq_some e
  simp only
  have:=(FS _ 0 0 (Int.le_refl _) x hx).2.1
  omega
 |none=>
  exfalso
  have h3:∀x∈Bn (BF (Aw s) s.blocks.toNat) 0 0,x.2<=3:=fun x hx=>by
   have:=List.find?_eq_none.1 e x hx
   simp at this;omega
  have:=J9 _ 3 h3
  omega
theorem Vj {s:Ao} (h:(Av s).1=0):∀id∈AS s false,(Bx s (B2 s id).1 (B2 s id).2).2≠0:=by
 unfold Av at h
 cases e:(AS s false).find? fun id=>decide ((Bx s (B2 s id).1 (B2 s id).2).2=0) with
 |none=>intro id Bo;simpa using List.find?_eq_none.1 e id Bo
 |some id=>
  rw[e] at h
  simp only at h
  unfold B2 at h
  split at h<;>simp at h
theorem TH {s:Ao} (h:Ba s) (hb:7*(s.vers.length:Int)+4<=s.blocks) (hf:(Av s).1=0):AS s false=[]:=by
 rcases List.eq_nil_or_concat (AS s false) with e| ⟨_,id,e⟩
 .exact e
 exfalso
 have Bo:id∈AS s false:=by rw[e];simp
 apply Vj hf id Bo
 obtain⟨v,hv,hk,e⟩:=(Iv s id).1 Bo
 unfold B2
 cases ev:s.vers.find? fun u=>decide (u.base=id) with
 |some u=>
  simp only
  have hu:=List.mem_of_find?_eq_some ev
  have hub:u.base=id:=by simpa using List.find?_some ev
  obtain⟨i,hi,rfl⟩:=List.mem_iff_getElem.1 hu
  have hx:=Fg h.1.1.2.2.2.2.2.2 hi
  unfold Bx
  rw[if_neg (by simp),hx,if_neg (by omega),if_neg (by omega)]
  have:((i:Int)).toNat=i:=by omega
  rw[this,List.getElem?_eq_getElem hi]
  simp only
  have hvm:=h.1.1.2.2.2.2.2.2.2.1 (Bt v) (List.mem_map.2 ⟨v,hv,rfl⟩)
  have h1:1<=v.id:=hvm.1
  rw[if_neg (by omega)]
  unfold E1
  rw[if_neg]
  have hr:=Zr h hb (m:=Ce (El (Ai s) (Bt s.vers[i]) (DS (Ai s) s.vers[i].base)).data) (Vh _ (CW _ _))
  omega
 |none=>
  simp only
  unfold Bx
  obtain⟨i,hi,rfl⟩:=List.mem_iff_getElem.1 hv
  have hx:=Fg h.1.1.2.2.2.2.2.2 hi
  rw[if_neg (by simp),<-e,hx,if_neg (by omega),if_pos rfl]
  unfold Dc
  rw[hx,if_neg (by omega),if_neg]
  rintro(g|g|g)
  .have hvm:=h.1.1.2.2.2.2.2.2.2.1 (Bt s.vers[i]) (List.mem_map.2 ⟨_,hv,rfl⟩)
   have h1:1<=s.vers[i].id:=hvm.1
   have:=Tr h (by omega)
   rw[<-g,e] at this
   exact U9 h Bo this
  .unfold C8 at hk
   rw[g] at hk;simp at hk
  .unfold GV at g
   rw[List.any_eq_true] at g
   obtain⟨u,hu,g⟩:=g
   have:=List.find?_eq_none.1 ev u hu
   rw[e] at g
   exact this g
theorem Qj {s y:Ao} (hv:y.vers.map (fun v=>(v.id,v.tag,v.gone))=s.vers.map fun v=>(v.id,v.tag,v.gone)) (hs:y.sess=s.sess) (hk:y.keep=s.keep) (w:Bool):AS y w=AS s w:=by
 have gen:∀{β:Type} (l:List Bh) (f:Int×Bool×Bool->Bool) (g:Int×Bool×Bool->β),(l.filter fun v=>f (v.id,v.tag,v.gone)).map (fun v=>g (v.id,v.tag,v.gone))=((l.map fun v=>(v.id,v.tag,v.gone)).filter f).map g:=fun l f g=>by
  rw[List.filter_map,List.map_map];rfl
 have hse:B7 y.vers=B7 s.vers:=by
  have a:=gen y.vers (fun x=> !x.2.2) (fun x=>x.1)
  have b:=gen s.vers (fun x=> !x.2.2) (fun x=>x.1)
  rw[hv,<-b] at a
  exact a
 have hla:D8 y=D8 s:=by unfold D8;rw[hse,hk]
 have hp:∀id,pinned y id=pinned s id:=fun id=>by unfold pinned;rw[hs]
 unfold AS Cz C8
 rw[hla]
 simp only[hp]
 have a:=gen y.vers (fun x=>(x.2.1|| (D8 s).contains x.1||pinned s x.1)==w) (fun x=>x.1)
 have b:=gen s.vers (fun x=>(x.2.1|| (D8 s).contains x.1||pinned s x.1)==w) (fun x=>x.1)
 rw[hv,<-b] at a
 exact a
def behind (s:Ao) (n:Nat):Ao:=(BT s n).getLast?.getD s
theorem Hw (s:Ao):behind s 0=s:=by simp[behind,BT]
theorem Fy:∀(n:Nat) (s:Ao),behind s (n+1)=if (Av (behind s n)).1=0 then behind s n else(Bx (behind s n) (Av (behind s n)).1 (Av (behind s n)).2).1
 |0,s=>by
  rw[Hw]
  unfold behind
  rw[BT]
  split
  .simp
  .simp[BT]
 |n+1,s=>by
  have e:∀m,behind s (m+1)=if (Av s).1=0 then s else behind (Bx s (Av s).1 (Av s).2).1 m:=fun m=>by
   unfold behind
   rw[BT]
   split
   .simp
   .rw[List.getLast?_cons]
    cases (BT (Bx s (Av s).1 (Av s).2).1 m).getLast?<;>simp
  rw[e (n+1),e n]
  by_cases h:(Av s).1=0
  .simp only[if_pos h]
  .simp only[if_neg h]
   exact Fy n _
theorem TJ {s:Ao} (hs:A4 s) (hx:BD s) (h:Ba s) (n:Nat):A4 (behind s n)/\BD (behind s n):=by
 unfold behind
 cases e:(BT s n).getLast? with
 |none=>exact⟨hs,hx⟩
 |some y=>exact TA n s hs hx h y (List.mem_of_getLast? e)
theorem Lf {s:Ao} (h:Ba s) {n:Nat} (hn:n<=1000):Fh s n=(behind s n,((BT s n).length:Int),0):=by
 unfold Fh behind
 rw[if_pos ⟨h,by omega,by omega⟩];rfl
theorem Vk {s:Ao} {id:Int} (he:(Dc s id).2=0):∃j,∃hj:j<s.vers.length,s.vers[j].id=id/\GV s id=false/\Dc s id=({s with vers:=s.vers.eraseIdx j},0):=by
 unfold Dc at he |-
 by_cases c1:AJ (fun v=>decide (v.id=id)) s.vers<0
 .rw[if_pos c1] at he;simp at he
 rw[if_neg c1] at he |-
 by_cases c2:id=A3 s.vers\/pinned s id=true\/GV s id=true
 .rw[if_pos c2] at he;simp at he
 rw[if_neg c2]
 obtain⟨hj,e⟩:=KQ c1
 refine⟨_,hj,e,?_,rfl⟩
 cases g:GV s id with
 |false=>rfl
 |true=>exact absurd (.inr (.inr g)) c2
theorem RM {s:Ao} {j:Nat} (hj:j<s.vers.length) (hk:C8 s s.vers[j]=false):AS {s with vers:=s.vers.eraseIdx j} true=AS s true:=by
 obtain⟨A,B,v,hA,ev,e⟩:∃A B v,s.vers=A++v::B/\v=s.vers[j]/\s.vers.eraseIdx j=A++B:=
  ⟨s.vers.take j,s.vers.drop (j+1),s.vers[j],by rw[<-List.drop_eq_getElem_cons hj,List.take_append_drop],rfl,by rw[List.eraseIdx_eq_take_drop_succ]⟩
 rw[<-ev] at hk
 obtain⟨y,hy⟩:∃y,y={s with vers:=s.vers.eraseIdx j}:=⟨_,rfl⟩
 rw[<-hy]
 have yv:y.vers=A++B:=by rw[hy];exact e
 have yk:y.keep=s.keep:=by rw[hy]
 have hp:∀id,pinned y id=pinned s id:=fun id=>by rw[hy];rfl
 have hla:D8 y=D8 s:=by
  unfold C8 at hk
  simp only[Bool.or_eq_false_iff] at hk
  have hn:=hk.1.2
  have hn:¬v.id∈D8 s:=by simpa using hn
  unfold D8 at hn |-
  rw[yv,yk]
  rw[hA] at hn |-
  unfold B7 at hn |-
  simp only[List.filter_append,List.filter_cons,List.map_append] at hn |-
  by_cases g:v.gone=true
  .simp[g]
  .have g:v.gone=false:=by simpa using g
   simp only[g,Bool.not_false,if_true,List.map_cons] at hn |-
   obtain⟨P,hP⟩:∃P,P=(A.filter fun v=> !v.gone).map Bh.id:=⟨_,rfl⟩
   obtain⟨Q,hQ⟩:∃Q,Q=(B.filter fun v=> !v.gone).map Bh.id:=⟨_,rfl⟩
   rw[<-hP,<-hQ] at hn |-
   have hlt:P.length<(max 0 (((P++v.id::Q).length:Int)-s.keep)).toNat:=by
    refine Nat.lt_of_not_le fun hle=>hn ?_
    rw[List.drop_append_of_le_length hle]
    simp
   simp only[List.length_append,List.length_cons] at hlt |-
   obtain⟨n,hn'⟩:∃n,n=(max 0 (((P.length+(Q.length+1):Nat):Int)-s.keep)).toNat:=⟨_,rfl⟩
   have e1:(max 0 (((P.length+Q.length:Nat):Int)-s.keep)).toNat=n-1:=by omega
   rw[e1,<-hn']
   have hlt:P.length<n:=by rw[hn'];exact hlt
   have d1:P.drop (n-1)=[]:=List.drop_eq_nil_of_le (by omega)
   have d2:P.drop n=[]:=List.drop_eq_nil_of_le (by omega)
   obtain⟨m,hm⟩:∃m,n-P.length=m+1:=⟨n-P.length-1,by omega⟩
   rw[List.drop_append,List.drop_append,d1,d2,hm,List.drop_succ_cons,show n-1-P.length=m by omega]
 have hkb:∀u,C8 y u=C8 s u:=fun u=>by unfold C8;rw[hla,hp]
 unfold AS Cz
 simp only[hkb]
 rw[yv,hA,List.filter_append,List.filter_append,List.filter_cons,hk]
 simp
def EI (l:List Obj):Int:=(l.map fun o=>(AD l o.id).1).sum
theorem Mn {α:Type}:∀(l:List α) (f g:α->Int),(∀x∈l,f x<=g x)->(l.map f).sum<=(l.map g).sum
 | [],_,_,_=>by simp
 |x::l,f,g,h=>by
  have h1:=h x (by simp)
  have h2:=Mn l f g fun y hy=>h y (by simp[hy])
  simp only[List.map_cons,List.sum_cons];omega
theorem NX {l:List Obj} (hl:Cb l) (hall:∀o∈l,(AP l o.id).2=0):0<=EI l/\EI l<=3*l.length:=by
 have hp:∀o∈l,1<=(AD l o.id).1/\(AD l o.id).1<=3:=fun o ho=>by
  obtain⟨p,hp⟩:=BW.1 ⟨o,ho,rfl⟩
  have:=(hl.2.1 o ho).1
  exact Ew hp (by omega) (Dr (hall o ho))
 have h1:=Mn l (fun _=>0) (fun o=>(AD l o.id).1) fun o ho=>by have:=hp o ho;omega
 have h2:=Mn l (fun o=>(AD l o.id).1) (fun _=>3) fun o ho=>by have:=hp o ho;omega
 have e0:∀m:List Obj,(m.map fun _=>(0:Int)).sum=0:=fun m=>by induction m<;>simp_all
 have e3:∀m:List Obj,(m.map fun _=>(3:Int)).sum=3*m.length:=fun m=>by
  induction m with
  |nil=>rfl
  |cons x m ih=>simp only[List.map_cons,List.sum_cons,List.length_cons,Int.natCast_add,Int.mul_add];omega
 rw[e0] at h1;rw[e3] at h2
 exact⟨h1,h2⟩
theorem Pl {l:List Obj} (hl:Cb l) (hall:∀o∈l,(AP l o.id).2=0) {j:Nat} (hj:j<l.length) (hb:∀o∈l,o.base≠l[j].id):EI (l.eraseIdx j)<EI l:=by
 have hpw:=hl.2.2
 have hne:∀o∈l.eraseIdx j,o.id≠l[j].id:=fun o ho=>by
  rw[List.eraseIdx_eq_take_drop_succ,List.mem_append] at ho
  rw[List.pairwise_iff_getElem] at hpw
  rcases ho with ho|ho
  .obtain⟨k,hk,rfl⟩:=List.mem_iff_getElem.1 ho
   simp only[List.length_take] at hk
   rw[List.getElem_take]
   have:=hpw k j (by omega) hj (by omega);omega
  .obtain⟨k,hk,rfl⟩:=List.mem_iff_getElem.1 ho
   simp only[List.length_drop] at hk
   rw[List.getElem_drop]
   have:=hpw j (j+1+k) hj (by omega) (by omega);omega
 have hf:∀id,id≠l[j].id->A6 (l.eraseIdx j) id=A6 l id:=fun id h=>Ij hj (fun e=>h e.symm)
 have hw:∀id,id≠l[j].id->AD (l.eraseIdx j) id=AD l id:=fun id h=>by
  unfold AD
  rw[hf id h,<-HW (l:=l) (m:=l.eraseIdx j) (fun id=>id≠l[j].id) (fun id hp _=>(hf id hp).symm) (fun id o _ _ e=>hb o (DM e).1) 4 id h]
 have e1:EI (l.eraseIdx j)=((l.eraseIdx j).map fun o=>(AD l o.id).1).sum:=by
  unfold EI
  congr 1
  exact List.map_congr_left fun o ho=>by rw[hw _ (hne o ho)]
 have hm:=List.getElem_mem hj
 have hpos:=Ew (I7 hl.2.2 hj) (by have:=(hl.2.1 _ hm).1;omega) (Dr (hall _ hm))
 rw[e1,List.eraseIdx_eq_take_drop_succ]
 have e2:l=l.take j++l[j]::l.drop (j+1):=by rw[<-List.drop_eq_getElem_cons hj,List.take_append_drop]
 have e3:EI l=((l.take j++l[j]::l.drop (j+1)).map fun o=>(AD l o.id).1).sum:=by rw[<-e2];rfl
 rw[e3]
 simp only[List.map_append,List.map_cons,List.sum_append,List.sum_cons]
 omega
theorem Q0 {α:Type} {f g:α->Int} {o:α}:∀{l:List α} {i:Nat} (hi:i<l.length),(∀x∈l,f x<=g x)->f o<g l[i]->((l.set i o).map f).sum<(l.map g).sum
 |x::l,0,_,h,ho=>by
  have:=Mn l f g fun y hy=>h y (by simp[hy])
  simp only[List.getElem_cons_zero] at ho
  simp only[List.set_cons_zero,List.map_cons,List.sum_cons];omega
 |x::l,i+1,hi,h,ho=>by
  have:=Q0 (l:=l) (i:=i) (by simpa using hi) (fun y hy=>h y (by simp[hy])) (by simpa using ho)
  have h1:=h x (by simp)
  simp only[List.set_cons_succ,List.map_cons,List.sum_cons];omega
theorem RN {l:List Obj} {i:Nat} {q:Obj} (hl:Cb l) (hall:∀o∈l,(AP l o.id).2=0) (hi:i<l.length) (hb:l[i].base≠0) (hq:A6 l l[i].base=some q):EI (l.set i (El l l[i] q.base))<EI l:=by
 obtain⟨d1,d2,d3,d4⟩:=HY hl hall hi hb hq
 obtain⟨hx,hsame⟩:=La hl hall hi hb hq
 obtain⟨o',ho'⟩:∃o',o' =El l l[i] q.base:=⟨_,rfl⟩
 have oi:o'.id=l[i].id:=by rw[ho'];rfl
 have ob:o'.base=q.base:=by rw[ho'];rfl
 rw[<-ho'] at hx hsame |-
 obtain⟨x,ex⟩:∃x,x=l.set i o' :=⟨_,rfl⟩
 have hset:=J6 hl.2.2 hi (o:=o') oi
 rw[<-ex,oi] at hset
 rw[<-ex] at hx hsame |-
 have hm:=List.getElem_mem hi
 have hheld:∀j,Cj l j->Cj x j:=fun j ⟨p,hp,e⟩=>by
  have:=hset j
  obtain⟨r,hr⟩:=BW.1 ⟨p,hp,e⟩
  exact BW.2 (by rw[this];split<;>exact⟨_,by first|rfl|exact hr⟩)
 have key:∀(n:Nat) (j:Int),Cj l j->(AD l j).1<=n->(AD x j).1<=(AD l j).1/\(j=l[i].id->(AD x j).1<(AD l j).1):=by
  intro n
  induction n with
  |zero=>
   intro j hj hn
   obtain⟨p,hp⟩:=BW.1 hj
   obtain⟨pm,pi⟩:=DM hp
   have:=(hl.2.1 p pm).1
   have hd:=Dr (hall p pm)
   rw[pi] at hd
   have:=Ew hp (by omega) hd
   omega
  |succ n ih=>
   intro j hj hn
   obtain⟨p,hp⟩:=BW.1 hj
   obtain⟨pm,pi⟩:=DM hp
   have ppos:=(hl.2.1 p pm).1
   have j0:j≠0:=by omega
   have hok:=hall p pm
   rw[pi] at hok
   have hd:=Dr hok
   have hdx:(AD x j).2=0:=Dr (by rw[hsame j hj];exact hok)
   have hs:=hset j
   by_cases c:j=l[i].id
   .have hs:A6 x j=some o' :=by rw[hs,if_pos c]
    refine(fun h:(AD x j).1<(AD l j).1=>⟨by omega,fun _=>h⟩) ?_
    by_cases hb0:q.base=0
    .have e1:=(Ev hs j0 (by rw[ob];exact hb0)).1
     have:=d3 hb0
     rw[e1,c];omega
    .obtain⟨k1,k2,k3,k4⟩:=d4 hb0
     rw[<-c] at k4
     have g:=(ih q.base k1 (by omega)).1
     have hdy:=(DR hs j0 (by rw[ob];exact hheld _ k1)).2 hdx
     rw[ob] at hdy
     omega
   .have hs:A6 x j=some p:=by rw[hs,if_neg c];exact hp
    refine⟨?_,fun h=>absurd h c⟩
    by_cases hb0:p.base=0
    .rw[(Ev hs j0 hb0).1,(Ev hp j0 hb0).1];exact Int.le_refl _
    .have hh:=(hl.closed p pm).resolve_left hb0
     have hdl:=(DR hp j0 hh).2 hd
     have g:=(ih p.base hh (by omega)).1
     have hdy:=(DR hs j0 (hheld _ hh)).2 hdx
     omega
 have kk:∀j,Cj l j->_:=fun j hj=>key (AD l j).1.toNat j hj (by omega)
 have fin:=Q0 (f:=fun o=>(AD x o.id).1) (g:=fun o=>(AD l o.id).1) (o:=o') hi (fun o ho=>(kk o.id ⟨o,ho,rfl⟩).1) (by rw[oi];exact(kk _ ⟨_,hm,rfl⟩).2 rfl)
 rw[<-ex] at fin
 exact fin
theorem TK {s:Ao} (h:Ba s) (hf:(Av s).1≠0):
 EI (Ai (Bx s (Av s).1 (Av s).2).1)<EI (Ai s)/\AS (Bx s (Av s).1 (Av s).2).1 true=AS s true/\(Bx s (Av s).1 (Av s).2).1.vers.length<=s.vers.length:=by
 have hmy:=h.1.1.2.2.2.2.2.2
 have hall:=h.1.2.2.1
 obtain⟨id,Bo,he,ef⟩:∃id,id∈AS s false/\(Bx s (B2 s id).1 (B2 s id).2).2=0/\Av s=B2 s id:=by
  unfold Av at hf |-
  cases e:(AS s false).find? fun id=>decide ((Bx s (B2 s id).1 (B2 s id).2).2=0) with
  |none=>rw[e] at hf;simp at hf
  |some id=>exact⟨id,List.mem_of_find?_eq_some e,by simpa using List.find?_some e,rfl⟩
 rw[ef]
 clear ef hf
 unfold B2 at he |-
 cases ev:s.vers.find? fun u=>decide (u.base=id) with
 |some u=>
  rw[ev] at he
  simp only at he |-
  have hu:=List.mem_of_find?_eq_some ev
  have hub:u.base=id:=by simpa using List.find?_some ev
  obtain⟨i,hi,rfl⟩:=List.mem_iff_getElem.1 hu
  obtain⟨v,hv,hk,e⟩:=(Iv s id).1 Bo
  have h1:1<=v.id:=(hmy.2.1 (Bt v) (List.mem_map.2 ⟨v,hv,rfl⟩)).1
  have hb0:s.vers[i].base≠0:=by omega
  have hx:=Fg hmy hi
  have ea:Bx s 2 s.vers[i].id=E1 s (El (Ai s) (Bt s.vers[i]) (DS (Ai s) s.vers[i].base)) 0:=by
   unfold Bx
   rw[if_neg (by simp),hx,if_neg (by omega),if_neg (by omega)]
   have:((i:Int)).toNat=i:=by omega
   rw[this,List.getElem?_eq_getElem hi]
   simp only
   rw[if_neg hb0]
  rw[ea] at he |-
  obtain⟨_,r| ⟨y,a,r1,r2,r3,r4⟩⟩:=I9 h hi hb0
  .rw[r] at he;simp at he
  rw[r1]
  simp only
  have hio:i<(Ai s).length:=by simpa[Ai] using hi
  have eo:(Ai s)[i]=Bt s.vers[i]:=by simp[Ai]
  have hbo:(Ai s)[i].base≠0:=by rw[eo];exact hb0
  obtain⟨q,hq⟩:=BW.1 ((hmy.closed _ (List.getElem_mem hio)).resolve_left hbo)
  have hqb:DS (Ai s) s.vers[i].base=q.base:=by
   rw[eo] at hq;unfold DS
   have:A6 (Ai s) s.vers[i].base=some q:=hq
   rw[this]
  have hd:=RN hmy hall hio hbo hq
  have eob:Ai y=(Ai s).set i (El (Ai s) (Ai s)[i] q.base):=by
   rw[r3,eo,hqb]
   exact List.map_set
  refine⟨by rw[eob];exact hd,Qj ?_ (by rw[r3]) (by rw[r3]) true,by rw[r3];simp⟩
  rw[r3]
  simp only[List.map_set]
  refine List.ext_getElem? fun j=>?_
  rw[List.getElem?_set]
  split
  .rename_i h;subst h;simp[hi]
  .rfl
 |none=>
  rw[ev] at he
  simp only at he |-
  have ea:Bx s 1 id=Dc s id:=by
   obtain⟨v,hv,hk,e⟩:=(Iv s id).1 Bo
   obtain⟨i,hi,rfl⟩:=List.mem_iff_getElem.1 hv
   have hx:=Fg hmy hi
   unfold Bx
   rw[if_neg (by simp),<-e,hx,if_neg (by omega),if_pos rfl]
  rw[ea] at he |-
  obtain⟨j,hj,e,hb,et⟩:=Vk he
  rw[et]
  have hio:j<(Ai s).length:=by simpa[Ai] using hj
  have eo:(Ai s)[j]=Bt s.vers[j]:=by simp[Ai]
  have eob:Ai {s with vers:=s.vers.eraseIdx j}=(Ai s).eraseIdx j:=by
   unfold Ai
   simp only[List.eraseIdx_eq_take_drop_succ,List.map_append,List.map_take,List.map_drop]
  refine⟨?_,RM hj ?_,by simp only[List.length_eraseIdx];split<;>omega⟩
  .simp only
   rw[eob]
   refine Pl hmy hall hio fun o ho hbo=>?_
   obtain⟨u,hu,rfl⟩:=List.mem_map.1 ho
   have:=List.find?_eq_none.1 ev u hu
   rw[eo] at hbo
   have hbo:u.base=s.vers[j].id:=hbo
   rw[e] at hbo
   simp[hbo] at this
  .obtain⟨v,hv,hk,e2⟩:=(Iv s id).1 Bo
   obtain⟨i,hi,rfl⟩:=List.mem_iff_getElem.1 hv
   have:=QL h hi hj (by rw[e2,e])
   subst this;exact hk
structure Em (s x:Ao) (n:Nat):Prop where
 ok:Ba x
 sin:A4 x
 all:BD x
 ses:x.sess=s.sess
 blk:x.blocks=s.blocks
 kep:x.keep=s.keep
 ids:∀j,j∈x.vers.map (fun v=>v.id)->j∈s.vers.map fun v=>v.id
 gra:∀j,j≠0->j∈x.vers.map (fun v=>v.id)->AP (Ai x) j=AP (Ai s) j
 kpt:AS x true=AS s true
 dep:EI (Ai x)+n<=3*s.vers.length
 len:x.vers.length<=s.vers.length
theorem Em.start {s:Ao} (h:Ba s) (hs:A4 s) (hx:BD s):Em s s 0 where
 ok:=h
 sin:=hs
 all:=hx
 ses:=rfl
 blk:=rfl
 kep:=rfl
 ids:=fun _ h=>h
 gra:=fun _ _ _=>rfl
 kpt:=rfl
 dep:=by have:=(NX h.1.1.2.2.2.2.2.2 h.1.2.2.1).2;simp[Ai] at this |-;omega
 len:=Nat.le_refl _
theorem Em.next {s x:Ao} {n:Nat} (h:Em s x n) (hf:(Av x).1≠0):Em s (Bx x (Av x).1 (Av x).2).1 (n+1)/\(Bx x (Av x).1 (Av x).2).1.vers.length<=x.vers.length/\
 ∀j,j∈(Bx x (Av x).1 (Av x).2).1.vers.map (fun v=>v.id)->j∈x.vers.map fun v=>v.id:=by
 obtain⟨n1,n2,n3⟩:=TK h.ok hf
 have he:=J7 hf
 obtain⟨a1,a2,a3,a4,a5,a6⟩:=Ph h.ok he
 have hi:=TJ h.sin h.all h.ok 1
 rw[Fy 0,Hw,if_neg hf] at hi
 refine⟨⟨a1,hi.1,hi.2,by rw[a2,h.ses],by rw[a3,h.blk],by rw[a4,h.kep],fun j hj=>h.ids j (a5 j hj),fun j j0 hj=>by rw[a6 j j0 hj,h.gra j j0 (a5 j hj)],by rw[n2,h.kpt],?_,?_⟩,n3,a5⟩
 .have:=h.dep;omega
 .have:=h.len;omega
theorem Em.bound {s x:Ao} {n:Nat} (h:Em s x n):n<=3*s.vers.length:=by
 have:=(NX h.ok.1.1.2.2.2.2.2.2 h.ok.1.2.2.1).1
 have:=h.dep
 omega
theorem Em.idle {s x:Ao} {n:Nat} (h:Em s x n) (hn:3*s.vers.length<=n):(Av x).1=0:=by
 by_cases c:(Av x).1=0
 .exact c
 .have:=(h.next c).1.bound;omega
theorem Em.behind {s:Ao} (h:Ba s) (hs:A4 s) (hx:BD s):∀n:Nat,∃m,Em s (behind s n) m/\(m=n\/(Av (Go.Abs.behind s n)).1=0)
 |0=>⟨0,by rw[Hw];exact .start h hs hx,.inl rfl⟩
 |n+1=>by
  obtain⟨m,h1,h2⟩:=Em.behind h hs hx n
  rw[Fy n]
  by_cases c:(Av (Go.Abs.behind s n)).1=0
  .rw[if_pos c];exact⟨m,h1,.inr c⟩
  .rw[if_neg c]
   have:=h2.resolve_right c
   subst this
   exact⟨m+1,(h1.next c).1,.inl rfl⟩
theorem Em.most {s:Ao} (h:Ba s) (hs:A4 s) (hx:BD s):∃m,Em s (Go.Abs.behind s 1000) m/\(Av (Go.Abs.behind s 1000)).1=0:=by
 obtain⟨m,h1,h2⟩:=Em.behind h hs hx 1000
 refine⟨m,h1,?_⟩
 rcases h2 with rfl|h2
 .refine h1.idle ?_
  have:=h.1.1.2.2.2.2.2.2.1
  simp[Ai] at this
  omega
 .exact h2
theorem Em.left {s x:Ao} {n:Nat} (h:Em s x n) (hb:7*(s.vers.length:Int)+4<=s.blocks) (hf:(Av x).1=0):x.vers.map (fun v=>v.id)=AS s true:=by
 have he:=TH h.ok (by have:=h.len;rw[h.blk];omega) hf
 rw[<-h.kpt]
 unfold AS Cz at he |-
 rw[List.map_eq_nil_iff,List.filter_eq_nil_iff] at he
 congr 1
 symm
 rw[List.filter_eq_self]
 intro v hv
 have:=he v hv
 cases g:C8 x v with
 |true=>rfl
 |false=>rw[g] at this;simp at this
theorem Gt:∀l:List Bh,(∀v∈l,Ce v.data<=4)->(l.length:Int)<=Dp l/\Dp l<=4*l.length
 | [],_=>by simp[Dp]
 |v::l,h=>by
  have h1:=h v (by simp)
  have h2:=LA v.data
  have h3:=Gt l fun u hu=>h u (by simp[hu])
  rw[Dp]
  simp only[List.length_cons,Int.natCast_add]
  omega
theorem Hx {s:Ao} (h:Ba s):∀v∈s.vers,Ce v.data<=4:=fun v hv=>TE h.1.1.2.2.2.2.2.2 h.1.2.2.1 (Bt v) (List.mem_map.2 ⟨v,hv,rfl⟩)
theorem Em.room {s x:Ao} {n:Nat} (h:Em s x n) (h0:Ba s) (hb:2*Dp s.vers+72<=s.blocks) (hf:(Av x).1=0):x.vers.length=(AS s true).length:=by
 have h1:=(Gt s.vers (Hx h0)).1
 have h2:s.vers.length<=12:=by have:=h0.1.1.2.2.2.2.2.2.1;simpa[Ai] using this
 rw[<-h.left (by omega) hf,List.length_map]
set_option maxHeartbeats 8000000 in
theorem OA (hR:BK) (S:List Ao) (L:List (List Obj)) (G:List Gr) (na nn:Nat) (h0:S.length<Br) (hS:∀s∈S,Ly s) (h1:G.length<Br) (h2:∀g∈G,JZ g) (h3:na<Br) (h4:nn<Br) (h5:L.length<Br) (h6:∀l∈L,l.length<Br/\∀o∈l,Gp o):Aa pg 9 [.agg (M9 S L G na nn)] [] (fun r _=>r= .bool true):=by
 have spH:=WW S L G na nn h0 hS h1 h2 h3 h4 h5 (fun l hl=>⟨(h6 l hl).1,fun o ho=>((h6 l hl).2 o ho).1⟩)
 have spW:=TB hR
 simp only[M9,I2,I0,List.cons_append,List.nil_append] at spH |-
 obtain⟨ask,hask⟩:∃ask:List AV,ask=[.ro S.length (Ac (Am false) S),.ro L.length (CA L),.ro G.length (Ac (A5 false) G),.ro na [],.ro nn []]:=⟨_,rfl⟩
 refine Aa.start (fn:=Tryz.f9) [.tmp 2] tk rfl rfl rfl (by kernel_rfl) (Nat.le_of_ble_eq_true rfl) rfl (by kernel_rfl) ?_
 rw[Ay]
 refine z1 ?_;intro K hK;refine zk ?_;clear hK K
 refine z0 ?_;intro K hK
 refine Ab.bor spH (by simp) ?_
 rintro r ⟨b,rfl,hb⟩
 refine⟨by simp,?_⟩
 cases b
 rotate_left
 .refine zx ?_
  refine zk ?_;clear hK K
  refine zt ?_
  refine zs ?_
  exact zR
 obtain⟨⟨hS1,hS2⟩,⟨hL1,hL2⟩,hG1,hG2⟩:=hb rfl
 refine zx ?_
 refine zk ?_;clear hK K
 refine zn ?_
 refine W.skip ?_
 refine zs ?_
 (repeat refine W.seq ?_);refine W.block (W.loopS (fun i:Nat=> [(1,.ptr 0 0 0),(3,.int .i64 i)]) (fun _=> [.live 0 [.ro S.length (Ac (Am false) S),.ro L.length (CA L),.ro G.length (Ac (A5 false) G),.ro na [],.ro nn []]]) (fun i=>S.length-i) (fun i=>i<=S.length) 0 (Wk.fr (by simp[Ad])) (by simp) ?_)
 intro i hi
 by_cases c:i<S.length/\i<4
 rotate_left
 . (repeat refine W.seq ?_);refine W.midS (fun _:Unit=> [(30,.bool false)]) (fun _=> []) (fun _=>True) ?_ ?_
   .by_cases d1:i<S.length
    .have d2:¬(i:Int)<4:=by omega
     refine Af (an d1 d2) ?_;intro K hK
     refine zk ?_;clear hK K
     exact⟨(),trivial,Wk.cutM (k:=0) (by simp[Ad]) (by simp) (by simp) (by simp) (by simp) (by simp)⟩
    .refine Af d1 ?_;intro K hK
     refine zk ?_;clear hK K
     exact⟨(),trivial,Wk.cutM (k:=0) (by simp[Ad]) (by simp) (by simp) (by simp) (by simp) (by simp)⟩
   rintro _ _
   refine zn ?_
   refine W.exit ?_
   refine z0 ?_;intro K hK
   refine Ab.eq spW (by simp) (by simp) ?_
   refine zx ?_
   refine zk ?_;clear hK K
   exact zR
 obtain⟨d1,d2⟩:=c
 have d2' :(i:Int)<4:=by omega
 have k0:(Ac (Am false) S)[i*4]?=some (.int .i64 S[i].keep):=A7 (f:=Am false) (s:=4) (fun _=>rfl) d1 (i:=0) (by omega)
 have k1:(Ac (Am false) S)[i*4+1]?=some (.int .i64 S[i].blocks):=A7 (f:=Am false) (s:=4) (fun _=>rfl) d1 (i:=1) (by omega)
 have k2:(Ac (Am false) S)[i*4+1+1]?=some (.ro S[i].vers.length (Ac Ax S[i].vers)):=A7 (f:=Am false) (s:=4) (fun _=>rfl) d1 (i:=2) (by omega)
 have k3:(Ac (Am false) S)[i*4+1+1+1]?=some (.ro S[i].sess.length (Ac (AA false) S[i].sess)):=A7 (f:=Am false) (s:=4) (fun _=>rfl) d1 (i:=3) (by omega)
 obtain⟨hsi,hsx⟩:=UP (hS2 _ (List.getElem_mem d1))
 have hsm:=hS2 _ (List.getElem_mem d1)
 obtain⟨s,hsd⟩:∃s,s=S[i]:=⟨_,rfl⟩
 rw[<-hsd] at k0 k1 k2 k3 hsi hsx hsm
 have hvl:=hsm.1
 have spS:=Lx s hsi hsx
 refine Af (an d1 d2') ?_;intro K hK
 refine zk ?_;clear hK K
 refine zt ?_
 refine W.skip ?_
 refine zb ?_
 refine MH (an d1 (an k0 (an k1 (an k2 k3)))) ?_;intro K hK
 refine zk ?_;clear hK K
 by_cases hok:Ba s
 rotate_left
 .rw[decide_eq_false hok] at spS
  refine z0 ?_;intro K hK
  refine Ab.eq spS (by simp) (by simp) ?_
  refine zx ?_
  refine zk ?_;clear hK K
  refine zt ?_
  refine W.exit ?_
  refine zs ?_
  exact⟨i+1,by omega,by omega,Wk.cutM (k:=1) (by simp[Ad]) (by simp) (by simp) (by simp) (by simp) (by simp)⟩
 rw[decide_eq_true hok] at spS
 have rnV:=fun(K:List (Nat×Nat)) (y:Ao)=>HE K (xs:=Ac Ax y.vers) (by simp)
 have rnS:=fun(K:List (Nat×Nat)) (y:Ao)=>HE K (xs:=Ac (AA true) y.sess) (by simp)
 have rnC:=fun(K:List (Nat×Nat)) (y:Ao)=>HE K (xs:=Am false y) (by simp[tf])
 have rnI:=fun(K:List (Nat×Nat)) (y:List Int)=>HE K (xs:=Ae y) (by simp)
 have hkp:=hok.1.1.1
 have hkp2:=hok.1.1.2.1
 have spK:=Xa s false hsi (by omega)
 simp only[Bool.not_false] at spK
 have spB:=Vg hR s hsi hsx
 rw[if_pos hok,if_pos hok] at spB
 have n0:=Nf 0
 have hv12:s.vers.length<=12:=by have:=hok.1.1.2.2.2.2.2.2.1;simpa[Ai] using this
 have hkl:(AS s true).length<=s.vers.length:=by have:=U8 s;omega
 obtain⟨kp,hkpt⟩:∃kp,kp=AS s true:=⟨_,rfl⟩
 rw[<-hkpt] at spK hkl
 refine z0 ?_;intro K hK
 refine Ab.eq spS (by simp) (by simp) ?_
 refine zx ?_
 refine zk ?_;clear hK K
 refine zn ?_
 refine W.skip ?_
 refine z0 ?_;intro K hK
 refine Ab.eq spK (by simp) (by simp) ?_
 refine zx ?_
 refine zk ?_;clear hK K
 refine z0 ?_;intro K hK
 refine Ab.eq spB (by simp) (by simp) ?_
 refine zx ?_
 refine zk ?_;clear hK K
 refine z0 ?_;intro K hK
 refine Ab.eq n0 (by simp) (by simp) ?_
 refine zx ?_
 refine zk ?_;clear hK K
 refine zn ?_
 refine W.skip ?_
 refine z1 ?_;intro K hK
 refine zk ?_;clear hK K
 refine zs ?_
 obtain⟨bd,hbd⟩:∃bd:Int,bd=(s.vers.length:Int)*4:=⟨_,rfl⟩
 simp only[<-hbd]
 (repeat refine W.seq ?_);refine W.block (W.loopS (fun z:Nat×Ao×Bool=> [(1,.ptr 0 0 0),(3,.int .i64 i),(4,.ptr 1 0 0),(5,.tok 2 0 1 0 kp.length),(6,.int .i64 bd),(8,.ptr 3 0 0),(9,.int .i64 z.1)]) (fun z=>if z.2.2=true then [.live 0 [.ro S.length (Ac (Am false) S),.ro L.length (CA L),.ro G.length (Ac (A5 false) G),.ro na [],.ro nn []],.live 0 (Am false s),.live 0 (Ae kp),.live 0 (AZ 4 5 z.2.1),.live 0 (Ac Ax z.2.1.vers),.live 0 (Ac (AA true) z.2.1.sess)] else [.live 0 [.ro S.length (Ac (Am false) S),.ro L.length (CA L),.ro G.length (Ac (A5 false) G),.ro na [],.ro nn []],.live 0 (Am false s),.live 0 (Ae kp),.live 0 (Am false s)]) (fun z=>100-z.1) (fun z=>Em s z.2.1 z.1/\(z.2.2=false->z.2.1=s)) (0,s,false) (Wk.fr (by simp[Ad])) ⟨.start hok hsi hsx,fun _=>rfl⟩ ?_)
 rintro⟨k,x,b⟩ ⟨hl,hb⟩
 simp only at hl hb |-
 have hbnd:=hl.bound
 have f1:(k:Int)<=bd:=by omega
 have spI:=QY hR x hl.sin hl.all
 simp only[hl.ok,true_and,if_true] at spI
 cases b
 .have hxs:=hb rfl
  have hxx:=hxs
  rw[hxs] at spI
  simp only[Bool.false_eq_true,if_false]
  refine Af f1 ?_;intro K hK
  refine zk ?_;clear hK K
  refine zt ?_
  refine W.skip ?_
  refine zb ?_
  by_cases c2:(Av s).1=0
  .rw[decide_eq_true c2] at spI
   refine z0 ?_;intro K hK
   refine Ab.eq spI (by simp) (by simp) ?_
   refine zx ?_
   refine zk ?_;clear hK K
   (repeat refine W.seq ?_);refine W.midS (fun _:Unit=> [(1,.ptr 0 0 0),(3,.int .i64 i),(4,.ptr 1 0 0),(5,.tok 2 0 1 0 kp.length),(6,.int .i64 bd),(8,.ptr 3 0 0),(9,.int .i64 k),(10,.bool true),(73,.bool false)]) (fun _=> [.live 0 [.ro S.length (Ac (Am false) S),.ro L.length (CA L),.ro G.length (Ac (A5 false) G),.ro na [],.ro nn []],.live 0 (Am false s),.live 0 (Ae kp),.live 0 (Am false s)]) (fun _=>True) ?_ ?_
   .by_cases c3:(k:Int)=bd
    .have c3' :((k:Int)=bd)=True:=eq_true c3
     refine Af c3' ?_;intro K hK
     refine Ab.eq n0 (by simp) (by simp) ?_
     refine AL c3' ?_
     refine zk ?_;clear hK K
     exact⟨(),trivial,Wk.fr (by simp[Ad])⟩
    .refine Af c3 ?_;intro K hK
     refine Ab.eq n0 (by simp) (by simp) ?_
     refine AL c3 ?_
     refine zk ?_;clear hK K
     exact⟨(),trivial,Wk.fr (by simp[Ad])⟩
   rintro _ _
   refine zn ?_
   refine W.skip ?_
   refine z0 ?_;intro K hK
   refine zk ?_;clear hK K
   refine zt ?_
   refine W.exit ?_
   refine zs ?_
   refine zs ?_
   (repeat refine W.seq ?_);refine W.block (W.loopS (fun z:Nat=> [(1,.ptr 0 0 0),(3,.int .i64 i),(4,.ptr 1 0 0),(5,.tok 2 0 1 0 kp.length),(6,.int .i64 bd),(8,.ptr 3 0 0),(18,.int .i64 (Dp (s.vers.take z))),(19,.int .i64 z)]) (fun _=> [.live 0 [.ro S.length (Ac (Am false) S),.ro L.length (CA L),.ro G.length (Ac (A5 false) G),.ro na [],.ro nn []],.live 0 (Am false s),.live 0 (Ae kp),.live 0 (Am false s)]) (fun z=>s.vers.length-z) (fun z=>z<=s.vers.length) 0 (Wk.fr (by simp[Ad,Dp])) (by simp) ?_)
   intro z hz
   by_cases e1:z<s.vers.length
   rotate_left
   .have hze:z=s.vers.length:=by omega
    subst hze
    rw[List.take_length]
    obtain⟨T,hT⟩:∃T,T=Dp s.vers:=⟨_,rfl⟩
    have hT1:=Gt s.vers (Hx hok)
    rw[<-hT] at hT1 |-
    refine z0 ?_;intro K hK
    refine zk ?_;clear hK K
    refine zn ?_
    refine W.exit ?_
    by_cases e2:2*T+72<=s.blocks
    .have hlen:=hl.room hok (by rw[<-hT];exact e2) (by rw[hxs];exact c2)
     rw[<-hkpt] at hlen
     have hlen:s.vers.length=kp.length:=hxx ▸ hlen
     refine Af e2 ?_;intro K hK
     refine zk ?_;clear hK K
     refine zc ?_ ?_<;>intro h
     .exfalso;omega
     refine W.skip ?_
     refine zs ?_
     exact⟨i+1,by omega,by omega,Wk.cutM (k:=1) (by simp[Ad]) (by simp) (by simp) (by simp) (by simp) (by simp)⟩
    .refine Af e2 ?_;intro K hK
     refine zk ?_;clear hK K
     refine zn ?_
     refine W.skip ?_
     refine zs ?_
     exact⟨i+1,by omega,by omega,Wk.cutM (k:=1) (by simp[Ad]) (by simp) (by simp) (by simp) (by simp) (by simp)⟩
   have hst:=L4 e1
   have ht4:=Gt (s.vers.take z) fun v hv=>Hx hok v (List.mem_of_mem_take hv)
   have hn4:=Hx hok _ (List.getElem_mem e1)
   have hn1:=LA s.vers[z].data
   have hlt:(s.vers.take z).length<=12:=by simp;omega
   have spN:=Nr s.vers[z].data (hsi.2.2 _ (List.getElem_mem e1))
   have m3:(Ac Ax s.vers)[z*8+3]?=some (.str s.vers[z].data.data):=A7 (f:=Ax) (s:=8) (fun _=>rfl) e1 (i:=3) (by omega)
   have m4:(Ac Ax s.vers)[z*8+3+1]?=some (.int .i64 s.vers[z].data.n):=A7 (f:=Ax) (s:=8) (fun _=>rfl) e1 (i:=4) (by omega)
   obtain⟨T,hT⟩:∃T,T=Dp (s.vers.take z):=⟨_,rfl⟩
   rw[<-hT] at hst ht4 |-
   have hT48:0<=T/\T<=48:=by omega
   clear hlt
   refine Af e1 ?_;intro K hK
   refine zk ?_;clear hK K
   refine zt ?_
   refine W.skip ?_
   refine zb ?_
   refine Af (an e1 (an m3 m4)) ?_;intro K hK
   refine Ab.eq spN (by simp) (by simp) ?_
   refine AL (an e1 (an m3 m4)) ?_
   refine zk ?_;clear hK K
   refine zs ?_
   refine⟨z+1,by omega,by omega,Wk.fr (by simp[Ad,hst])⟩
  .have f2:¬(k:Int)=bd:=by
    intro h
    exact c2 (by rw[<-hxs];exact hl.idle (by omega))
   rw[decide_eq_false c2] at spI
   refine z0 ?_;intro K hK
   refine Ab.eq spI (by simp) (by simp) ?_
   refine zx ?_
   refine zk ?_;clear hK K
   refine Af f2 ?_;intro K hK
   refine Ab.eq n0 (by simp) (by simp) ?_
   refine AL f2 ?_
   refine zk ?_;clear hK K
   refine zn ?_
   refine W.skip ?_
   refine z0 ?_;intro K hK
   refine zk ?_;clear hK K
   refine zn ?_
   refine W.skip ?_
   have hy0:=hl.sin.1
   have hnx:=hl.next (by rw[hxx];exact c2)
   have hmb:=Lf hl.ok (n:=1) (by omega)
   have hrl:(BT x 1).length=1:=by
    rw[BT,if_neg (by rw[hxx];exact c2)];simp[BT]
   have hby:behind x 1=(Bx x (Av x).1 (Av x).2).1:=by
    rw[Fy 0,Hw,if_neg (by rw[hxx];exact c2)]
   obtain⟨y,hy⟩:∃y,y=(Bx x (Av x).1 (Av x).2).1:=⟨_,rfl⟩
   rw[hby,hrl] at hmb
   rw[<-hy] at hmb hnx
   obtain⟨hyl,hyn,hyi⟩:=hnx
   have hy9:=hyl.sin.1
   have sp3:=QZ hR s 1 (hxx ▸ hl.sin) (hxx ▸ hl.all)
   have hmb' :Fh s 1=(y,1,0):=by rw[<-hxx];exact hmb
   rw[hmb'] at sp3
   simp only at sp3
   have spY:=Lx y hyl.sin hyl.all
   rw[decide_eq_true hyl.ok] at spY
   have hle:¬s.vers.length<y.vers.length:=by rw[<-hxx];omega
   have hsx:y.sess=s.sess:=by rw[<-hxx,hyl.ses,hl.ses]
   have spQ:=KF y.sess s.sess (by have:=hyl.sin.2.1;omega) hyl.all
   rw[decide_eq_true hsx] at spQ
   refine z1 ?_;intro K hK
   refine Ab.eq sp3 (by simp) (by simp) ?_
   refine zx ?_
   refine zk ?_;clear hK K
   refine Af hle ?_;intro K hK
   refine Ab.eq n0 (by simp) (by simp) ?_
   refine AL hle ?_
   refine Ab.eq spY (by simp) (by simp) ?_
   refine AL hle ?_
   refine Ab.eq spQ (by simp) (by simp) ?_
   refine zx ?_
   refine zk ?_;clear hK K
   refine zn ?_
   refine W.skip ?_
   refine zs ?_
   (repeat refine W.seq ?_);refine W.block (W.loopS (fun z:Nat=> [(1,.ptr 0 0 0),(3,.int .i64 i),(4,.ptr 1 0 0),(5,.tok 2 0 1 0 kp.length),(6,.int .i64 bd),(8,.ptr 3 0 0),(9,.int .i64 k),(12,.ptr 4 0 0),(15,.int .i64 z)]) (fun _=> [.live 0 [.ro S.length (Ac (Am false) S),.ro L.length (CA L),.ro G.length (Ac (A5 false) G),.ro na [],.ro nn []],.live 0 (Am false s),.live 0 (Ae kp),.live 0 (Am false s),.live 0 (AZ 5 6 y),.live 0 (Ac Ax y.vers),.live 0 (Ac (AA true) y.sess)]) (fun z=>y.vers.length-z) (fun z=>z<=y.vers.length) 0 (Wk.fr (by simp[Ad])) (by simp) ?_)
   intro z hz
   simp only[AZ]
   by_cases e1:z<y.vers.length
   rotate_left
   .refine Af e1 ?_;intro K hK
    refine zk ?_;clear hK K
    refine zn ?_
    refine W.exit ?_
    refine zs ?_
    (repeat refine W.seq ?_);refine W.block (W.loopS (fun z:Nat=> [(1,.ptr 0 0 0),(3,.int .i64 i),(4,.ptr 1 0 0),(5,.tok 2 0 1 0 kp.length),(6,.int .i64 bd),(8,.ptr 3 0 0),(9,.int .i64 k),(12,.ptr 4 0 0),(17,.int .i64 z)]) (fun _=> [.live 0 [.ro S.length (Ac (Am false) S),.ro L.length (CA L),.ro G.length (Ac (A5 false) G),.ro na [],.ro nn []],.live 0 (Am false s),.live 0 (Ae kp),.live 0 (Am false s),.live 0 (AZ 5 6 y),.live 0 (Ac Ax y.vers),.live 0 (Ac (AA true) y.sess)]) (fun z=>kp.length-z) (fun z=>z<=kp.length) 0 (Wk.fr (by simp[Ad])) (by simp) ?_)
    intro w hw
    simp only[AZ]
    by_cases e2:w<kp.length
    rotate_left
    .refine Af e2 ?_;intro K hK
     refine zk ?_;clear hK K
     refine zn ?_
     refine W.exit ?_
     refine z0 ?_;intro K hK
     refine zk ?_;clear hK K
     refine zs ?_
     refine⟨(k+1,y,true),by simp only;omega,⟨hyl,by simp⟩,?_⟩
     simp only[if_true]
     refine Wk.perm [(0,0),(1,0),(2,0),(3,0),(5,0),(6,0)] [[.ro S.length (Ac (Am false) S),.ro L.length (CA L),.ro G.length (Ac (A5 false) G),.ro na [],.ro nn []],Am false s,Ae kp,AZ 5 6 y,Ac Ax y.vers,Ac (AA true) y.sess] (by decide) ?_ ?_ ?_
     .simp[Oc,Aj,AZ]
     .simp[LJ,rn,Fm,List.findIdx?_cons]
     .simp[Gk,rn,Fm,AZ,List.findIdx?_cons,rnV,rnS,rnC,rnI]
    obtain⟨v,hv,_,hve⟩:=(G8 y kp[w]).1 (by rw[hyl.kpt,<-hkpt];exact List.getElem_mem e2)
    obtain⟨j,hj,rfl⟩:=List.mem_iff_getElem.1 hv
    have hq:=Fg hyl.ok.1.1.2.2.2.2.2.2 hj
    rw[hve] at hq
    have spA:=Nt y kp[w] hyl.sin
    rw[hq] at spA
    have hj0:¬(j:Int)<0:=by omega
    refine Af e2 ?_;intro K hK
    refine zk ?_;clear hK K
    refine zt ?_
    refine W.skip ?_
    refine zb ?_
    (repeat refine W.seq ?_);refine W.regd 0 rfl true Ct (by kernel_rfl) fun K hK=>?_;simp -implicitDefEqProofs (maxSteps:=999999) (disch:=omega) [e2]
    refine Ah.eq spA (by simp) (by simp) ?_
    refine AL hj0 ?_
    refine zk ?_;clear hK K
    refine zn ?_
    refine W.skip ?_
    refine zs ?_
    exact⟨w+1,by omega,by omega,Wk.fr (by simp[Ad])⟩
   have y0:(Ac Ax y.vers)[z*8]?=some (.int .i64 y.vers[z].id):=A7 (f:=Ax) (s:=8) (fun _=>rfl) e1 (i:=0) (by omega)
   have idm:y.vers[z].id∈y.vers.map (fun v=>v.id):=List.mem_map.2 ⟨_,List.getElem_mem e1,rfl⟩
   have id1:1<=y.vers[z].id:=(hyl.ok.1.1.2.2.2.2.2.2.2.1 (Bt y.vers[z]) (List.mem_map.2 ⟨_,List.getElem_mem e1,rfl⟩)).1
   obtain⟨id,Bo⟩:∃id,id=y.vers[z].id:=⟨_,rfl⟩
   rw[<-Bo] at y0 idm id1
   obtain⟨v,hv,hve⟩:=List.mem_map.1 (hyi id idm)
   obtain⟨j,hj,rfl⟩:=List.mem_iff_getElem.1 hv
   have hq:=Fg hl.ok.1.1.2.2.2.2.2.2 hj
   rw[hve] at hq
   have spA:=Nt s id (hxx ▸ hl.sin)
   rw[<-hxx,hq] at spA
   rw[hxx] at spA
   have hj0:¬(j:Int)<0:=by omega
   have spG1:=I3 y id hyl.sin hyl.ok.1.1.2.2.2.2.2.2
   have spG2:=I3 s id hsi hok.1.1.2.2.2.2.2.2
   rw[if_neg (by omega),hyl.gra id (by omega) idm] at spG1
   rw[if_neg (by omega)] at spG2
   have hgm:=CW (Ai s) id
   obtain⟨g,hg⟩:∃g,g=(AP (Ai s) id).1:=⟨_,rfl⟩
   rw[<-hg] at spG1 spG2 hgm
   have spE:=Fb g g (hgm.inn)
   rw[decide_eq_true rfl] at spE
   refine Af e1 ?_;intro K hK
   refine zk ?_;clear hK K
   refine zt ?_
   refine W.skip ?_
   refine zb ?_
   refine Af (an e1 y0) ?_;intro K hK
   refine zk ?_;clear hK K
   refine Cf ?_;intro K hK
   refine Ah.eq spA (by simp) (by simp) ?_
   refine AL hj0 ?_
   refine Ah.eq spG1 (by simp) (by simp) ?_
   refine AL hj0 ?_
   refine Ah.eqr spG2 (by simp) ?_
   refine AL hj0 ?_
   refine Ah.eq spE (by simp) (by simp) ?_
   refine zx ?_
   refine zk ?_;clear hK K
   refine zn ?_
   refine W.skip ?_
   refine zs ?_
   exact⟨z+1,by omega,by omega,Wk.cutM (k:=7) (by simp[Ad]) (by simp[AZ]) (by simp) (by simp[AZ]) (by simp) (by simp)⟩
 .have hxx:x=x:=rfl
  simp only[if_true,AZ]
  refine Af f1 ?_;intro K hK
  refine zk ?_;clear hK K
  refine zt ?_
  refine W.skip ?_
  refine zb ?_
  by_cases c2:(Av x).1=0
  .rw[decide_eq_true c2] at spI
   refine z0 ?_;intro K hK
   refine Ab.eq spI (by simp) (by simp) ?_
   refine zx ?_
   refine zk ?_;clear hK K
   (repeat refine W.seq ?_);refine W.midS (fun _:Unit=> [(1,.ptr 0 0 0),(3,.int .i64 i),(4,.ptr 1 0 0),(5,.tok 2 0 1 0 kp.length),(6,.int .i64 bd),(8,.ptr 3 0 0),(9,.int .i64 k),(10,.bool true),(73,.bool false)]) (fun _=> [.live 0 [.ro S.length (Ac (Am false) S),.ro L.length (CA L),.ro G.length (Ac (A5 false) G),.ro na [],.ro nn []],.live 0 (Am false s),.live 0 (Ae kp),.live 0 (AZ 4 5 x),.live 0 (Ac Ax x.vers),.live 0 (Ac (AA true) x.sess)]) (fun _=>True) ?_ ?_
   .by_cases c3:(k:Int)=bd
    .have c3' :((k:Int)=bd)=True:=eq_true c3
     refine Af c3' ?_;intro K hK
     refine Ab.eq n0 (by simp) (by simp) ?_
     refine AL c3' ?_
     refine zk ?_;clear hK K
     exact⟨(),trivial,Wk.fr (by simp[Ad])⟩
    .refine Af c3 ?_;intro K hK
     refine Ab.eq n0 (by simp) (by simp) ?_
     refine AL c3 ?_
     refine zk ?_;clear hK K
     exact⟨(),trivial,Wk.fr (by simp[Ad])⟩
   rintro _ _
   refine zn ?_
   refine W.skip ?_
   refine z0 ?_;intro K hK
   refine zk ?_;clear hK K
   refine zt ?_
   refine W.exit ?_
   refine zs ?_
   refine zs ?_
   (repeat refine W.seq ?_);refine W.block (W.loopS (fun z:Nat=> [(1,.ptr 0 0 0),(3,.int .i64 i),(4,.ptr 1 0 0),(5,.tok 2 0 1 0 kp.length),(6,.int .i64 bd),(8,.ptr 3 0 0),(18,.int .i64 (Dp (s.vers.take z))),(19,.int .i64 z)]) (fun _=> [.live 0 [.ro S.length (Ac (Am false) S),.ro L.length (CA L),.ro G.length (Ac (A5 false) G),.ro na [],.ro nn []],.live 0 (Am false s),.live 0 (Ae kp),.live 0 (AZ 4 5 x),.live 0 (Ac Ax x.vers),.live 0 (Ac (AA true) x.sess)]) (fun z=>s.vers.length-z) (fun z=>z<=s.vers.length) 0 (Wk.fr (by simp[Ad,Dp])) (by simp) ?_)
   intro z hz
   by_cases e1:z<s.vers.length
   rotate_left
   .have hze:z=s.vers.length:=by omega
    subst hze
    rw[List.take_length]
    obtain⟨T,hT⟩:∃T,T=Dp s.vers:=⟨_,rfl⟩
    have hT1:=Gt s.vers (Hx hok)
    rw[<-hT] at hT1 |-
    refine z0 ?_;intro K hK
    refine zk ?_;clear hK K
    refine zn ?_
    refine W.exit ?_
    by_cases e2:2*T+72<=s.blocks
    .have hlen:=hl.room hok (by rw[<-hT];exact e2) c2
     rw[<-hkpt] at hlen
     have hlen:x.vers.length=kp.length:=hxx ▸ hlen
     refine Af e2 ?_;intro K hK
     refine zk ?_;clear hK K
     refine zc ?_ ?_<;>intro h
     .exfalso;omega
     refine W.skip ?_
     refine zs ?_
     exact⟨i+1,by omega,by omega,Wk.cutM (k:=1) (by simp[Ad]) (by simp) (by simp) (by simp) (by simp) (by simp)⟩
    .refine Af e2 ?_;intro K hK
     refine zk ?_;clear hK K
     refine zn ?_
     refine W.skip ?_
     refine zs ?_
     exact⟨i+1,by omega,by omega,Wk.cutM (k:=1) (by simp[Ad]) (by simp) (by simp) (by simp) (by simp) (by simp)⟩
   have hst:=L4 e1
   have ht4:=Gt (s.vers.take z) fun v hv=>Hx hok v (List.mem_of_mem_take hv)
   have hn4:=Hx hok _ (List.getElem_mem e1)
   have hn1:=LA s.vers[z].data
   have hlt:(s.vers.take z).length<=12:=by simp;omega
   have spN:=Nr s.vers[z].data (hsi.2.2 _ (List.getElem_mem e1))
   have m3:(Ac Ax s.vers)[z*8+3]?=some (.str s.vers[z].data.data):=A7 (f:=Ax) (s:=8) (fun _=>rfl) e1 (i:=3) (by omega)
   have m4:(Ac Ax s.vers)[z*8+3+1]?=some (.int .i64 s.vers[z].data.n):=A7 (f:=Ax) (s:=8) (fun _=>rfl) e1 (i:=4) (by omega)
   obtain⟨T,hT⟩:∃T,T=Dp (s.vers.take z):=⟨_,rfl⟩
   rw[<-hT] at hst ht4 |-
   have hT48:0<=T/\T<=48:=by omega
   clear hlt
   refine Af e1 ?_;intro K hK
   refine zk ?_;clear hK K
   refine zt ?_
   refine W.skip ?_
   refine zb ?_
   refine Af (an e1 (an m3 m4)) ?_;intro K hK
   refine Ab.eq spN (by simp) (by simp) ?_
   refine AL (an e1 (an m3 m4)) ?_
   refine zk ?_;clear hK K
   refine zs ?_
   refine⟨z+1,by omega,by omega,Wk.fr (by simp[Ad,hst])⟩
  .have f2:¬(k:Int)=bd:=by
    intro h
    exact c2 (by exact hl.idle (by omega))
   rw[decide_eq_false c2] at spI
   refine z0 ?_;intro K hK
   refine Ab.eq spI (by simp) (by simp) ?_
   refine zx ?_
   refine zk ?_;clear hK K
   refine Af f2 ?_;intro K hK
   refine Ab.eq n0 (by simp) (by simp) ?_
   refine AL f2 ?_
   refine zk ?_;clear hK K
   refine zn ?_
   refine W.skip ?_
   refine z0 ?_;intro K hK
   refine zk ?_;clear hK K
   refine zn ?_
   refine W.skip ?_
   have hy0:=hl.sin.1
   have hnx:=hl.next (by rw[hxx];exact c2)
   have hmb:=Lf hl.ok (n:=1) (by omega)
   have hrl:(BT x 1).length=1:=by
    rw[BT,if_neg (by rw[hxx];exact c2)];simp[BT]
   have hby:behind x 1=(Bx x (Av x).1 (Av x).2).1:=by
    rw[Fy 0,Hw,if_neg (by rw[hxx];exact c2)]
   obtain⟨y,hy⟩:∃y,y=(Bx x (Av x).1 (Av x).2).1:=⟨_,rfl⟩
   rw[hby,hrl] at hmb
   rw[<-hy] at hmb hnx
   obtain⟨hyl,hyn,hyi⟩:=hnx
   have hy9:=hyl.sin.1
   have sp3:=QZ hR x 1 (hxx ▸ hl.sin) (hxx ▸ hl.all)
   have hmb' :Fh x 1=(y,1,0):=by rw[<-hxx];exact hmb
   rw[hmb'] at sp3
   simp only at sp3
   have spY:=Lx y hyl.sin hyl.all
   rw[decide_eq_true hyl.ok] at spY
   have hle:¬x.vers.length<y.vers.length:=by rw[<-hxx];omega
   have hsx:y.sess=x.sess:=by rw[<-hxx,hyl.ses,hl.ses]
   have spQ:=KF y.sess x.sess (by have:=hyl.sin.2.1;omega) hyl.all
   rw[decide_eq_true hsx] at spQ
   refine z1 ?_;intro K hK
   refine Ab.eq sp3 (by simp) (by simp) ?_
   refine zx ?_
   refine zk ?_;clear hK K
   refine Af hle ?_;intro K hK
   refine Ab.eq n0 (by simp) (by simp) ?_
   refine AL hle ?_
   refine Ab.eq spY (by simp) (by simp) ?_
   refine AL hle ?_
   refine Ab.eq spQ (by simp) (by simp) ?_
   refine zx ?_
   refine zk ?_;clear hK K
   refine zn ?_
   refine W.skip ?_
   refine zs ?_
   (repeat refine W.seq ?_);refine W.block (W.loopS (fun z:Nat=> [(1,.ptr 0 0 0),(3,.int .i64 i),(4,.ptr 1 0 0),(5,.tok 2 0 1 0 kp.length),(6,.int .i64 bd),(8,.ptr 3 0 0),(9,.int .i64 k),(12,.ptr 6 0 0),(15,.int .i64 z)]) (fun _=> [.live 0 [.ro S.length (Ac (Am false) S),.ro L.length (CA L),.ro G.length (Ac (A5 false) G),.ro na [],.ro nn []],.live 0 (Am false s),.live 0 (Ae kp),.live 0 (AZ 4 5 x),.live 0 (Ac Ax x.vers),.live 0 (Ac (AA true) x.sess),.live 0 (AZ 7 8 y),.live 0 (Ac Ax y.vers),.live 0 (Ac (AA true) y.sess)]) (fun z=>y.vers.length-z) (fun z=>z<=y.vers.length) 0 (Wk.fr (by simp[Ad])) (by simp) ?_)
   intro z hz
   simp only[AZ]
   by_cases e1:z<y.vers.length
   rotate_left
   .refine Af e1 ?_;intro K hK
    refine zk ?_;clear hK K
    refine zn ?_
    refine W.exit ?_
    refine zs ?_
    (repeat refine W.seq ?_);refine W.block (W.loopS (fun z:Nat=> [(1,.ptr 0 0 0),(3,.int .i64 i),(4,.ptr 1 0 0),(5,.tok 2 0 1 0 kp.length),(6,.int .i64 bd),(8,.ptr 3 0 0),(9,.int .i64 k),(12,.ptr 6 0 0),(17,.int .i64 z)]) (fun _=> [.live 0 [.ro S.length (Ac (Am false) S),.ro L.length (CA L),.ro G.length (Ac (A5 false) G),.ro na [],.ro nn []],.live 0 (Am false s),.live 0 (Ae kp),.live 0 (AZ 4 5 x),.live 0 (Ac Ax x.vers),.live 0 (Ac (AA true) x.sess),.live 0 (AZ 7 8 y),.live 0 (Ac Ax y.vers),.live 0 (Ac (AA true) y.sess)]) (fun z=>kp.length-z) (fun z=>z<=kp.length) 0 (Wk.fr (by simp[Ad])) (by simp) ?_)
    intro w hw
    simp only[AZ]
    by_cases e2:w<kp.length
    rotate_left
    .refine Af e2 ?_;intro K hK
     refine zk ?_;clear hK K
     refine zn ?_
     refine W.exit ?_
     refine z0 ?_;intro K hK
     refine zk ?_;clear hK K
     refine zs ?_
     refine⟨(k+1,y,true),by simp only;omega,⟨hyl,by simp⟩,?_⟩
     simp only[if_true]
     refine Wk.perm [(0,0),(1,0),(2,0),(3,0),(7,0),(8,0)] [[.ro S.length (Ac (Am false) S),.ro L.length (CA L),.ro G.length (Ac (A5 false) G),.ro na [],.ro nn []],Am false s,Ae kp,AZ 7 8 y,Ac Ax y.vers,Ac (AA true) y.sess] (by decide) ?_ ?_ ?_
     .simp[Oc,Aj,AZ]
     .simp[LJ,rn,Fm,List.findIdx?_cons]
     .simp[Gk,rn,Fm,AZ,List.findIdx?_cons,rnV,rnS,rnC,rnI]
    obtain⟨v,hv,_,hve⟩:=(G8 y kp[w]).1 (by rw[hyl.kpt,<-hkpt];exact List.getElem_mem e2)
    obtain⟨j,hj,rfl⟩:=List.mem_iff_getElem.1 hv
    have hq:=Fg hyl.ok.1.1.2.2.2.2.2.2 hj
    rw[hve] at hq
    have spA:=Nt y kp[w] hyl.sin
    rw[hq] at spA
    have hj0:¬(j:Int)<0:=by omega
    refine Af e2 ?_;intro K hK
    refine zk ?_;clear hK K
    refine zt ?_
    refine W.skip ?_
    refine zb ?_
    (repeat refine W.seq ?_);refine W.regd 0 rfl true Ct (by kernel_rfl) fun K hK=>?_;simp -implicitDefEqProofs (maxSteps:=999999) (disch:=omega) [e2]
    refine Ah.eq spA (by simp) (by simp) ?_
    refine AL hj0 ?_
    refine zk ?_;clear hK K
    refine zn ?_
    refine W.skip ?_
    refine zs ?_
    exact⟨w+1,by omega,by omega,Wk.fr (by simp[Ad])⟩
   have y0:(Ac Ax y.vers)[z*8]?=some (.int .i64 y.vers[z].id):=A7 (f:=Ax) (s:=8) (fun _=>rfl) e1 (i:=0) (by omega)
   have idm:y.vers[z].id∈y.vers.map (fun v=>v.id):=List.mem_map.2 ⟨_,List.getElem_mem e1,rfl⟩
   have id1:1<=y.vers[z].id:=(hyl.ok.1.1.2.2.2.2.2.2.2.1 (Bt y.vers[z]) (List.mem_map.2 ⟨_,List.getElem_mem e1,rfl⟩)).1
   obtain⟨id,Bo⟩:∃id,id=y.vers[z].id:=⟨_,rfl⟩
   rw[<-Bo] at y0 idm id1
   obtain⟨v,hv,hve⟩:=List.mem_map.1 (hyi id idm)
   obtain⟨j,hj,rfl⟩:=List.mem_iff_getElem.1 hv
   have hq:=Fg hl.ok.1.1.2.2.2.2.2.2 hj
   rw[hve] at hq
   have spA:=Nt x id (hxx ▸ hl.sin)
   rw[<-hxx,hq] at spA
   rw[hxx] at spA
   have hj0:¬(j:Int)<0:=by omega
   have spG1:=I3 y id hyl.sin hyl.ok.1.1.2.2.2.2.2.2
   have spG2:=I3 s id hsi hok.1.1.2.2.2.2.2.2
   rw[if_neg (by omega),hyl.gra id (by omega) idm] at spG1
   rw[if_neg (by omega)] at spG2
   have hgm:=CW (Ai s) id
   obtain⟨g,hg⟩:∃g,g=(AP (Ai s) id).1:=⟨_,rfl⟩
   rw[<-hg] at spG1 spG2 hgm
   have spE:=Fb g g (hgm.inn)
   rw[decide_eq_true rfl] at spE
   refine Af e1 ?_;intro K hK
   refine zk ?_;clear hK K
   refine zt ?_
   refine W.skip ?_
   refine zb ?_
   refine Af (an e1 y0) ?_;intro K hK
   refine zk ?_;clear hK K
   refine Cf ?_;intro K hK
   refine Ah.eq spA (by simp) (by simp) ?_
   refine AL hj0 ?_
   refine Ah.eq spG1 (by simp) (by simp) ?_
   refine AL hj0 ?_
   refine Ah.eqr spG2 (by simp) ?_
   refine AL hj0 ?_
   refine Ah.eq spE (by simp) (by simp) ?_
   refine zx ?_
   refine zk ?_;clear hK K
   refine zn ?_
   refine W.skip ?_
   refine zs ?_
   exact⟨z+1,by omega,by omega,Wk.cutM (k:=9) (by simp[Ad]) (by simp[AZ]) (by simp) (by simp[AZ]) (by simp) (by simp)⟩
open Go.Proofs Go.ChangeShapes Go.WideShapes Go.ChangeAt Go.RowKit
def Ka (P:Program) (fn:Func) (s:ChangeSpec) (c:OpenClaim):Bool:=
 c.wf (OpenSpec.ofChange s)&&laidOutB P&&mapsRowed P&&
 fn.params.all (fun t=>P.readableRec t)&&namedTie P c.named s.vars&&
 (c.stops==[])&&(P.stops==[])&&(c.knobs==[])&&(P.stopKnobs==[])&&
 (c.maps==(fn.params.toList++s.plain.varTypes P).any (fun t=>P.mapsRec t))&&(c.ifaces==(fn.params.toList++s.plain.varTypes P).any (fun t=>P.ifacesRec t))&&(c.mapsOut==P.mapsAmong fn.resultTypes.toList)&&
 (c.loops==(fn.params.toList++s.plain.varTypes P).any (fun t=>P.loopsFrom t))&&(c.wideKeys==(fn.params.toList++s.plain.varTypes P++fn.resultTypes.toList).any (fun t=>P.wideKeysFrom t))&&
 s.vars.all (fun t=>P.varReadable t)&&fn.resultTypes.all (fun t=>P.readableRec t&&decide (t<P.types.size))&&(c.ifacesOut==fn.resultTypes.toList.any (fun t=>P.ifacesRec t))&&(c.loopsOut==fn.resultTypes.toList.any (fun t=>P.loopsFrom t))&&(c.plainKeys==P.plainKeys)&&c.shortTexts.isNone&&(c.kinds==(if c.domain.isEmpty then [] else fn.params.toList.map fun t=>match P.underlying t with|some (.int k)=>some k|_=>none))&&(c.pinned==c.pinnedBy)&&
 (c.veiled==(fn.params.toList++s.plain.varTypes P++fn.resultTypes.toList).any (fun t=>P.veiledRec t))&&c.veiledFits P fn.params.toList (fn.params.toList++s.plain.varTypes P++fn.resultTypes.toList)
theorem TL {P:Program} {f:FuncId} {fn:Func} {s:ChangeSpec} {c:OpenClaim} (h1:(c.inPlace==P.inPlace f)=true) (h2:(c.unfollowed==P.unfollowed f)=true) (h3:(c.recurses==P.recurses f)=true) (h4:(c.named==P.varsNamed f)=true)
 (h5:P.stopsHeard=true) (h6:P.mayEnter=true) (h7:(c.lifted==P.liftsFinal)=true) (h8:(P.make==some c.make)=true) (h:Ka P fn s c=true):joinedFacts P f fn s c=true:=by
 simp only[Ka,Bool.and_eq_true] at h
 obtain⟨⟨⟨⟨⟨⟨⟨⟨⟨⟨⟨⟨⟨⟨⟨⟨⟨⟨⟨⟨⟨⟨⟨k1,k2⟩,k3⟩,k4⟩,k5⟩,k6⟩,k7⟩,k8⟩,k9⟩,k10⟩,k11⟩,k12⟩,k13⟩,k14⟩,k15⟩,k16⟩,k17⟩,k18⟩,k19⟩,k20⟩,k21⟩,k22⟩,k23⟩,k24⟩:=h
 simp only[joinedFacts,Bool.and_eq_true]
 exact⟨⟨⟨⟨⟨⟨⟨⟨⟨⟨⟨⟨⟨⟨⟨⟨⟨⟨⟨⟨⟨⟨⟨⟨⟨⟨⟨⟨⟨⟨⟨k1,k2⟩,k3⟩,k4⟩,k5⟩,k6⟩,k7⟩,k8⟩,k9⟩,h1⟩,h2⟩,h3⟩,h4⟩,k10⟩,k11⟩,k12⟩,k13⟩,k14⟩,k15⟩,k16⟩,k17⟩,k18⟩,k19⟩,k20⟩,h5⟩,h6⟩,h7⟩,h8⟩,k21⟩,k22⟩,k23⟩,k24⟩
end Go.Abs
