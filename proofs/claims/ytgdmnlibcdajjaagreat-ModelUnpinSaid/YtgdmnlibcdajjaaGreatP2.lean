/- The rules of a walk, free of what stays fixed; a function's entry and end. No program. -/
import Derived.Test.YtgdmnlibcdajjaaGreatP1
import Derived.Orders
import Derived.Still
open Array renaming getElem?_toList -> vp, getElem?_eq_some_iff -> vu, getD -> vD, getElem_setIfInBounds -> vW, all_eq_true' -> wc, mem_toList_iff -> wq, replicate -> xn
open Bool renaming and_eq_true -> uU, or_eq_true -> wT, not_true -> xt, false_or -> xC
open Classical renaming byContradiction -> vv
open List renaming getElem?_set_ne -> uN, getElem?_set_self -> uO, replicate -> uP, getElem?_eq_none -> uR, all_eq_true -> u1, getD_eq_getElem?_getD -> vf, getElem?_append_right -> vj, getElem?_append_left -> vk, mem_of_getElem? -> vo, eq_nil_of_length_eq_zero -> vr, mem_filter -> vC, cons_append -> vF, getElem?_drop -> vG, mem_map -> vH, range -> vK, pairwise_cons -> vP, getElem?_take -> vT, getElem?_set -> wl, drop_drop -> wr, getElem?_eq_some_iff -> wv, filter_eq_self -> wD, map_congr_left -> xf, mem_range -> xj, range' -> xp, all_cons -> xu
open Nat renaming lt_or_ge -> uY, le_refl -> vg, zero_le -> vn, eq_zero_or_pos -> wm, min_eq_left -> wO, lt_of_lt_of_le -> xw
open Option renaming map_some -> vI, bind_eq_some_iff -> xb, getD_some -> xz
set_option linter.unusedVariables false
set_option linter.unusedSimpArgs false
namespace Go.Abs
def CL (n:Nat):Code->Bool
 | .region _ ops _=>ops.toList.all (Bx n)
 | .seq x y=>CL n x&&CL n y
 | .cond c x y=>FH n c&&CL n x&&CL n y
 | .block _ x=>CL n x
 | .loop x=>CL n x
 | .scope x=>CL n x
 | .rangeFunc _ _ x y=>CL n x&&CL n y
 |_=>true
def Ad (P:Program) (f:Nat) (args:List AV) (M:List Ag) (K:AV->List Ag->Prop):Prop:=∀C:BF,C.P=P->Cd C f args M K
def W (P:Program) (T:Nat->Option TI) (p:Nat) (c:Code) (F:Fr) (M:List Ag) (Q:Cj):Prop:=BQ P T->∀C:BF,C.P=P->C.p<=p->CL C.n c=true->AW C c F M Q
def Wk (p:Nat) (F:Fr) (M:List Ag) (F' :Fr) (M' :List Ag):Prop:=∀C:BF,C.p<=p->Dj C F M F' M'
section
variable {P:Program} {T:Nat->Option TI} {p:Nat} {F:Fr} {M:List Ag} {Q:Cj}
theorem W.mono {c:Code} {Q' :Cj} (h:W P T p c F M Q) (hq:∀e F M,Q e F M->Q' e F M):W P T p c F M Q' :=λtk C hC hp hb=>(h tk C hC hp hb).mono hq
theorem W.skip (h:Q .normal F M):W P T p .skip F M Q:=λ_ _ _ _ _=>AW.skip h
theorem ut {l:Nat} (h:Q .normal F M):W P T p (.label l) F M Q:=λ_ _ _ _ _=>ug h
theorem s7 {id:Nat} (h:Q (.exit id) F M):W P T p (.exit id) F M Q:=λ_ _ _ _ _=>ur h
theorem tq (h:Q .ret F M):W P T p .ret F M Q:=λ_ _ _ _ _=>tK h
theorem ta {x y:Code} (h:W P T p x F M (DR (λF M=>W P T p y F M Q) Q)):W P T p (.seq x y) F M Q:=λtk C hC hp hb=>by
 simp only[CL,uU] at hb;refine tC ((h tk C hC hp hb.1).mono λe F M q=>?_);cases e<;>first|exact q tk C hC hp hb.2|exact q
theorem W.block {id:Nat} {x:Code} (h:W P T p x F M (Jp id Q)):W P T p (.block id x) F M Q:=λtk C hC hp hb=>AW.block (h tk C hC hp (by simpa[CL] using hb))
theorem uF {t:Nat} {x y:Code} {b:Bool} (hc:F t= .bool b) (ht:b=true->W P T p x F M Q) (hf:b=false->W P T p y F M Q):W P T p (.cond (.tmp t) x y) F M Q:=λtk C hC hp hb=>by
 simp only[CL,uU,FH] at hb;exact ub b (λt' e=>by cases e;simpa using hb.1.1) hc (λh=>ht h tk C hC hp hb.1.2) (λh=>hf h tk C hC hp hb.2)
theorem W.weak {c:Code} {F' :Fr} {M' :List Ag} (h:Wk p F M F' M') (k:W P T p c F' M' Q):W P T p c F M Q:=λtk C hC hp hb=>AW.weak (h C hp) (k tk C hC hp hb)
theorem uG {c:Code} (I:Nat->Fr->List Ag->Prop) (k:Nat) (F₀:Fr) (M₀:List Ag) (h0:Wk p F M F₀ M₀) (hI:I k F₀ M₀)
 (round:∀k F M,I k F M->W P T p c F M (DR (λF' M' =>∃k' F₁ M₁,k' <k/\Wk p F' M' F₁ M₁/\I k' F₁ M₁) Q)):W P T p (.loop c) F M Q:=λtk C hC hp hb=>
 uc I k F₀ M₀ (h0 C hp) hI λk F M h=>(round k F M h tk C hC hp (by simpa[CL] using hb)).mono λe F M q=>by
  cases e<;>first| (obtain⟨k',F₁,M₁,h1,h2,h3⟩:=q;exact⟨k',F₁,M₁,h1,h2 C hp,h3⟩) |exact q
theorem uo {x y:Code} (R:Fr->List Ag->Prop) (h:W P T p x F M (DR (λF M=>∃F' M',Wk p F M F' M' /\R F' M') Q)) (k:∀F M,R F M->W P T p y F M Q):W P T p (.seq x y) F M Q:=
 ta (h.mono λe F M q=>by
  cases e<;>first|exact q|skip
  obtain⟨F',M',hw,r⟩:=q;exact W.weak hw (k _ _ r))
theorem Fg {call call' :D9} (hc:∀f args M K K',(∀r M,K r M->K' r M)->call f args M K->call' f args M K') {o:Oper} {s:Nat} {K K' :Fr->List Ag->Prop} (hk:∀F M,K F M->K' F M) (h:Dv T call o s F M K):Dv T call' o s F M K' :=by
 unfold Dv at h |-;split at h<;>(try rename_i hop)<;>(try simp only[hop])
 .unfold Ht at h |-;split at h<;>simp_all
 .unfold Ht Hl at h |-;split at h
  .split at h<;>simp_all
  .exact h.elim
 .unfold PZ at h |-;split at h
  .obtain⟨h1,h2,rfl,h3,h4,h⟩:=h;exact⟨h1,h2,rfl,h3,h4,hk _ _ h⟩
  .exact h.elim
 .unfold P0 Hl at h |-;split at h
  .split at h<;>simp_all
  .exact h.elim
 .unfold Ht Lx Hl at h |-;split at h
  .split at h
   .split at h
    .split at h<;>simp_all
    .exact h.elim
   .exact h.elim
  .exact h.elim
 .split at h
  .rename_i x y t t' hx ht;cases hq:Ia T t t' (ev F y) with
   |none=>rw[hq] at h;exact h.elim
   |some pq=>
   obtain⟨y',pl⟩:=pq;rw[hq] at h;unfold Hz Jw Hl Hy at h |-;simp only at h |-;split at h
   .split at h
    .split at h
     .obtain⟨h1,h2,h3,h4,h5,h6,h7,h8,h⟩:=h;exact⟨h1,h2,h3,h4,h5,h6,h7,h8,hk _ _ h⟩
     .exact h.elim
    .exact h.elim
   .exact h.elim
  .exact h.elim
 .unfold J2 Nt at h |-;split at h
  .split at h<;>first|exact h.elim|exact λb=>hk _ _ (h b) |exact⟨λh0=>hk _ _ (h.1 h0),λh0 b=>hk _ _ (h.2 h0 b)⟩
  .exact h.elim
 .unfold J2 Nt at h |-;split at h
  .split at h<;>first|exact h.elim|exact λb=>hk _ _ (h b) |exact⟨λh0=>hk _ _ (h.1 h0),λh0 b=>hk _ _ (h.2 h0 b)⟩
  .exact h.elim
 .unfold Ly at h |-;split at h
  .exact hc _ _ _ _ _ (λr M' h=>hk _ _ h) h
  .exact h.elim
 .unfold Hs at h |-;split at h
  .exact hk _ _ h
  .exact h.elim
theorem Dk {call call' :D9} (hc:∀f args M K K',(∀r M,K r M->K' r M)->call f args M K->call' f args M K') {ops:Array Oper} {K K' :Fr->List Ag->Prop} (hk:∀F M,K F M->K' F M):
 ∀(l:List Oper) (s:Nat) (F:Fr) (M:List Ag),Aw T call ops l s F M K->Aw T call' ops l s F M K'
 | [],s,F,M,h=>hk _ _ h
 |o::rest,s,F,M,h=>by
  simp only[Aw] at h |-;split at h
  .exact Fg hc (λF M h=>Dk hc hk rest _ F M h) h
  .split at h
   .unfold gK at h |-;split at h
    .exact⟨λhb=>Fg hc (λF M h=>Dk hc hk rest _ F M h) (h.1 hb),λhb=>Dk hc hk rest _ _ _ (h.2 hb)⟩
    .exact Dk hc hk rest _ _ _ h
    .exact h.elim
   .exact h.elim
theorem Cd.mono {C:BF} {f:Nat} {args:List AV} {M:List Ag} {K K' :AV->List Ag->Prop} (hk:∀r M,K r M->K' r M) (h:Cd C f args M K):Cd C f args M K' :=
 ⟨h.1,λF a w σ own vals R hv=>(h.2 F a w σ own vals R hv).mono λe w' ⟨r,v,M',σ',own',he,q,rest⟩=>⟨r,v,M',σ',own',he,hk _ _ q,rest⟩⟩
theorem Ki {C:BF} (tk:BQ C.P T) {ops:Array Oper} {Q' :Exit->Act->World->Prop} {K:Fr->List Ag->Prop} (hQ:∀F M a w,K F M->Cu C F M a w->Q' .normal a w):
 ∀(l:List Oper) (s:Nat) (F:Fr) (M:List Ag) (a:Act) (w:World),l.all (Bx C.n)=true->ops.toList.all (Bx C.n)=true->Aw T (Cd C) ops l s F M K->Cu C F M a w->wpListIn (FX C) 0 C.P ops Q' l a w
 | [],s,F,M,a,w,_,_,h,r=>hQ F M a w h r
 |o::rest,s,F,M,a,w,hb,hbo,h,r=>by
  simp only[xu,uU] at hb;simp only[wpListIn];simp only[Aw] at h;split at h
  .rename_i hg;rw[zP (by simp[Region.wanted,hg])];obtain⟨σ,own,R⟩:=r;exact I2 tk hb.1 h R λF' M' a' w' hk r' =>Ki tk hQ rest _ F' M' a' w' hb.2 hbo hk r'
  .rename_i j want hg;split at h
   .rename_i d hd;unfold gK at h;split at h
    .rename_i b hFd;obtain⟨σ,own,R⟩:=r;obtain⟨oj,hj,hdj⟩:=xb.1 hd;have hdn:d<C.n:=by
      have h1:=u1.1 hbo oj (by rw[<-vp] at hj;exact vo hj);simp only[Bx,uU,hdj] at h1;simpa using h1.2
     have hv:=R.tmp d hdn;rw[hFd] at hv;have he:=hv.1;have hget:a.tmps[d]?=some (.bool b):=by
      have hs:=R.size;have hlt:d<a.tmps.size:=by rw[hs];exact hdn
      simp[vD,hlt] at he;simp[hlt,he]
     have hy:yielded ops a.tmps j=some b:=by simp[yielded,hd,hget]
     have refr:∀c:Bool,b=c->Cu C (Bu F d (.bool c)) M a w:=by
      rintro c rfl;refine⟨σ,own,R.size,R.dfr,λt ht=>?_,R.mem,R.shr,R.ext,R.key0⟩;simp only[Bu];split
      .rename_i e;subst e;exact hv
      .exact R.tmp t ht
     by_cases hbw:b=want
     .rw[zP (by simp[Region.wanted,hg,hy,hbw])];obtain⟨σ',own',R'⟩:=refr want hbw;exact I2 tk hb.1 (h.1 hbw) R' λF' M' a' w' hk r' =>Ki tk hQ rest _ F' M' a' w' hb.2 hbo hk r'
     .have hbn:b= !want:=by cases b<;>cases want<;>simp_all
      rw[zM (by simp[Region.wanted,hg,hy,hbw])];obtain⟨σ',own',R'⟩:=refr (!want) hbn;refine⟨λ_ _=>trivial,?_⟩;exact Ki tk hQ rest _ _ M _ w hb.2 hbo (h.2 hbn) ⟨σ',own',R'.put o.dst (v:=undef) ⟨#[],rfl,rfl,λ_=>rfl⟩⟩
    .rename_i hFd;obtain⟨σ,own,R⟩:=r;obtain⟨oj,hj,hdj⟩:=xb.1 hd;have hdn:d<C.n:=by
      have h1:=u1.1 hbo oj (by rw[<-vp] at hj;exact vo hj);simp only[Bx,uU,hdj] at h1;simpa using h1.2
     have hv:=R.tmp d hdn;rw[hFd] at hv;obtain⟨cs,he,_⟩:=hv;have hget:a.tmps[d]?=some (.tuple cs):=by
      have hs:=R.size;have hlt:d<a.tmps.size:=by rw[hs];exact hdn
      simp[vD,hlt] at he;simp[hlt,he]
     have hy:yielded ops a.tmps j=none:=by simp[yielded,hd,hget]
     rw[zM (by simp[Region.wanted,hg,hy])];refine⟨λ_ _=>trivial,?_⟩;refine Ki tk hQ rest _ _ M _ w hb.2 hbo h ⟨σ,own,AS.put ?_ o.dst (v:=undef) ⟨#[],rfl,rfl,λ_=>rfl⟩⟩;refine⟨R.size,R.dfr,λt ht=>?_,R.mem,R.shr,R.ext,R.key0⟩;simp only[Bu];split
     .rename_i e;subst e;have:=R.tmp t hdn;rw[hFd] at this;exact this
     .exact R.tmp t ht
    .exact h.elim
   .exact h.elim
theorem ui {id:Nat} {l:List Oper} (h:Aw T (Ad P) l.toArray l M.length F (M++uP (Bb l) .free) (Q .normal)):W P T p (.region id l.toArray false) F M Q:=by
 intro tk C hC hp hb a w r;simp only[CL] at hb;refine wpIn_region_lit ?_;obtain⟨σ,own,R⟩:=r;have h' :=Dk (call' :=Cd C) (λf args M K K' hk hc=>(hc C hC).mono hk) (λ_ _ h=>h) l _ F _ h;exact Ki (hC ▸ tk) (λF M a w h r=> .inl ⟨F,M,h,r⟩) l _ F _ a w hb hb h' ⟨σ,own,R.grow _⟩
end
def tf:AV->Bool
 | .tok .. | .ptr .. | .agg _| .tup _=>false
 | .fn _ cs=>cs.isEmpty
 |_=>true
theorem ZH {w:World} {sh:Nat->Prop} {σ:Nat->Nat->Option St} (τ:Nat->Nat->Option St) {x:AV} {v:Value} {fp:Nat->Nat} (hx:tf x=true) (h:VR w sh σ x v fp):VR w sh τ x v fp:=by
 cases x<;>simp[tf] at hx<;>simp only[VR] at h |-<;>try exact h
 rename_i f cs;subst hx;obtain⟨h0,vs,e,hv⟩:=h;exact⟨h0,vs,e,hv.1,λ_=>rfl⟩
theorem Ib {w:World} {sh:Nat->Prop} {σ:Nat->Nat->Option St} (τ:Nat->Nat->Option St):∀{xs:List AV} {vs:List Value} {fp:Nat->Nat},xs.all tf=true->AI w sh σ xs vs fp->AI w sh τ xs vs fp
 | [],_,_,_,h=>h
 |x::xs,vs,fp,hx,h=>by
  simp only[AI] at h |-;simp only[xu,uU] at hx;obtain⟨v,rest,f1,f2,e,h1,h2,hf⟩:=h;exact⟨v,rest,f1,f2,e,ZH τ hx.1 h1,Ib τ hx.2 h2,hf⟩
def Jy (f:List Ag->AV->Option (AV×List Ag)):List Ag->List AV->Option (List AV×List Ag)
 |M,[]=>some ([],M)
 |M,x::xs=>match f M x with
  |some (y,M1)=>match Jy f M1 xs with
   |some (ys,M2)=>some (y::ys,M2)
   |none=>none
  |none=>none
def Jz (f:List Ag->List AV->Option (List AV×List Ag)) (M:List Ag):AV->Option (AV×List Ag)
 | .tok T v s off n=>match Ah M T v with
   |some cs=>if off+n*s<=cs.length then match f (M.set T .dead) ((cs.drop off).take (n*s)) with
    |some (zs,M')=>some (.own s n zs,M')
    |none=>none
    else none
   |none=>none
 | .ptr T v off=>match Ah M T v with
   |some cs=>if off<=cs.length then match f (M.set T .dead) (cs.drop off) with
    |some (zs,M')=>some (.optr zs,M')
    |none=>none
    else none
   |none=>none
 |x=>if tf x then some (x,M) else none
def KN:Nat->List Ag->AV->Option (AV×List Ag)
 |0=>Jz λM ys=>if ys.all tf then some (ys,M) else none
 |d+1=>Jz λM ys=>if ys.all tf then some (ys,M) else Jy (KN d) M ys
def MV (d:Nat) (M:List Ag):AV->Option (AV×List Ag)
 | .agg xs=>match Jy (KN d) M xs with
   |some (ys,M')=>some (.agg ys,M')
   |none=>none
 |x=>KN d M x
def MW (d:Nat) (M:List Ag):AV->Option (AV×List Ag)
 | .tup xs=>match Jy (MV d) M xs with
   |some (ys,M')=>some (.tup ys,M')
   |none=>none
 |x=>MV d M x
def LP (q:Nat) (M:List Ag) (x:AV) (x' :AV) (M' :List Ag):Prop:=
 ∀(w:World) (sh:Nat->Prop) (σ:Nat->Nat->Option St) (own:Nat->Option Nat) (v:Value) (fp:Nat->Nat),VR w sh σ x v fp->Cp w sh σ own M->(∀g,fp g<=if own g=some q then 1 else 0)->M.length<=q->
  ∃own' fp',VR w sh σ0 x' v fp' /\Cp w sh σ own' M' /\M'.length=M.length/\(∀g,fp' g<=if own' g=some q then 1 else 0)/\(∀g,own' g≠none->own g≠none)/\(∀g,own g=some q->own' g=some q/\fp' g=fp g)
def Pz (q:Nat) (M:List Ag) (xs:List AV) (xs' :List AV) (M' :List Ag):Prop:=
 ∀(w:World) (sh:Nat->Prop) (σ:Nat->Nat->Option St) (own:Nat->Option Nat) (vs:List Value) (fp:Nat->Nat),AI w sh σ xs vs fp->Cp w sh σ own M->(∀g,fp g<=if own g=some q then 1 else 0)->M.length<=q->
  ∃own' fp',AI w sh σ0 xs' vs fp' /\Cp w sh σ own' M' /\M'.length=M.length/\(∀g,fp' g<=if own' g=some q then 1 else 0)/\(∀g,own' g≠none->own g≠none)/\(∀g,own g=some q->own' g=some q/\fp' g=fp g)
theorem KO {q:Nat} {f:List Ag->AV->Option (AV×List Ag)} (hf:∀M x x' M',f M x=some (x',M')->LP q M x x' M'):∀(xs:List AV) (M:List Ag) (xs' :List AV) (M' :List Ag),Jy f M xs=some (xs',M')->Pz q M xs xs' M'
 | [],M,xs',M',h=>by
   simp[Jy] at h;obtain⟨rfl,rfl⟩:=h;intro w sh σ own vs fp hv m hb _;simp only[AI] at hv;exact⟨own,fp,hv,m,rfl,hb,λ_ h=>h,λ_ h=>⟨h,rfl⟩⟩
 |x::xs,M,xs',M',h=>by
  simp only[Jy] at h;split at h
  .rename_i y M1 hy;split at h
   .rename_i ys M2 hys;simp at h;obtain⟨rfl,rfl⟩:=h;intro w sh σ own vs fp hv m hb hq;simp only[AI] at hv;obtain⟨v,rest,f1,f2,rfl,h1,h2,hff⟩:=hv;obtain⟨own1,f1',a1,a2,a3,a4,a5,a6⟩:=hf _ _ _ _ hy w sh σ own v f1 h1 m (λg=>by have:=hff g;have:=hb g;omega) hq;have hb2:∀g,f2 g<=if own1 g=some q then 1 else 0:=λg=>by
     have e1:=hff g;have e2:=hb g;by_cases hg:own g=some q
     .rw[zP (a6 g hg).1];rw[zP hg] at e2;omega
     .rw[zM hg] at e2;omega
    obtain⟨own2,f2',b1,b2,b3,b4,b5,b6⟩:=KO hf xs M1 ys M2 hys w sh σ own1 rest f2 h2 a2 hb2 zO;refine⟨own2,λg=>f1' g+f2' g,⟨v,rest,f1',f2',rfl,a1,b1,λ_=>rfl⟩,b2,zO,λg=>?_,λg hg=>a5 g (b5 g hg),λg hg=>?_⟩
    .have e1:=a4 g;have e2:=b4 g;simp only;by_cases hg:own1 g=some q
     .have e3:=b6 g hg;rw[zP e3.1];rw[zP hg] at e1;by_cases hg0:own g=some q
      .have e4:=a6 g hg0;have e5:=hff g;have e6:=hb g;rw[zP hg0] at e6;omega
      .have e5:=hff g;have e6:=hb g;rw[zM hg0] at e6;omega
     .rw[zM hg] at e1;omega
    .have e1:=a6 g hg;have e2:=b6 g e1.1;exact⟨e2.1,by simp only;rw[e1.2,e2.2,hff g]⟩
   .simp at h
  .simp at h
theorem X0 {w:World} {sh:Nat->Prop} {σ:Nat->Nat->Option St} {own:Nat->Option Nat} {M:List Ag} (m:Cp w sh σ own M) {T v s off n q:Nat} {cs:List AV} (hb:Ah M T v=some cs) (hle:off+n*s<=cs.length) (hq:M.length<=q) {x:Value} (hx:VR w sh σ (.tok T v s off n) x (λ_=>0)):
 ∃own1,Cp w sh σ own1 (M.set T .dead)/\(∀g,own1 g≠none->own g≠none)/\(∀g,own g=some q->own1 g=some q)/\
  ((n=0/\(∃a,x= .slice a 0 0))\/∃h b c cur e fpy,x= .slice (some ⟨h,b,none⟩) n c/\n<=c/\c<=maxLen/\w.heap[h]?=some (.cells cur e (0,0))/\b+c*s<=cur.size/\AI w sh σ ((cs.drop off).take (n*s)) ((cur.toList.drop b).take (n*s)) fpy/\
    (∀g,(if g=h then 1 else 0)+fpy g<=if own1 g=some q then 1 else 0)/\∀g,own g=some q->(if g=h then 1 else 0)+fpy g=0):=by
 obtain⟨hM,fp,hB,hf⟩:=Cv m hb;have hTl:T<M.length:=by
  rcases uY T M.length with h|h
  .exact h
  .simp[uR h] at hM
 let own1:Nat->Option Nat:=λg=>if own g=some T then some q else own g
 have hm1:Cp w sh σ own1 (M.set T .dead):=by
  refine m.step ⟨λ_ _=>rfl,λ_ h=>h,λ_ _ _ h=> .inl h⟩ hTl (λ_ _ _=>rfl) (λg T' hne hg _=>⟨?_,rfl⟩) ⟨λ_=>0,λ_=>rfl,λ_=>vn _⟩;have:own g≠some T:=by rw[hg];simpa using hne
  simp only[own1,this,if_false];exact hg
 refine⟨own1,hm1,λg hg=>?_,λg hg=>?_,?_⟩
 .simp only[own1] at hg;split at hg
  .rename_i e;rw[e];simp
  .exact hg
 .have:own g≠some T:=by rw[hg];simp;omega
  simp only[own1,this,if_false];exact hg
 .simp only[VR] at hx;obtain⟨_,_,st,hst,hnil,hloc⟩:=hx;simp only[BR] at hB;rcases hB.2 with⟨h1,h2,h3⟩ | ⟨h,b,cur,e,fp',h1,h2,h3,h4,h5⟩
  .rw[h1] at hst;simp at hst;subst hst;obtain⟨ha,_,rfl⟩:=hnil rfl;exact .inl ⟨rfl,ha⟩
  .rw[h1] at hst;simp at hst;subst hst;obtain⟨ad,c,rfl,had,hnc,hcm,hcz⟩:=hloc h b _ rfl;by_cases hc:c=0
   .left;subst hc;have:n=0:=zO;subst this;exact⟨rfl,_,rfl⟩
   .right;have:=had hc;subst this;obtain⟨f1,h6,h7⟩:=G2 off h4;obtain⟨f2,h8,h9⟩:=I0 (n*s) h6;refine⟨h,b+off,c,cur,e,f2,rfl,hnc,hcm,h2,hcz,?_,λg=>?_,λg hg=>?_⟩
    .have e1:(((cur.toList.drop b).take cs.length).drop off).take (n*s)=(cur.toList.drop (b+off)).take (n*s):=by
      rw[List.drop_take,List.take_take,wO zO,wr]
     rw[<-e1];exact h8
    .have e1:=hf g;have e2:=h5 g;have e3:=h7 g;have e4:=h9 g;by_cases e5:own g=some T
     .have e6:own1 g=some q:=by simp only[own1];rw[zP e5]
      rw[zP e6];rw[zP e5] at e1;omega
     .rw[zM e5] at e1;omega
    .have e1:=hf g;have e2:=h5 g;have e3:=h7 g;have e4:=h9 g;have:own g≠some T:=by rw[hg];simp;omega
     rw[zM this] at e1;omega
theorem X1 {w:World} {sh:Nat->Prop} {σ:Nat->Nat->Option St} {own:Nat->Option Nat} {M:List Ag} (m:Cp w sh σ own M) {T v off q:Nat} {cs:List AV} (hb:Ah M T v=some cs) (hle:off<=cs.length) (hq:M.length<=q) {x:Value} (hx:VR w sh σ (.ptr T v off) x (λ_=>0)):
 ∃own1,Cp w sh σ own1 (M.set T .dead)/\(∀g,own1 g≠none->own g≠none)/\(∀g,own g=some q->own1 g=some q)/\
  ∃h b cur e fpy,x= .pointer (some ⟨h,b,none⟩)/\w.heap[h]?=some (.cells cur e (0,0))/\b+(cs.drop off).length<=cur.size/\AI w sh σ (cs.drop off) ((cur.toList.drop b).take (cs.drop off).length) fpy/\
   (∀g,(if g=h then 1 else 0)+fpy g<=if own1 g=some q then 1 else 0)/\∀g,own g=some q->(if g=h then 1 else 0)+fpy g=0:=by
 obtain⟨hM,fp,hB,hf⟩:=Cv m hb;have hTl:T<M.length:=by
  rcases uY T M.length with h|h
  .exact h
  .simp[uR h] at hM
 let own1:Nat->Option Nat:=λg=>if own g=some T then some q else own g
 have hm1:Cp w sh σ own1 (M.set T .dead):=by
  refine m.step ⟨λ_ _=>rfl,λ_ h=>h,λ_ _ _ h=> .inl h⟩ hTl (λ_ _ _=>rfl) (λg T' hne hg _=>⟨?_,rfl⟩) ⟨λ_=>0,λ_=>rfl,λ_=>vn _⟩;have:own g≠some T:=by rw[hg];simpa using hne
  simp only[own1,this,if_false];exact hg
 refine⟨own1,hm1,λg hg=>?_,λg hg=>?_,?_⟩
 .simp only[own1] at hg;split at hg
  .rename_i e;rw[e];simp
  .exact hg
 .have:own g≠some T:=by rw[hg];simp;omega
  simp only[own1,this,if_false];exact hg
 .simp only[VR] at hx;obtain⟨_,_,st,hst,hnil,hloc⟩:=hx;simp only[BR] at hB;rcases hB.2 with⟨h1,h2,h3⟩ | ⟨h,b,cur,e,fp',h1,h2,h3,h4,h5⟩
  .rw[h1] at hst;simp at hst;exact absurd hst.symm hnil
  .rw[h1] at hst;simp at hst;subst hst;obtain⟨f1,h6,h7⟩:=G2 off h4;refine⟨h,b+off,cur,e,f1,hloc h b _ rfl,h2,Ao,?_,λg=>?_,λg hg=>?_⟩
   .have e1:((cur.toList.drop b).take cs.length).drop off=(cur.toList.drop (b+off)).take (cs.drop off).length:=by
     rw[List.drop_take,wr,List.length_drop]
    rw[<-e1];exact h6
   .have e1:=hf g;have e2:=h5 g;have e3:=h7 g;by_cases e5:own g=some T
    .have e6:own1 g=some q:=by simp only[own1];rw[zP e5]
     rw[zP e6];rw[zP e5] at e1;omega
    .rw[zM e5] at e1;omega
   .have e1:=hf g;have e2:=h5 g;have e3:=h7 g;have:own g≠some T:=by rw[hg];simp;omega
    rw[zM this] at e1;omega
theorem Ru {q:Nat} {M:List Ag} {ys:List AV} (htf:ys.all tf=true):Pz q M ys ys M:=λw sh σ own vs fp hv m hb _=>⟨own,fp,Ib σ0 htf hv,m,rfl,hb,λ_ h=>h,λ_ h=>⟨h,rfl⟩⟩
theorem Rv {q:Nat} {f:List Ag->List AV->Option (List AV×List Ag)} (hf:∀M ys zs M',f M ys=some (zs,M')->Pz q M ys zs M') {M:List Ag} {x x' :AV} {M' :List Ag} (h:Jz f M x=some (x',M')):LP q M x x' M' :=by
 unfold Jz at h;split at h
 .rename_i T v s off n;split at h
  .rename_i cs hcs;split at h
   .rename_i hle;split at h
    .rename_i zs M2 hz;simp at h;obtain⟨rfl,rfl⟩:=h;intro w sh σ own x fp hx m hb hq;have h0:fp=λ_=>0:=by simp only[VR] at hx;exact funext hx.1
     subst h0;have hlen:((cs.drop off).take (n*s)).length=n*s:=Ao;obtain⟨own1,m1,h1,h2,h3⟩:=X0 m hcs hle hq hx;rcases h3 with⟨rfl,a,rfl⟩ | ⟨hh,b,c,cur,e,fpy,rfl,e1,e2,e3,e4,e5,e6,e7⟩
     .obtain⟨own2,fpz,b1,b2,b3,b4,b5,b6⟩:=hf _ _ _ _ hz w sh σ own1 [] (λ_=>0) (by simp;exact⟨rfl,λ_=>rfl⟩) m1 (λ_=>vn _) (by simpa using hq);have hzl:zs=[]:=vr (by have:=Ca b1;simpa using this.symm);subst hzl;exact⟨own2,λ_=>0,.inl ⟨⟨a,rfl⟩,rfl,rfl,λ_=>rfl⟩,b2,by simpa using b3,λ_=>vn _,λg hg=>h1 g (b5 g hg),λg hg=>⟨(b6 g (h2 g hg)).1,rfl⟩⟩
     .obtain⟨own2,fpz,b1,b2,b3,b4,b5,b6⟩:=hf _ _ _ _ hz w sh σ own1 _ fpy e5 m1 (λg=>by have:=e6 g;omega) (by simpa using hq);have hzl:zs.length=n*s:=by
       have h4:=Ca b1;have h5:=Ca e5;omega
      refine⟨own2,λg=>(if g=hh then 1 else 0)+fpz g,.inr ⟨hh,b,c,cur,e,fpz,rfl,e1,e2,hzl,e3,e4,b1,λ_=>rfl⟩,b2,by simpa using b3,λg=>?_,λg hg=>h1 g (b5 g hg),λg hg=>?_⟩
      .have f1:=e6 g;have f2:=b4 g;show(if g=hh then 1 else 0)+fpz g<=_;by_cases hg:own1 g=some q
       .have f3:=b6 g hg;rw[zP f3.1];rw[zP hg] at f1;omega
       .rw[zM hg] at f1;omega
      .have f1:=h2 g hg;have f2:=b6 g f1;have f3:=e7 g hg;exact⟨f2.1,by show(if g=hh then 1 else 0)+fpz g=0;omega⟩
    .simp at h
   .simp at h
  .simp at h
 .rename_i T v off;split at h
  .rename_i cs hcs;split at h
   .rename_i hle;split at h
    .rename_i zs M2 hz;simp at h;obtain⟨rfl,rfl⟩:=h;intro w sh σ own x fp hx m hb hq;have h0:fp=λ_=>0:=by simp only[VR] at hx;exact funext hx.1
     subst h0;obtain⟨own1,m1,h1,h2,hh,b,cur,e,fpy,rfl,e3,e4,e5,e6,e7⟩:=X1 m hcs hle hq hx;obtain⟨own2,fpz,b1,b2,b3,b4,b5,b6⟩:=hf _ _ _ _ hz w sh σ own1 _ fpy e5 m1 (λg=>by have:=e6 g;omega) (by simpa using hq);have hzl:zs.length=(cs.drop off).length:=by
      have h4:=Ca b1;have h5:=Ca e5;omega
     refine⟨own2,λg=>(if g=hh then 1 else 0)+fpz g,⟨hh,b,cur,e,fpz,rfl,e3,by rw[hzl];exact e4,by rw[hzl];exact b1,λ_=>rfl⟩,b2,by simpa using b3,λg=>?_,λg hg=>h1 g (b5 g hg),λg hg=>?_⟩
     .have f1:=e6 g;have f2:=b4 g;show(if g=hh then 1 else 0)+fpz g<=_;by_cases hg:own1 g=some q
      .have f3:=b6 g hg;rw[zP f3.1];rw[zP hg] at f1;omega
      .rw[zM hg] at f1;omega
     .have f1:=h2 g hg;have f2:=b6 g f1;have f3:=e7 g hg;exact⟨f2.1,by show(if g=hh then 1 else 0)+fpz g=0;omega⟩
    .simp at h
   .simp at h
  .simp at h
 .split at h
  .rename_i htf;simp at h;obtain⟨rfl,rfl⟩:=h;intro w sh σ own v fp hx m hb hq;exact⟨own,fp,ZH σ0 htf hx,m,rfl,hb,λ_ h=>h,λ_ h=>⟨h,rfl⟩⟩
  .simp at h
theorem NS {q:Nat}:∀(d:Nat) (M:List Ag) (x x' :AV) (M' :List Ag),KN d M x=some (x',M')->LP q M x x' M'
 |0,M,x,x',M',h=>Rv (λM ys zs M' h=>by
  split at h
  .rename_i htf;simp at h;obtain⟨rfl,rfl⟩:=h;exact Ru htf
  .simp at h) h
 |d+1,M,x,x',M',h=>Rv (λM ys zs M' h=>by
   split at h
   .rename_i htf;simp at h;obtain⟨rfl,rfl⟩:=h;exact Ru htf
   .exact KO (NS d) _ _ _ _ h) h
theorem Rw {q d:Nat} {M:List Ag} {x x' :AV} {M' :List Ag} (h:MV d M x=some (x',M')):LP q M x x' M' :=by
 unfold MV at h;split at h
 .split at h
  .rename_i ys M2 hy;simp at h;obtain⟨rfl,rfl⟩:=h;intro w sh σ own v fp hx m hb hq;simp only[VR] at hx;obtain⟨cs,rfl,hv⟩:=hx;obtain⟨own',fp',h1,h2⟩:=KO (NS d) _ _ _ _ hy w sh σ own _ fp hv m hb hq;exact⟨own',fp',⟨cs,rfl,h1⟩,h2⟩
  .simp at h
 .exact NS d _ _ _ _ h
theorem X2 {q d:Nat} {M:List Ag} {x x' :AV} {M' :List Ag} (h:MW d M x=some (x',M')):LP q M x x' M' :=by
 unfold MW at h;split at h
 .split at h
  .rename_i ys M2 hy;simp at h;obtain⟨rfl,rfl⟩:=h;intro w sh σ own v fp hx m hb hq;simp only[VR] at hx;obtain⟨cs,rfl,hv⟩:=hx;obtain⟨own',fp',h1,h2⟩:=KO (λM x x' M' h=>Rw h) _ _ _ _ hy w sh σ own _ fp hv m hb hq;exact⟨own',fp',⟨cs,rfl,h1⟩,h2⟩
  .simp at h
 .exact Rw h
def KP (P:Program) (f:Nat):Prop:=∃fn,P.funcs[f]?=some fn/\(fn.name== "runtime.NumGoroutine")=false/\fn.body.isNone=false
def Ac (P:Program) (f:Nat) (args:List AV) (M:List Ag) (Q:AV->List Ag->Prop):Prop:=
 KP P f/\∀(w:World) (sh:Nat->Prop) (σ:Nat->Nat->Option St) (own:Nat->Option Nat) (vals:Array Value),AI w sh σ args vals.toList (λ_=>0)->Cp w sh σ own M->(∀g,sh g->own g=none/\g<w.heap.size)->
  Calls P f vals w λe w' =>∃r v M' σ' own' fpr,e= .returned v/\Q r M' /\M'.length=M.length/\VR w' sh σ0 r v fpr/\(∀g,fpr g<=if own' g=some M.length then 1 else 0)/\Cp w' sh σ' own' M' /\(∀g,sh g->own' g=none)/\GJ w w' own own' /\Ci w w' sh sh σ σ'
theorem Ac.mono {P:Program} {f:Nat} {args:List AV} {M:List Ag} {Q Q' :AV->List Ag->Prop} (h:Ac P f args M Q) (hq:∀r M,Q r M->Q' r M):Ac P f args M Q' :=
 ⟨h.1,λw sh σ own vals hv m hs=>(h.2 w sh σ own vals hv m hs).mono λe w' ⟨r,v,M',σ',own',fpr,he,q,rest⟩=>⟨r,v,M',σ',own',fpr,he,hq _ _ q,rest⟩⟩
def MX (T:Nat->Option TI) (M:List Ag) (F:Fr):ResultVar->Option AV
 | .tmp t=>some (F t)
 | .cell a t=>match F a with
   | .ptr B v off=>Nr T M t (.ptr B v off)
   | .rptr xs=>Nr T M t (.rptr xs)
   |_=>none
def JA (T:Nat->Option TI) (M:List Ag) (F:Fr):List ResultVar->Option (List AV)
 | []=>some []
 |x::xs=>match MX T M F x,JA T M F xs with
  |some y,some ys=>some (y::ys)
  |_,_=>none
def PA (T:Nat->Option TI) (M:List Ag) (F:Fr) (rs:List ResultVar):Option AV:=
 match JA T M F rs with
 |some [x]=>some x
 |some xs=>some (.tup xs)
 |none=>none
def KQ (n:Nat):ResultVar->Bool
 | .tmp t=>decide (t<n)
 | .cell a _=>decide (a<n)
def Ot:Ag->Bool
 | .live _ cs=>cs.all tf
 |_=>true
def Rx (T:Nat->Option TI) (rs:List ResultVar) (p:Nat) (Q:AV->List Ag->Prop) (F:Fr) (M:List Ag):Prop:=
 ∃r0 d r M',PA T M F rs=some r0/\MW d M r0=some (r,M')/\p<=M.length/\(M'.take p).all Ot=true/\Q r (M'.take p)
def Fo (T:Nat->Option TI) (rs:List ResultVar) (p:Nat) (Q:AV->List Ag->Prop):Cj:=λe F M=>match e with
 | .normal=>Rx T rs p Q F M
 | .ret=>Rx T rs p Q F M
 |_=>False
def Kk (tmps:Array Value):ResultVar->Sem Value
 | .tmp t=>pure (tmps.getD t undef)
 | .cell q t=>do loadVar t (<-asAddr (tmps.getD q undef))
theorem Ou (fn:Func) (tmps:Array Value):results fn tmps=(do let vs<-fn.results.mapM (Kk tmps);pure (if h:vs.size=1 then vs[0] else .tuple vs)):=by
 unfold results;congr 2
section
variable {C:BF} {w:World} {σ:Nat->Nat->Option St} {own:Nat->Option Nat} {M:List Ag} {F:Fr} {a:Act} {T:Nat->Option TI}
theorem X3 (tk:BQ C.P T) (R:AS C F M a w σ own) {x:ResultVar} (hb:KQ C.n x=true) {r:AV} (h:MX T M F x=some r):
 ∃u,(Kk a.tmps x).run C.P w= .ok u w/\VR w C.sh σ r u (λ_=>0):=by
 cases x with
 |tmp t=>
  simp[MX] at h;subst h;exact⟨_,rfl,R.tmp t (by simpa[KQ] using hb)⟩
 |cell q t=>
  have hq:=R.tmp q (by simpa[KQ] using hb);simp only[MX] at h;split at h
  .rename_i B v off e;rw[e] at hq;obtain⟨u,hu,hr⟩:=Ri tk R hq h;simp only[VR] at hq;obtain⟨_,⟨ad,e2⟩,_⟩:=hq;refine⟨u,?_,hr⟩;rw[e2] at hu;simp only[Instr.loadAt,Instr.sureAddr,Sem.run_bind,Sem.run_pure,Result.andThen_ok] at hu;simp only[Kk,e2,asAddr,Sem.run_bind,Sem.run_pure,Result.andThen_ok];exact hu
  .rename_i xs e;rw[e] at hq;obtain⟨u,hu,hr⟩:=Ri tk R hq h;simp only[VR] at hq;obtain⟨_,ad,vs,e2,_⟩:=hq;refine⟨u,?_,hr⟩;rw[e2] at hu;simp only[Instr.loadAt,Instr.sureAddr,Sem.run_bind,Sem.run_pure,Result.andThen_ok] at hu;simp only[Kk,e2,asAddr,Sem.run_bind,Sem.run_pure,Result.andThen_ok];exact hu
  .simp at h
theorem Ry (tk:BQ C.P T) (R:AS C F M a w σ own):∀(rs:List ResultVar) (xs:List AV),rs.all (KQ C.n)=true->JA T M F rs=some xs->
 ∃us:List Value,(rs.mapM (Kk a.tmps)).run C.P w= .ok us w/\AI w C.sh σ xs us (λ_=>0)
 | [],xs,_,h=>by simp[JA] at h;subst h;exact⟨[],zS,rfl,λ_=>rfl⟩
 |x::rs,xs,hb,h=>by
  simp only[xu,uU] at hb;simp only[JA] at h;split at h
  .rename_i y ys hy hys;simp at h;subst h;obtain⟨u,hu,hr⟩:=X3 tk R hb.1 hy;obtain⟨us,hus,hrs⟩:=Ry tk R rs ys hb.2 hys;refine⟨u::us,?_,u,us,_,_,rfl,hr,hrs,λ_=>rfl⟩;simp only[List.mapM_cons,Sem.run_bind];rw[hu];simp only[Result.andThen_ok];rw[hus];simp
  .simp at h
theorem Z2 (tk:BQ C.P T) (R:AS C F M a w σ own) {fn:Func} (hb:fn.results.toList.all (KQ C.n)=true) {r:AV} (h:PA T M F fn.results.toList=some r):∃u,(results fn a.tmps).run C.P w= .ok u w/\VR w C.sh σ r u (λ_=>0):=by
 have key:∀xs,JA T M F fn.results.toList=some xs->∃us:List Value,(fn.results.mapM (Kk a.tmps)).run C.P w= .ok us.toArray w/\AI w C.sh σ xs us (λ_=>0):=by
  intro xs hx;obtain⟨us,hu,hr⟩:=Ry tk R _ xs hb hx;refine⟨us,?_,hr⟩;generalize fn.results=rs at*;cases rs with
  |mk l=>
   rw[List.mapM_toArray];simp only[Sem.run_map];rw[hu];rfl
 unfold PA at h;split at h
 .rename_i x hx;simp at h;subst h;obtain⟨us,hu,hr⟩:=key _ hx;simp only[AI] at hr;obtain⟨v,rest,f1,f2,rfl,h1,h2,hf⟩:=hr;obtain⟨rfl,_⟩:=h2;have e1:f1=λ_=>0:=Gc λg=>by have:=hf g;simp only at this |-;omega
  subst e1;refine⟨v,?_,h1⟩;rw[Ou,Sem.run_bind,hu];simp
 .rename_i xs hne hx;simp at h;subst h;obtain⟨us,hu,hr⟩:=key _ hx;refine⟨.tuple us.toArray,?_,us.toArray,rfl,hr⟩;have hl:=Ca hr;rw[Ou,Sem.run_bind,hu];simp only[Result.andThen_ok,Sem.run_pure];have:¬us.toArray.size=1:=by
   intro e;simp at e;rw[hl] at e;cases xs with
   |nil=>simp at e
   |cons x xs=>cases xs with
    |nil=>exact hne x rfl
    |cons y ys=>simp at e
  rw[dif_neg this]
 .simp at h
end
def Ey (args:List AV):Fr:=λt=>args.getD t .any
theorem tA {P:Program} {T:Nat->Option TI} {f:Nat} {fn:Func} {c:Code} {args:List AV} {M:List Ag} {Q:AV->List Ag->Prop} (tk:BQ P T) (hf:P.funcs[f]?=some fn) (hb:fn.body=some c) (hname:(fn.name== "runtime.NumGoroutine")=false)
 (hl:args.length<=fn.ntmps) (hr:fn.results.toList.all (KQ fn.ntmps)=true) (h:∀C:BF,C.P=P->C.p=M.length->C.n=fn.ntmps->C.rd=none->C.df=[]->AW C c (Ey args) M (Fo T fn.results.toList M.length Q)):Ac P f args M Q:=by
 refine⟨⟨fn,hf,hname,by rw[hb];rfl⟩,λw sh σ own vals hv m hs=>?_⟩;let C:BF:=⟨P,fn.ntmps,sh,w,own,σ,M.length,none,[]⟩;refine(callsIn_wide (n:=0)).1 (callsIn_of_wp_marks hf hb trivial ?_);have hlen:=Ca hv;have hsz:vals.size=args.length:=by simpa using hlen
 have R:AS C (Ey args) M {tmps:=vals++xn (fn.ntmps-vals.size) undef,defers:=[]} w σ own:=by
  refine⟨by simp[C];omega,rfl,λt ht=>?_,m,hs,GJ.refl w own,λT' v st h=>⟨?_,.inl h⟩⟩;rotate_left
  .rcases uY T' M.length with h2|h2
   .exact h2
   .have h:σ T' v=some st:=h;rw[m.key T' v h2] at h;simp at h
  simp only[Ey];by_cases h1:t<args.length
  .obtain⟨v,f,hv1,hv2,hle⟩:=G6 hv (i:=t) (x:=args[t]) (by simp[h1]);rw[Gc hle] at hv2;have e1:args.getD t .any=args[t]:=by simp[List.getD,h1]
   have e2:(vals++xn (fn.ntmps-vals.size) undef).getD t undef=v:=by
    have hts:t<vals.size:=zO;rw[vp,Array.getElem?_eq_getElem hts] at hv1;have hts2:t<(vals++xn (fn.ntmps-vals.size) undef).size:=Ao;have h3:(vals++xn (fn.ntmps-vals.size) undef)[t]'hts2=vals[t]'hts:=Array.getElem_append_left hts;simp only[vD,hts2,dif_pos];exact h3.trans (by simpa using hv1)
   rw[e1,e2];exact hv2
  .have e1:args.getD t .any= .any:=by simp[List.getD,uR (by omega:args.length<=t)]
   rw[e1];intro g;rfl
 refine wpIn_mono (h C rfl rfl rfl rfl rfl _ w ⟨σ,own,R⟩) ?_;intro e a' w' hq;have fin:∀(F:Fr) (M1:List Ag) (a' :Act) (w' :World),Cu C F M1 a' w' ->Rx T fn.results.toList M.length Q F M1->a'.defers=[]/\∃v,(results fn a'.tmps).run P w' = .ok v w' /\∃r v' M' σ' own' fpr,Ending.returned v= .returned v' /\Q r M' /\M'.length=M.length/\VR w' sh σ0 r v' fpr/\(∀g,fpr g<=if own' g=some M.length then 1 else 0)/\Cp w' sh σ' own' M' /\(∀g,sh g->own' g=none)/\GJ w w' own own' /\Ci w w' sh sh σ σ' :=by
  rintro F M1 a' w' ⟨σ1,own1,R1⟩;rintro⟨r0,d,r,M',h1,h2,h3,h4,h5⟩;obtain⟨v,hv1,hv2⟩:=Z2 (C:=C) tk R1 hr h1;obtain⟨own2,fpr,p1,p2,p3,p4,p5,p6⟩:=X2 (q:=M1.length) h2 w' sh σ1 own1 v _ hv2 R1.mem (λ_=>vn _) (vg _);let σ' :Nat->Nat->Option St:=λT' u=>if T' <M.length then σ1 T' u else none
  let own' :Nat->Option Nat:=λg=>match own2 g with|some T' =>if T' <M.length then some T' else if T' =M1.length then some M.length else none|none=>none
  refine⟨R1.dfr,v,hv1,r,v,M'.take M.length,σ',own',fpr,rfl,h5,Ao,p1,λg=>?_,?_,?_,?_,?_⟩
  .have:=p4 g;split at this
   .rename_i e2;have:own' g=some M.length:=by simp only[own',e2];rw[zM zO];simp
    rw[zP this];assumption
   .omega
  .refine⟨λT' B hB=>?_,λT' u hT=>?_⟩
   .have hlt:T' <M.length:=by
     rcases uY T' M.length with h|h
     .exact h
     .rw[uR Ao] at hB;simp at hB
    have htf:=u1.1 h4 B (vo hB);rw[vT,zP hlt] at hB;obtain⟨fp,b1,b2⟩:=p2.blk T' B hB;have hk:∀u,σ' T' u=σ1 T' u:=λu=>by simp only[σ',hlt,if_true]
    refine⟨fp,?_,λg=>?_⟩
    .cases B with
     |free=>exact⟨λu=>by rw[hk];exact b1.1 u,b1.2⟩
     |dead=>exact b1
     |live u cs=>
      obtain⟨c0,b1⟩:=b1;refine⟨λu' hu=>by rw[hk];exact c0 u' hu,?_⟩;rcases b1 with⟨c1,c2,c3⟩ | ⟨hh,b,cur,e',fp',c1,c2,c3,c4,c5⟩
      .exact .inl ⟨by rw[hk];exact c1,c2,c3⟩
      .exact .inr ⟨hh,b,cur,e',fp',by rw[hk];exact c1,c2,c3,Ib σ' htf c4,c5⟩
    .have:=b2 g;split at this
     .rename_i e2;have:own' g=some T' :=by simp only[own',e2];rw[zP hlt]
      rw[zP this];assumption
     .omega
   .have:¬T' <M.length:=by simp at hT;omega
    simp only[σ',this,if_false]
  .intro g hg;have h6:=(R1.shr g hg).1;have:own2 g=none:=by
    cases e2:own2 g with
    |none=>rfl
    |some T' =>exact absurd h6 (p5 g (by rw[e2];simp))
   simp only[own',this]
  .refine⟨R1.ext.os,R1.ext.tape,R1.ext.output,R1.ext.size,R1.ext.block,λg hg=>?_⟩;refine R1.ext.own g (p5 g ?_);intro e2;simp only[own',e2] at hg;exact hg rfl
  .refine⟨λg hg=>R1.ext.block g (hs g hg).2 (hs g hg).1,λ_ h=>h,λT' u st hk=>?_⟩;have hlt:T' <M.length:=by
    rcases uY T' M.length with h|h
    .exact h
    .rw[m.key T' u h] at hk;simp at hk
   simp only[σ',hlt,if_true];exact(R1.key0 T' u st hk).2
 rcases hq with⟨F,M1,q,r⟩ | ⟨rfl,D,F,M1,w1,q,r,hd,ht,_⟩
 .cases e
  .obtain⟨h1,h2⟩:=fin F M1 a' w' r q;simp only[bodyPostM,h1,LeavesInM,LeavesIn];exact h2
  .exact q.elim
  .exact q.elim
  .obtain⟨h1,h2⟩:=fin F M1 a' w' r q;simp only[bodyPostM,h1,LeavesInM,LeavesIn];exact h2
  .exact q.elim
  .exact q.elim
 .obtain⟨h1,h2⟩:=fin F M1 _ w1 r q;simp only[bodyPostM,hd,LH,LeavesInM];refine⟨zS,.inl ⟨D,w1,rfl,ht,?_⟩⟩;simp only[LeavesIn];exact h2
theorem uj {P:Program} {T:Nat->Option TI} {f:Nat} {fn:Func} {c:Code} {args:List AV} {M:List Ag} {Q:AV->List Ag->Prop} (tk:BQ P T) (hf:P.funcs[f]?=some fn) (hb:fn.body=some c) (hname:(fn.name== "runtime.NumGoroutine")=false)
 (hc:CL fn.ntmps c=true) (hl:args.length<=fn.ntmps) (hr:fn.results.toList.all (KQ fn.ntmps)=true) (h:W P T M.length c (Ey args) M (Fo T fn.results.toList M.length Q)):Ac P f args M Q:=
 tA tk hf hb hname hl hr λC hC hp hn _ _=>h tk C hC (Nat.le_of_eq hp) (by rw[hn];exact hc)
mutual
def Gd:AV->AV
 | .own _ n xs=> .ro n (JB xs)
 | .optr xs=> .rptr (JB xs)
 | .tok .. => .any
 | .ptr .. => .any
 | .agg _=> .any
 | .tup _=> .any
 | .fn f cs=>if cs.isEmpty then .fn f [] else .any
 |x=>x
def JB:List AV->List AV
 | []=> []
 |x::xs=>Gd x::JB xs
end
theorem MY:∀xs,JB xs=xs.map Gd
 | []=>rfl
 |x::xs=>by simp[JB,MY xs]
def CV (M:List Ag):Nat->AV->AV
 |d+1,.tok T v s off n=>match Ah M T v with
  |some cs=>if off+n*s<=cs.length then .ro n (((cs.drop off).take (n*s)).map (CV M d)) else .any
  |none=> .any
 |d+1,.ptr T v off=>match Ah M T v with
  |some cs=> .rptr ((cs.drop off).map (CV M d))
  |none=> .any
 |_,x=>Gd x
def vw (M:List Ag):AV->AV
 | .agg xs=> .agg (xs.map (CV M 3))
 | .fn f cs=> .fn f (cs.map (CV M 3))
 | .tup _=> .any
 |x=>CV M 3 x
def P2:AV->AV
 | .agg xs=> .agg (xs.map Gd)
 | .fn f cs=> .fn f (cs.map Gd)
 | .tup _=> .any
 |x=>Gd x
mutual
theorem Kl {w:World} {sh shB:Nat->Prop} {σ:Nat->Nat->Option St} (hs:∀g,sh g->shB g):∀(x:AV) (v:Value) (fp:Nat->Nat),VR w sh σ x v fp->(∀g,fp g≠0->shB g)->VR w shB σ0 (Gd x) v (λ_=>0)
 | .any,_,_,_,_=>λ_=>rfl
 | .tok ..,_,_,_,_=>λ_=>rfl
 | .ptr ..,_,_,_,_=>λ_=>rfl
 | .agg _,_,_,_,_=>λ_=>rfl
 | .tup _,_,_,_,_=>λ_=>rfl
 | .bool _,_,_,h,_=>⟨h.1,λ_=>rfl⟩
 | .int _ _,_,_,h,_=>⟨h.1,λ_=>rfl⟩
 | .str _,_,_,h,_=>⟨h.1,λ_=>rfl⟩
 | .nilp,_,_,h,_=>⟨h.1,λ_=>rfl⟩
 | .fn f cs,v,fp,h,_=>by
   simp only[Gd];split
   .rename_i he;have:cs=[]:=by simpa using he
    subst this;simp only[VR] at h;obtain⟨_,vs,e,hv⟩:=h;exact⟨λ_=>rfl,vs,e,hv.1,λ_=>rfl⟩
   .exact λ_=>rfl
 | .ro n xs,v,fp,h,_=>by
   simp only[VR] at h;obtain⟨_,h⟩:=h;simp only[Gd,VR];refine⟨λ_=>trivial,?_⟩;obtain⟨a,c,e,hn,ha,h⟩:=h;refine⟨a,c,e,hn,ha,?_⟩;rcases h with h| ⟨ad,vs,h1,h2,h3,h4⟩
   .exact .inl h
   .exact .inr ⟨ad,vs,h1,hs _ h2,h3,AI.later ⟨λ_ _=>rfl,hs,λ_ _ _ h=>by simp[σ0] at h⟩ _ _ _ (λ_ _=>rfl) h4⟩
 | .rptr xs,v,fp,h,_=>by
   simp only[VR] at h;obtain⟨_,ad,vs,e,h⟩:=h;simp only[Gd,VR];refine⟨λ_=>trivial,ad,vs,e,?_⟩;rcases h with h| ⟨h2,h3,h4⟩
   .exact .inl h
   .exact .inr ⟨hs _ h2,h3,AI.later ⟨λ_ _=>rfl,hs,λ_ _ _ h=>by simp[σ0] at h⟩ _ _ _ (λ_ _=>rfl) h4⟩
 | .own s n xs,v,fp,h,hf=>by
   simp only[VR] at h;simp only[Gd,VR];refine⟨λ_=>trivial,?_⟩;rcases h with⟨⟨a,e⟩,rfl,rfl,_⟩ | ⟨hh,b,c,cur,e',fp',e,hn,hc,hl,hheap,hsz,hv,hfp⟩
   .exact⟨a,0,e,vg _,λ_=>rfl,.inl rfl⟩
   .refine⟨_,c,e,hn,(λh=>by simp at h),.inr ⟨⟨hh,b,none⟩,_,rfl,hf hh (by have:=hfp hh;simp at this;omega),?_,Rz hs xs _ fp' hv (λg hg=>hf g (by have:=hfp g;omega))⟩⟩;intro i u hu;rw[BW,DW hheap];rw[vT] at hu;split at hu
    .rw[vG] at hu;rw[<-vp];exact hu
    .simp at hu
 | .optr xs,v,fp,h,hf=>by
   simp only[VR] at h;simp only[Gd,VR];obtain⟨hh,b,cur,e',fp',e,hheap,hsz,hv,hfp⟩:=h;refine⟨λ_=>trivial,⟨hh,b,none⟩,_,e,.inr ⟨hf hh (by have:=hfp hh;simp at this;omega),?_,Rz hs xs _ fp' hv (λg hg=>hf g (by have:=hfp g;omega))⟩⟩;intro i u hu;rw[BW,DW hheap];rw[vT] at hu;split at hu
   .rw[vG] at hu;rw[<-vp];exact hu
   .simp at hu
theorem Rz {w:World} {sh shB:Nat->Prop} {σ:Nat->Nat->Option St} (hs:∀g,sh g->shB g):∀(xs:List AV) (vs:List Value) (fp:Nat->Nat),AI w sh σ xs vs fp->(∀g,fp g≠0->shB g)->AI w shB σ0 (JB xs) vs (λ_=>0)
 | [],_,_,h,_=>⟨h.1,λ_=>rfl⟩
 |x::xs,vs,fp,h,hf=>by
  simp only[AI] at h;obtain⟨v,rest,f1,f2,e,h1,h2,hff⟩:=h;exact⟨v,rest,_,_,e,Kl hs x v f1 h1 (λg hg=>hf g (by have:=hff g;omega)),Rz hs xs rest f2 h2 (λg hg=>hf g (by have:=hff g;omega)),λ_=>rfl⟩
end
theorem F6 {w:World} {sh shB:Nat->Prop} {σ τ:Nat->Nat->Option St} {f:AV->AV} {p:(Nat->Nat)->Prop} (hp:∀a b c:Nat->Nat,p c->(∀g,c g=a g+b g)->p a/\p b) (hf:∀x v fp,VR w sh σ x v fp->p fp->VR w shB τ (f x) v (λ_=>0)):
 ∀(xs:List AV) (vs:List Value) (fp:Nat->Nat),AI w sh σ xs vs fp->p fp->AI w shB τ (xs.map f) vs (λ_=>0)
 | [],_,_,h,_=>⟨h.1,λ_=>rfl⟩
 |x::xs,vs,fp,h,hq=>by
  simp only[AI] at h;obtain⟨v,rest,f1,f2,e,h1,h2,hff⟩:=h;obtain⟨p1,p2⟩:=hp f1 f2 fp hq hff;exact⟨v,rest,_,_,e,hf x v f1 h1 p1,F6 hp hf xs rest f2 h2 p2,λ_=>rfl⟩
section
variable {w:World} {sh shB:Nat->Prop} {σ:Nat->Nat->Option St} {own:Nat->Option Nat} {M:List Ag}
theorem Ov (m:Cp w sh σ own M) (hs:∀g,sh g->shB g) (ho:∀g,own g≠none->g<w.heap.size->shB g):∀(d:Nat) (x:AV) (v:Value) (fp:Nat->Nat),VR w sh σ x v fp->(∀g,fp g≠0->shB g)->VR w shB σ0 (CV M d x) v (λ_=>0)
 |0,x,v,fp,h,hf=>by simp only[CV];exact Kl hs x v fp h hf
 |d+1,x,v,fp,h,hf=>by
  have hmap:=F6 (w:=w) (sh:=sh) (shB:=shB) (σ:=σ) (τ:=σ0) (f:=CV M d) (p:=λfp=>∀g,fp g≠0->shB g) (λa b c hc e=>⟨λg hg=>hc g (by have:=e g;omega),λg hg=>hc g (by have:=e g;omega)⟩) (λx v fp h hf=>Ov m hs ho d x v fp h hf);unfold CV;split
  .rename_i d' T u s off n he;obtain rfl:d=d' :=zO;clear he;split
   .rename_i cs hcs;split
    .rename_i hle;simp only[VR];refine⟨λ_=>trivial,?_⟩;by_cases hn:n=0
     .subst hn;simp only[VR] at h;obtain⟨_,⟨a,c,e⟩,_⟩:=h;exact⟨a,c,e,vn _,λ_=>rfl,.inl zS⟩
     .have h0:fp=λ_=>0:=by simp only[VR] at h;exact funext h.1
      subst h0;obtain⟨hh,b,cur,e,c,rfl,hnc,hcm,hcz,hst,how,hheap,hbl,_⟩:=G7 m hcs h zO;obtain⟨hM,fpT,hB,hfT⟩:=Cv m hcs;simp only[BR] at hB;rcases hB.2 with⟨h1,_⟩ | ⟨h',b',c',e',fp',h1,h2,h3,h4,h5⟩
      .rw[hst] at h1;simp at h1
      .have hloc:h' =hh/\b' =b:=by rw[hst] at h1;simp at h1;exact⟨h1.1.symm,h1.2.1.symm⟩
       obtain⟨rfl,rfl⟩:=hloc;rw[hheap] at h2;simp at h2;obtain⟨rfl,rfl⟩:=h2;obtain⟨f1,h6,h6'⟩:=G2 off h4;obtain⟨f2,h7,h7'⟩:=I0 (n*s) h6;have hf2:∀g,f2 g≠0->shB g:=λg hg=>by
        have e1:=h6' g;have e2:=h7' g;have e3:=h5 g;have e4:=hfT g;have hlt:=Gj _ _ _ h7 g hg;refine ho g ?_ hlt;split at e4
        .rename_i e5;rw[e5];simp
        .omega
       refine⟨_,c,rfl,hnc,(λh=>by simp at h),.inr ⟨_,_,rfl,ho h' (by rw[how];simp) (vu.1 hheap).1,?_,hmap _ _ _ h7 hf2⟩⟩;intro i u' hu;rw[BW,DW hheap];rw[vT] at hu;split at hu
       .rw[vG,vT] at hu;split at hu
        .rw[vG] at hu;rw[<-vp];rw[show b' +off+i=b' +(off+i) by omega];exact hu
        .simp at hu
       .simp at hu
    .exact λ_=>rfl
   .exact λ_=>rfl
  .rename_i d' T u off he;obtain rfl:d=d' :=zO;clear he;split
   .rename_i cs hcs;have h0:fp=λ_=>0:=by simp only[VR] at h;exact funext h.1
    subst h0;obtain⟨hh,b,cur,e,rfl,hst,how,hheap,hbl,_⟩:=Gh m hcs h;obtain⟨hM,fpT,hB,hfT⟩:=Cv m hcs;simp only[BR] at hB;rcases hB.2 with⟨h1,_⟩ | ⟨h',b',c',e',fp',h1,h2,h3,h4,h5⟩
    .rw[hst] at h1;simp at h1
    .have hloc:h' =hh/\b' =b:=by rw[hst] at h1;simp at h1;exact⟨h1.1.symm,h1.2.1.symm⟩
     obtain⟨rfl,rfl⟩:=hloc;rw[hheap] at h2;simp at h2;obtain⟨rfl,rfl⟩:=h2;obtain⟨f1,h6,h6'⟩:=G2 off h4;have hf1:∀g,f1 g≠0->shB g:=λg hg=>by
      have e1:=h6' g;have e3:=h5 g;have e4:=hfT g;have hlt:=Gj _ _ _ h6 g hg;refine ho g ?_ hlt;split at e4
      .rename_i e5;rw[e5];simp
      .omega
     refine⟨λ_=>rfl,_,_,rfl,.inr ⟨ho h' (by rw[how];simp) (vu.1 hheap).1,?_,hmap _ _ _ h6 hf1⟩⟩;intro i u' hu;rw[BW,DW hheap];rw[vG,vT] at hu;split at hu
     .rw[vG] at hu;rw[<-vp];rw[show b' +off+i=b' +(off+i) by omega];exact hu
     .simp at hu
   .exact λ_=>rfl
  .exact Kl hs _ v fp h hf
theorem UU (m:Cp w sh σ own M) (hs:∀g,sh g->shB g) (ho:∀g,own g≠none->g<w.heap.size->shB g) {x:AV} {v:Value} (h:VR w sh σ x v (λ_=>0)):VR w shB σ0 (vw M x) v (λ_=>0):=by
 have hmap:=F6 (w:=w) (sh:=sh) (shB:=shB) (σ:=σ) (τ:=σ0) (f:=CV M 3) (p:=λfp=>∀g,fp g≠0->shB g) (λa b c hc e=>⟨λg hg=>hc g (by have:=e g;omega),λg hg=>hc g (by have:=e g;omega)⟩) (λx v fp h hf=>Ov m hs ho 3 x v fp h hf);unfold vw;split
 .simp only[VR] at h |-;obtain⟨cs,e,hv⟩:=h;exact⟨cs,e,hmap _ _ _ hv (λg hg=>absurd rfl hg)⟩
 .simp only[VR] at h |-;obtain⟨h0,cs,e,hv⟩:=h;exact⟨λ_=>trivial,cs,e,hmap _ _ _ hv (λg hg=>absurd rfl hg)⟩
 .exact λ_=>rfl
 .exact Ov m hs ho 3 x v _ h (λg hg=>absurd rfl hg)
theorem dE {x:AV} {v:Value} (h:VR w sh σ x v (λ_=>0)):VR w sh σ0 (P2 x) v (λ_=>0):=by
 have hmap:=F6 (w:=w) (sh:=sh) (shB:=sh) (σ:=σ) (τ:=σ0) (f:=Gd) (p:=λfp=>∀g,fp g≠0->sh g) (λa b c hc e=>⟨λg hg=>hc g (by have:=e g;omega),λg hg=>hc g (by have:=e g;omega)⟩) (λx v fp h hf=>Kl (λ_ h=>h) x v fp h hf);unfold P2;split
 .simp only[VR] at h |-;obtain⟨cs,e,hv⟩:=h;exact⟨cs,e,hmap _ _ _ hv (λg hg=>absurd rfl hg)⟩
 .simp only[VR] at h |-;obtain⟨h0,cs,e,hv⟩:=h;exact⟨λ_=>trivial,cs,e,hmap _ _ _ hv (λg hg=>absurd rfl hg)⟩
 .exact λ_=>rfl
 .exact Kl (λ_ h=>h) x v _ h (λg hg=>absurd rfl hg)
end
mutual
def EP:AV->Bool
 | .ro _ xs=>xs.isEmpty
 | .rptr xs=>xs.isEmpty
 | .own _ _ xs=>C6 xs
 | .optr xs=>C6 xs
 | .agg xs=>C6 xs
 | .tup xs=>C6 xs
 | .fn _ cs=>C6 cs
 |_=>true
def C6:List AV->Bool
 | []=>true
 |x::xs=>EP x&&C6 xs
end
theorem NT:∀xs,C6 xs=xs.all EP
 | []=>rfl
 |x::xs=>by simp[C6,NT xs]
mutual
theorem LQ {w:World} {sh sh' :Nat->Prop} {σ:Nat->Nat->Option St}:∀(x:AV) (v:Value) (fp:Nat->Nat),EP x=true->VR w sh σ x v fp->VR w sh' σ x v fp
 | .any,_,_,_,h=>h
 | .bool _,_,_,_,h=>h
 | .int _ _,_,_,_,h=>h
 | .str _,_,_,_,h=>h
 | .nilp,_,_,_,h=>h
 | .tok ..,_,_,_,h=>h
 | .ptr ..,_,_,_,h=>h
 | .ro n xs,v,fp,hr,h=>by
   have:xs=[]:=by simpa[EP] using hr
   subst this;simp only[VR] at h |-;obtain⟨h0,a,c,e,h1,h2,_⟩:=h;exact⟨h0,a,c,e,h1,h2,zS⟩
 | .rptr xs,v,fp,hr,h=>by
   have:xs=[]:=by simpa[EP] using hr
   subst this;simp only[VR] at h |-;obtain⟨h0,ad,vs,e,_⟩:=h;exact⟨h0,ad,vs,e,zS⟩
 | .own s n xs,v,fp,hr,h=>by
   simp only[EP] at hr;simp only[VR] at h |-;rcases h with h| ⟨hh,b,c,cur,e',fp',e,hn,hc,hl,hheap,hsz,hv,hfp⟩
   .exact .inl h
   .exact .inr ⟨hh,b,c,cur,e',fp',e,hn,hc,hl,hheap,hsz,G9 xs _ _ hr hv,hfp⟩
 | .optr xs,v,fp,hr,h=>by
   simp only[EP] at hr;simp only[VR] at h |-;obtain⟨hh,b,cur,e',fp',e,hheap,hsz,hv,hfp⟩:=h;exact⟨hh,b,cur,e',fp',e,hheap,hsz,G9 xs _ _ hr hv,hfp⟩
 | .agg xs,v,fp,hr,h=>by
   simp only[EP] at hr;simp only[VR] at h |-;obtain⟨cs,e,hv⟩:=h;exact⟨cs,e,G9 xs _ _ hr hv⟩
 | .tup xs,v,fp,hr,h=>by
   simp only[EP] at hr;simp only[VR] at h |-;obtain⟨cs,e,hv⟩:=h;exact⟨cs,e,G9 xs _ _ hr hv⟩
 | .fn f xs,v,fp,hr,h=>by
   simp only[EP] at hr;simp only[VR] at h |-;obtain⟨h0,cs,e,hv⟩:=h;exact⟨h0,cs,e,G9 xs _ _ hr hv⟩
theorem G9 {w:World} {sh sh' :Nat->Prop} {σ:Nat->Nat->Option St}:∀(xs:List AV) (vs:List Value) (fp:Nat->Nat),C6 xs=true->AI w sh σ xs vs fp->AI w sh' σ xs vs fp
 | [],_,_,_,h=>h
 |x::xs,vs,fp,hr,h=>by
  simp only[C6,uU] at hr;simp only[AI] at h |-;obtain⟨v,rest,f1,f2,e,h1,h2,hf⟩:=h;exact⟨v,rest,f1,f2,e,LQ x v f1 hr.1 h1,G9 xs rest f2 hr.2 h2,hf⟩
end
def Lz (L:Nat):AV->AV×List Ag
 | .own s n xs=>(.tok L 0 s 0 n,[.live 0 xs])
 | .optr xs=>(.ptr L 0 0,[.live 0 xs])
 | .agg _=>(.any,[])
 | .tup _=>(.any,[])
 |x=>(x,[])
def LR (f:Nat->AV->AV×List Ag):Nat->List AV->List AV×List Ag
 |_,[]=>([],[])
 |L,x::xs=>((f L x).1::(LR f (L+(f L x).2.length) xs).1,(f L x).2++(LR f (L+(f L x).2.length) xs).2)
def T0 (L:Nat):AV->AV×List Ag
 | .agg xs=>(.agg (LR Lz L xs).1,(LR Lz L xs).2)
 |x=>Lz L x
def EQ (L:Nat):AV->AV×List Ag
 | .tup xs=>(.tup (LR T0 L xs).1,(LR T0 L xs).2)
 |x=>T0 L x
def UV (f:Nat->AV->AV×List Ag):Prop:=∀(C:BF) (F:Fr) (M:List Ag) (a:Act) (w:World) (σ:Nat->Nat->Option St) (own:Nat->Option Nat) (x:AV) (v:Value) (fp:Nat->Nat),AS C F M a w σ own->VR w C.sh σ0 x v fp->
 (∀g,fp g<=1)->(∀g,fp g≠0->own g=none/\¬C.sh g/\(C.own0 g≠none\/C.w0.heap.size<=g))->
 ∃σ' own',AS C F (M++(f M.length x).2) a w σ' own' /\VR w C.sh σ' (f M.length x).1 v (λ_=>0)/\(∀g,fp g=0->own' g=own g)/\∀T u st,σ T u=some st->σ' T u=some st
theorem V5:UV Lz:=by
 intro C F M a w σ own x v fp R hx h1 hfp;have plain:∀y:AV,Lz M.length y=(y,[])->VR w C.sh σ0 y v fp->(∀g,fp g=0)->∃σ' own',AS C F (M++(Lz M.length y).2) a w σ' own' /\VR w C.sh σ' (Lz M.length y).1 v (λ_=>0)/\(∀g,fp g=0->own' g=own g)/\∀T u st,σ T u=some st->σ' T u=some st:=by
  intro y e hy h0;rw[e];have:fp=λ_=>0:=funext h0;subst this;exact⟨σ,own,by simpa using R,VR.up σ hy,λ_ _=>rfl,λ_ _ _ h=>h⟩
 have keep:∀(st:St) (T u:Nat) (s:St),σ T u=some s->(λT u=>if T=M.length/\u=0 then some st else σ T u) T u=some s:=λst T u s h=>by
  have:¬(T=M.length/\u=0):=λe=>by rw[R.mem.key T u zO] at h;simp at h
  simp only[this,if_false];exact h
 have hkeep:∀st:St,Ci w w C.sh C.sh σ (λT u=>if T=M.length/\u=0 then some st else σ T u):=λst=>⟨λ_ _=>rfl,λ_ h=>h,λT u s h=> .inl (keep st T u s h)⟩;have hmem:∀(xs:List AV) (st:St) (own' :Nat->Option Nat),(∀g T,own g=some T->own' g=some T)->(∃fp',BR w C.sh (λT u=>if T=M.length/\u=0 then some st else σ T u) M.length (.live 0 xs) fp' /\∀g,fp' g<=if own' g=some M.length then 1 else 0)->
  Cp w C.sh (λT u=>if T=M.length/\u=0 then some st else σ T u) own' (M++[.live 0 xs]):=by
  intro xs st own' ho hB;refine⟨λT B hM=>?_,λT u hT=>?_⟩
  .by_cases hT:T<M.length
   .rw[vk hT] at hM;obtain⟨fpT,b1,b2⟩:=R.mem.blk T B hM;refine⟨fpT,EO (hkeep st) (λ_ _=>rfl) (λu=>?_) b1,λg=>?_⟩
    .have:¬(T=M.length/\u=0):=zO;simp only[this,if_false]
    .have e:=b2 g;split at e
     .rename_i eg;rw[zP (ho g T eg)];exact e
     .omega
   .rw[vj zO] at hM;have:T=M.length:=by
     rcases uY (T-M.length) 1 with h|h
     .omega
     .rw[uR (by simpa using h)] at hM;simp at hM
    subst this;simp at hM;subst hM;exact hB
  .simp at hT;have:¬(T=M.length/\u=0):=zO;simp only[this,if_false];exact R.mem.key T u zO
 have hver:∀(st:St) (v' :Nat),0<v' ->(λT u=>if T=M.length/\u=0 then some st else σ T u) M.length v' =none:=λst v' hv' =>by
  have:¬v' =0:=zO;simp only[this,and_false,if_false];exact R.mem.key _ _ (vg _)
 cases x with
 |own s n xs=>
  simp only[Lz];simp only[VR] at hx;rcases hx with⟨⟨ad,e⟩,rfl,rfl,h0⟩ | ⟨hh,b,c,cur,e',fp',e,hn,hc,hl,hheap,hsz,hv,hff⟩
  .refine⟨_,own,⟨R.size,R.dfr,λt ht=>VR.later (hkeep .nil) _ _ _ (λ_ _=>rfl) (R.tmp t ht),hmem _ .nil own (λg T h=>h) ⟨λ_=>0,⟨hver .nil,.inl ⟨zS,rfl,λ_=>rfl⟩⟩,λ_=>vn _⟩,R.shr,R.ext,R.keyl (hkeep .nil)⟩,⟨λ_=>rfl,⟨ad,0,e⟩,.nil,zS,λ_=>⟨⟨ad,e⟩,rfl,rfl⟩,λ_ _ _ e=>by cases e⟩,λ_ _=>rfl,keep .nil⟩
  .let own' :Nat->Option Nat:=λg=>if fp g≠0 then some M.length else own g
   have ho:∀g T,own g=some T->own' g=some T:=λg T h=>by
    have:fp g=0:=by
     rcases wm (fp g) with h0|h0
     .exact h0
     .rw[(hfp g zO).1] at h;simp at h
    simp only[own',this,ne_eq,not_true_eq_false,if_false];exact h
   refine⟨_,own',⟨R.size,R.dfr,λt ht=>VR.later (hkeep (.loc hh b cur.size)) _ _ _ (λ_ _=>rfl) (R.tmp t ht),hmem xs (.loc hh b cur.size) own' ho ⟨fp,⟨hver _,.inr ⟨hh,b,cur,e',fp',zS,hheap,?_,?_,hff⟩⟩,λg=>?_⟩,λg hg=>?_,?_,R.keyl (hkeep _)⟩,⟨λ_=>rfl,⟨_,c,e⟩,.loc hh b cur.size,zS,(λe=>by cases e),λh' b' sz' e2=>?_⟩,λg hg=>by simp only[own',hg,ne_eq,not_true_eq_false,if_false],keep _⟩
   .have:n*s<=c*s:=Nat.mul_le_mul_right _ hn;rw[hl];omega
   .rw[hl];exact AI.up _ hv
   .by_cases h0:fp g=0
    .rw[h0];exact vn _
    .rw[zP (by simp only[own',h0,ne_eq,not_false_eq_true,if_true])];exact h1 g
   .have h2:=R.shr g hg;have:fp g=0:=by
     rcases wm (fp g) with h0|h0
     .exact h0
     .exact absurd hg (hfp g zO).2.1
    simp only[own',this,ne_eq,not_true_eq_false,if_false];exact h2
   .refine⟨R.ext.os,R.ext.tape,R.ext.output,R.ext.size,R.ext.block,λg hg=>?_⟩;by_cases h0:fp g=0
    .simp only[own',h0,ne_eq,not_true_eq_false,if_false] at hg;exact R.ext.own g hg
    .exact(hfp g h0).2.2
   .cases e2;exact⟨⟨hh,b,none⟩,c,e,λ_=>rfl,hn,hc,zO⟩
 |optr xs=>
  simp only[Lz];simp only[VR] at hx;obtain⟨hh,b,cur,e',fp',e,hheap,hsz,hv,hff⟩:=hx;let own' :Nat->Option Nat:=λg=>if fp g≠0 then some M.length else own g
  have ho:∀g T,own g=some T->own' g=some T:=λg T h=>by
   have:fp g=0:=by
    rcases wm (fp g) with h0|h0
    .exact h0
    .rw[(hfp g zO).1] at h;simp at h
   simp only[own',this,ne_eq,not_true_eq_false,if_false];exact h
  refine⟨_,own',⟨R.size,R.dfr,λt ht=>VR.later (hkeep (.loc hh b cur.size)) _ _ _ (λ_ _=>rfl) (R.tmp t ht),hmem xs (.loc hh b cur.size) own' ho ⟨fp,⟨hver _,.inr ⟨hh,b,cur,e',fp',zS,hheap,hsz,AI.up _ hv,hff⟩⟩,λg=>?_⟩,λg hg=>?_,?_,R.keyl (hkeep _)⟩,⟨λ_=>rfl,⟨_,e⟩,.loc hh b cur.size,zS,(λe=>by cases e),λh' b' sz' e2=>?_⟩,λg hg=>by simp only[own',hg,ne_eq,not_true_eq_false,if_false],keep _⟩
  .by_cases h0:fp g=0
   .rw[h0];exact vn _
   .rw[zP (by simp only[own',h0,ne_eq,not_false_eq_true,if_true])];exact h1 g
  .have h2:=R.shr g hg;have:fp g=0:=by
    rcases wm (fp g) with h0|h0
    .exact h0
    .exact absurd hg (hfp g zO).2.1
   simp only[own',this,ne_eq,not_true_eq_false,if_false];exact h2
  .refine⟨R.ext.os,R.ext.tape,R.ext.output,R.ext.size,R.ext.block,λg hg=>?_⟩;by_cases h0:fp g=0
   .simp only[own',h0,ne_eq,not_true_eq_false,if_false] at hg;exact R.ext.own g hg
   .exact(hfp g h0).2.2
  .cases e2;exact e
 |any=>exact plain _ rfl hx hx
 |bool=>exact plain _ rfl hx hx.2
 |int=>exact plain _ rfl hx hx.2
 |str=>exact plain _ rfl hx hx.2
 |nilp=>exact plain _ rfl hx hx.2
 |ro=>exact plain _ rfl hx (by simp only[VR] at hx;exact hx.1)
 |tok=>exact plain _ rfl hx (by simp only[VR] at hx;exact hx.1)
 |ptr=>exact plain _ rfl hx (by simp only[VR] at hx;exact hx.1)
 |rptr=>exact plain _ rfl hx (by simp only[VR] at hx;exact hx.1)
 |fn=>exact plain _ rfl hx (by simp only[VR] at hx;exact hx.1)
 |agg=>exact⟨σ,own,by simpa[Lz] using R,λ_=>rfl,λ_ _=>rfl,λ_ _ _ h=>h⟩
 |tup=>exact⟨σ,own,by simpa[Lz] using R,λ_=>rfl,λ_ _=>rfl,λ_ _ _ h=>h⟩
theorem RA {f:Nat->AV->AV×List Ag} (hf:UV f):∀(xs:List AV) (C:BF) (F:Fr) (M:List Ag) (a:Act) (w:World) (σ:Nat->Nat->Option St) (own:Nat->Option Nat) (vs:List Value) (fp:Nat->Nat),AS C F M a w σ own->AI w C.sh σ0 xs vs fp->
 (∀g,fp g<=1)->(∀g,fp g≠0->own g=none/\¬C.sh g/\(C.own0 g≠none\/C.w0.heap.size<=g))->
 ∃σ' own',AS C F (M++(LR f M.length xs).2) a w σ' own' /\AI w C.sh σ' (LR f M.length xs).1 vs (λ_=>0)/\(∀g,fp g=0->own' g=own g)/\∀T u st,σ T u=some st->σ' T u=some st
 | [],C,F,M,a,w,σ,own,vs,fp,R,hx,_,_=>⟨σ,own,by simpa[LR] using R,⟨hx.1,λ_=>rfl⟩,λ_ _=>rfl,λ_ _ _ h=>h⟩
 |x::xs,C,F,M,a,w,σ,own,vs,fp,R,hx,h1,hfp=>by
  simp only[AI] at hx;obtain⟨v,rest,f1,f2,rfl,hx1,hx2,hff⟩:=hx;obtain⟨σ1,own1,R1,r1,o1,k1⟩:=hf C F M a w σ own x v f1 R hx1 (λg=>by have:=h1 g;have:=hff g;omega) (λg hg=>hfp g (by have:=hff g;omega));have hl:(M++(f M.length x).2).length=M.length+(f M.length x).2.length:=zS;obtain⟨σ2,own2,R2,r2,o2,k2⟩:=RA hf xs C F (M++(f M.length x).2) a w σ1 own1 rest f2 R1 hx2 (λg=>by have:=h1 g;have:=hff g;omega) (λg hg=>by
   have e1:=h1 g;have e2:=hff g;rw[o1 g zO];exact hfp g zO)
  rw[hl] at R2 r2;refine⟨σ2,own2,by simpa[LR,List.append_assoc] using R2,⟨v,rest,_,_,rfl,VR.later ⟨λ_ _=>rfl,λ_ h=>h,λT u st h=> .inl (k2 T u st h)⟩ _ _ _ (λ_ _=>rfl) r1,r2,λ_=>rfl⟩,λg hg=>?_,λT u st h=>k2 T u st (k1 T u st h)⟩;have e2:=hff g;rw[o2 g zO,o1 g zO]
theorem V6:UV T0:=by
 intro C F M a w σ own x v fp R hx h1 hfp;unfold T0;split
 .simp only[VR] at hx;obtain⟨cs,e,hv⟩:=hx;obtain⟨σ',own',R',r,o,k⟩:=RA V5 _ C F M a w σ own _ fp R hv h1 hfp;exact⟨σ',own',R',⟨cs,e,r⟩,o,k⟩
 .exact V5 C F M a w σ own x v fp R hx h1 hfp
theorem RB:UV EQ:=by
 intro C F M a w σ own x v fp R hx h1 hfp;unfold EQ;split
 .simp only[VR] at hx;obtain⟨cs,e,hv⟩:=hx;obtain⟨σ',own',R',r,o,k⟩:=RA V6 _ C F M a w σ own _ fp R hv h1 hfp;exact⟨σ',own',R',⟨cs,e,r⟩,o,k⟩
 .exact V6 C F M a w σ own x v fp R hx h1 hfp
section
variable {P:Program} {f:Nat} {M:List Ag} {args cargs:List AV} {K:AV->List Ag->Prop} {Q:AV->List Ag->Prop}
theorem HC (w:World) (sh:Nat->Prop):Cp w sh σ0 (λ_=>none) []:=⟨λT B h=>by simp at h,λ_ _ _=>rfl⟩
theorem LS {C:BF} {F:Fr} {a:Act} {w:World} {σ:Nat->Nat->Option St} {own:Nat->Option Nat} (R:AS C F M a w σ own) {w' :World} {own' :Nat->Option Nat} (he:GJ w w' (λ_=>none) own') {r:AV} {v:Value} {fpr:Nat->Nat} (hr:VR w' C.sh σ0 r v fpr)
 (hf:∀g,fpr g<=if own' g=some 0 then 1 else 0):∃σ2 own2,AS C F (M++(EQ M.length r).2) a w' σ2 own2/\VR w' C.sh σ2 (EQ M.length r).1 v (λ_=>0):=by
 have hnew:∀g,fpr g≠0->w.heap.size<=g:=λg hg=>by
  have:=hf g;split at this
  .rename_i e;rcases he.own g (by rw[e];simp) with h|h
   .exact absurd rfl h
   .exact h
  .omega
 let own1:Nat->Option Nat:=λg=>if g<w.heap.size then own g else none
 have hblk:∀g,g<w.heap.size->w'.heap[g]?=w.heap[g]?:=λg hg=>he.block g hg rfl;have L:Ci w w' C.sh C.sh σ σ:=⟨λg hg=>hblk g (R.shr g hg).2,λ_ h=>h,λ_ _ _ h=> .inl h⟩;have R1:AS C F M a w' σ own1:=by
  refine⟨R.size,R.dfr,λt ht=>VR.later L _ _ _ (λ_ h=>absurd rfl h) (R.tmp t ht),⟨λT B hM=>?_,R.mem.key⟩,λg hg=>?_,?_,R.key0⟩
  .obtain⟨fp,b1,b2⟩:=R.mem.blk T B hM;have hlt:∀g,fp g≠0->g<w.heap.size:=λg hg=>KJ b1 g hg;refine⟨fp,EO L (λg hg=>hblk g (hlt g hg)) zL b1,λg=>?_⟩;by_cases h0:fp g=0
   .rw[h0];exact vn _
   .have:=b2 g;simp only[own1,hlt g h0,if_true];exact this
  .have h1:=R.shr g hg;have:=he.size;simp only[own1,h1.2,if_true];exact⟨h1.1,zO⟩
  .refine R.ext.trans ⟨he.os,he.tape,he.output,he.size,λg hg _=>hblk g hg,λg hg=> .inl ?_⟩;simp only[own1] at hg;split at hg
   .exact hg
   .exact absurd rfl hg
 obtain⟨σ2,own2,R2,r2,_,_⟩:=RB C F M a w' σ own1 r v fpr R1 hr (λg=>by have:=hf g;split at this<;>omega) (λg hg=>by
  have h1:=hnew g hg;refine⟨by simp only[own1];rw[zM zO],λhs=>?_,?_⟩
  .have:=(R.shr g hs).2;omega
  .exact .inr (by have:=R.ext.size;omega))
 exact⟨σ2,own2,R2,r2⟩
def By (M:List Ag):List Nat->List Ag
 | []=>M
 |T::Ts=>(By M Ts).set T .dead
theorem Cp.hide {w:World} {sh:Nat->Prop} {σ:Nat->Nat->Option St} {own:Nat->Option Nat} {M:List Ag} (m:Cp w sh σ own M):∀D:List Nat,Cp w sh σ own (By M D)
 | []=>m
 |T::D=>by
  have m1:=Cp.hide m D;refine⟨λT' B hB=>?_,λT' v h=>m1.key T' v (by simpa[By] using h)⟩;simp only[By] at hB;by_cases e:T=T'
  .subst e;rcases uY T (By M D).length with hl|hl
   .rw[uO hl] at hB;simp at hB;subst hB;exact⟨λ_=>0,λ_=>rfl,λ_=>vn _⟩
   .rw[uR (by simpa using hl)] at hB;simp at hB
  .rw[uN e] at hB;exact m1.blk T' B hB
theorem ud (D:List Nat) (spec:Ac P f cargs [] Q) (hargs:args.map (vw (By M D))=cargs) (hk:∀r,Q r []->EP r=true/\K (EQ M.length r).1 (M++(EQ M.length r).2)):Ad P f args M K:=by
 intro C hC;subst hC;refine⟨spec.1,λF a w σ own vals R hv=>?_⟩;have hv' :AI w (λg=>C.sh g\/(own g≠none/\g<w.heap.size)) σ0 cargs vals.toList (λ_=>0):=by
  rw[<-hargs];have:=F6 (w:=w) (sh:=C.sh) (shB:=λg=>C.sh g\/(own g≠none/\g<w.heap.size)) (σ:=σ) (τ:=σ0) (f:=vw (By M D)) (p:=λfp=>∀g,fp g=0) (λa b c hc e=>⟨λg=>by have:=e g;have:=hc g;omega,λg=>by have:=e g;have:=hc g;omega⟩) (λx v fp h hf=>by
   have:fp=λ_=>0:=funext hf;subst this;exact UU (R.mem.hide D) (λg hg=> .inl hg) (λg hg hlt=> .inr ⟨hg,hlt⟩) h)
  exact this _ _ _ hv zL
 refine(spec.2 w _ σ0 (λ_=>none) vals hv' (HC _ _) (λg hg=>⟨rfl,?_⟩)).mono ?_
 .rcases hg with hg|hg
  .exact(R.shr g hg).2
  .exact hg.2
 .rintro e w' ⟨r,v,M',σ',own',fpr,rfl,hq,hl,hr,hf,hm,_,he,_⟩;have:M' =[]:=vr (by simpa using hl);subst this;obtain⟨h1,h2⟩:=hk r hq;have hσ:σ' =σ0:=by funext T u;exact hm.key T u (vn _)
  subst hσ;obtain⟨σ2,own2,R2,r2⟩:=LS R he (LQ r v fpr h1 hr) hf;exact⟨_,v,_,σ2,own2,rfl,h2,R2,r2⟩
theorem tr (spec:Ac P f cargs [] Q) (hargs:args.map (vw M)=cargs) (hk:∀r,Q r []->EP r=true/\K (EQ M.length r).1 (M++(EQ M.length r).2)):Ad P f args M K:=ud [] spec hargs hk
theorem Ad.ro (spec:Ac P f cargs [] Q) (hargs:args.map P2=cargs) (hk:∀r,Q r []->K (EQ M.length r).1 (M++(EQ M.length r).2)):Ad P f args M K:=by
 intro C hC;subst hC;refine⟨spec.1,λF a w σ own vals R hv=>?_⟩;have hv' :AI w C.sh σ0 cargs vals.toList (λ_=>0):=by
  rw[<-hargs];have:=F6 (w:=w) (sh:=C.sh) (shB:=C.sh) (σ:=σ) (τ:=σ0) (f:=P2) (p:=λfp=>∀g,fp g=0) (λa b c hc e=>⟨λg=>by have:=e g;have:=hc g;omega,λg=>by have:=e g;have:=hc g;omega⟩) (λx v fp h hf=>by
   have:fp=λ_=>0:=funext hf;subst this;exact dE h)
  exact this _ _ _ hv zL
 refine(spec.2 w _ σ0 (λ_=>none) vals hv' (HC _ _) (λg hg=>⟨rfl,(R.shr g hg).2⟩)).mono ?_;rintro e w' ⟨r,v,M',σ',own',fpr,rfl,hq,hl,hr,hf,hm,_,he,_⟩;have:M' =[]:=vr (by simpa using hl);subst this;have hσ:σ' =σ0:=by funext T u;exact hm.key T u (vn _)
 subst hσ;obtain⟨σ2,own2,R2,r2⟩:=LS R he hr hf;exact⟨_,v,_,σ2,own2,rfl,hk r hq,R2,r2⟩
end
def F0:Fr:=λ_=> .any
def condK (v:AV) (K1 K2:Prop):Prop:=match v with| .bool b=>(b=true->K1)/\(b=false->K2) |_=>False
section
variable {P:Program} {T:Nat->Option TI} {p:Nat} {F:Fr} {M:List Ag} {Q:Cj}
theorem uH {id:Nat} {l:List Oper} (h:∀K:Fr->List Ag->Prop,(∀F M,Q .normal F M->K F M)->Aw T (Ad P) l.toArray l M.length F (M++uP (Bb l) .free) K):W P T p (.region id l.toArray false) F M Q:=
 ui (h _ λ_ _ h=>h)
theorem W.condK {t:Nat} {x y:Code} (h:∀K1 K2:Prop,(W P T p x F M Q->K1)->(W P T p y F M Q->K2)->condK (F t) K1 K2):W P T p (.cond (.tmp t) x y) F M Q:=by
 have h1:=h _ _ id id;unfold Abs.condK at h1;split at h1
 .rename_i b hb;exact uF hb h1.1 h1.2
 .exact h1.elim
end
theorem AC (a:AV):Ey [a]=Bu F0 0 a:=by funext t;cases t<;>simp[Ey,Bu,F0]
theorem Aq (a b:AV):Ey [a,b]=Bu (Bu F0 0 a) 1 b:=by
 funext t;rcases t with _|_|t<;>simp[Ey,Bu,F0]
theorem A6 (a b c:AV):Ey [a,b,c]=Bu (Bu (Bu F0 0 a) 1 b) 2 c:=by
 funext t;rcases t with _|_|_|t<;>simp[Ey,Bu,F0]
theorem I3 (a b c d:AV):Ey [a,b,c,d]=Bu (Bu (Bu (Bu F0 0 a) 1 b) 2 c) 3 d:=by
 funext t;rcases t with _|_|_|_|t<;>simp[Ey,Bu,F0]
section
variable {T:Nat->Option TI} {call:D9} {ops:Array Oper} {rest:List Oper} {d:Option Nat} {op:Op} {ty s:Nat} {pos:String} {af:Array Edge} {F:Fr} {M:List Ag} {K:Fr->List Ag->Prop} {o:Oper} {g:Option (Nat×Bool)}
theorem X4:Aw T call ops [] s F M K=K F M:=rfl
end
def ER:AV->Option (Nat×Nat)
 | .tok T v _ _ _=>some (T,v)
 | .ptr T v _=>some (T,v)
 |_=>none
def AR:Op->Nat
 | .binOp .eql _ _ (.const (.slice none 0 0)) _=>6
 | .binOp .neq _ _ (.const (.slice none 0 0)) _=>6
 | .move _| .assign _| .pick .. | .binOp .. | .unOp .. | .field .. | .index .. | .extract .. | .build .. =>0
 | .makeFunc (.func _) _ _=>0
 | .alloc _| .box .. | .makeSlice .. | .buildSlice .. =>0
 | .call {callee:= .builtin .len,.. } | .call {callee:= .builtin .min,.. } | .call {callee:= .builtin .max,.. }=>0
 | .fieldAddr .. | .indexAddr .. | .slice .. | .nilCheck _=>1
 | .load .. | .convert .. =>2
 | .call {callee:= .value _,.. }=>3
 | .store .. =>4
 | .call {callee:= .builtin .append,.. }=>5
 |_=>6
def Cq (M:List Ag) (s:Nat):Option Ag->List Ag
 |some b=>M.set s b
 |none=>M
def Gk (T:Nat->Option TI) (o:Oper) (s:Nat) (F:Fr) (M:List Ag) (v:AV) (b:Option Ag):Prop:=
 match o.op with
 | .alloc t=>∃i,T t=some i/\M[s]?=some .free/\v= .ptr s 0 0/\b=some (.live 0 i.zero)
 | .box t x=>∃i cs,T t=some i/\LJ i (ev F x)=some cs/\M[s]?=some .free/\v= .ptr s 0 0/\b=some (.live 0 cs)
 | .makeSlice t l c=>∃e es eb ez k n k',Ax T t= .slice e es eb ez/\ev F l= .int k n/\ev F c= .int k' n/\M[s]?=some .free/\0<=n/\n*eb<=140737488355328/\n<=maxLen/\v= .tok s 0 es 0 n.toNat/\b=some (.live 0 (Bv n.toNat ez))
 | .buildSlice t len Ay=>∃e es eb ez cs,Ax T t= .slice e es eb ez/\Jt (ZF es) (Bv len ez) (Ay.toList.map λp=>(p.1,ev F p.2))=some cs/\M[s]?=some .free/\len*es<=16777216/\0<es/\v= .tok s 0 es 0 len/\b=some (.live 0 cs)
 |_=>b=none/\pv T M F o=some v
section
variable {T:Nat->Option TI} {call:D9} {o:Oper} {s:Nat} {F:Fr} {M:List Ag} {K:Fr->List Ag->Prop}
theorem Ra (hc:AR o.op<=2):Dv T call o s F M K↔∃v b,Gk T o s F M v b/\K (AB F o.dst v) (Cq M s b):=by
 unfold Dv Gk;split
 .rename_i t hop;simp only[hop,Ht];constructor
  .intro h;split at h
   .rename_i i hi;exact⟨_,_,⟨i,hi,h.1,rfl,rfl⟩,h.2⟩
   .exact h.elim
  .rintro⟨v,b,⟨i,hi,hf,rfl,rfl⟩,h⟩;rw[hi];exact⟨hf,h⟩
 .rename_i t x hop;simp only[hop,Ht,Hl];constructor
  .intro h;split at h
   .rename_i i hi;split at h
    .rename_i cs hcs;exact⟨_,_,⟨i,cs,hi,hcs,h.1,rfl,rfl⟩,h.2⟩
    .exact h.elim
   .exact h.elim
  .rintro⟨v,b,⟨i,cs,hi,hcs,hf,rfl,rfl⟩,h⟩;rw[hi];simp only[hcs];exact⟨hf,h⟩
 .rename_i t l c hop;simp only[hop,PZ];constructor
  .intro h;split at h
   .rename_i e es eb ez k n k' m h1 h2 h3;obtain⟨hf,h0,rfl,hb,hm,h⟩:=h;exact⟨_,_,⟨e,es,eb,ez,k,n,k',h1,h2,h3,hf,h0,hb,hm,rfl,rfl⟩,h⟩
   .exact h.elim
  .rintro⟨v,b,⟨e,es,eb,ez,k,n,k',h1,h2,h3,hf,h0,hb,hm,rfl,rfl⟩,h⟩;rw[h1,h2,h3];exact⟨hf,h0,rfl,hb,hm,h⟩
 .rename_i t len Ay hop;simp only[hop,P0,Hl];constructor
  .intro h;split at h
   .rename_i e es eb ez h1;split at h
    .rename_i cs hcs;obtain⟨hf,h24,hes,h⟩:=h;exact⟨_,_,⟨e,es,eb,ez,cs,h1,hcs,hf,h24,hes,rfl,rfl⟩,h⟩
    .exact h.elim
   .exact h.elim
  .rintro⟨v,b,⟨e,es,eb,ez,cs,h1,hcs,hf,h24,hes,rfl,rfl⟩,h⟩;rw[h1];simp only[hcs];exact⟨hf,h24,hes,h⟩
 .rename_i hop;simp[hop,AR] at hc
 .rename_i hop;simp[hop,AR] at hc
 .rename_i hop;simp[hop,AR] at hc
 .rename_i hop;simp[hop,AR] at hc
 .rename_i hop;simp[hop,AR] at hc
 .rename_i h1 h2 h3 h4 h5 h6 h7 h8 h9;have hD:∀v b,Gk T o s F M v b↔(b=none/\pv T M F o=some v):=by
   intro v b;unfold Gk;split
   .rename_i hop;exact absurd hop (h1 _)
   .rename_i hop;exact absurd hop (h2 _ _)
   .rename_i hop;exact absurd hop (h3 _ _ _)
   .rename_i hop;exact absurd hop (h4 _ _ _)
   .exact Iff.rfl
  constructor
  .intro h;unfold Hs at h;split at h
   .rename_i v hv;exact⟨v,none,(hD _ _).2 ⟨rfl,hv⟩,h⟩
   .exact h.elim
  .rintro⟨v,b,hd,h⟩;obtain⟨rfl,hv⟩:=(hD _ _).1 hd;unfold Hs;rw[hv];exact h
theorem Gk.unique {v v' :AV} {b b' :Option Ag} (h:Gk T o s F M v b) (h' :Gk T o s F M v' b'):v=v' /\b=b' :=by
 unfold Gk at h h';split at h<;>(rename_i hop;try simp only[hop] at h')
 .obtain⟨i,hi,_,rfl,rfl⟩:=h;obtain⟨i',hi',_,rfl,rfl⟩:=h';rw[hi] at hi';simp at hi';subst hi';exact⟨rfl,rfl⟩
 .obtain⟨i,cs,hi,hc,_,rfl,rfl⟩:=h;obtain⟨i',cs',hi',hc',_,rfl,rfl⟩:=h';rw[hi] at hi';simp at hi';subst hi';rw[hc] at hc';simp at hc';subst hc';exact⟨rfl,rfl⟩
 .obtain⟨e,es,eb,ez,k,n,k',h1,h2,h3,_,_,_,_,rfl,rfl⟩:=h;obtain⟨e,es,eb,ez,k,n,k',g1,g2,g3,_,_,_,_,rfl,rfl⟩:=h';rw[h1] at g1;rw[h2] at g2;simp at g1 g2;obtain⟨_,rfl,_,rfl⟩:=g1;obtain⟨_,rfl⟩:=g2;exact⟨rfl,rfl⟩
 .obtain⟨e,es,eb,ez,cs,h1,h2,_,_,_,rfl,rfl⟩:=h;obtain⟨e,es,eb,ez,cs',g1,g2,_,_,_,rfl,rfl⟩:=h';rw[h1] at g1;simp at g1;obtain⟨_,rfl,_,rfl⟩:=g1;rw[h2] at g2;simp at g2;subst g2;exact⟨rfl,rfl⟩
 .have hd:b' =none/\pv T M F o=some v' :=by
   exact h'
  obtain⟨rfl,h1⟩:=h;obtain⟨rfl,h2⟩:=hd;rw[h1] at h2;simp at h2;exact⟨h2,rfl⟩
theorem LT {F F' :Fr} {xs:Array Operand} (h:∀x∈xs,ev F' x=ev F x):LN F' xs=LN F xs:=by
 unfold LN;exact xf λx hx=>h x (by simpa using hx)
theorem Fh {F F' :Fr} (h:∀x∈o.op.operands,ev F' x=ev F x):pv T M F' o=pv T M F o:=by
 unfold pv;split<;>(rename_i hop;try simp only[hop,Op.operands] at h)
 all_goals first
  |rfl
  | (simp_all;done)
  |skip
 .rename_i t x lo hi mx;have e1:lo.map (ev F')=lo.map (ev F):=by cases lo<;>simp_all
  have e2:hi.map (ev F')=hi.map (ev F):=by cases hi<;>simp_all
  have e3:mx.map (ev F')=mx.map (ev F):=by cases mx<;>simp_all
  rw[e1,e2,e3,h x zS]
 .rename_i f first caps
  rw[LT (F:=F) (F' :=F') λx hx=>h x (by simp[hx])]
 .rename_i t Ay;congr 1;refine xf λp hp=>?_;rw[h p.2 (by simp only[List.mem_toArray,vH];exact⟨p,hp,rfl⟩)]
 .rename_i args ts;have hm:∀x∈args,ev F' x=ev F x:=λx hx=>h x (by simp[Call.operands,hx]);split
  .rename_i x t hx _;rw[hm x (by rw[<-wq,hx];simp)]
  .rfl
 .rename_i args ts;have hm:∀x∈args,ev F' x=ev F x:=λx hx=>h x (by simp[Call.operands,hx]);split
  .rename_i x y hx;rw[hm x (by rw[<-wq,hx];simp),hm y (by rw[<-wq,hx];simp)]
  .rfl
 .rename_i args ts;have hm:∀x∈args,ev F' x=ev F x:=λx hx=>h x (by simp[Call.operands,hx]);split
  .rename_i x y hx;rw[hm x (by rw[<-wq,hx];simp),hm y (by rw[<-wq,hx];simp)]
  .rfl
theorem UW {M' :List Ag} (hc:AR o.op=0):pv T M' F o=pv T M F o:=by
 unfold pv;split<;>(rename_i hop;try simp only[hop,AR] at hc)<;>first|rfl| (exact absurd hc zD) |skip
theorem X5 {M' :List Ag} {t f:Nat} {x:AV} (h:∀B v,(Ah M' B v).isSome=(Ah M B v).isSome):Jr T M' t x f=Jr T M t x f:=by
 unfold Jr;split<;>try rfl
 split<;>try rfl
 split<;>simp_all
theorem X6 {M' :List Ag} {t:Nat} {x i:AV} (h:∀B v,(Ah M' B v).isSome=(Ah M B v).isSome):LI T M' t x i=LI T M t x i:=by
 unfold LI;split<;>try rfl
 .split<;>try rfl
  simp[h]
 .split<;>try rfl
  simp[h]
theorem X7 {M' :List Ag} {t:Nat} {x:AV} {lo hi mx:Option AV} (h:∀B v,(Ah M' B v).isSome=(Ah M B v).isSome):LK T M' t x lo hi mx=LK T M t x lo hi mx:=by
 unfold LK;split<;>try rfl
 split<;>try rfl
 split<;>try rfl
 simp[h]
theorem V7 {M' :List Ag} {x:AV} (h:∀B v,(Ah M' B v).isSome=(Ah M B v).isSome):J1 M' x=J1 M x:=by
 unfold J1;split<;>simp_all
theorem UX {M' :List Ag} (hc:AR o.op<=1) (h:∀B v,(Ah M' B v).isSome=(Ah M B v).isSome):pv T M' F o=pv T M F o:=by
 unfold pv;split<;>(rename_i hop;try simp only[hop,AR] at hc)<;>first|rfl| (exact absurd hc zD) |skip
 .exact X5 h
 .exact X6 h
 .exact X7 h
 .exact V7 h
theorem V8 {M' :List Ag} (h:∀B v cs,Ah M B v=some cs->Ah M' B v=some cs) {x:AV} {q:Nat×List AV} (hq:De M x=some q):De M' x=some q:=by
 unfold De at hq |-;split at hq
 .exact hq
 .exact hq
 .split at hq
  .rename_i cs hcs;simp only[h _ _ _ hcs];exact hq
  .simp at hq
 .simp at hq
theorem UY {M' :List Ag} (h:∀B v cs,Ah M B v=some cs->Ah M' B v=some cs) {r:AV} (hp:pv T M F o=some r):pv T M' F o=some r:=by
 have hs:∀B v,(Ah M B v).isSome=true->(Ah M' B v).isSome=true:=λB v hb=>by
  obtain⟨cs,hcs⟩:=Option.isSome_iff_exists.1 hb;rw[h B v cs hcs];rfl
 unfold pv at hp |-;split at hp<;>(rename_i hop;try simp only[hop])<;>try exact hp
 .unfold Nr at hp |-;split at hp
  .simp at hp
  .rename_i i hi;split at hp
   .rename_i cs hcs;split at hcs
    .rename_i B v off hx;split at hcs
     .rename_i bs hbs;simp only[h B v bs hbs,hcs];exact hp
     .simp at hcs
    .simp only[hcs];exact hp
    .simp at hcs
   .simp at hp
 .unfold Jr at hp |-;split at hp
  .split at hp
   .split at hp
    .split at hp
     .rename_i hb;simp only[hs _ _ hb];exact hp
     .simp at hp
    .exact hp
    .simp at hp
   .simp at hp
  .simp at hp
 .unfold LI at hp |-;split at hp
  .split at hp
   .exact hp
   .split at hp
    .split at hp
     .rename_i hk hb;simp only[hk,hs _ _ hb];simpa using hp
     .simp at hp
    .simp at hp
   .simp at hp
  .split at hp
   .split at hp
    .split at hp
     .rename_i hk hb;simp only[hk,hs _ _ hb];simpa using hp
     .simp at hp
    .simp at hp
   .exact hp
   .simp at hp
  .simp at hp
 .unfold NR at hp |-;split at hp
  .split at hp
   .split at hp
    .rename_i q hq;have:De M' _=some q:=V8 h hq;simp only[*]
    .simp at hp
   .simp at hp
  .exact hp
 .unfold LK at hp |-;split at hp
  .exact hp
  .split at hp
   .split at hp
    .exact hp
    .split at hp
     .rename_i hk;rw[zP ⟨hk.1,hs _ _ hk.2⟩];exact hp
     .simp at hp
    .exact hp
    .simp at hp
   .exact hp
  .simp at hp
 .unfold J1 at hp |-;split at hp
  .split at hp
   .rename_i hb;simp only[hs _ _ hb];exact hp
   .simp at hp
  .exact hp
  .exact hp
  .simp at hp
theorem Rb {M' :List Ag} (h:∀x∈o.op.operands,∀B v,ER (ev F x)=some (B,v)->Ah M' B v=Ah M B v):pv T M' F o=pv T M F o:=by
 unfold pv;split<;>(rename_i hop;try simp only[hop,Op.operands] at h)<;>try rfl
 .rename_i t x;have hx:=h x zS;unfold Nr;split<;>try rfl
  generalize ev F x=y at*;cases y<;>try rfl
  simp only[hx _ _ rfl]
 .rename_i t x f;have hx:=h x zS;unfold Jr;generalize ev F x=y at*;cases y<;>try rfl
  simp only[hx _ _ rfl]
 .rename_i t x i;have hx:=h x zS;unfold LI;generalize ev F x=y at*;cases y<;>try rfl
  .simp only[hx _ _ rfl]
  .simp only[hx _ _ rfl]
 .rename_i t t' x;have hx:=h x zS;unfold NR De;generalize ev F x=y at*;cases y
  case tok=>simp only[hx _ _ rfl]
  case own s n xs=>cases n<;>cases xs<;>rfl
  all_goals rfl
 .rename_i t x lo hi mx;have hx:=h x zS;unfold LK;generalize ev F x=y at*;cases y<;>try rfl
  simp only[hx _ _ rfl]
 .rename_i x;have hx:=h x zS;unfold J1;generalize ev F x=y at*;cases y<;>try rfl
  simp only[hx _ _ rfl]
end
def G3 (ops:Array Oper) (F:Fr) (o:Oper):Option Bool:=
 match o.guard with
 |none=>some true
 |some (j,want)=>match (ops[j]?).bind (·.dst) with
  |some d=>match F d with
   | .bool b=>some (b==want)
   | .tup []=>some false
   |_=>none
  |none=>none
def CE (T:Nat->Option TI) (call:D9) (ops:Array Oper) (sl:Nat->Nat) (i:Nat) (F:Fr) (M:List Ag) (K:Fr->List Ag->Prop):Prop:=
 match ops[i]? with
 |none=>K F M
 |some o=>match G3 ops F o with
  |some true=>Dv T call o (sl i) F M K
  |some false=>K (AB F o.dst (.tup [])) M
  |none=>False
def CI (T:Nat->Option TI) (call:D9) (ops:Array Oper) (sl:Nat->Nat):List Nat->Fr->List Ag->(Fr->List Ag->Prop)->Prop
 | [],F,M,K=>K F M
 |i::rest,F,M,K=>CE T call ops sl i F M λF' M' =>CI T call ops sl rest F' M' K
def Ai (P:Program) (L:Bool):D9:=λf args M K=>∃cargs Q,Ac P f cargs [] Q/\(L=false->∀r r',Q r []->Q r' []->r=r')/\
 ((L=true/\(∃D,args.map (vw (By M D))=cargs)/\∀r,Q r []->EP r=true/\K (EQ M.length r).1 (M++(EQ M.length r).2))\/(args.map P2=cargs/\∀r,Q r []->K (EQ M.length r).1 (M++(EQ M.length r).2)))
theorem Ai.at {P:Program} {L:Bool} {C:BF} (hC:C.P=P) {f:Nat} {args:List AV} {M:List Ag} {K:AV->List Ag->Prop} (h:Ai P L f args M K):Cd C f args M K:=by
 obtain⟨cargs,Q,spec,hu,h⟩:=h;rcases h with⟨_,⟨D,h1⟩,h2⟩ | ⟨h1,h2⟩
 .exact ud D spec h1 h2 C hC
 .exact Ad.ro spec h1 h2 C hC
theorem Ai.mono {P:Program} {L:Bool} {f:Nat} {args:List AV} {M:List Ag} {K K' :AV->List Ag->Prop} (hk:∀r bs,K r (M++bs)->K' r (M++bs)) (h:Ai P L f args M K):Ai P L f args M K' :=by
 obtain⟨cargs,Q,spec,hu,h⟩:=h;rcases h with⟨hL,h1,h2⟩ | ⟨h1,h2⟩
 .exact⟨cargs,Q,spec,hu,.inl ⟨hL,h1,λr hr=>⟨(h2 r hr).1,hk _ _ (h2 r hr).2⟩⟩⟩
 .exact⟨cargs,Q,spec,hu,.inr ⟨h1,λr hr=>hk _ _ (h2 r hr)⟩⟩
theorem Ai.mem {P:Program} {f:Nat} {args:List AV} {M M' :List Ag} {K K' :AV->List Ag->Prop} (hl:M'.length=M.length) (hk:∀r bs,K r (M++bs)->K' r (M' ++bs)) (h:Ai P false f args M K):Ai P false f args M' K' :=by
 obtain⟨cargs,Q,spec,hu,h⟩:=h;rcases h with⟨hL,_⟩ | ⟨h1,h2⟩
 .simp at hL
 .exact⟨cargs,Q,spec,hu,.inr ⟨h1,λr hr=>by rw[hl];exact hk _ _ (h2 r hr)⟩⟩
theorem P3 {M M' :List Ag} (h:∀T v,Ah M T v=Ah M' T v):∀(d:Nat) (x:AV),CV M d x=CV M' d x
 |0,x=>by simp only[CV]
 |d+1,x=>by
  have e:CV M d=CV M' d:=funext λy=>P3 h d y;cases x<;>simp only[CV,h,e]
theorem X8 {M M' :List Ag} (h:∀T v,Ah M T v=Ah M' T v):vw M=vw M' :=by
 have e:CV M 3=CV M' 3:=funext λy=>P3 h 3 y;funext x;unfold vw;rw[e]
theorem PB (M:List Ag):∀D,(By M D).length=M.length
 | []=>rfl
 |T::D=>by simp[By,PB M D]
theorem T1 {M:List Ag} {s T:Nat} (z:Ag) (h:s≠T):∀D,(By (M.set s z) D)[T]?=(By M D)[T]?
 | []=>by simp only[By];rw[uN h]
 |U::D=>by
  simp only[By];by_cases e:U=T
  .subst e;rw[wl,wl];simp[PB]
  .rw[uN e,uN e,T1 z h D]
theorem NU {M:List Ag} {s:Nat} (h:M[s]?=some .free):∀D,(By M D)[s]?=some .free\/(By M D)[s]?=some .dead
 | []=> .inl h
 |U::D=>by
  simp only[By];by_cases e:U=s
  .subst e;rcases NU h D with g|g
   .right;have:=(wv.1 g).1;rw[uO this]
   .right;have:=(wv.1 g).1;rw[uO this]
  .rw[uN e];exact NU h D
theorem dF {M:List Ag} {s:Nat} {z:Ag} (h:M[s]?=some .free) (D:List Nat):vw (By (M.set s z) (s::D))=vw (By M D):=by
 refine X8 λT v=>?_;have hs:=(wv.1 h).1;by_cases e:s=T
 .subst e;have h1:(By (M.set s z) (s::D))[s]?=some .dead:=by
   simp only[By];rw[uO (by rw[PB];simpa using hs)]
  rcases NU h D with g|g<;>simp only[Ah,h1,g]
 .have h1:(By (M.set s z) (s::D))[T]?=(By M D)[T]?:=by
   simp only[By];rw[uN e,T1 z e D]
  simp only[Ah,h1]
theorem Ai.up {P:Program} {L:Bool} {f:Nat} {args:List AV} {M:List Ag} {s:Nat} {z:Ag} {K K' :AV->List Ag->Prop} (hf:M[s]?=some .free) (hk:∀r bs,K r (M++bs)->K' r (M.set s z++bs)) (h:Ai P L f args M K):Ai P L f args (M.set s z) K' :=by
 obtain⟨cargs,Q,spec,hu,h⟩:=h;have hl:(M.set s z).length=M.length:=zS;rcases h with⟨hL,⟨D,h1⟩,h2⟩ | ⟨h1,h2⟩
 .exact⟨cargs,Q,spec,hu,.inl ⟨hL,⟨s::D,by rw[dF hf];exact h1⟩,λr hr=>⟨(h2 r hr).1,by rw[hl];exact hk _ _ (h2 r hr).2⟩⟩⟩
 .exact⟨cargs,Q,spec,hu,.inr ⟨h1,λr hr=>by rw[hl];exact hk _ _ (h2 r hr)⟩⟩
def Ds (P:Program) (n:Nat) (F:Fr) (M:List Ag):Prop:=∃(C:BF) (a:Act) (w:World),C.P=P/\C.n=n/\Cu C F M a w
def fV (ops:Array Oper) (o:Oper):List Nat:=
 (o.op.operands.toList.filterMap λ| .tmp t=>some t|_=>none)++(match o.guard with|some (g,_)=>((ops[g]?).bind (·.dst)).toList|none=> [])
def mZ (ops:Array Oper) (x y:Oper):Bool:=x.apart ops y
def T2 (ops:Array Oper):Bool:=ops.toList.all λo=>decide (AR o.op≠3)
def J3 (L:Bool) (ops:Array Oper):Bool:=T2 ops||!L
def Fp (L:Bool) (ops:Array Oper) (x y:Oper):Bool:=x.apart ops y&&(match AR x.op,AR y.op with
 |3,c=>decide (c<=2)
 |4,c=>decide (c<=1)
 |5,c=>decide (c=0) || (J3 L ops&&decide (c<=2))
 |c,3=>decide (c<=2)&&(!L||!Bh x.op)
 |c,4=>decide (c<=1)
 |c,5=>decide (c=0)
 |c,c' =>decide (c<=2)&&decide (c' <=2))
section
variable {T:Nat->Option TI} {call:D9} {ops:Array Oper} {sl:Nat->Nat} {F:Fr} {M:List Ag} {K:Fr->List Ag->Prop} {o oi oj:Oper}
def D8 (T:Nat->Option TI) (ops:Array Oper) (o:Oper) (s:Nat) (F:Fr) (M:List Ag) (v:AV) (b:Option Ag):Prop:=
 (G3 ops F o=some true/\Gk T o s F M v b)\/(G3 ops F o=some false/\v= .tup []/\b=none)
theorem D8.unique {s:Nat} {v v' :AV} {b b' :Option Ag} (h:D8 T ops o s F M v b) (h' :D8 T ops o s F M v' b'):v=v' /\b=b' :=by
 rcases h with⟨h1,h2⟩ | ⟨h1,h2,h3⟩<;>rcases h' with⟨g1,g2⟩ | ⟨g1,g2,g3⟩
 .exact Gk.unique h2 g2
 .rw[h1] at g1;simp at g1
 .rw[h1] at g1;simp at g1
 .exact⟨h2.trans g2.symm,h3.trans g3.symm⟩
theorem D3 {i:Nat} (ho:ops[i]?=some o) (hc:AR o.op<=2):CE T call ops sl i F M K↔∃v b,D8 T ops o (sl i) F M v b/\K (AB F o.dst v) (Cq M (sl i) b):=by
 unfold CE;simp only[ho];constructor
 .intro h;split at h
  .rename_i ha;obtain⟨v,b,hd,hk⟩:=(Ra hc).1 h;exact⟨v,b,.inl ⟨ha,hd⟩,hk⟩
  .rename_i ha;exact⟨.tup [],none,.inr ⟨ha,rfl,rfl⟩,h⟩
  .exact h.elim
 .rintro⟨v,b,hd,hk⟩;rcases hd with⟨ha,hd⟩ | ⟨ha,rfl,rfl⟩
  .simp only[ha];exact(Ra hc).2 ⟨v,b,hd,hk⟩
  .simp only[ha];exact hk
theorem Z3 {dst:Option Nat} {v:AV} {x:Operand} (h:∀d,dst=some d->x≠ .tmp d):ev (AB F dst v) x=ev F x:=by
 cases dst with
 |none=>rfl
 |some d=>cases x with
  |tmp t=>
   have:t≠d:=λe=>h d rfl (by rw[e]);simp[ev,AB,Bu,this]
  |_=>rfl
theorem E6 {d1 d2:Option Nat} {v1 v2:AV} (h:∀d,d1=some d->d2≠some d):AB (AB F d1 v1) d2 v2=AB (AB F d2 v2) d1 v1:=by
 cases d1 with
 |none=>rfl
 |some a=>cases d2 with
  |none=>rfl
  |some b=>
   have:a≠b:=λe=>h a rfl (by rw[e]);funext t;simp only[AB,Bu];by_cases h1:t=b
   .subst h1;simp[Ne.symm this]
   .simp[h1]
structure Ap (ops:Array Oper) (x y:Oper):Prop where
 xy:∀d,x.dst=some d->d ∉ y.looksAt ops
 dd:∀d,x.dst=some d->y.dst≠some d
 yx:∀d,y.dst=some d->d ∉ x.looksAt ops
theorem uq (h:oj.apart ops oi=true):Ap ops oj oi:=let h:=Oper.apart_spec h;⟨h.1,h.2.1,h.2.2⟩
theorem Ap.symm (h:Ap ops oj oi):Ap ops oi oj:=⟨h.yx,λd hd e=>h.dd d e hd,h.xy⟩
theorem X9 {d:Nat} {x:Operand} (hx:x∈o.op.operands) (h:d ∉ o.looksAt ops):x≠ .tmp d:=by
 rintro rfl;apply h;unfold Oper.looksAt;refine List.mem_append_left _ (List.mem_filterMap.2 ⟨.tmp d,by simpa using hx,rfl⟩)
theorem FK (h:Ap ops oj oi) {v:AV}:∀x∈oi.op.operands,ev (AB F oj.dst v) x=ev F x:=λx hx=>Z3 λd hd=>X9 hx (h.xy d hd)
theorem Dw (h:Ap ops oj oi) {v:AV}:G3 ops (AB F oj.dst v) oi=G3 ops F oi:=by
 unfold G3;split
 .rfl
 .rename_i j want hg;split
  .rename_i d hd;have:∀e,oj.dst=some e->d≠e:=λe he hde=>h.xy e he (by
    unfold Oper.looksAt;rw[hg];refine List.mem_append_right _ ?_;simp only[hd];subst hde;simp)
   have e1:AB F oj.dst v d=F d:=by
    cases hdst:oj.dst with
    |none=>rfl
    |some e=>simp[AB,Bu,this e hdst]
   rw[e1]
  .rfl
theorem V9 {F F' :Fr} {Ay:Array (Nat×Operand)} (h:∀p∈Ay.toList,ev F' p.2=ev F p.2):(Ay.toList.map λp=>(p.1,ev F' p.2))=Ay.toList.map λp=>(p.1,ev F p.2):=
 xf λp hp=>by rw[h p hp]
theorem Gk.up {s:Nat} {F' :Fr} {M' :List Ag} {v:AV} {b:Option Ag} (he:∀x∈o.op.operands,ev F' x=ev F x) (hM:pv T M' F' o=pv T M F o\/(∀B v cs,Ah M B v=some cs->Ah M' B v=some cs)) (hf:M[s]?=some .free->M'[s]?=some .free) (h:Gk T o s F M v b):Gk T o s F' M' v b:=by
 unfold Gk at h |-;split at h<;>(rename_i hop;try simp only[hop])
 .obtain⟨i,h1,h2,h3⟩:=h;exact⟨i,h1,hf h2,h3⟩
 .simp only[hop,Op.operands] at he;obtain⟨i,cs,h1,h2,h3,h4⟩:=h;exact⟨i,cs,h1,by rw[he _ zS];exact h2,hf h3,h4⟩
 .simp only[hop,Op.operands] at he;obtain⟨e,es,eb,ez,k,n,k',h1,h2,h3,h4,h5⟩:=h;exact⟨e,es,eb,ez,k,n,k',h1,by rw[he _ zS];exact h2,by rw[he _ zS];exact h3,hf h4,h5⟩
 .rename_i t len Ay;simp only[hop,Op.operands] at he;obtain⟨e,es,eb,ez,cs,h1,h2,h3,h4⟩:=h;refine⟨e,es,eb,ez,cs,h1,?_,hf h3,h4⟩;rw[V9 (F:=F) λp hp=>he p.2 (by simp only[List.mem_toArray,vH];exact⟨p,hp,rfl⟩)];exact h2
 .refine⟨h.1,?_⟩;rcases hM with hM|hM
  .rw[hM];exact h.2
  .rw[Fh he];exact UY hM h.2
end
theorem RC {M:List Ag} {s:Nat} (hf:M[s]?=some .free) (b:Ag) {B v:Nat} {cs:List AV} (h:Ah M B v=some cs):Ah (M.set s b) B v=some cs:=by
 have hne:B≠s:=λe=>by subst e;simp[Ah,hf] at h
 unfold Ah at h |-;rw[uN (Ne.symm hne)];exact h
theorem T3 {M bs:List Ag} {B v:Nat} {cs:List AV} (h:Ah M B v=some cs):Ah (M++bs) B v=some cs:=by
 unfold Ah at h |-;split at h
 .rename_i v' cs' hM;have hlt:B<M.length:=by
   rcases uY B M.length with h|h
   .exact h
   .simp[uR h] at hM
  rw[vk hlt,hM];exact h
 .simp at h
theorem I4 {M:List Ag} {B v:Nat} {cs cs' :List AV} (h:Ah M B v=some cs) (B' v' :Nat):(Ah (M.set B (.live v cs')) B' v').isSome=(Ah M B' v').isSome:=by
 have hM:=h;unfold Ah at hM;split at hM
 .rename_i u cs2 hB;split at hM
  .rename_i e;subst e;have hlt:B<M.length:=by
    rcases uY B M.length with h|h
    .exact h
    .simp[uR h] at hB
   by_cases e:B' =B
   .subst e;simp only[Ah,uO hlt,hB];split<;>rfl
   .simp only[Ah,uN (Ne.symm e)]
  .simp at hM
 .simp at hM
theorem F7 {M:List Ag} {B v:Nat} {cs:List AV} (h:Ah M B v=some cs):M[B]?=some (.live v cs):=by
 unfold Ah at h;split at h
 .rename_i v' cs' hM;split at h
  .rename_i e;subst e;simp at h;subst h;exact hM
  .simp at h
 .simp at h
section
variable {P:Program} {L:Bool} {T:Nat->Option TI} {ops:Array Oper} {sl:Nat->Nat} {F:Fr} {M:List Ag} {K:Fr->List Ag->Prop} {o oi oj:Oper}
theorem Gk.slot {s:Nat} {v:AV} {b:Option Ag} (h:Gk T o s F M v b):(b=none/\Bh o.op=false)\/(∃x,b=some x)/\Bh o.op=true/\M[s]?=some .free:=by
 unfold Gk at h;split at h
 .rename_i hop;obtain⟨i,_,h2,_,h3⟩:=h;exact .inr ⟨⟨_,h3⟩,by rw[hop];rfl,h2⟩
 .rename_i hop;obtain⟨i,cs,_,_,h2,_,h3⟩:=h;exact .inr ⟨⟨_,h3⟩,by rw[hop];rfl,h2⟩
 .rename_i hop;obtain⟨e,es,eb,ez,k,n,k',_,_,_,h2,_,_,_,_,h3⟩:=h;exact .inr ⟨⟨_,h3⟩,by rw[hop];rfl,h2⟩
 .rename_i hop;obtain⟨e,es,eb,ez,cs,_,_,h2,_,_,_,h3⟩:=h;exact .inr ⟨⟨_,h3⟩,by rw[hop];rfl,h2⟩
 .rename_i h1 h2 h3 h4;refine .inl ⟨h.1,?_⟩;cases hop:o.op<;>simp[Bh]<;>simp_all
theorem D8.slot {s:Nat} {v:AV} {b:Option Ag} (h:D8 T ops o s F M v b):b=none\/(∃x,b=some x)/\Bh o.op=true/\M[s]?=some .free:=by
 rcases h with⟨_,h⟩ | ⟨_,_,h⟩
 .rcases h.slot with h|h
  .exact .inl h.1
  .exact .inr h
 .exact .inl h
theorem D8.up {s:Nat} {F' :Fr} {M' :List Ag} {v:AV} {b:Option Ag} (ha:G3 ops F' o=G3 ops F o) (he:∀x∈o.op.operands,ev F' x=ev F x) (hM:pv T M' F' o=pv T M F o\/(∀B v cs,Ah M B v=some cs->Ah M' B v=some cs)) (hf:M[s]?=some .free->M'[s]?=some .free)
 (h:D8 T ops o s F M v b):D8 T ops o s F' M' v b:=by
 rcases h with⟨h1,h2⟩ | ⟨h1,h2,h3⟩
 .exact .inl ⟨by rw[ha];exact h1,h2.up he hM hf⟩
 .exact .inr ⟨by rw[ha];exact h1,h2,h3⟩
theorem Km {s:Nat} {b:Option Ag} (hb:b=none\/M[s]?=some .free) {B v:Nat} {cs:List AV} (h:Ah M B v=some cs):Ah (Cq M s b) B v=some cs:=by
 cases b with
 |none=>exact h
 |some x=>rcases hb with hb|hb
          .simp at hb
          .exact RC hb x h
theorem P4 {s s' :Nat} {b:Option Ag} (hb:b=none\/s≠s') (h:M[s']?=some .free):(Cq M s b)[s']?=some .free:=by
 cases b with
 |none=>exact h
 |some x=>rcases hb with hb|hb
          .simp at hb
          .simp only[Cq];rw[uN hb];exact h
theorem Wa {s s' :Nat} {b b' :Option Ag} (h:b=none\/b' =none\/s≠s'):Cq (Cq M s b) s' b' =Cq (Cq M s' b') s b:=by
 cases b with
 |none=>rfl
 |some x=>cases b' with
  |none=>rfl
  |some y=>simp at h;simp only[Cq];exact List.set_comm _ _ h
theorem J4 {s:Nat} {b:Option Ag}:(Cq M s b).length=M.length:=by cases b<;>simp[Cq]
theorem UZ {op:Op} (h:AR op=3):∃f args ts,op= .call ⟨.value f,args,ts⟩:=by
 unfold AR at h;split at h<;>first| (exact absurd h zD) |exact⟨_,_,_,rfl⟩
theorem RD {op:Op} (h:AR op=4):∃t x y,op= .store t x y:=by
 unfold AR at h;split at h<;>first| (exact absurd h zD) |exact⟨_,_,_,rfl⟩
theorem PC {op:Op} (h:AR op=5):∃args ts,op= .call ⟨.builtin .append,args,ts⟩:=by
 unfold AR at h;split at h<;>first| (exact absurd h zD) |exact⟨_,_,rfl⟩
theorem dG {sj si:Nat} {v:AV} {b:Option Ag} {Kj Kj' :Fr->List Ag->Prop} (hap:Ap ops oj oi) (hc:(AR oj.op=3/\True)\/(AR oj.op=4/\AR oi.op<=1)\/(AR oj.op=5/\AR oi.op=0)) (hd:D8 T ops oi si F M v b)
 (hk:∀F1 M1,D8 T ops oi si F1 M1 v b->Kj F1 M1->Kj' (AB F1 oi.dst v) (Cq M1 si b)) (h:Dv T (Ai P L) oj sj F M Kj):Dv T (Ai P L) oj sj (AB F oi.dst v) (Cq M si b) Kj' :=by
 have hev:∀x∈oj.op.operands,ev (AB F oi.dst v) x=ev F x:=FK hap.symm;have hevi:∀u,∀x∈oi.op.operands,ev (AB F oj.dst u) x=ev F x:=λu=>FK hap;have hcomm:∀u,AB (AB F oi.dst v) oj.dst u=AB (AB F oj.dst u) oi.dst v:=λu=>(E6 hap.dd).symm;have hslot:=hd.slot;have hsh:(∃f args ts,oj.op= .call ⟨.value f,args,ts⟩)\/(∃t x y,oj.op= .store t x y)\/(∃args ts,oj.op= .call ⟨.builtin .append,args,ts⟩):=by
  rcases hc with⟨e,_⟩ | ⟨e,_⟩ | ⟨e,_⟩
  .exact .inl (UZ e)
  .exact .inr (.inl (RD e))
  .exact .inr (.inr (PC e))
 unfold Dv at h |-;split at h<;>(rename_i hop)<;>(try (exfalso;rcases hc with⟨e,_⟩ | ⟨e,_⟩ | ⟨e,_⟩<;>(rw[hop] at e;simp[AR] at e);done))
 .
  rename_i t x y;simp only[hop,Op.operands] at hev;have hci:AR oi.op<=1:=by
   rcases hc with⟨e,_⟩ | ⟨_,h⟩ | ⟨e,_⟩
   .simp[hop,AR] at e
   .exact h
   .simp[hop,AR] at e
  simp only[hev x zS,hev y zS];unfold Ht Lx Hl at h |-;split at h
  .rename_i i hi;split at h
   .rename_i B u off hx;split at h
    .rename_i cs hcs;have hcs' :=Km (s:=si) (b:=b) (hslot.imp id λh=>h.2.2) hcs;simp only[hi,hcs'];split at h
     .rename_i xs hxs;refine⟨h.1,?_⟩;have h2:=hk _ _ ?_ h.2
      .rw[hcomm];have:(Cq M si b).set B (.live u (Bt cs off xs))=Cq (M.set B (.live u (Bt cs off xs))) si b:=by
        cases b with
        |none=>rfl
        |some z=>
         simp only[Cq];refine List.set_comm _ _ λe=>?_;rcases hslot with h5|h5
         .simp at h5
         .have:=F7 hcs;rw[<-e,h5.2.2] at this;simp at this
       rw[this];exact h2
      .refine hd.up (Dw hap) (hevi _) (.inl ?_) (λhf=>?_)
       .rw[Fh (hevi _)];exact UX hci (λB' v' =>I4 hcs B' v')
       .rw[uN]
        .exact hf
        .intro e;have:=F7 hcs;rw[e,hf] at this;simp at this
     .exact h.elim
    .exact h.elim
   .exact h.elim
  .exact h.elim
 .
  rename_i args ts;have hci:AR oi.op=0:=by
   rcases hc with⟨e,_⟩ | ⟨e,_⟩ | ⟨_,h⟩
   .simp[hop,AR] at e
   .simp[hop,AR] at e
   .exact h
  split at h
  .rename_i x y t t' hx ht;have hxm:x∈args:=by rw[<-wq,hx];simp
   have hym:y∈args:=by rw[<-wq,hx];simp
   simp only[hop] at hev;simp only[hev x (by simp[Op.operands,Call.operands,hxm]),hev y (by simp[Op.operands,Call.operands,hym])];cases hq:Ia T t t' (ev F y) with
   |none=>rw[hq] at h;exact h.elim
   |some pq=>
   obtain⟨y',pl⟩:=pq;rw[hq] at h;unfold Hz at h |-;simp only at h |-;unfold Jw Hl Hy at h |-;split at h
   .rename_i e es eb ez B u s' off n htd hxe;split at h
    .rename_i cs hcs;have hcs' :=Km (s:=si) (b:=b) (hslot.imp id λh=>h.2.2) hcs;simp only[hcs'];split at h
     .rename_i p hp;have hp' :De (Cq M si b) y' =some p:=by
       unfold De at hp |-;split at hp
       .exact hp
       .exact hp
       .split at hp
        .rename_i c hc2;simp only[Km (s:=si) (b:=b) (hslot.imp id λh=>h.2.2) hc2];exact hp
        .simp at hp
       .simp at hp
      simp only[hp'];obtain⟨h1,h2,h3,h4,h5,h6,h7,h8,h⟩:=h;refine⟨h1,h2,h3,h4,h5,h6,h7,h8,?_⟩;have h9:=hk _ _ ?_ h
      .rw[hcomm];have:(Cq M si b).set B (.live (u+1) (cs++p.2))=Cq (M.set B (.live (u+1) (cs++p.2))) si b:=by
        cases b with
        |none=>rfl
        |some z=>
         simp only[Cq];refine List.set_comm _ _ λe=>?_;rcases hslot with h5|h5
         .simp at h5
         .have:=F7 hcs;rw[<-e,h5.2.2] at this;simp at this
       rw[this];exact h9
      .refine hd.up (Dw hap) (hevi _) (.inl ?_) (λhf=>?_)
       .rw[Fh (hevi _)];exact UW hci
       .rw[uN]
        .exact hf
        .intro e;have:=F7 hcs;rw[e,hf] at this;simp at this
     .exact h.elim
    .exact h.elim
   .exact h.elim
  .exact h.elim
 .
  rename_i f args ts;simp only[hop] at hev;rw[hev f (by simp[Op.operands,Call.operands]),LT (F:=F) λx hx=>hev x (by simp[Op.operands,Call.operands,hx])];have key:∀(u:AV) (bs:List Ag),Kj (AB F oj.dst u) (M++bs)->Kj' (AB (AB F oi.dst v) oj.dst u) (Cq M si b++bs):=by
   intro u bs h;have h2:=hk _ _ ?_ h
   .rw[hcomm];have:Cq M si b++bs=Cq (M++bs) si b:=by
     cases b with
     |none=>rfl
     |some z=>
      rcases hslot with h5|h5
      .simp at h5
      .simp only[Cq];rw[List.set_append_left];rcases uY si M.length with h|h
       .exact h
       .have:=h5.2.2;simp[uR h] at this
    rw[this];exact h2
   .refine hd.up (Dw hap) (hevi _) (.inr λB v cs h=>T3 h) (λhf=>?_);have hlt:si<M.length:=by
     rcases uY si M.length with h|h
     .exact h
     .simp[uR h] at hf
    rw[vk hlt];exact hf
  unfold Ly at h |-;split at h
  .rcases hslot with hbn|hbs
   .subst hbn;exact Ai.mono (λr bs h=>key r bs h) h
   .obtain⟨⟨z,rfl⟩,_,hfree⟩:=hbs;exact Ai.up hfree (λr bs h=>key r bs h) h
  .exact h.elim
 .
  exfalso;rcases hsh with⟨f,args,ts,e⟩ | ⟨t,x,y,e⟩ | ⟨args,ts,e⟩<;>simp_all
end
theorem Ya {C:BF} {P:Program} {o:Oper} {a:Act} {w:World} (h:o.wpIn (FX C) 0 P a w (λ_ _=>False) (λ_ _ _=>False)):False:=by
 have h:=h.2;have hroom:∀n,(FX C).room n:=λn d hd=>by simp[FX,Fence.wide] at hd
 generalize (o.semAt (FX C).round a.eval).run P w=r at h;cases r with
 |ok n w' =>
  cases n<;>simp only[Oper.uponIn] at h
  .obtain⟨e,w',fr,h,_⟩:=h.2.2 [] (hroom _);cases e
   .exact h
   .exact h
   .obtain⟨_,_,h⟩:=h;exact h
  .obtain⟨e,w',h,_⟩:=h.2.2 default [] (hroom _);cases e
   .exact h
   .exact h
   .obtain⟨_,_,h⟩:=h;exact h
  .rename_i row args;obtain⟨_,_,h,_⟩:=h.2 (Frame.ofRow P row args .normal) [] (hroom _);exact h
 |halt x w' =>cases x<;>simp only[Oper.uponIn] at h
section
variable {P:Program} {L:Bool} {n:Nat} {T:Nat->Option TI} {ops:Array Oper} {sl:Nat->Nat} {F:Fr} {M:List Ag} {K:Fr->List Ag->Prop} {o oi oj:Oper}
theorem RE (tk:BQ P T) (hb:Bx n o=true) {s:Nat} (h:Dv T (Ai P L) o s F M K) (I:Ds P n F M):∃F' M',K F' M' /\Ds P n F' M' :=by
 obtain⟨C,a,w,rfl,rfl,σ,own,R⟩:=I;apply vv;intro hno;refine Ya (I2 tk hb (Fg (call' :=Cd C) (λf args M K K' hk hc=>?_) (λ_ _ h=>h) h) R (next:=λ_ _=>False) (Q:=λ_ _ _=>False) λF' M' a' w' hk r=>hno ⟨F',M',hk,C,a',w',rfl,rfl,r⟩);exact(Ai.at rfl hc).mono hk
theorem Ds.undef (I:Ds P n F M) (d:Option Nat):Ds P n (AB F d (.tup [])) M:=by
 obtain⟨C,a,w,h1,h2,σ,own,R⟩:=I;exact⟨C,a.put d Go.undef,w,h1,h2,σ,own,R.put d ⟨#[],rfl,rfl,λ_=>rfl⟩⟩
theorem Ds.name (I:Ds P n F M) {x:Operand} (hx:FH n x=true) {B v:Nat} (h:ER (ev F x)=some (B,v)):B<M.length/\M[B]?≠some .free:=by
 obtain⟨C,a,w,rfl,rfl,σ,own,R⟩:=I;have key:∀st,σ B v=some st->B<M.length/\M[B]?≠some .free:=by
  intro st hst;refine⟨?_,λhf=>?_⟩
  .rcases uY B M.length with h|h
   .exact h
   .rw[R.mem.key B v h] at hst;simp at hst
  .obtain⟨fp,hb,_⟩:=R.mem.blk _ _ hf;rw[hb.1] at hst;simp at hst
 cases x with
 |tmp t=>
  have ht:t<C.n:=by simpa[FH] using hx
  have hv:=R.tmp t ht;simp only[ev] at h;cases hF:F t<;>rw[hF] at h hv<;>simp[ER] at h
  .obtain⟨rfl,rfl⟩:=h;obtain⟨_,_,st,hst,_⟩:=hv;exact key st hst
  .obtain⟨rfl,rfl⟩:=h;obtain⟨_,_,st,hst,_⟩:=hv;exact key st hst
 |const c=>exfalso;simp only[ev] at h;unfold TO at h;split at h<;>simp[ER] at h
 |global g=>simp[ev,ER] at h
 |func f=>simp[ev,ER] at h
theorem Ds.nameV (I:Ds P n F M) {x:Operand} (hx:FH n x=true) {B v:Nat} (h:ER (ev F x)=some (B,v)) {u:Nat} {cs:List AV} (hM:M[B]?=some (.live u cs)):v<=u:=by
 obtain⟨C,a,w,rfl,rfl,σ,own,R⟩:=I;have key:∀st,σ B v=some st->v<=u:=by
  intro st hst;obtain⟨fp,hb,_⟩:=R.mem.blk _ _ hM;rcases uY u v with h|h
  .rw[hb.1 v h] at hst;simp at hst
  .exact h
 cases x with
 |tmp t=>
  have ht:t<C.n:=by simpa[FH] using hx
  have hv:=R.tmp t ht;simp only[ev] at h;cases hF:F t<;>rw[hF] at h hv<;>simp[ER] at h
  .obtain⟨rfl,rfl⟩:=h;obtain⟨_,_,st,hst,_⟩:=hv;exact key st hst
  .obtain⟨rfl,rfl⟩:=h;obtain⟨_,_,st,hst,_⟩:=hv;exact key st hst
 |const c=>exfalso;simp only[ev] at h;unfold TO at h;split at h<;>simp[ER] at h
 |global g=>simp[ev,ER] at h
 |func f=>simp[ev,ER] at h
theorem JC {op:Op} (h:Bh op=true):AR op=0:=by
 unfold Bh at h;split at h<;>first|rfl|simp at h
def MS (o:Oper) (s:Nat) (M M' :List Ag):Prop:=
 (∃b,M' =Cq M s b/\(b=none\/M[s]?=some .free/\(∃v xs,b=some (.live v xs)))/\AR o.op<=2)\/(∃bs,M' =M++bs/\AR o.op=3)\/
 (∃B u cs cs',Ah M B u=some cs/\M' =M.set B (.live u cs')/\AR o.op=4)\/(∃B u cs cs',Ah M B u=some cs/\M' =M.set B (.live (u+1) cs')/\AR o.op=5)
theorem Gk.live {s:Nat} {v:AV} {b:Option Ag} (h:Gk T o s F M v b):b=none\/M[s]?=some .free/\∃v xs,b=some (.live v xs):=by
 unfold Gk at h;split at h
 .obtain⟨i,_,h2,_,h3⟩:=h;exact .inr ⟨h2,_,_,h3⟩
 .obtain⟨i,cs,_,_,h2,_,h3⟩:=h;exact .inr ⟨h2,_,_,h3⟩
 .obtain⟨e,es,eb,ez,k,n,k',_,_,_,h2,_,_,_,_,h3⟩:=h;exact .inr ⟨h2,_,_,h3⟩
 .obtain⟨e,es,eb,ez,cs,_,_,h2,_,_,_,h3⟩:=h;exact .inr ⟨h2,_,_,h3⟩
 .exact .inl h.1
theorem LU {s:Nat} (hc:AR o.op<=5) (h:Dv T (Ai P L) o s F M K):Dv T (Ai P L) o s F M λF' M' =>K F' M' /\(∃v,F' =AB F o.dst v)/\MS o s M M' :=by
 by_cases h2:AR o.op<=2
 .obtain⟨v,b,hd,hk⟩:=(Ra h2).1 h;exact(Ra h2).2 ⟨v,b,hd,hk,⟨v,rfl⟩,.inl ⟨b,rfl,hd.live,h2⟩⟩
 .have h3:AR o.op=3\/AR o.op=4\/AR o.op=5:=zO;rcases h3 with h3|h3|h3
  .obtain⟨f,args,ts,hop⟩:=UZ h3;unfold Dv at h |-;simp only[hop] at h |-;unfold Ly at h |-;split at h
   .exact Ai.mono (λr bs hk=>⟨hk,zX,.inr (.inl ⟨bs,rfl,h3⟩)⟩) h
   .exact h.elim
  .obtain⟨t,x,y,hop⟩:=RD h3;unfold Dv at h |-;simp only[hop] at h |-;unfold Ht Lx Hl at h |-;split at h
   .split at h
    .split at h
     .rename_i hcs;split at h
      .rename_i hxs;simp only[hxs];exact⟨h.1,h.2,zX,.inr (.inr (.inl ⟨_,_,_,_,hcs,rfl,h3⟩))⟩
      .exact h.elim
     .exact h.elim
    .exact h.elim
   .exact h.elim
  .obtain⟨args,ts,hop⟩:=PC h3;unfold Dv at h |-;simp only[hop] at h |-;split at h
   .rename_i x y t t' hx ht;cases hq:Ia T t t' (ev F y) with
    |none=>rw[hq] at h;exact h.elim
    |some pq=>
    obtain⟨y',pl⟩:=pq;rw[hq] at h;unfold Hz at h |-;simp only at h |-;unfold Jw Hl Hy at h |-;split at h
    .split at h
     .rename_i hcs;split at h
      .obtain⟨g1,g2,g3,g4,g5,g6,g7,g8,g⟩:=h;exact⟨g1,g2,g3,g4,g5,g6,g7,g8,g,zX,.inr (.inr (.inr ⟨_,_,_,_,hcs,rfl,h3⟩))⟩
      .exact h.elim
     .exact h.elim
    .exact h.elim
   .exact h.elim
theorem Hk (tk:BQ P T) {i:Nat} (ho:ops[i]?=some oi) (hb:Bx n oi=true) (hc:AR oi.op<=5) (h:CE T (Ai P L) ops sl i F M K) (I:Ds P n F M):
 ∃F' M',K F' M' /\(∃v,F' =AB F oi.dst v)/\(MS oi (sl i) M M' \/M' =M)/\Ds P n F' M' :=by
 unfold CE at h;simp only[ho] at h;split at h
 .obtain⟨F',M',⟨h1,h2,h3⟩,h4⟩:=RE tk hb (LU hc h) I;exact⟨F',M',h1,h2,.inl h3,h4⟩
 .exact⟨_,M,h,zX,.inr rfl,I.undef _⟩
 .exact h.elim
theorem E7 (h:Fp L ops oi oj=true):Ap ops oi oj/\
 ((AR oi.op<=2/\AR oj.op<=2)\/(AR oi.op=3/\AR oj.op<=2/\True)\/(AR oi.op=4/\AR oj.op<=1)\/(AR oi.op=5/\(AR oj.op=0\/J3 L ops=true/\AR oj.op<=2))\/
  (AR oj.op=3/\AR oi.op<=2/\(L=false\/Bh oi.op=false))\/(AR oj.op=4/\AR oi.op<=1)\/(AR oj.op=5/\AR oi.op=0)):=by
 simp only[Fp,uU] at h;refine⟨uq h.1,?_⟩;have h2:=h.2;generalize AR oi.op=p,AR oj.op=q at h2 |-;split at h2
 .simp at h2;exact .inr (.inl ⟨rfl,h2,trivial⟩)
 .simp at h2;exact .inr (.inr (.inl ⟨rfl,h2⟩))
 .simp at h2;exact .inr (.inr (.inr (.inl ⟨rfl,h2⟩)))
 .simp at h2;exact .inr (.inr (.inr (.inr (.inl ⟨rfl,h2⟩))))
 .simp at h2;exact .inr (.inr (.inr (.inr (.inr (.inl ⟨rfl,h2⟩)))))
 .simp at h2;exact .inr (.inr (.inr (.inr (.inr (.inr ⟨rfl,h2⟩)))))
 .simp at h2;exact .inl h2
theorem tQ {s:Nat} {M M' :List Ag} (h:MS o s M M' \/M' =M):M.length<=M'.length:=by
 rcases h with(⟨b,rfl,_⟩ | ⟨bs,rfl,_⟩ | ⟨B,u,cs,cs',_,rfl,_⟩ | ⟨B,u,cs,cs',_,rfl,_⟩) |rfl<;>simp[J4]
theorem D8.dn {si sj:Nat} {vi:AV} {M' :List Ag} {v:AV} {b:Option Ag} (hc:Fp L ops oi oj=true) (hcj:AR oj.op<=2) (hbj:Bx n oj=true) (hsj:Bh oj.op=true->sj<M.length) (I:Ds P n F M) (hM:MS oi si M M' \/M' =M)
 (h:D8 T ops oj sj (AB F oi.dst vi) M' v b):D8 T ops oj sj F M v b:=by
 obtain⟨hap,hcc⟩:=E7 hc;have hev:∀x∈oj.op.operands,ev F x=ev (AB F oi.dst vi) x:=λx hx=>(FK hap x hx).symm;have hev' :∀x∈oj.op.operands,ev (AB F oi.dst vi) x=ev F x:=λx hx=>(FK hap x hx);have hopn:∀x∈oj.op.operands,FH n x=true:=by
  simp only[Bx,uU] at hbj;intro x hx;exact wc.1 hbj.1 x hx
 have hnm:∀x∈oj.op.operands,∀B v,ER (ev F x)=some (B,v)->B<M.length/\M[B]?≠some .free:=λx hx B v ht=>I.name (hopn x hx) ht;have hslot:=h.slot;have fin:(pv T M F oj=pv T M' F oj)->(M'[sj]?=some .free->sj<M.length->M[sj]?=some .free)->D8 T ops oj sj F M v b:=λh1 h2=>by
  rcases hslot with rfl|hs
  .rcases h with⟨g1,g2⟩ | ⟨g1,g2,g3⟩
   .refine .inl ⟨by rw[<-g1];exact(Dw hap).symm,?_⟩;have hnb:Bh oj.op=false:=by
     rcases g2.slot with h| ⟨⟨x,h⟩,_⟩
     .exact h.2
     .simp at h
    unfold Gk at g2 |-;split at g2<;>(rename_i hop;try (simp[hop,Bh] at hnb;done))<;>try (simp only[hop])
    exact⟨zS,by rw[h1,Fh hev];exact g2.2⟩
   .exact .inr ⟨by rw[<-g1];exact(Dw hap).symm,g2,g3⟩
  .exact h.up (Dw hap).symm hev (.inl (by rw[h1,Fh hev])) (λhf=>h2 hf (hsj hs.2.1))
 rcases hM with(⟨bi,rfl,hbi,hci⟩ | ⟨bs,rfl,hci⟩ | ⟨B,u,cs,cs',hcs,rfl,hci⟩ | ⟨B,u,cs,cs',hcs,rfl,hci⟩) |rfl
 .refine fin ?_ ?_
  .refine Rb λx hx B u ht=>?_;obtain⟨_,hnf⟩:=hnm x hx B u ht;cases bi with
   |none=>rfl
   |some z=>
    have:M[si]?=some .free:=by
     rcases hbi with h|h
     .simp at h
     .exact h.1
    have hne:si≠B:=λe=>hnf (e ▸ this);simp only[Cq,Ah,uN hne]
  .intro hf _;rcases hbi with rfl| ⟨hfi,u,xs,rfl⟩
   .exact hf
   .simp only[Cq] at hf;by_cases e:si=sj
    .rw[<-e];exact hfi
    .rw[uN e] at hf;exact hf
 .refine fin ?_ ?_
  .refine Rb λx hx B u ht=>?_;obtain⟨hlt,_⟩:=hnm x hx B u ht;simp only[Ah,vk hlt]
  .intro hf hlt;rw[vk hlt] at hf;exact hf
 .have hcj1:AR oj.op<=1:=by rcases hcc with h|h|h|h|h|h|h<;>omega
  refine fin ?_ ?_
  .exact UX hcj1 λB' v' =>(I4 hcs B' v').symm
  .intro hf _;by_cases e:B=sj
   .rw[e] at hf hcs;have:=F7 hcs;have hlt:sj<M.length:=by
     rcases uY sj M.length with h|h
     .exact h
     .simp[uR h] at this
    simp[uO hlt] at hf
   .rw[uN e] at hf;exact hf
 .by_cases hcj0:AR oj.op≠0
  .rcases h with⟨g1,g2⟩ | ⟨g1,g2,g3⟩
   .refine .inl ⟨by rw[<-g1];exact(Dw hap).symm,?_⟩;have hnb:Bh oj.op=false:=by
     cases e:Bh oj.op with
     |false=>rfl
     |true=>exact absurd (JC e) hcj0
    have hpv:∀r,pv T (M.set B (.live (u+1) cs')) (AB F oi.dst vi) oj=some r->pv T M F oj=some r:=by
     intro r hr;rw[Fh hev'] at hr;have hMB:=F7 hcs;have hlt:B<M.length:=by
      rcases uY B M.length with h|h
      .exact h
      .simp[uR h] at hMB
     have e1:pv T (M.set B .dead) F oj=pv T (M.set B (.live (u+1) cs')) F oj:=by
      refine Rb λx hx B' v' ht=>?_;by_cases e:B=B'
      .subst e;have:=I.nameV (hopn x hx) ht hMB;have hne:¬v' =u+1:=zO;simp[Ah,uO hlt,hne]
      .simp only[Ah,uN e]
     rw[<-e1] at hr;refine UY (λB' v' c hc=>?_) hr;by_cases e:B=B'
     .subst e;simp[Ah,uO hlt] at hc
     .simpa only[Ah,uN e] using hc
    unfold Gk at g2 |-;split at g2<;>(rename_i hop;try (simp[hop,Bh] at hnb;done))<;>try (simp only[hop])
    exact⟨g2.1,hpv _ g2.2⟩
   .exact .inr ⟨by rw[<-g1];exact(Dw hap).symm,g2,g3⟩
  have hcj0:AR oj.op=0:=by simpa using hcj0
  refine fin ?_ ?_
  .exact UW hcj0
  .intro hf _;by_cases e:B=sj
   .rw[e] at hf hcs;have:=F7 hcs;have hlt:sj<M.length:=by
     rcases uY sj M.length with h|h
     .exact h
     .simp[uR h] at this
    simp[uO hlt] at hf
   .rw[uN e] at hf;exact hf
 .exact fin rfl λh _=>h
theorem U0 (tk:BQ P T) (hops:∀(k:Nat) (o:Oper),ops[k]?=some o->Bx n o=true) {j:Nat} (hj:ops[j]?=some oj) (hcj:AR oj.op<=2) {post:List Nat}:∀(pre:List Nat) (F:Fr) (M:List Ag),(∀i∈pre,∀oi,ops[i]?=some oi->Fp L ops oi oj=true)->
 (Bh oj.op=true->sl j<M.length)->Ds P n F M->CI T (Ai P L) ops sl (pre++j::post) F M K->∃v b,D8 T ops oj (sl j) F M v b
 | [],F,M,_,_,_,h=>by
   obtain⟨v,b,hd,_⟩:=(D3 hj hcj).1 h;exact⟨v,b,hd⟩
 |i::pre,F,M,hc,hl,I,h=>by
  simp only[vF,CI] at h;cases hi:ops[i]? with
  |none=>
   unfold CE at h;rw[hi] at h;exact U0 tk hops hj hcj pre F M (λk hk=>hc k (by simp[hk])) hl I h
  |some oi=>
   have hcm:=hc i zS oi hi;have hci:AR oi.op<=5:=by rcases(E7 hcm).2 with h|h|h|h|h|h|h<;>omega
   obtain⟨F',M',h1,⟨vi,rfl⟩,hM,I'⟩:=Hk tk hi (hops i oi hi) hci h I;obtain⟨v,b,hd⟩:=U0 tk hops hj hcj pre _ M' (λk hk=>hc k (by simp[hk])) (λha=>xw (hl ha) (tQ hM)) I' h1;exact⟨v,b,hd.dn hcm hcj (hops j oj hj) hl I hM⟩
end
section
variable {P:Program} {L:Bool} {n:Nat} {T:Nat->Option TI} {ops:Array Oper} {sl:Nat->Nat} {F:Fr} {M:List Ag} {K:Fr->List Ag->Prop} {o oi oj:Oper}
theorem D8.up' {s:Nat} {F' :Fr} {M' :List Ag} {v:AV} {b:Option Ag} (ha:G3 ops F' o=G3 ops F o) (he:∀x∈o.op.operands,ev F' x=ev F x) (hM:pv T M' F' o=pv T M F o\/(∀B v cs,Ah M B v=some cs->Ah M' B v=some cs)) (hf:b≠none->M[s]?=some .free->M'[s]?=some .free)
 (h:D8 T ops o s F M v b):D8 T ops o s F' M' v b:=by
 cases b with
 |some x=>exact h.up ha he hM (hf zS)
 |none=>
  rcases h with⟨g1,g2⟩ | ⟨g1,g2,g3⟩
  .refine .inl ⟨by rw[ha];exact g1,?_⟩;have hnb:Bh o.op=false:=by
    rcases g2.slot with h| ⟨⟨x,h⟩,_⟩
    .exact h.2
    .simp at h
   unfold Gk at g2 |-;split at g2<;>(rename_i hop;try (simp[hop,Bh] at hnb;done))<;>try (simp only[hop])
   refine⟨zS,?_⟩;rcases hM with hM|hM
   .rw[hM];exact g2.2
   .rw[Fh he];exact UY hM g2.2
  .exact .inr ⟨by rw[ha];exact g1,g2,g3⟩
theorem P5 (tk:BQ P T) (hb:Bx n o=true) {s:Nat} (hc:AR o.op=4\/AR o.op=5\/AR o.op=3/\L=false) (I:Ds P n F M) (h:Dv T (Ai P L) o s F M K):
 Dv T (Ai P L) o s F M λF' M' =>K F' M' /\Ds P n F' M' /\(∃u,F' =AB F o.dst u)/\MS o s M M' :=by
 have key:∀F1 M1,Dv T (Ai P L) o s F M (λF' M' =>F' =F1/\M' =M1)->Ds P n F1 M1:=λF1 M1 h=>by
  obtain⟨F',M',⟨rfl,rfl⟩,I'⟩:=RE tk hb h I;exact I'
 rcases hc with h3|h3| ⟨h3,hL⟩
 .obtain⟨t,x,y,hop⟩:=RD h3;unfold Dv at h key |-;simp only[hop] at h key |-;unfold Ht Lx Hl at h key |-;split at h
  .rename_i i hi;simp only[hi] at key |-;split at h
   .rename_i B u off hx;simp only[hx] at key |-;split at h
    .rename_i cs hcs;simp only[hcs] at key |-;split at h
     .rename_i xs hxs;simp only[hxs] at key |-;exact⟨h.1,h.2,key _ _ ⟨h.1,rfl,rfl⟩,zX,.inr (.inr (.inl ⟨_,_,_,_,hcs,rfl,h3⟩))⟩
     .exact h.elim
    .exact h.elim
   .exact h.elim
  .exact h.elim
 .obtain⟨args,ts,hop⟩:=PC h3;unfold Dv at h key |-;simp only[hop] at h key |-;split at h
  .rename_i x y t t' hx ht;simp only[hx,ht] at key;cases hq:Ia T t t' (ev F y) with
   |none=>rw[hq] at h;exact h.elim
   |some pq=>
   obtain⟨y',pl⟩:=pq;rw[hq] at h;simp only[hq] at key;unfold Hz at h key |-;simp only at h key |-;unfold Jw Hl Hy at h key |-;split at h
   .rename_i e es eb ez B u s' off m htd hxe;simp only[htd,hxe] at key;split at h
    .rename_i cs hcs;simp only[hcs] at key |-;split at h
     .rename_i p hp;simp only[hp] at key |-;obtain⟨g1,g2,g3,g4,g5,g6,g7,g8,g⟩:=h;exact⟨g1,g2,g3,g4,g5,g6,g7,g8,g,key _ _ ⟨g1,g2,g3,g4,g5,g6,g7,g8,rfl,rfl⟩,zX,.inr (.inr (.inr ⟨_,_,_,_,hcs,rfl,h3⟩))⟩
     .exact h.elim
    .exact h.elim
   .exact h.elim
  .exact h.elim
 .obtain⟨f,args,ts,hop⟩:=UZ h3;unfold Dv at h key |-;simp only[hop] at h key |-;unfold Ly at h key |-;split at h
  .rename_i id caps hf;simp only[hf] at key |-;obtain⟨cargs,Q,spec,hu,h⟩:=h;rcases h with⟨hL',_⟩ | ⟨h1,h2⟩
   .rw[hL] at hL';cases hL'
   .exact⟨cargs,Q,spec,hu,.inr ⟨h1,λr hr=>⟨h2 r hr,key _ _ ⟨cargs,Q,spec,hu,.inr ⟨h1,λr' hr' =>by rw[hu hL r' r hr' hr];exact⟨rfl,rfl⟩⟩⟩,zX,.inr (.inl ⟨_,rfl,h3⟩)⟩⟩⟩
  .exact h.elim
theorem Z4 {sj:Nat} {v:AV} {Kj Kj' :Fr->List Ag->Prop} (hap:Ap ops oj oi) (hcj:AR oj.op=5) (hk:∀F1 M1,Kj F1 M1->Kj' (AB F1 oi.dst v) M1) (h:Dv T (Ai P L) oj sj F M Kj):Dv T (Ai P L) oj sj (AB F oi.dst v) M Kj' :=by
 have hev:∀x∈oj.op.operands,ev (AB F oi.dst v) x=ev F x:=FK hap.symm;have hcomm:∀u,AB (AB F oi.dst v) oj.dst u=AB (AB F oj.dst u) oi.dst v:=λu=>(E6 hap.dd).symm;obtain⟨args,ts,hop⟩:=PC hcj;unfold Dv at h |-;simp only[hop] at h hev |-;split at h
 .rename_i x y t t' hx ht;have hxm:x∈args:=by rw[<-wq,hx];simp
  have hym:y∈args:=by rw[<-wq,hx];simp
  simp only[hev x (by simp[Op.operands,Call.operands,hxm]),hev y (by simp[Op.operands,Call.operands,hym])];cases hq:Ia T t t' (ev F y) with
  |none=>rw[hq] at h;exact h.elim
  |some pq=>
  obtain⟨y',pl⟩:=pq;rw[hq] at h;unfold Hz at h |-;simp only at h |-;unfold Jw Hl Hy at h |-;split at h
  .split at h
   .rename_i cs hcs;split at h
    .rename_i p hp;obtain⟨g1,g2,g3,g4,g5,g6,g7,g8,g⟩:=h;exact⟨g1,g2,g3,g4,g5,g6,g7,g8,by show Kj' (AB (AB F oi.dst v) oj.dst _) _;rw[hcomm];exact hk _ _ g⟩
    .exact h.elim
   .exact h.elim
  .exact h.elim
 .exact h.elim
theorem Yb (hn:T2 ops=true) {i:Nat} {o:Oper} (hi:ops[i]?=some o):AR o.op≠3:=by
 have:=u1.1 hn o (by rw[<-vp] at hi;exact vo hi);simpa using this
theorem Yc {L:Bool} (hn:J3 L ops=true) {i:Nat} {o:Oper} (hi:ops[i]?=some o) (h2:¬AR o.op<=2) (h5:AR o.op<=5):AR o.op=4\/AR o.op=5\/AR o.op=3/\L=false:=by
 unfold J3 at hn;rw[wT] at hn;rcases hn with hn|hn
 .have:=Yb hn hi;omega
 .have:L=false:=by simpa using hn
  have h345:AR o.op=3\/AR o.op=4\/AR o.op=5:=zO;rcases h345 with h|h|h
  .exact .inr (.inr ⟨h,this⟩)
  .exact .inl h
  .exact .inr (.inl h)
theorem Wb (tk:BQ P T) (hops:∀(k:Nat) (o:Oper),ops[k]?=some o->Bx n o=true) (hsl:∀(i k:Nat) (oi ok:Oper),ops[i]?=some oi->ops[k]?=some ok->Bh oi.op=true->Bh ok.op=true->i≠k->sl i≠sl k) {j:Nat} (hj:ops[j]?=some oj) (hcj:AR oj.op<=2) {post:List Nat} {v:AV} {b:Option Ag}:∀(pre:List Nat) (F:Fr) (M:List Ag),
 (∀i∈pre,i≠j)->(∀i∈pre,∀oi,ops[i]?=some oi->Fp L ops oi oj=true)->(Bh oj.op=true->sl j<M.length)->(J3 L ops=true->Ds P n F M)->D8 T ops oj (sl j) F M v b->CI T (Ai P L) ops sl (pre++j::post) F M K->CI T (Ai P L) ops sl (pre++post) (AB F oj.dst v) (Cq M (sl j) b) K
 | [],F,M,_,_,_,_,hd,h=>by
   obtain⟨v',b',hd',hk⟩:=(D3 hj hcj).1 h;obtain⟨rfl,rfl⟩:=hd.unique hd';exact hk
 |i::pre,F,M,hne,hc,hl,HI,hd,h=>by
  have ih:=λF M=>Wb tk hops hsl hj hcj (post:=post) (v:=v) (b:=b) pre F M (λk hk=>hne k (by simp[hk])) (λk hk=>hc k (by simp[hk]));simp only[vF,CI] at h |-;cases hi:ops[i]? with
  |none=>
   unfold CE at h |-;rw[hi] at h |-;exact ih F M hl HI hd h
  |some oi=>
   have hcm:=hc i zS oi hi;obtain⟨hap,hcc⟩:=E7 hcm;have hij:Bh oi.op=true->Bh oj.op=true->sl i≠sl j:=λa b=>hsl i j oi oj hi hj a b (hne i zS);have hevi:∀x∈oi.op.operands,ev (AB F oj.dst v) x=ev F x:=FK hap.symm;have hslot:=hd.slot;by_cases hci:AR oi.op<=2
   .obtain⟨vi,bi,hdi,hk⟩:=(D3 hi hci).1 h;have hsi:=hdi.slot;have hsep:bi=none\/b=none\/sl i≠sl j:=by
     rcases hsi with h|h
     .exact .inl h
     .rcases hslot with g|g
      .exact .inr (.inl g)
      .exact .inr (.inr (hij h.2.1 g.2.1))
    have hup:D8 T ops oj (sl j) (AB F oi.dst vi) (Cq M (sl i) bi) v b:=by
     refine hd.up' (Dw hap) (FK hap) (.inr λB v cs h=>Km (hsi.imp id λh=>h.2.2) h) (λhb hf=>?_);exact P4 (by rcases hsep with h|h|h;exact .inl h;exact absurd h hb;exact .inr h) hf
    have HI' :J3 L ops=true->Ds P n (AB F oi.dst vi) (Cq M (sl i) bi):=λhn=>by
     obtain⟨F1,M1,⟨rfl,rfl⟩,_,_,I1⟩:=Hk (L:=L) (K:=λF' M' =>F' =AB F oi.dst vi/\M' =Cq M (sl i) bi) tk hi (hops i oi hi) zO ((D3 hi hci).2 ⟨vi,bi,hdi,rfl,rfl⟩) (HI hn);exact I1
    have h2:=ih _ _ (λha=>by rw[J4];exact hl ha) HI' hup hk;refine(D3 hi hci).2 ⟨vi,bi,?_,?_⟩
    .refine hdi.up' (Dw hap.symm) hevi (.inr λB v cs h=>Km (hslot.imp id λh=>h.2.2) h) (λhb hf=>?_);exact P4 (by rcases hsep with h|h|h;exact absurd h hb;exact .inl h;exact .inr (Ne.symm h)) hf
    .rw[E6 hap.symm.dd,Wa (by rcases hsep with h|h|h;exact .inr (.inl h);exact .inl h;exact .inr (.inr (Ne.symm h)))];exact h2
   .have hci5:AR oi.op<=5:=by rcases hcc with h|h|h|h|h|h|h<;>omega
    unfold CE at h |-;simp only[hi] at h |-;rw[Dw hap.symm];split at h
    .by_cases h5:J3 L ops=true/\AR oi.op=5/\AR oj.op≠0
     .obtain⟨hn,h5,h0⟩:=h5;have hb:b=none:=by
       rcases hslot with h|h
       .exact h
       .exact absurd (JC h.2.1) h0
      subst hb;refine Z4 hap h5 (Kj:=λF' M' =>CI T (Ai P L) ops sl (pre++j::post) F' M' K/\Ds P n F' M' /\(∃u,F' =AB F oi.dst u)/\MS oi (sl i) M M') ?_ (P5 tk (hops i oi hi) (.inr (.inl h5)) (HI hn) h);rintro F1 M1 ⟨hk,I1,⟨u,rfl⟩,hms⟩;have hl1:Bh oj.op=true->sl j<M1.length:=λha=>absurd (JC ha) h0;obtain⟨v',b',hd'⟩:=U0 tk hops hj hcj pre _ M1 (λk hk=>hc k (by simp[hk])) hl1 I1 hk;have hd2:=hd'.dn hcm hcj (hops j oj hj) hl (HI hn) (.inl hms);obtain⟨rfl,rfl⟩:=hd.unique hd2;exact ih _ _ hl1 (λ_=>I1) hd' hk
     .have h' :Dv T (Ai P L) oi (sl i) F M λF' M' =>CI T (Ai P L) ops sl (pre++j::post) F' M' K/\(J3 L ops=true->Ds P n F' M')/\M.length<=M'.length:=by
       by_cases hn:J3 L ops=true
       .refine Fg (call:=Ai P L) (call' :=Ai P L) (λf args M K K' hk h=>Ai.mono (λr bs h=>hk _ _ h) h) (λF M h=>?_) (P5 tk (hops i oi hi) (Yc hn hi hci hci5) (HI hn) h);exact⟨h.1,λ_=>h.2.1,tQ (.inl h.2.2.2)⟩
       .refine Fg (call:=Ai P L) (call' :=Ai P L) (λf args M K K' hk h=>Ai.mono (λr bs h=>hk _ _ h) h) (λF M h=>?_) (LU hci5 h);exact⟨h.1,λh=>absurd h hn,tQ (.inl h.2.2)⟩
      refine dG hap ?_ hd (Kj:=λF' M' =>CI T (Ai P L) ops sl (pre++j::post) F' M' K/\(J3 L ops=true->Ds P n F' M')/\M.length<=M'.length) ?_ h'
      .rcases hcc with h|h|h|h|h|h|h
       .exact absurd h.1 hci
       .exact .inl ⟨h.1,h.2.2⟩
       .exact .inr (.inl h)
       .refine .inr (.inr ⟨h.1,?_⟩);rcases h.2 with h2|h2
        .exact h2
        .exact vv λh0=>h5 ⟨h2.1,h.1,h0⟩
       .exact absurd h.2.1 hci
       .exact absurd (show AR oi.op<=2 by omega) hci
       .exact absurd (show AR oi.op<=2 by omega) hci
      .exact λF1 M1 hd1 hk=>ih F1 M1 (λha=>xw (hl ha) hk.2.2) hk.2.1 hd1 hk.1
    .rw[E6 hap.symm.dd];refine ih _ _ hl (λhn=>(HI hn).undef _) ?_ h;exact hd.up (Dw hap) (FK hap) (.inr λB v cs h=>h) (λhf=>hf)
    .exact h.elim
theorem Wc {sj si:Nat} {v:AV} {b:Option Ag} {Kj Kj' :Fr->List Ag->Prop} (hap:Ap ops oj oi) (hc:(AR oj.op=3/\(L=false\/Bh oi.op=false))\/(AR oj.op=4/\AR oi.op<=1)\/(AR oj.op=5/\AR oi.op=0)) (hbj:Bx n oj=true) (I:Ds P n F M) (hd:D8 T ops oi si F M v b)
 (hk:∀F1 M1,D8 T ops oi si F1 M1 v b->Kj' (AB F1 oi.dst v) (Cq M1 si b)->Kj F1 M1) (h:Dv T (Ai P L) oj sj (AB F oi.dst v) (Cq M si b) Kj'):Dv T (Ai P L) oj sj F M Kj:=by
 have hev:∀x∈oj.op.operands,ev (AB F oi.dst v) x=ev F x:=FK hap.symm;have hevi:∀u,∀x∈oi.op.operands,ev (AB F oj.dst u) x=ev F x:=λu=>FK hap;have hcomm:∀u,AB (AB F oi.dst v) oj.dst u=AB (AB F oj.dst u) oi.dst v:=λu=>(E6 hap.dd).symm;have hslot:=hd.slot;have hopn:∀x∈oj.op.operands,FH n x=true:=by
  simp only[Bx,uU] at hbj;intro x hx;exact wc.1 hbj.1 x hx
 have hcell:∀x∈oj.op.operands,∀B u,ER (ev F x)=some (B,u)->Ah (Cq M si b) B u=Ah M B u:=by
  intro x hx B u ht;obtain⟨_,hnf⟩:=I.name (hopn x hx) ht;cases b with
  |none=>rfl
  |some z=>
   have:M[si]?=some .free:=by
    rcases hslot with h|h
    .simp at h
    .exact h.2.2
   have hne:si≠B:=λe=>hnf (e ▸ this);simp only[Cq,Ah,uN hne]
 have hsb:∀(B:Nat) (u u' :Nat) (cs cs' :List AV),Ah M B u=some cs->(Cq M si b).set B (.live u' cs')=Cq (M.set B (.live u' cs')) si b:=by
  intro B u u' cs cs' hcs;cases b with
  |none=>rfl
  |some z=>
   simp only[Cq];refine List.set_comm _ _ λe=>?_;rcases hslot with h5|h5
   .simp at h5
   .have:=F7 hcs;rw[<-e,h5.2.2] at this;simp at this
 have hsh:(∃f args ts,oj.op= .call ⟨.value f,args,ts⟩)\/(∃t x y,oj.op= .store t x y)\/(∃args ts,oj.op= .call ⟨.builtin .append,args,ts⟩):=by
  rcases hc with⟨e,_⟩ | ⟨e,_⟩ | ⟨e,_⟩
  .exact .inl (UZ e)
  .exact .inr (.inl (RD e))
  .exact .inr (.inr (PC e))
 unfold Dv at h |-;split at h<;>(rename_i hop)<;>(try (exfalso;rcases hc with⟨e,_⟩ | ⟨e,_⟩ | ⟨e,_⟩<;>(rw[hop] at e;simp[AR] at e);done))
 .
  rename_i t x y;simp only[hop,Op.operands] at hev hcell;have hci:AR oi.op<=1:=by
   rcases hc with⟨e,_⟩ | ⟨_,h⟩ | ⟨e,_⟩
   .simp[hop,AR] at e
   .exact h
   .simp[hop,AR] at e
  simp only[hev x zS,hev y zS] at h;have hcx:=hcell x zS;unfold Ht Lx Hl at h |-;split at h
  .rename_i i hi;split at h
   .rename_i B u off hx;rw[hx] at hcx;have hcx:=hcx B u rfl;split at h
    .rename_i cs hcs;rw[hcx] at hcs;simp only[hi,hcs];split at h
     .rename_i xs hxs;refine⟨h.1,hk _ _ ?_ ?_⟩
      .refine hd.up' (Dw hap) (hevi _) (.inl ?_) (λ_ hf=>?_)
       .rw[Fh (hevi _)];exact UX hci (λB' v' =>I4 hcs B' v')
       .rw[uN]
        .exact hf
        .intro e;have:=F7 hcs;rw[e,hf] at this;simp at this
      .rw[<-hcomm,<-hsb _ _ _ _ _ hcs];exact h.2
     .exact h.elim
    .exact h.elim
   .exact h.elim
  .exact h.elim
 .
  rename_i args ts;have hci:AR oi.op=0:=by
   rcases hc with⟨e,_⟩ | ⟨e,_⟩ | ⟨_,h⟩
   .simp[hop,AR] at e
   .simp[hop,AR] at e
   .exact h
  split at h
  .rename_i x y t t' hx ht;have hxm:x∈args:=by rw[<-wq,hx];simp
   have hym:y∈args:=by rw[<-wq,hx];simp
   simp only[hop] at hev hcell;simp only[hev x (by simp[Op.operands,Call.operands,hxm]),hev y (by simp[Op.operands,Call.operands,hym])] at h;have hcx:=hcell x (by simp[Op.operands,Call.operands,hxm]);have hcy:=hcell y (by simp[Op.operands,Call.operands,hym]);cases hq:Ia T t t' (ev F y) with
   |none=>rw[hq] at h;exact h.elim
   |some pq=>
   obtain⟨y',pl⟩:=pq;rw[hq] at h;unfold Hz at h |-;simp only at h |-;unfold Jw Hl Hy at h |-;split at h
   .rename_i e es eb ez B u s' off n htd hxe;rw[hxe] at hcx;have hcx:=hcx B u rfl;split at h
    .rename_i cs hcs;rw[hcx] at hcs;simp only[hcs];split at h
     .rename_i p hp;have hp' :De M y' =some p:=by
       rcases dD hq with e| ⟨n',xs',e⟩
       rotate_left
       .rw[e] at hp |-;exact hp
       subst e;unfold De at hp |-;split at hp
       .exact hp
       .exact hp
       .rename_i hy;rw[hy] at hcy;rw[hcy _ _ rfl] at hp;exact hp
       .simp at hp
      simp only[hp'];obtain⟨h1,h2,h3,h4,h5,h6,h7,h8,h⟩:=h;refine⟨h1,h2,h3,h4,h5,h6,h7,h8,hk _ _ ?_ ?_⟩
      .refine hd.up' (Dw hap) (hevi _) (.inl ?_) (λ_ hf=>?_)
       .rw[Fh (hevi _)];exact UW hci
       .rw[uN]
        .exact hf
        .intro e;have:=F7 hcs;rw[e,hf] at this;simp at this
      .rw[<-hcomm,<-hsb _ _ _ _ _ hcs];exact h
     .exact h.elim
    .exact h.elim
   .exact h.elim
  .exact h.elim
 .
  rename_i f args ts;have hca:L=false\/Bh oi.op=false:=by
   rcases hc with⟨_,h⟩ | ⟨e,_⟩ | ⟨e,_⟩
   .exact h
   .simp[hop,AR] at e
   .simp[hop,AR] at e
  simp only[hop] at hev;rw[hev f (by simp[Op.operands,Call.operands]),LT (F:=F) λx hx=>hev x (by simp[Op.operands,Call.operands,hx])] at h;have key:∀(u:AV) (bs:List Ag),Kj' (AB (AB F oi.dst v) oj.dst u) (Cq M si b++bs)->Kj (AB F oj.dst u) (M++bs):=by
   intro u bs h;refine hk _ _ ?_ ?_
   .refine hd.up' (Dw hap) (hevi _) (.inr λB v cs h=>T3 h) (λ_ hf=>?_);have hlt:si<M.length:=by
     rcases uY si M.length with h|h
     .exact h
     .simp[uR h] at hf
    rw[vk hlt];exact hf
   .have:Cq M si b++bs=Cq (M++bs) si b:=by
     cases b with
     |none=>rfl
     |some z=>
      rcases hslot with h5|h5
      .simp at h5
      .simp only[Cq];rw[List.set_append_left];rcases uY si M.length with h|h
       .exact h
       .have:=h5.2.2;simp[uR h] at this
    rw[<-hcomm,<-this];exact h
  unfold Ly at h |-;split at h
  .rcases hslot with hbn|hbs
   .subst hbn;exact Ai.mono (λr bs h=>key r bs h) h
   .rcases hca with rfl|hca
    .exact Ai.mem (J4).symm (λr bs h=>key r bs h) h
    .rw[hca] at hbs;simp at hbs
  .exact h.elim
 .exfalso;rcases hsh with⟨f,args,ts,e⟩ | ⟨t,x,y,e⟩ | ⟨args,ts,e⟩<;>simp_all
theorem Wd (tk:BQ P T) (hops:∀(k:Nat) (o:Oper),ops[k]?=some o->Bx n o=true) {j:Nat} (hj:ops[j]?=some oj) (hcj:3<=AR oj.op) {post:List Nat}:∀(pre:List Nat) (F:Fr) (M:List Ag),
 (∀i∈pre,∀oi,ops[i]?=some oi->Fp L ops oi oj=true)->Ds P n F M->CI T (Ai P L) ops sl (pre++j::post) F M K->CE T (Ai P L) ops sl j F M λF' M' =>CI T (Ai P L) ops sl (pre++post) F' M' K
 | [],F,M,_,_,h=>h
 |i::pre,F,M,hc,I,h=>by
  have ih:=λF M=>Wd tk hops hj hcj (post:=post) pre F M (λk hk=>hc k (by simp[hk]));simp only[vF,CI] at h |-;cases hi:ops[i]? with
  |none=>
   unfold CE at h;rw[hi] at h;have:∀F' M',CE T (Ai P L) ops sl i F' M' (λF' M' =>CI T (Ai P L) ops sl (pre++post) F' M' K)=CI T (Ai P L) ops sl (pre++post) F' M' K:=λF' M' =>by unfold CE;rw[hi]
   simp only[this];exact ih F M I h
  |some oi=>
   have hcm:=hc i zS oi hi;obtain⟨hap,hcc⟩:=E7 hcm;have hci:AR oi.op<=2:=by rcases hcc with h|h|h|h|h|h|h<;>omega
   obtain⟨F1,M1,⟨vi,bi,hdi,rfl,rfl,hk⟩,_,_,I1⟩:=Hk (L:=L) (K:=λF' M' =>∃vi bi,D8 T ops oi (sl i) F M vi bi/\F' =AB F oi.dst vi/\M' =Cq M (sl i) bi/\CI T (Ai P L) ops sl (pre++j::post) F' M' K) tk hi (hops i oi hi) zO ((D3 hi hci).2 (by
    obtain⟨vi,bi,hdi,hk⟩:=(D3 hi hci).1 h;exact⟨vi,bi,hdi,vi,bi,hdi,rfl,rfl,hk⟩)) I
   have h2:=ih _ _ I1 hk;have hcj' :(AR oj.op=3/\(L=false\/Bh oi.op=false))\/(AR oj.op=4/\AR oi.op<=1)\/(AR oj.op=5/\AR oi.op=0):=by
    rcases hcc with h|h|h|h|h|h|h
    .omega
    .omega
    .omega
    .omega
    .exact .inl ⟨h.1,h.2.2⟩
    .exact .inr (.inl h)
    .exact .inr (.inr h)
   generalize hKK:(λF' M' =>CE T (Ai P L) ops sl i F' M' λF' M' =>CI T (Ai P L) ops sl (pre++post) F' M' K)=KK;unfold CE at h2 |-;simp only[hj] at h2 |-;rw[Dw hap] at h2;split at h2
   .refine Wc hap.symm hcj' (hops j oj hj) I hdi (λF1 M1 hd1 hk1=>?_) h2;rw[<-hKK];exact(D3 hi hci).2 ⟨vi,bi,hd1,hk1⟩
   .rw[<-hKK];refine(D3 hi hci).2 ⟨vi,bi,?_,?_⟩
    .exact hdi.up (Dw hap.symm) (FK hap.symm) (.inr λB v cs h=>h) (λhf=>hf)
    .rw[E6 hap.symm.dd];exact h2
   .exact h2.elim
theorem Yd (tk:BQ P T) (hops:∀(k:Nat) (o:Oper),ops[k]?=some o->Bx n o=true) (hsl:∀(i k:Nat) (oi ok:Oper),ops[i]?=some oi->ops[k]?=some ok->Bh oi.op=true->Bh ok.op=true->i≠k->sl i≠sl k)
 {j:Nat} (hj:ops[j]?=some oj) (pre post:List Nat) (hne:∀i∈pre,i≠j) (hc:∀i∈pre,∀oi,ops[i]?=some oi->Fp L ops oi oj=true) (hl:Bh oj.op=true->sl j<M.length) (I:Ds P n F M) (h:CI T (Ai P L) ops sl (pre++j::post) F M K):
 CE T (Ai P L) ops sl j F M λF' M' =>CI T (Ai P L) ops sl (pre++post) F' M' K:=by
 by_cases hcj:AR oj.op<=2
 .obtain⟨v,b,hd⟩:=U0 tk hops hj hcj pre F M hc hl I h;exact(D3 hj hcj).2 ⟨v,b,hd,Wb tk hops hsl hj hcj pre F M hne hc hl (λ_=>I) hd h⟩
 .exact Wd tk hops hj zO pre F M hc I h
end
def Cz (o:Oper):List Nat:=(o.after.toList.filter (Region.binds .any)).map (·.on)
def LV (A:List Nat) (o:Oper):Nat:=(Cz o).foldl (λm j=>m||| (1<<<j) |||A.getD j 0) 0
def Ow {α:Type} (m:Nat) (f:Nat->α):α:=match m with
 |0=>f 0
 |n+1=>f (n+1)
theorem RF {α:Type} (m:Nat) (f:Nat->α):Ow m f=f m:=by cases m<;>rfl
def Ox (L:Bool) (ops:Array Oper):List Oper->List Nat->List (Nat×Oper)->Nat->Bool
 | [],_,_,_=>true
 |o::r,A,done,i=>Ow (LV A o) λm=>(Cz o).all (·<i)&&(done.all λp=>m.testBit p.1||Fp L ops p.2 o)&&Ow (i+1) λi' =>Ox L ops r (A++[m]) ((i,o)::done) i'
def U1 (L:Bool) (ops:List Oper):Bool:=Ox L ops.toArray ops [] [] 0
section
variable {ops:Array Oper}
def J5 (ops:Array Oper) (S:Nat->Prop):Prop:=∀(i:Nat) (o:Oper),ops[i]?=some o->S i->∀p∈Cz o,S p
theorem RG (A:List Nat) (k:Nat):∀(l:List Nat) (m:Nat),(l.foldl (λm j=>m||| (1<<<j) |||A.getD j 0) m).testBit k=true->m.testBit k=true\/∃j∈l,k=j\/(A.getD j 0).testBit k=true
 | [],m,h=> .inl h
 |j::l,m,h=>by
  rcases RG A k l _ h with h| ⟨j',hj,h⟩
  .simp only[Nat.testBit_or,wT] at h;rcases h with(h|h) |h
   .exact .inl h
   .refine .inr ⟨j,zS,.inl ?_⟩;rw[Nat.one_shiftLeft,Nat.testBit_two_pow] at h;simpa using (of_decide_eq_true h).symm
   .exact .inr ⟨j,zS,.inr h⟩
  .exact .inr ⟨j',by simp[hj],h⟩
def ZI (ops:Array Oper) (A:List Nat):Prop:=∀(t m:Nat),A[t]?=some m->∀k,m.testBit k=true->∀S,J5 ops S->(∀o,ops[t]?=some o->∀p∈Cz o,S p)->S k
theorem ZI.mask {A:List Nat} (h:ZI ops A) {o:Oper} {k:Nat} (hk:(LV A o).testBit k=true) {S:Nat->Prop} (hc:J5 ops S) (hp:∀p∈Cz o,S p):S k:=by
 rcases RG A k _ _ hk with h1| ⟨j,hj,h1⟩
 .simp at h1
 .rcases h1 with rfl|h1
  .exact hp _ hj
  .cases hA:A[j]? with
   |none=>rw[vf,hA] at h1;simp at h1
   |some m=>
    rw[vf,hA] at h1;exact h j m hA k h1 S hc λo ho=>hc j o ho (hp j hj)
theorem Nv {L:Bool}:∀(r pre:List Oper) (A:List Nat) (done:List (Nat×Oper)),ops.toList=pre++r->A.length=pre.length->ZI ops A->(∀k o,ops[k]?=some o->k<pre.length->(k,o)∈done)->Ox L ops r A done pre.length=true->
 ∀(i k:Nat) (oi ok:Oper),ops[i]?=some oi->ops[k]?=some ok->pre.length<=i->(∀p∈Cz oi,p<i)/\(k<i->Fp L ops ok oi=true\/∀S,J5 ops S->(∀p∈Cz oi,S p)->S k)
 | [],pre,A,done,ho,hA,hanc,hd,h,i,k,oi,ok,hi,hk,hle=>by
   exfalso;rw[<-vp,ho,List.append_nil,uR hle] at hi;simp at hi
 |o::r,pre,A,done,ho,hA,hanc,hd,h,i,k,oi,ok,hi,hk,hle=>by
  simp only[Ox,RF,uU] at h;obtain⟨⟨h1,h2⟩,h3⟩:=h;have hself:ops[pre.length]?=some o:=by rw[<-vp,ho];simp
  by_cases e:i=pre.length
  .subst e;rw[hself] at hi;simp at hi;subst hi;refine⟨λp hp=>by simpa using u1.1 h1 p hp,λhlt=>?_⟩;have:=u1.1 h2 _ (hd k ok hk hlt);simp only[wT] at this;rcases this with h|h
   .exact .inr λS hc hp=>hanc.mask h hc hp
   .exact .inl h
  .have:=Nv r (pre++[o]) (A++[LV A o]) ((pre.length,o)::done) (by simp[ho]) (by simp[hA]) ?_ ?_ (by simpa using h3) i k oi ok hi hk Ao
   .exact this
   .intro t m ht k hk S hc hp;by_cases et:t<A.length
    .rw[vk et] at ht;exact hanc t m ht k hk S hc hp
    .rw[vj zO] at ht;have et2:t=A.length:=by
      rcases uY (t-A.length) 1 with h|h
      .omega
      .rw[uR (by simpa using h)] at ht;simp at ht
     subst et2;simp at ht;subst ht;exact hanc.mask hk hc (hp o (by rw[hA];exact hself))
   .intro k o' hk hlt;simp at hlt;by_cases ek:k=pre.length
    .subst ek;rw[hself] at hk;simp at hk;subst hk;simp
    .exact List.mem_cons_of_mem _ (hd k o' hk zO)
theorem Oy {L:Bool} {l:List Oper} (h:U1 L l=true) (i k:Nat) (oi ok:Oper) (hi:l.toArray[i]?=some oi) (hk:l.toArray[k]?=some ok):
 (∀p∈Cz oi,p<i)/\(k<i->Fp L l.toArray ok oi=true\/∀S,J5 l.toArray S->(∀p∈Cz oi,S p)->S k):=
 Nv (ops:=l.toArray) l [] [] [] zS rfl (λt m h=>by simp at h) (λk o _ h=>by simp at h) h i k oi ok hi hk (vn _)
end
section
variable {P:Program} {L:Bool} {T:Nat->Option TI} {ops:Array Oper} {sl:Nat->Nat} {K:Fr->List Ag->Prop}
theorem KR {n:Nat} {i:Nat} {F:Fr} {M:List Ag} (hops:∀(k:Nat) (o:Oper),ops[k]?=some o->Bx n o=true) (hc:∀(k:Nat) (o:Oper),ops[k]?=some o->AR o.op<=5) (h:CE T (Ai P L) ops sl i F M K):CE T (Ai P L) ops sl i F M λF' M' =>K F' M' /\M.length<=M'.length:=by
 unfold CE at h |-;cases ho:ops[i]? with
 |none=>simp only[ho] at h |-;exact⟨h,vg _⟩
 |some o=>
  simp only[ho] at h |-;split at h
  .refine Fg (call:=Ai P L) (call' :=Ai P L) (λf args M K K' hk h=>Ai.mono (λr bs h=>hk _ _ h) h) (λF M h=>?_) (LU (hc i o ho) h);exact⟨h.1,tQ (.inl h.2.2)⟩
  .exact⟨h,vg _⟩
  .exact h
theorem NV {C:BF} (hC:C.P=P) (tk:BQ C.P T) {i:Nat} {o:Oper} (ho:ops[i]?=some o) (hops:∀(k:Nat) (o:Oper),ops[k]?=some o->Bx C.n o=true) {Q' :Exit->Act->World->Prop} {next:Act->World->Prop} {F:Fr} {M:List Ag} {a:Act} {w:World}
 (hN:∀F M a w,K F M->Cu C F M a w->next a w) (h:CE T (Ai P L) ops sl i F M K) (r:Cu C F M a w):wpOpIn (FX C) 0 C.P ops Q' i next a w:=by
 unfold CE at h;unfold wpOpIn;simp only[ho] at h |-;have go:∀F,Dv T (Ai P L) o (sl i) F M K->Cu C F M a w->o.wpIn (FX C) 0 C.P a w next Q' :=λF h r=>by
  obtain⟨σ,own,R⟩:=r;exact I2 tk (hops i o ho) (Fg (call:=Ai P L) (call' :=Cd C) (λf args M K K' hk hc=>(Ai.at hC hc).mono hk) (λ_ _ h=>h) h) R hN
 unfold G3 at h;cases hg:o.guard with
 |none=>
  simp only[hg] at h;rw[zP (by simp[Region.wanted,hg])];exact go F h r
 |some g=>
  obtain⟨j,want⟩:=g;simp only[hg] at h;cases hd:(ops[j]?).bind (·.dst) with
  |none=>simp only[hd] at h
  |some d=>
   simp only[hd] at h;have hor:(∃b,F d= .bool b)\/F d= .tup []:=by
    cases hFd:F d<;>simp only[hFd] at h
    .exact .inl zX
    .rename_i xs;cases xs with
     |nil=>exact .inr rfl
     |cons x xs=>simp at h
   have r' :=r;obtain⟨σ,own,R⟩:=r';obtain⟨oj,hj,hdj⟩:=xb.1 hd;have hdn:d<C.n:=by
    have h1:=hops j oj hj;simp only[Bx,uU,hdj] at h1;simpa using h1.2
   have hv:=R.tmp d hdn;rcases hor with⟨b,hFd⟩ |hFd
   rotate_left
   .rw[hFd] at hv;obtain⟨cs,he,_⟩:=hv;have hget:a.tmps[d]?=some (.tuple cs):=by
     have hs:=R.size;have hlt:d<a.tmps.size:=by rw[hs];exact hdn
     simp[vD,hlt] at he;simp[hlt,he]
    have hy:yielded ops a.tmps j=none:=by simp[yielded,hd,hget]
    rw[zM (by simp[Region.wanted,hg,hy])];simp only[hFd] at h;exact⟨λ_ _=>trivial,hN _ _ _ _ h ⟨σ,own,R.put o.dst (v:=undef) ⟨#[],rfl,rfl,λ_=>rfl⟩⟩⟩
   rw[hFd] at hv;simp only[hFd] at h;have he:=hv.1;have hget:a.tmps[d]?=some (.bool b):=by
    have hs:=R.size;have hlt:d<a.tmps.size:=by rw[hs];exact hdn
    simp[vD,hlt] at he;simp[hlt,he]
   have hy:yielded ops a.tmps j=some b:=by simp[yielded,hd,hget]
   by_cases hbw:b=want
   .rw[zP (by simp[Region.wanted,hg,hy,hbw])];simp only[hbw,beq_self_eq_true] at h;exact go F h r
   .rw[zM (by simp[Region.wanted,hg,hy,hbw])];have:(b==want)=false:=by simpa using hbw
    simp only[this] at h;exact⟨λ_ _=>trivial,hN _ _ _ _ h ⟨σ,own,R.put o.dst (v:=undef) ⟨#[],rfl,rfl,λ_=>rfl⟩⟩⟩
theorem Fv (n:Nat):(vK n).Pairwise (·<·):=List.pairwise_lt_range
theorem Ye {C:BF} (hC:C.P=P) (tk:BQ P T) {l:List Oper} (hops:∀(k:Nat) (o:Oper),l.toArray[k]?=some o->Bx C.n o=true) (hd:U1 L l=true) (hc5:∀(k:Nat) (o:Oper),l.toArray[k]?=some o->AR o.op<=5)
 (hsl:∀(i k:Nat) (oi ok:Oper),l.toArray[i]?=some oi->l.toArray[k]?=some ok->Bh oi.op=true->Bh ok.op=true->i≠k->sl i≠sl k) {Q' :Exit->Act->World->Prop} (hQ:∀F M a w,K F M->Cu C F M a w->Q' .normal a w):
 ∀(fuel:Nat) (listed:Array Bool) (rem:List Nat) (F:Fr) (M:List Ag) (a:Act) (w:World),rem=(vK l.length).filter (λi=> !listed.getD i true)->rem.length<=fuel->listed.size=l.length->J5 l.toArray (λi=>listed.getD i false=true)->
 (∀j oj,l.toArray[j]?=some oj->Bh oj.op=true->sl j<M.length)->CI T (Ai P L) l.toArray sl rem F M K->Cu C F M a w->wpAnyIn (FX C) 0 C.P .any l.toArray Q' fuel listed a w:=by
 intro fuel;have hready:∀(listed:Array Bool) i,i∈Region.ready .any l.toArray listed->i<l.length/\listed.getD i true=false/\∀o,l.toArray[i]?=some o->∀p∈Cz o,listed.getD p false=true:=by
  intro listed i hi;simp only[Region.ready,vC,xj,uU] at hi;obtain⟨h1,h2,h3⟩:=hi;refine⟨by simpa using h1,by simpa using h2,λo ho p hp=>?_⟩;rw[ho] at h3;simp only[vI,xz] at h3;simp only[Cz,vH,vC] at hp;obtain⟨e,⟨he,hb⟩,rfl⟩:=hp;have h4:=wc.1 h3 e (by simpa using he);simp only[hb,xt,xC] at h4;exact h4
 have hnone:∀(listed:Array Bool),listed.size=l.length->Region.ready .any l.toArray listed=[]->(vK l.length).filter (λi=> !listed.getD i true)=[]:=by
  intro listed hsz hr;cases hrem:(vK l.length).filter (λi=> !listed.getD i true) with
  |nil=>rfl
  |cons i rest=>
   exfalso;have hmem:i∈(vK l.length).filter (λi=> !listed.getD i true):=by rw[hrem];simp
   have hp:((vK l.length).filter (λi=> !listed.getD i true)).Pairwise (·<·):=(Fv _).filter _;have hmem' :=vC.1 hmem;have hlt:i<l.length:=by simpa using hmem'.1
   have hmin:∀p,p<i->listed.getD p false=true:=by
    intro p hp';apply vv;intro hno;have:p∈(vK l.length).filter (λi=> !listed.getD i true):=by
     refine vC.2 ⟨Ao,?_⟩;have hps:p<listed.size:=zO;simp[vD,hps] at hno |-;exact hno
    rw[hrem] at this hp;rcases List.mem_cons.1 this with h|h
    .omega
    .have:=(vP.1 hp).1 p h;omega
   have hi2:l.toArray[i]?=some l[i]:=by simp[hlt]
   have:i∈Region.ready .any l.toArray listed:=by
    simp only[Region.ready,vC,xj,uU];refine⟨by simpa using hlt,by simpa using hmem'.2,?_⟩;rw[hi2];simp only[vI,xz];rw[wc];intro e he;cases hb:Region.binds .any e with
    |false=>rfl
    |true=>
     simp only[xt,xC];refine hmin _ ((Oy hd i i _ _ hi2 hi2).1 _ ?_);simp only[Cz,vH,vC];exact⟨e,⟨by simpa using he,hb⟩,rfl⟩
   rw[hr] at this;simp at this
 induction fuel with
 |zero=>
  intro listed rem F M a w hrem hlen hsz hcl hsm h r;have:rem=[]:=by simpa using hlen
  subst this;refine⟨?_,hQ _ _ _ _ h r⟩;apply vv;intro hne;obtain⟨i,hi⟩:=List.exists_mem_of_ne_nil _ hne;have h1:=hready listed i hi;have:i∈(vK l.length).filter (λi=> !listed.getD i true):=vC.2 ⟨by simpa using h1.1,by simp[h1.2.1]⟩;rw[<-hrem] at this;simp at this
 |succ fuel ih=>
  intro listed rem F M a w hrem hlen hsz hcl hsm h r;refine⟨λhr=>?_,λi hi=>?_⟩
  .rw[hnone listed hsz hr] at hrem;subst hrem;exact hQ _ _ _ _ h r
  .have h1:=hready listed i hi;have hi2:l.toArray[i]?=some (l[i]'h1.1):=by simp[h1.1]
   have hmem:i∈rem:=by rw[hrem];exact vC.2 ⟨by simpa using h1.1,by simp[h1.2.1]⟩
   obtain⟨pre,post,hpp⟩:=List.append_of_mem hmem;have hsorted:rem.Pairwise (·<·):=by rw[hrem];exact(Fv _).filter _
   rw[hpp] at hsorted;have hs1:=List.pairwise_append.1 hsorted;have hprelt:∀k∈pre,k<i:=λk hk=>hs1.2.2 k hk i zS;have hpostgt:∀k∈post,i<k:=(vP.1 hs1.2.1).1;have hpull:=Yd (n:=C.n) (sl:=sl) (L:=L) (K:=K) (F:=F) (M:=M) tk hops hsl hi2 pre post (λk hk=>Nat.ne_of_lt (hprelt k hk)) (λk hk ok hok=>?_) (λha=>hsm i _ hi2 ha) ⟨C,a,w,hC,rfl,r⟩ (by rw[<-hpp];exact h)
   .refine NV hC (hC ▸ tk) hi2 hops (λF' M' a' w' hk r' =>?_) (KR hops hc5 hpull) r;refine ih _ (pre++post) F' M' a' w' ?_ ?_ (by simpa using hsz) ?_ (λj oj hj ha=>xw (hsm j oj hj ha) hk.2) hk.1 r'
    .have:(vK l.length).filter (λt=> !(listed.setIfInBounds i true).getD t true)=((vK l.length).filter (λt=> !listed.getD t true)).filter (λt=>t !=i):=by
      rw[List.filter_filter];refine List.filter_congr λt ht=>?_;have htl:t<listed.size:=by rw[hsz];simpa using ht
      by_cases e:t=i
      .subst e;simp[vD,htl]
      .have:¬i=t:=λh=>e h.symm;simp[vD,htl,e,this,vW]
     rw[this,<-hrem,hpp,List.filter_append,List.filter_cons];simp only[bne_self_eq_false,Bool.false_eq_true,if_false];rw[wD.2 (λk hk=>by simp;exact Nat.ne_of_lt (hprelt k hk)),wD.2 (λk hk=>by simp;exact(Nat.ne_of_gt (hpostgt k hk)))]
    .rw[hpp] at hlen;simp at hlen |-;omega
    .intro k o hk hlist p hp;have key:∀t,(listed.setIfInBounds i true).getD t false=true↔t=i\/listed.getD t false=true:=by
      intro t;have hil:i<listed.size:=by rw[hsz];exact h1.1
      by_cases e:t=i
      .subst e;simp[vD,hil]
      .have:¬i=t:=λh=>e h.symm;by_cases htl:t<listed.size
       .simp[vD,htl,e,this,vW]
       .simp[vD,htl,e]
     rw[key] at hlist |-;rcases hlist with rfl|hlist
     .exact .inr (h1.2.2 o hk p hp)
     .exact .inr (hcl k o hk hlist p hp)
   .rcases(Oy hd i k _ ok hi2 hok).2 (hprelt k hk) with h|h
    .exact h
    .exfalso;have h3:=h _ hcl (h1.2.2 _ hi2);have h4:k∈rem:=by rw[hpp];simp[hk]
     rw[hrem] at h4;have h5:=(vC.1 h4).2;have hks:k<listed.size:=by rw[hsz];have:=hprelt k hk;have:=h1.1;omega
     simp[vD,hks] at h3 h5;simp[h3] at h5
end
def LW (L:Bool) (l:List Oper):Bool:=U1 L l&&l.all λo=>decide (AR o.op<=5)
section
variable {P:Program} {L:Bool} {T:Nat->Option TI} {K:Fr->List Ag->Prop} {p:Nat} {F:Fr} {M:List Ag} {Q:Cj}
theorem IF (a b:List Oper):Bb (a++b)=Bb a+Bb b:=by
 induction a with
 |nil=>simp[Bb]
 |cons x a ih=>
  have:Bb (x::(a++b))=BT x+Bb (a++b):=rfl;have h2:Bb (x::a)=BT x+Bb a:=rfl;rw[vF,this,ih,h2];omega
theorem KS (o:Oper):Bb [o]=BT o:=by simp[Bb]
theorem FL (F:Fr) (d:Nat) (v:AV) (h:F d=v):Bu F d v=F:=by
 funext t;simp only[Bu];split
 .rename_i e;subst e;exact h.symm
 .rfl
theorem LX {l:List Oper} {base:Nat}:∀(rest pre:List Oper) (F:Fr) (M:List Ag),l=pre++rest->Aw T (Ai P L) l.toArray rest (base+Bb pre) F M K->
 CI T (Ai P L) l.toArray (λi=>base+Bb (l.take i)) (xp pre.length rest.length) F M K
 | [],pre,F,M,hl,h=>h
 |o::rest,pre,F,M,hl,h=>by
  have hi:l.toArray[pre.length]?=some o:=by rw[hl];simp
  have ht:l.take pre.length=pre:=by rw[hl];simp
  have ih:∀F M,Aw T (Ai P L) l.toArray rest (base+Bb pre+BT o) F M K->CI T (Ai P L) l.toArray (λi=>base+Bb (l.take i)) (xp (pre.length+1) rest.length) F M K:=λF M h=>by
   have:=LX (l:=l) (base:=base) rest (pre++[o]) F M (by rw[hl];simp) (by rw[IF,KS,<-Nat.add_assoc];exact h);simpa using this
  simp only[List.length_cons,List.range'_succ,CI];unfold CE;simp only[hi,ht];simp only[Aw] at h;have mono:∀F,Dv T (Ai P L) o (base+Bb pre) F M (λF' M' =>Aw T (Ai P L) l.toArray rest (base+Bb pre+BT o) F' M' K)->Dv T (Ai P L) o (base+Bb pre) F M (λF' M' =>CI T (Ai P L) l.toArray (λi=>base+Bb (l.take i)) (xp (pre.length+1) rest.length) F' M' K):=λF h=>
   Fg (call:=Ai P L) (call' :=Ai P L) (λf args M K K' hk h=>Ai.mono (λr bs h=>hk _ _ h) h) (λF M h=>ih F M h) h
  unfold G3;split at h
  .rename_i hg;simp only[hg];exact mono _ h
  .rename_i j want hg;simp only[hg];split at h
   .rename_i d hd;simp only[hd];unfold gK at h;split at h
    .rename_i b hF;simp only[hF];by_cases hb:b=want
     .simp only[hb,beq_self_eq_true];have:=h.1 hb;simp only at this;rw[FL F d _ (by rw[hF,hb])] at this;exact mono _ this
     .have e:(b==want)=false:=by simpa using hb
      simp only[e];have hbn:b= !want:=by cases b<;>cases want<;>simp_all
      have:=h.2 hbn;simp only at this;rw[FL F d _ (by rw[hF,hbn])] at this;exact ih _ _ this
    .rename_i hF;simp only[hF];rw[FL F d _ hF] at h;exact ih _ _ h
    .exact h.elim
   .exact h.elim
theorem Ef {l:List Oper} {i k:Nat} {ok:Oper} (hk:l[k]?=some ok) (h:k<i):Bb (l.take k)+BT ok<=Bb (l.take i):=by
 have h1:l.take (k+1)=l.take k++[ok]:=by rw[List.take_add_one,hk];rfl
 have h2:l.take i=l.take (k+1)++(l.drop (k+1)).take (i-(k+1)):=by
  rw[<-List.take_append_drop (k+1) (l.take i),List.take_take,List.drop_take,wO zO]
 rw[h2,h1,IF,IF,KS];omega
theorem uf {id:Nat} {l:List Oper} (L:Bool) (hp:P.follows .mixedOrders=true) (hd:LW L l=true) (h:Aw T (Ai P L) l.toArray l M.length F (M++uP (Bb l) .free) (Q .normal)):W P T p (.region id l.toArray true) F M Q:=by
 intro tk C hC hp' hb a w r;simp only[LW,uU] at hd;simp only[CL] at hb;have hops:∀(k:Nat) (o:Oper),l.toArray[k]?=some o->Bx C.n o=true:=λk o ho=>by
  refine u1.1 hb o ?_;rw[<-vp] at ho;exact vo ho
 have hc5:∀(k:Nat) (o:Oper),l.toArray[k]?=some o->AR o.op<=5:=λk o ho=>by
  have:=u1.1 hd.2 o (vo (by simpa using ho));simpa using this
 refine wpIn_region_any (hC ▸ hp) ?_;obtain⟨σ,own,R⟩:=r;have h' :=LX (base:=M.length) l [] F _ rfl h;refine Ye (l:=l) hC tk hops hd.1 hc5 (sl:=λi=>M.length+Bb (l.take i)) (λi k oi ok hi hk ha ha' hne=>?_) (K:=Q .normal) (Q' :=aq C Q) (λF M a w h r=> .inl ⟨F,M,h,r⟩) l.toArray.size (xn l.toArray.size false) (xp 0 l.length) F _ a w.drew ?_ ?_ ?_ ?_ ?_ h' ⟨σ,own,(R.grow _).drew⟩
 .have s1:BT oi=1:=by simp[BT,ha]
  have s2:BT ok=1:=by simp[BT,ha']
  rcases Nat.lt_or_gt_of_ne hne with h|h
  .have:=Ef (l:=l) (by simpa using hi) h;omega
  .have:=Ef (l:=l) (by simpa using hk) h;omega
 .rw[<-List.range_eq_range'];symm;rw[wD];intro t ht;have:t<l.length:=by simpa using ht
  simp[vD,this]
 .simp
 .simp
 .intro i o ho hl;simp[vD] at hl
 .intro j oj hj ha;have s1:BT oj=1:=by simp[BT,ha]
  have hjl:j<l.length:=by
   rcases uY j l.length with h|h
   .exact h
   .rw[show l.toArray[j]?=l[j]? by simp,uR h] at hj;simp at hj
  have:=Ef (l:=l) (by simpa using hj) hjl;rw[List.take_length] at this;simp only[List.length_append,List.length_replicate];omega
theorem uu {id:Nat} {l:List Oper} (L:Bool) (hp:P.follows .mixedOrders=true) (hd:LW L l=true) (h:∀K:Fr->List Ag->Prop,(∀F M,Q .normal F M->K F M)->Aw T (Ai P L) l.toArray l M.length F (M++uP (Bb l) .free) K):W P T p (.region id l.toArray true) F M Q:=
 uf L hp hd (h _ λ_ _ h=>h)
end
end Go.Abs
