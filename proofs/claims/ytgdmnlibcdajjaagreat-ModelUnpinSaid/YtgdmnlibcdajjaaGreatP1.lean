/- Closed proofs that come again and again, each in one letter: said once, here, as a default proof. -/
import Derived.Below
import Derived.WalkKit
import Derived.Laws.AppendOwn
import Derived.Laws.Rows
import Derived.Calls
import Derived.RangeFuncLeaves
import Derived.LoopNIn
import Derived.OrdersIn
import Derived.TacticsIn
import Derived.LoopN
import Derived.Laws.Slices
import Derived.Laws.StructEq
import Derived.WalkLawsBesides
import Derived.Laws.MakeOwn
import Derived.Laws.BytesString
import Derived.Laws.CopyOwn
import Derived.Tactics
import Derived.Laws.Cover3
open Array renaming getElem?_toList -> vp, getElem?_eq_some_iff -> vu, getD -> vD, all_eq_true' -> wc
open Bool renaming and_eq_true -> uU, false_eq_true -> vt
open List renaming take_of_length_le -> uM, replicate -> uP, getElem?_eq_none -> uR, take_length -> uW, append_assoc -> uZ, length_append -> u0, all_eq_true -> u1, mem_of_getElem? -> vo, eq_nil_of_length_eq_zero -> vr, getElem?_drop -> vG, mem_map -> vH, replicate_succ -> vO, getElem?_take -> vT, getElem?_map -> wa, map_cons -> wj, ext_getElem? -> wk, drop_drop -> wr, take -> wL, drop_zero -> xc, map_nil -> xo, all_cons -> xu
open Nat renaming lt_or_ge -> uY, le_refl -> vg, zero_le -> vn, eq_zero_or_pos -> wm, add_assoc -> wx, add_mul -> wK, min_eq_left -> wO, mul_le_mul_right -> wU, add_zero -> xg
open Option renaming isSome_iff_exists -> w7
set_option linter.unusedVariables false
set_option linter.unusedSimpArgs false
namespace Go.Abs
section
variable {G:Prop}
theorem zS (e:G:=by simp):G:=e
theorem zO (e:G:=by omega):G:=e
theorem zF (e:G:=by rfl):G:=e
theorem zK (e:G:=by simp[AA]):G:=e
theorem AK (e:G:=by kernel_rfl):G:=e
theorem Ao (e:G:=by simp;omega):G:=e
theorem zD (e:G:=by decide):G:=e
theorem zL (e:G:=by exact λ_=>rfl):G:=e
theorem zX (e:G:=by exact⟨_,rfl⟩):G:=e
theorem zP {c:Prop} {h:Decidable c} (hc:c) {α:Sort _} {t e:α}:(ite c t e)=t:=if_pos hc
theorem zM {c:Prop} {h:Decidable c} (hc:¬c) {α:Sort _} {t e:α}:(ite c t e)=e:=if_neg hc
theorem zT {p:Prop} [Decidable p] (h:p):decide p=true:=decide_eq_true h
theorem zV {p:Prop} [Decidable p] (h:¬p):decide p=false:=decide_eq_false h
end
inductive AV where
 |any
 |bool (b:Bool)
 |int (k:IntKind) (n:Int)
 |str (s:ByteArray)
 |nilp
 |ro (n:Nat) (xs:List AV)
 |own (s n:Nat) (xs:List AV)
 |tok (T v s off n:Nat)
 |ptr (T v off:Nat)
 |rptr (xs:List AV)
 |optr (xs:List AV)
 |fn (f:Nat) (caps:List AV)
 |agg (xs:List AV)
 |tup (xs:List AV)
 deriving Inhabited
abbrev iN (n:Int):AV:= .int .i64 n
inductive St where
 |dead
 |nil
 |loc (g b sz:Nat)
def E4 (w:World) (ad:Addr) (vs:List Value):Prop:=∀i v,vs[i]?=some v->w.cell? (ad.add i)=some v
abbrev σ0:Nat->Nat->Option St:=λ_ _=>none
mutual
def VR (w:World) (sh:Nat->Prop) (σ:Nat->Nat->Option St):AV->Value->(Nat->Nat)->Prop
 | .any,_,fp=>∀g,fp g=0
 | .bool b,x,fp=>x= .bool b/\∀g,fp g=0
 | .int k n,x,fp=>x= .int k n/\∀g,fp g=0
 | .str s,x,fp=>x= .string s/\∀g,fp g=0
 | .nilp,x,fp=>x= .pointer none/\∀g,fp g=0
 | .ro n xs,x,fp=>(∀g,fp g=0)/\∃a c,x= .slice a n c/\n<=c/\(a=none->n=0)/\(xs=[]\/∃ad vs,a=some ad/\sh ad.block/\E4 w ad vs/\AI w sh σ0 xs vs (λ_=>0))
 | .own s n xs,x,fp=>((∃a,x= .slice a 0 0)/\n=0/\xs=[]/\∀g,fp g=0)\/
  ∃h b c cur e fp',x= .slice (some ⟨h,b,none⟩) n c/\n<=c/\c<=maxLen/\xs.length=n*s/\w.heap[h]?=some (.cells cur e (0,0))/\b+c*s<=cur.size/\
   AI w sh σ0 xs ((cur.toList.drop b).take (n*s)) fp' /\∀g,fp g=(if g=h then 1 else 0)+fp' g
 | .tok T v s off n,x,fp=>(∀g,fp g=0)/\(∃a c,x= .slice a n c)/\∃st,σ T v=some st/\(st= .nil->(∃a,x= .slice a 0 0)/\off=0/\n=0)/\
  ∀h b sz,st= .loc h b sz->∃a c,x= .slice (some a) n c/\(c≠0->a=⟨h,b+off,none⟩)/\n<=c/\c<=maxLen/\b+off+c*s<=sz
 | .ptr T v off,x,fp=>(∀g,fp g=0)/\(∃a,x= .pointer (some a))/\∃st,σ T v=some st/\st≠ .nil/\∀h b sz,st= .loc h b sz->x= .pointer (some ⟨h,b+off,none⟩)
 | .rptr xs,x,fp=>(∀g,fp g=0)/\∃ad vs,x= .pointer (some ad)/\(xs=[]\/(sh ad.block/\E4 w ad vs/\AI w sh σ0 xs vs (λ_=>0)))
 | .optr xs,x,fp=>∃h b cur e fp',x= .pointer (some ⟨h,b,none⟩)/\w.heap[h]?=some (.cells cur e (0,0))/\b+xs.length<=cur.size/\
  AI w sh σ0 xs ((cur.toList.drop b).take xs.length) fp' /\∀g,fp g=(if g=h then 1 else 0)+fp' g
 | .fn f caps,x,fp=>(∀g,fp g=0)/\∃cs:Array Value,x= .func (.func f) #[] cs/\AI w sh σ caps cs.toList (λ_=>0)
 | .agg xs,x,fp=>∃cs:Array Value,x= .agg cs/\AI w sh σ xs cs.toList fp
 | .tup xs,x,fp=>∃cs:Array Value,x= .tuple cs/\AI w sh σ xs cs.toList fp
def AI (w:World) (sh:Nat->Prop) (σ:Nat->Nat->Option St):List AV->List Value->(Nat->Nat)->Prop
 | [],vs,fp=>vs=[]/\∀g,fp g=0
 |x::xs,vs,fp=>∃v rest f1 f2,vs=v::rest/\VR w sh σ x v f1/\AI w sh σ xs rest f2/\∀g,fp g=f1 g+f2 g
end
structure Ci (w w' :World) (sh sh' :Nat->Prop) (σ σ' :Nat->Nat->Option St):Prop where
 ro:∀g,sh g->w'.heap[g]?=w.heap[g]?
 sh:∀g,sh g->sh' g
 key:∀T v st,σ T v=some st->σ' T v=some st\/σ' T v=some .dead
theorem Ci.zero {w w' :World} {sh sh' :Nat->Prop} {σ σ' :Nat->Nat->Option St} (L:Ci w w' sh sh' σ σ') (τ:Nat->Nat->Option St):Ci w w' sh sh' σ0 τ:=⟨L.ro,L.sh,λ_ _ _ h=>by simp[σ0] at h⟩
theorem E4.later {w w' :World} {ad:Addr} {vs:List Value} (h:E4 w ad vs) (hb:w'.heap[ad.block]?=w.heap[ad.block]?):E4 w' ad vs:=by
 intro i v hv;have h1:=h i v hv;rw[World.cell?_of_block (w:=w)]
 .exact h1
 .have:(ad.add i).block=ad.block:=by unfold Addr.add;split<;>rfl
  rw[this];exact hb
mutual
theorem VR.later {w w' :World} {sh sh' :Nat->Prop} {σ σ' :Nat->Nat->Option St} (L:Ci w w' sh sh' σ σ'):
 ∀(a:AV) (x:Value) (fp:Nat->Nat),(∀g,fp g≠0->w'.heap[g]?=w.heap[g]?)->VR w sh σ a x fp->VR w' sh' σ' a x fp
 | .any,_,_,_,h=>h
 | .bool _,_,_,_,h=>h
 | .int _ _,_,_,_,h=>h
 | .str _,_,_,_,h=>h
 | .nilp,_,_,_,h=>h
 | .ro n xs,x,fp,_,h=>by
   simp only[VR] at h |-;obtain⟨h0,a,c,hx,hn,hna,h⟩:=h;refine⟨h0,a,c,hx,hn,hna,?_⟩;rcases h with h| ⟨ad,vs,ha,hs,hr,hv⟩
   .exact .inl h
   .exact .inr ⟨ad,vs,ha,L.sh _ hs,hr.later (L.ro _ hs),AI.later (L.zero σ0) xs vs _ (λg hg=>absurd rfl hg) hv⟩
 | .own s n xs,x,fp,hfp,h=>by
   simp only[VR] at h |-;rcases h with h| ⟨h',b,c,cur,e,fp',hx,hn,hc,hl,hh,hsz,hv,hf⟩
   .exact .inl h
   .refine .inr ⟨h',b,c,cur,e,fp',hx,hn,hc,hl,?_,hsz,AI.later (L.zero σ0) xs _ fp' (λg hg=>hfp g (by have:=hf g;omega)) hv,hf⟩;rw[hfp h' (by have:=hf h';simp at this;omega)];exact hh
 | .tok T v s off n,x,fp,_,h=>by
   simp only[VR] at h |-;obtain⟨h0,hsh,st,hs,h1,h2⟩:=h;refine⟨h0,hsh,?_⟩;rcases L.key T v st hs with h|h
   .exact⟨st,h,h1,h2⟩
   .exact⟨.dead,h,(λe=>by cases e),(λ_ _ _ e=>by cases e)⟩
 | .ptr T v off,x,fp,_,h=>by
   simp only[VR] at h |-;obtain⟨h0,hsh,st,hs,h1,h2⟩:=h;refine⟨h0,hsh,?_⟩;rcases L.key T v st hs with h|h
   .exact⟨st,h,h1,h2⟩
   .exact⟨.dead,h,(λe=>by cases e),(λ_ _ _ e=>by cases e)⟩
 | .rptr xs,x,fp,_,h=>by
   simp only[VR] at h |-;obtain⟨h0,ad,vs,hx,h⟩:=h;refine⟨h0,ad,vs,hx,?_⟩;rcases h with h| ⟨hs,hr,hv⟩
   .exact .inl h
   .exact .inr ⟨L.sh _ hs,hr.later (L.ro _ hs),AI.later (L.zero σ0) xs vs _ (λg hg=>absurd rfl hg) hv⟩
 | .optr xs,x,fp,hfp,h=>by
   simp only[VR] at h |-;obtain⟨h',b,cur,e,fp',hx,hh,hsz,hv,hf⟩:=h;refine⟨h',b,cur,e,fp',hx,?_,hsz,AI.later (L.zero σ0) xs _ fp' (λg hg=>hfp g (by have:=hf g;omega)) hv,hf⟩;rw[hfp h' (by have:=hf h';simp at this;omega)];exact hh
 | .fn f caps,x,fp,_,h=>by
   simp only[VR] at h |-;obtain⟨h0,cs,hx,hv⟩:=h;exact⟨h0,cs,hx,AI.later L caps _ _ (λg hg=>absurd rfl hg) hv⟩
 | .agg xs,x,fp,hfp,h=>by
   simp only[VR] at h |-;obtain⟨cs,hx,hv⟩:=h;exact⟨cs,hx,AI.later L xs _ _ hfp hv⟩
 | .tup xs,x,fp,hfp,h=>by
   simp only[VR] at h |-;obtain⟨cs,hx,hv⟩:=h;exact⟨cs,hx,AI.later L xs _ _ hfp hv⟩
theorem AI.later {w w' :World} {sh sh' :Nat->Prop} {σ σ' :Nat->Nat->Option St} (L:Ci w w' sh sh' σ σ'):
 ∀(xs:List AV) (vs:List Value) (fp:Nat->Nat),(∀g,fp g≠0->w'.heap[g]?=w.heap[g]?)->AI w sh σ xs vs fp->AI w' sh' σ' xs vs fp
 | [],_,_,_,h=>h
 |x::xs,vs,fp,hfp,h=>by
  simp only[AI] at h |-;obtain⟨v,rest,f1,f2,he,h1,h2,hf⟩:=h;exact⟨v,rest,f1,f2,he,VR.later L x v f1 (λg hg=>hfp g (by have:=hf g;omega)) h1,AI.later L xs rest f2 (λg hg=>hfp g (by have:=hf g;omega)) h2,hf⟩
end
theorem Ci.up (w:World) (sh:Nat->Prop) (σ:Nat->Nat->Option St):Ci w w sh sh σ0 σ:=⟨λ_ _=>rfl,λ_ h=>h,λ_ _ _ h=>by simp[σ0] at h⟩
theorem VR.up {w:World} {sh:Nat->Prop} (σ:Nat->Nat->Option St) {a:AV} {x:Value} {fp:Nat->Nat} (h:VR w sh σ0 a x fp):VR w sh σ a x fp:=VR.later (Ci.up w sh σ) _ _ _ (λ_ _=>rfl) h
theorem AI.up {w:World} {sh:Nat->Prop} (σ:Nat->Nat->Option St) {a:List AV} {x:List Value} {fp:Nat->Nat} (h:AI w sh σ0 a x fp):AI w sh σ a x fp:=AI.later (Ci.up w sh σ) _ _ _ (λ_ _=>rfl) h
inductive Ag where
 |free
 |dead
 |live (v:Nat) (xs:List AV)
 deriving Inhabited
def BR (w:World) (sh:Nat->Prop) (σ:Nat->Nat->Option St) (T:Nat):Ag->(Nat->Nat)->Prop
 | .free,fp=>(∀v,σ T v=none)/\∀g,fp g=0
 | .dead,fp=>∀g,fp g=0
 | .live v xs,fp=>(∀v',v<v' ->σ T v' =none)/\((σ T v=some .nil/\xs=[]/\∀g,fp g=0)\/
  ∃h b cur e fp',σ T v=some (.loc h b cur.size)/\w.heap[h]?=some (.cells cur e (0,0))/\b+xs.length<=cur.size/\
   AI w sh σ xs ((cur.toList.drop b).take xs.length) fp' /\∀g,fp g=(if g=h then 1 else 0)+fp' g)
structure Cp (w:World) (sh:Nat->Prop) (σ:Nat->Nat->Option St) (own:Nat->Option Nat) (M:List Ag):Prop where
 blk:∀T B,M[T]?=some B->∃fp,BR w sh σ T B fp/\∀g,fp g<=if own g=some T then 1 else 0
 key:∀T v,M.length<=T->σ T v=none
structure GJ (w w' :World) (own own' :Nat->Option Nat):Prop where
 os:w'.os=w.os
 tape:w'.tape=w.tape
 output:w'.output=w.output
 size:w.heap.size<=w'.heap.size
 block:∀g,g<w.heap.size->own g=none->w'.heap[g]?=w.heap[g]?
 own:∀g,own' g≠none->own g≠none\/w.heap.size<=g
theorem GJ.refl (w:World) (own:Nat->Option Nat):GJ w w own own:=⟨rfl,rfl,rfl,vg _,λ_ _ _=>rfl,λ_ h=> .inl h⟩
theorem GJ.trans {a b c:World} {oa ob oc:Nat->Option Nat} (h:GJ a b oa ob) (k:GJ b c ob oc):GJ a c oa oc:=by
 refine⟨k.os.trans h.os,k.tape.trans h.tape,k.output.trans h.output,Nat.le_trans h.size k.size,λg hg ho=>?_,λg hg=>?_⟩
 .have hb:ob g=none:=by
   cases hob:ob g with
   |none=>rfl
   |some T=>rcases h.own g (by simp[hob]) with h1|h1
            .exact absurd ho h1
            .omega
  rw[k.block g (by have:=h.size;omega) hb,h.block g hg ho]
 .rcases k.own g hg with h1|h1
  .exact h.own g h1
  .exact .inr (by have:=h.size;omega)
structure BF where
 P:Program
 n:Nat
 sh:Nat->Prop
 w0:World
 own0:Nat->Option Nat
 k0:Nat->Nat->Option St
 p:Nat
 rd:Option Nat
 df:List Deferred
def FX (C:BF):Fence:={Fence.wide with round:=C.rd}
abbrev Fr:=Nat->AV
structure AS (C:BF) (F:Fr) (M:List Ag) (a:Act) (w:World) (σ:Nat->Nat->Option St) (own:Nat->Option Nat):Prop where
 size:a.tmps.size=C.n
 dfr:a.defers=C.df
 tmp:∀t,t<C.n->VR w C.sh σ (F t) (a.tmps.getD t undef) (λ_=>0)
 mem:Cp w C.sh σ own M
 shr:∀g,C.sh g->own g=none/\g<w.heap.size
 ext:GJ C.w0 w C.own0 own
 key0:∀T v st,C.k0 T v=some st->T<C.p/\(σ T v=some st\/σ T v=some .dead)
theorem AS.keyl {C:BF} {F:Fr} {M:List Ag} {a:Act} {w w' :World} {σ σ' :Nat->Nat->Option St} {own:Nat->Option Nat} (R:AS C F M a w σ own) (L:Ci w w' C.sh C.sh σ σ'):∀T v st,C.k0 T v=some st->T<C.p/\(σ' T v=some st\/σ' T v=some .dead):=λT v st h=>by
 obtain⟨h0,h1⟩:=R.key0 T v st h;refine⟨h0,?_⟩;rcases h1 with h1|h1
 .exact L.key T v st h1
 .rcases L.key T v _ h1 with h2|h2<;>exact .inr h2
def Cu (C:BF) (F:Fr) (M:List Ag) (a:Act) (w:World):Prop:=∃σ own,AS C F M a w σ own
abbrev Cj:=Exit->Fr->List Ag->Prop
def LH (D:Nat):List Deferred:=[{target:= .collected D,args:= #[]}]
def aq (C:BF) (Q:Cj):Exit->Act->World->Prop:=λe a w=>(∃F M,Q e F M/\Cu C F M a w)\/
 (e= .ret/\∃D F M w',Q .ret F M/\Cu C F M {a with defers:=[]} w' /\a.defers=LH D/\(Instr.takeDeferred D).run C.P w= .ok [] w' /\C.rd=none)
def AW (C:BF) (c:Code) (F:Fr) (M:List Ag) (Q:Cj):Prop:=∀a w,Cu C F M a w->c.wpIn (FX C) 0 C.P (aq C Q) a w
def DR (K:Fr->List Ag->Prop) (Q:Cj):Cj:=λe F M=>match e with| .normal=>K F M|e=>Q e F M
def Jp (id:Nat) (Q:Cj):Cj:=λe F M=>match e with| .exit i=>if i=id then Q .normal F M else Q (.exit i) F M|e=>Q e F M
theorem AW.mono {C:BF} {c:Code} {F:Fr} {M:List Ag} {Q Q' :Cj} (h:AW C c F M Q) (hq:∀e F M,Q e F M->Q' e F M):AW C c F M Q' :=
 λa w hr=>wpIn_mono (h a w hr) λ_ _ _ h=>by
  rcases h with⟨F,M,q,r⟩ | ⟨rfl,D,F,M,w1,q,r⟩
  .exact .inl ⟨F,M,hq _ _ _ q,r⟩
  .exact .inr ⟨rfl,D,F,M,w1,hq _ _ _ q,r⟩
theorem AW.skip {C:BF} {F:Fr} {M:List Ag} {Q:Cj} (h:Q .normal F M):AW C .skip F M Q:=λ_ _ hr=>wpIn_skip (.inl ⟨F,M,h,hr⟩)
theorem ug {C:BF} {F:Fr} {M:List Ag} {Q:Cj} {l:Nat} (h:Q .normal F M):AW C (.label l) F M Q:=λ_ _ hr=>wpIn_label (.inl ⟨F,M,h,hr⟩)
theorem ur {C:BF} {F:Fr} {M:List Ag} {Q:Cj} {id:Nat} (h:Q (.exit id) F M):AW C (.exit id) F M Q:=λ_ _ hr=>wpIn_exit (.inl ⟨F,M,h,hr⟩)
theorem tK {C:BF} {F:Fr} {M:List Ag} {Q:Cj} (h:Q .ret F M):AW C .ret F M Q:=λ_ _ hr=>wpIn_ret (.inl ⟨F,M,h,hr⟩)
theorem tC {C:BF} {x y:Code} {F:Fr} {M:List Ag} {Q:Cj} (h:AW C x F M (DR (λF M=>AW C y F M Q) Q)):AW C (.seq x y) F M Q:=by
 intro a w hr;refine wpIn_seq (wpIn_mono (h a w hr) ?_);rintro e a' w' (⟨F',M',q,r⟩ | ⟨rfl,D,F',M',w1,q,r⟩)
 .cases e<;>first|exact q a' w' r|exact .inl ⟨F',M',q,r⟩
 .exact .inr ⟨rfl,D,F',M',w1,q,r⟩
theorem AW.block {C:BF} {id:Nat} {x:Code} {F:Fr} {M:List Ag} {Q:Cj} (h:AW C x F M (Jp id Q)):AW C (.block id x) F M Q:=by
 intro a w hr;refine wpIn_block (wpIn_mono (h a w hr) ?_);rintro e a' w' (⟨F',M',q,r⟩ | ⟨rfl,D,F',M',w1,q,r⟩)
 .cases e<;>first|exact .inl ⟨F',M',q,r⟩ |skip
  simp only[Exit.inBlock,Jp] at q |-;split<;>rename_i By
  .simp only[By,if_true] at q;exact .inl ⟨F',M',q,r⟩
  .simp only[By,if_false] at q;exact .inl ⟨F',M',q,r⟩
 .exact .inr ⟨rfl,D,F',M',w1,q,r⟩
def VY (F:Fr):Operand->AV
 | .tmp t=>F t
 | .const (.bool b)=> .bool b
 |_=> .any
theorem ub {C:BF} {c:Operand} {x y:Code} {F:Fr} {M:List Ag} {Q:Cj} (b:Bool) (hn:∀t,c= .tmp t->t<C.n) (hc:VY F c= .bool b)
 (ht:b=true->AW C x F M Q) (hf:b=false->AW C y F M Q):AW C (.cond c x y) F M Q:=by
 intro a w hr;have he:a.eval c= .bool b:=by
  obtain⟨σ,own,R⟩:=hr;cases c with
  |tmp t=>
   have:=R.tmp t (hn t rfl);simp only[VY] at hc;rw[hc] at this;exact this.1
  |const v=>cases v<;>simp[VY] at hc;subst hc;rfl
  |global g=>simp[VY] at hc
  |func f=>simp[VY] at hc
 exact wpIn_cond_split he (λh=>ht h a w hr) (λh=>hf h a w hr)
def Dj (C:BF) (F:Fr) (M:List Ag) (F' :Fr) (M' :List Ag):Prop:=∀a w,Cu C F M a w->Cu C F' M' a w
theorem Dj.refl (C:BF) (F:Fr) (M:List Ag):Dj C F M F M:=λ_ _ h=>h
theorem Dj.trans {C:BF} {F F' F'' :Fr} {M M' M'' :List Ag} (h:Dj C F M F' M') (k:Dj C F' M' F'' M''):Dj C F M F'' M'' :=λa w r=>k a w (h a w r)
theorem AW.weak {C:BF} {c:Code} {F F' :Fr} {M M' :List Ag} {Q:Cj} (h:Dj C F M F' M') (k:AW C c F' M' Q):AW C c F M Q:=λa w r=>k a w (h a w r)
theorem AW.post {C:BF} {c:Code} {F:Fr} {M:List Ag} {Q Q' :Cj} (h:AW C c F M Q) (hq:∀e F M,Q e F M->∃F' M',Dj C F M F' M' /\Q' e F' M'):AW C c F M Q' :=
 λa w hr=>wpIn_mono (h a w hr) λ_ a' w' h=>by
  rcases h with⟨F,M,q,r⟩ | ⟨rfl,D,F,M,w1,q,r,h1⟩
  .obtain⟨F',M',hw,q'⟩:=hq _ _ _ q;exact .inl ⟨F',M',q',hw a' w' r⟩
  .obtain⟨F',M',hw,q'⟩:=hq _ _ _ q;exact .inr ⟨rfl,D,F',M',w1,q',hw _ w1 r,h1⟩
theorem Dj.drop {C:BF} {F F' :Fr} {M:List Ag} (h:∀t,t<C.n->F' t=F t\/F' t= .any):Dj C F M F' M:=by
 rintro a w ⟨σ,own,R⟩;refine⟨σ,own,R.size,R.dfr,λt ht=>?_,R.mem,R.shr,R.ext,R.key0⟩;rcases h t ht with h|h
 .rw[h];exact R.tmp t ht
 .rw[h];intro g;rfl
theorem uc {C:BF} {c:Code} {F:Fr} {M:List Ag} {Q:Cj} (I:Nat->Fr->List Ag->Prop) (k:Nat) (F₀:Fr) (M₀:List Ag) (h0:Dj C F M F₀ M₀) (hI:I k F₀ M₀)
 (round:∀k F M,I k F M->AW C c F M (DR (λF' M' =>∃k' F₁ M₁,k' <k/\Dj C F' M' F₁ M₁/\I k' F₁ M₁) Q)):AW C (.loop c) F M Q:=by
 intro a w hr;have key:∀k,∀F M,I k F M->∀a w,Cu C F M a w->Code.roundsIn (FX C) 0 C.P c (aq C Q) (k+1) a w:=by
  intro k
  induction k using Nat.strongRecOn with
  |_ k ih=>
   intro F M hI a w hr;refine wpIn_mono (round k F M hI a w hr) ?_;rintro e a' w' (⟨F',M',q,r⟩ | ⟨rfl,D,F',M',w1,q,r⟩);rotate_left
   .exact .inr ⟨rfl,D,F',M',w1,q,r⟩
   cases e<;>first|exact .inl ⟨F',M',q,r⟩ |skip
   obtain⟨k',F₁,M₁,hk,hw,hI'⟩:=q;have h1:=ih k' hk F₁ M₁ hI' a' w' (hw a' w' r);have mono:∀m j a w,Code.roundsIn (FX C) 0 C.P c (aq C Q) j a w->Code.roundsIn (FX C) 0 C.P c (aq C Q) (j+m) a w:=by
    intro m j
    induction j with
    |zero=>intro a w h;exact h.elim
    |succ j ihj=>
     intro a w h;rw[show j+1+m=(j+m)+1 by omega];refine wpIn_mono h ?_;intro e a w hq;cases e<;>first|exact hq|exact ihj _ _ hq
   have:=mono (k-(k' +1)) (k' +1) a' w' h1;rw[show k' +1+(k-(k' +1))=k by omega] at this;exact this
 exact wpIn_loop_rounds (k+1) (key k F₀ M₀ hI a w (h0 a w hr))
inductive TD where
 |other
 |bool
 |str
 |ptr
 |int (k:IntKind)
 |slice (e es eb:Nat) (ez:List AV)
 |struct (fs:List (Nat×Nat×Bool))
 |array (len e es:Nat)
structure TI where
 agg:Bool
 size:Nat
 bytes:Nat
 zero:List AV
 d:TD
 cmp:Bool
def zB:AV->Value->Bool
 | .int k n,.int k' m=>k==k' &&n==m
 | .bool b,.bool c=>b==c
 | .str s,.string t=>s.size==0&&t.size==0
 | .own _ n xs,.slice none 0 0=>n==0&&xs.isEmpty
 | .nilp,.pointer none=>true
 |_,_=>false
def Ok:List AV->List Value->Bool
 | [],[]=>true
 |x::xs,v::vs=>zB x v&&Ok xs vs
 |_,_=>false
theorem fT {x:AV} {v:Value} (h:zB x v=true) (w:World) (sh:Nat->Prop) (σ:Nat->Nat->Option St):VR w sh σ x v (λ_=>0):=by
 unfold zB at h;split at h<;>simp_all[VR]
theorem IZ:∀{xs:List AV} {vs:List Value},Ok xs vs=true->∀(w:World) (sh:Nat->Prop) (σ:Nat->Nat->Option St),AI w sh σ xs vs (λ_=>0)
 | [],[],_,_,_,_=>⟨rfl,λ_=>rfl⟩
 |x::xs,v::vs,h,w,sh,σ=>by
  simp only[Ok,uU] at h;exact⟨v,vs,_,_,rfl,fT h.1 w sh σ,IZ h.2 w sh σ,λ_=>rfl⟩
 | [],_::_,h,_,_,_=>by simp[Ok] at h
 |_::_,[],h,_,_,_=>by simp[Ok] at h
def Iu:TypeDesc->Bool
 | .struct _| .array _ _=>true
 |_=>false
def Nq (P:Program):TD->TypeDesc->Bool
 | .other,_=>true
 | .bool,.bool=>true
 | .str,.string=>true
 | .ptr,.pointer _=>true
 | .int k,.int k' =>k==k'
 | .slice e es eb ez,.slice e' =>e==e' &&match P.info? e with
   |some E=>E.size==es&&E.bytes==eb&&match E.zero with
    |some z=>z.cells.size==es&&Ok ez z.cells.toList
    |none=>false
   |none=>false
 | .struct fs,.struct fields=>fs.length==fields.size&&(fs.zip fields.toList).all λ(q,f)=>f.offset==q.1&&(match P.info? f.type with|some E=>E.size==q.2.1|none=>false)&&q.2.1 !=0&&
  (match P.underlying f.type with|some D=>Iu D==q.2.2|none=>false)
 | .array len e es,.array len' e' =>len==len' &&e==e' &&match P.info? e with
   |some E=>E.size==es
   |none=>false
 |_,_=>false
def Kf:AV->AV->Bool
 | .int k _,.int k' _=>k==k'
 | .bool _,.bool _=>true
 | .str _,.str _=>true
 |_,_=>false
def Rh (P:Program) (g:Nat->List AV->Bool):List Field->List AV->Nat->Bool
 | [],zs,_=>zs.isEmpty
 |f::fs,zs,off=>f.name != "_" &&f.offset==off&&(match P.info? f.type,P.underlying f.type with
  |some E,some _=>decide (0<E.size)&&decide (E.size<=zs.length)&&g f.type (zs.take E.size)&&Rh P g fs (zs.drop E.size) (off+E.size)
  |_,_=>false)
def NP (P:Program):Nat->Nat->List AV->Bool
 |0,_,_=>false
 |d+1,t,zs=>match P.underlying t with
  |some (.int _)=>match zs with| [.int _ _]=>true|_=>false
  |some .bool=>match zs with| [.bool _]=>true|_=>false
  |some .string=>match zs with| [.str _]=>true|_=>false
  |some (.struct fs)=> !P.stoodInHeld t&&Rh P (NP P d) fs.toList zs 0
  |_=>false
def dr (P:Program) (t:Nat) (i:TI):Bool:=
 match P.info? t,P.underlying t with
 |some I,some D=>I.size==i.size&&I.bytes==i.bytes&&Iu D==i.agg&&Nq P i.d D&&match I.zero with
  |some z=>z.cells.size==i.size&&Ok i.zero z.cells.toList&&(!i.cmp|| (NP P 4 t i.zero&&!P.eqGuardType P.depth t))
  |none=>false
 |_,_=>false
def BQ (P:Program) (T:Nat->Option TI):Prop:=∀t i,T t=some i->dr P t i=true
structure dt (P:Program) (t:Nat) (i:TI):Prop where
 ok:∃I D z,P.info? t=some I/\P.underlying t=some D/\I.size=i.size/\I.bytes=i.bytes/\Iu D=i.agg/\Nq P i.d D=true/\I.zero=some z/\z.cells.size=i.size/\Ok i.zero z.cells.toList=true/\(i.cmp=true->NP P 4 t i.zero=true/\P.eqGuardType P.depth t=false)
theorem BQ.at {P:Program} {T:Nat->Option TI} (h:BQ P T) {t:Nat} {i:TI} (ht:T t=some i):dt P t i:=by
 have h1:=h t i ht;unfold dr at h1;split at h1
 .rename_i I D hI hD;split at h1
  .rename_i z hz;simp only[uU,beq_iff_eq] at h1;obtain⟨⟨⟨⟨h2,h3⟩,h4⟩,h5⟩,⟨h6,h7⟩,h8⟩:=h1;exact⟨I,D,z,hI,hD,h2,h3,h4,h5,hz,h6,h7,λhc=>by simpa[hc] using h8⟩
  .simp at h1
 .simp at h1
def Bu (F:Fr) (d:Nat) (v:AV):Fr:=λt=>if t=d then v else F t
def AB (F:Fr):Option Nat->AV->Fr
 |some d,v=>Bu F d v
 |none,_=>F
def TO:Value->AV
 | .bool b=> .bool b
 | .int k n=> .int k n
 | .string s=> .str s
 | .slice none 0 0=> .own 0 0 []
 | .pointer none=> .nilp
 |_=> .any
def ev (F:Fr):Operand->AV
 | .tmp t=>F t
 | .const v=>TO v
 | .func f=> .fn f []
 | .global _=> .any
def FH (n:Nat):Operand->Bool
 | .tmp t=>decide (t<n)
 |_=>true
def Bx (n:Nat) (o:Oper):Bool:=o.op.operands.all (FH n)&&(match o.dst with|some d=>decide (d<n) |none=>true)
theorem du (v:Value) (w:World) (sh:Nat->Prop) (σ:Nat->Nat->Option St):VR w sh σ (TO v) v (λ_=>0):=by
 unfold TO;split<;>simp[VR]
section
variable {C:BF} {F:Fr} {M:List Ag} {a:Act} {w:World} {σ:Nat->Nat->Option St} {own:Nat->Option Nat}
theorem AS.ev (R:AS C F M a w σ own) {x:Operand} (h:FH C.n x=true):VR w C.sh σ (ev F x) (a.eval x) (λ_=>0):=by
 cases x with
 |tmp t=>exact R.tmp t (by simpa[FH] using h)
 |const v=>exact du v w _ _
 |global g=>intro g;rfl
 |func f=>exact⟨λ_=>rfl, #[],rfl,rfl,λ_=>rfl⟩
theorem AS.put (R:AS C F M a w σ own) (dst:Option Nat) {av:AV} {v:Value} (h:VR w C.sh σ av v (λ_=>0)):AS C (AB F dst av) M (a.put dst v) w σ own:=by
 cases dst with
 |none=>exact R
 |some d=>
  refine⟨by simp[Act.put,R.size],R.dfr,λt ht=>?_,R.mem,R.shr,R.ext,R.key0⟩;have hs:=R.size;simp only[AB,Bu,Act.put];split
  .rename_i e;subst e;simp[vD,hs,ht];exact h
  .rename_i e;have:=R.tmp t ht;simpa[vD,Array.getElem_setIfInBounds,hs,ht,Ne.symm e] using this
end
def J0 (xs:List AV):Nat->Nat->Option (List AV)
 |_,0=>some []
 |off,m+1=>match xs[off]?,J0 xs (off+1) m with
  |some x,some r=>some (x::r)
  |_,_=>none
def UR:AV->Bool
 | .own _ _ _=>false
 | .optr _=>false
 |_=>true
def TP (agg:Bool):List AV->Option AV
 |cs=>if agg then some (.agg cs) else match cs with| [c]=>some c|_=>none
def CD:AV->Bool
 | .agg _| .tup _| .any=>false
 |_=>true
def DS (c:AV):Bool:=UR c&&CD c
theorem G6 {w:World} {sh:Nat->Prop} {σ:Nat->Nat->Option St}:∀{xs:List AV} {vs:List Value} {fp:Nat->Nat},AI w sh σ xs vs fp->∀{i:Nat} {x:AV},xs[i]?=some x->
 ∃v f,vs[i]?=some v/\VR w sh σ x v f/\∀g,f g<=fp g
 | [],_,_,_,_,_,hx=>by simp at hx
 |y::ys,vs,fp,h,i,x,hx=>by
  simp only[AI] at h;obtain⟨v,rest,f1,f2,rfl,h1,h2,hf⟩:=h;cases i with
  |zero=>simp at hx;subst hx;exact⟨v,f1,rfl,h1,λg=>by have:=hf g;omega⟩
  |succ i=>
   obtain⟨v',f,hv,hr,hle⟩:=G6 h2 (i:=i) (x:=x) (by simpa using hx);exact⟨v',f,by simpa using hv,hr,λg=>by have:=hf g;have:=hle g;omega⟩
theorem Ca {w:World} {sh:Nat->Prop} {σ:Nat->Nat->Option St}:∀{xs:List AV} {vs:List Value} {fp:Nat->Nat},AI w sh σ xs vs fp->vs.length=xs.length
 | [],_,_,h=>by simp only[AI] at h;simp[h.1]
 |y::ys,vs,fp,h=>by
  simp only[AI] at h;obtain⟨v,rest,f1,f2,rfl,h1,h2,hf⟩:=h;simp[Ca h2]
theorem Pt {w:World} {sh:Nat->Prop} {σ:Nat->Nat->Option St} {x:AV} {v:Value} {f:Nat->Nat} (h:VR w sh σ x v f) (hx:UR x=true) (hc:CD x=true):VR w sh σ x v (λ_=>0):=by
 cases x<;>simp[UR,CD] at hx hc<;>simp only[VR] at h |-<;>simp_all
theorem KG:∀{m:Nat} {xs cs:List AV} {off:Nat},J0 xs off m=some cs->cs.length=m/\∀i,i<m->xs[off+i]?=cs[i]?/\off+i<xs.length
 |0,_,_,_,h=>by simp[J0] at h;subst h;simp
 |m+1,xs,cs,off,h=>by
  simp only[J0] at h;split at h
  .rename_i x r hx hr;simp at h;subst h;obtain⟨h1,h2⟩:=KG hr;refine⟨by simp[h1],λi hi=>?_⟩;have hlt:off<xs.length:=by
    rcases uY off xs.length with h|h
    .exact h
    .simp[uR h] at hx
   cases i with
   |zero=>exact⟨by simpa using hx,zO⟩
   |succ i=>
    have:=h2 i zO;exact⟨by rw[show off+(i+1)=off+1+i by omega];simpa using this.1,by have:=this.2;omega⟩
  .simp at h
theorem tB (a:Addr) (m k:Nat):(a.add m).add k=a.add (m+k):=by
 unfold Addr.add;by_cases hm:m=0<;>by_cases hk:k=0<;>simp[hm,hk,wx]
theorem Iv {P:Program} {w:World} {a:Addr}:∀(m:Nat) (vs:List Value),vs.length=m->(∀i v,vs[i]?=some v->w.cell? (a.add i)=some v)->(loadCells a m).run P w= .ok vs.toArray w:=by
 intro m vs hl h;have key:∀(m:Nat) (vs:List Value) (i:Nat) (acc:Array Value),vs.length=m->(∀j v,vs[j]?=some v->w.cell? (a.add (i+j))=some v)->
  (loadCellsFrom a i m acc).run P w= .ok (acc++vs.toArray) w:=by
  intro m
  induction m with
  |zero=>intro vs i acc hl h;simp at hl;subst hl;simp[loadCellsFrom]
  |succ m ih=>
   intro vs i acc hl h;cases vs with
   |nil=>simp at hl
   |cons v vs=>
    have h0:w.cell? (a.add i)=some v:=by simpa using h 0 v rfl
    simp only[loadCellsFrom,Sem.run_bind,run_load,h0,Result.andThen_ok];rw[ih vs (i+1) (acc.push v) (by simpa using hl) (λj u hu=>by have:=h (j+1) u (by simpa using hu);rwa [show i+1+j=i+(j+1) by omega])];simp
 have:=key m vs 0 #[] hl (λj v hv=>by simpa using h j v hv);simpa[loadCells] using this
theorem H8 {P:Program} {w:World} {t:Nat} {D:TypeDesc} (h:P.underlying t=some D):(isAgg t).run P w= .ok (Iu D) w:=by
 unfold isAgg;simp only[Sem.run_bind,run_underlying h,Result.andThen_ok];cases D<;>rfl
theorem Cr {P:Program} {w:World} {t:Nat} {I:TypeInfo} (h:P.info? t=some I):(sizeOf t).run P w= .ok I.size w:=by
 simp[sizeOf,typeInfo,h]
def Ah (M:List Ag) (T v:Nat):Option (List AV):=
 match M[T]? with
 |some (.live v' cs)=>if v=v' then some cs else none
 |_=>none
def Nr (T:Nat->Option TI) (M:List Ag) (t:Nat) (x:AV):Option AV:=
 match T t with
 |none=>none
 |some i=>match (match x with
  | .ptr B v off=>match Ah M B v with
    |some cs=>match J0 cs off i.size with
     |some r=>if r.all DS then some r else none
     |none=>none
    |none=>none
  | .rptr xs=>match J0 xs 0 i.size with
   |some r=>if r.all DS then some r else none
   |none=>none
  |_=>none) with
  |some r=>TP i.agg r
  |none=>none
theorem DW {w:World} {h:Nat} {cur:Array Value} {e:TypeId} (hh:w.heap[h]?=some (.cells cur e (0,0))) (o:Nat):w.cell? ⟨h,o,none⟩=cur[o]?:=by
 simp[World.cell?,hh]
theorem BW (h o j:Nat):(⟨h,o,none⟩:Addr).add j=⟨h,o+j,none⟩:=by
 unfold Addr.add;split<;>simp_all
theorem Cv {w:World} {sh:Nat->Prop} {σ:Nat->Nat->Option St} {own:Nat->Option Nat} {M:List Ag} (m:Cp w sh σ own M) {T v:Nat} {cs:List AV} (hb:Ah M T v=some cs):
 M[T]?=some (.live v cs)/\∃fp,BR w sh σ T (.live v cs) fp/\∀g,fp g<=if own g=some T then 1 else 0:=by
 unfold Ah at hb;split at hb
 .rename_i v' cs' hM;split at hb
  .rename_i e;subst e;simp at hb;subst hb;exact⟨hM,m.blk T _ hM⟩
  .simp at hb
 .simp at hb
theorem Gh {w:World} {sh:Nat->Prop} {σ:Nat->Nat->Option St} {own:Nat->Option Nat} {M:List Ag} (m:Cp w sh σ own M) {T v off:Nat} {cs:List AV} (hb:Ah M T v=some cs)
 {x:Value} (hx:VR w sh σ (.ptr T v off) x (λ_=>0)):
 ∃h b cur e,x= .pointer (some ⟨h,b+off,none⟩)/\σ T v=some (.loc h b cur.size)/\own h=some T/\w.heap[h]?=some (.cells cur e (0,0))/\b+cs.length<=cur.size/\
  ∀j c,cs[j]?=some c->∃u f,cur[b+j]?=some u/\VR w sh σ c u f:=by
 obtain⟨hM,fp,hB,hf⟩:=Cv m hb;simp only[VR] at hx;obtain⟨_,_,st,hs,hn,hx⟩:=hx;simp only[BR] at hB;obtain⟨_,hB⟩:=hB;rcases hB with⟨h1,_,_⟩ | ⟨h,b,cur,e,fp',h1,h2,h3,h4,h5⟩
 .rw[h1] at hs;simp at hs;exact absurd hs.symm hn
 .rw[h1] at hs;simp at hs;refine⟨h,b,cur,e,hx h b _ hs.symm,h1,?_,h2,h3,λj c hc=>?_⟩
  .have:=hf h;have h6:=h5 h;simp at h6;split at this
   .assumption
   .omega
  .obtain⟨u,f,hu,hr,_⟩:=G6 h4 hc;refine⟨u,f,?_,hr⟩;have hj:j<cs.length:=by
    rcases uY j cs.length with h|h
    .exact h
    .simp[uR h] at hc
   rw[vT,zP hj,vG] at hu;simpa using hu
theorem Hg {w:World} {sh:Nat->Prop} {σ:Nat->Nat->Option St}:∀{xs:List AV} {vs:List Value},vs.length=xs.length->(∀(i:Nat) (x:AV),xs[i]?=some x->∃v,vs[i]?=some v/\VR w sh σ x v (λ_=>0))->AI w sh σ xs vs (λ_=>0)
 | [],vs,hl,_=>by
   have:vs=[]:=vr (by simpa using hl);subst this;exact⟨rfl,λ_=>rfl⟩
 |x::xs,[],hl,_=>by simp at hl
 |x::xs,v::vs,hl,h=>by
  obtain⟨v',hv,hr⟩:=h 0 x rfl;simp at hv;subst hv;exact⟨_,_,_,_,rfl,hr,Hg (by simpa using hl) (λi y hy=>by simpa using h (i+1) y (by simpa using hy)),λ_=>rfl⟩
theorem Ol {P:Program} {w:World} {sh:Nat->Prop} {σ:Nat->Nat->Option St} {t:Nat} {i:TI} (ti:dt P t i) {ad:Addr} {r:List AV} {av:AV} (hl:r.length=i.size) (hm:TP i.agg r=some av)
 (h:∀j c,r[j]?=some c->∃u,w.cell? (ad.add j)=some u/\VR w sh σ c u (λ_=>0)):∃v,(loadVar t ad).run P w= .ok v w/\VR w sh σ av v (λ_=>0):=by
 obtain⟨I,D,z,hI,hD,h1,h2,h3,h4,h5,h6,h7,_⟩:=ti.ok;unfold loadVar;simp only[Sem.run_bind,H8 hD,Result.andThen_ok,h3];unfold TP at hm;cases hagg:i.agg
 .simp only[hagg,vt,if_false] at hm |-;split at hm
  .rename_i c;simp at hm;subst hm;obtain⟨u,hu,hr⟩:=h 0 c rfl;have hz:ad.add 0=ad:=by simp[Addr.add]
   rw[hz] at hu;exact⟨u,by simp[hu],hr⟩
  .simp at hm
 .simp only[hagg,if_true] at hm |-;simp at hm;subst hm;have hvs:∃vs:List Value,vs.length=r.length/\∀j c,r[j]?=some c->∃u,vs[j]?=some u/\w.cell? (ad.add j)=some u/\VR w sh σ c u (λ_=>0):=by
   refine⟨(List.range r.length).map (λj=>(w.cell? (ad.add j)).getD undef),zS,λj c hc=>?_⟩;obtain⟨u,hu,hr⟩:=h j c hc;have hj:j<r.length:=by
    rcases uY j r.length with h|h
    .exact h
    .simp[uR h] at hc
   exact⟨u,by simp[hj,hu],hu,hr⟩
  obtain⟨vs,hvl,hv⟩:=hvs;have hrun:(loadCells ad I.size).run P w= .ok vs.toArray w:=by
   refine Iv _ vs (by rw[hvl,hl,h1]) (λj v hjv=>?_);have hj:j<r.length:=by
    rw[<-hvl];rcases uY j vs.length with h|h
    .exact h
    .simp[uR h] at hjv
   obtain⟨u,hu,hc,_⟩:=hv j r[j] zS;rw[hjv] at hu;simp at hu;subst hu;exact hc
  refine⟨.agg vs.toArray,by simp[Cr hI,hrun],vs.toArray,rfl,?_⟩;exact Hg hvl (λj c hc=>let ⟨u,hu,_,hr⟩:=hv j c hc;⟨u,hu,hr⟩)
theorem Ri {C:BF} {F:Fr} {M:List Ag} {a:Act} {w:World} {σ:Nat->Nat->Option St} {own:Nat->Option Nat} {T:Nat->Option TI} (tk:BQ C.P T) (R:AS C F M a w σ own)
 {t:Nat} {x:AV} {v:Value} (hx:VR w C.sh σ x v (λ_=>0)) {r:AV} (h:Nr T M t x=some r):∃u,(Instr.loadAt t v).run C.P w= .ok u w/\VR w C.sh σ r u (λ_=>0):=by
 unfold Nr at h;split at h
 .simp at h
 .rename_i i ht;have ti:=tk.at ht;split at h
  .rename_i cs hcs;split at hcs
   .rename_i B v' off;split at hcs
    .rename_i bs hbs;split at hcs
     .rename_i r' hg;split at hcs
      .rename_i hall;simp at hcs;subst hcs;obtain⟨hh,b,cur,e,rfl,hs,ho,hheap,hle,hc⟩:=Gh R.mem hbs hx;obtain⟨hl,hget⟩:=KG hg;have:=Ol (P:=C.P) (w:=w) (sh:=C.sh) (σ:=σ) ti (ad:=⟨hh,b+off,none⟩) hl h (λj c hj=>by
        have hjl:j<i.size:=by
         rw[<-hl];rcases uY j r'.length with h|h
         .exact h
         .simp[uR h] at hj
        obtain⟨u,f,hu,hr⟩:=hc (off+j) c (by rw[(hget j hjl).1];exact hj);have hnc:=u1.1 hall c (vo hj);simp only[DS,uU] at hnc;refine⟨u,?_,Pt hr hnc.1 hnc.2⟩;rw[BW,DW hheap,wx];exact hu)
       obtain⟨u,hu,hr⟩:=this;exact⟨u,by simp[Instr.loadAt,Instr.sureAddr,hu],hr⟩
      .simp at hcs
     .simp at hcs
    .simp at hcs
   .rename_i xs;split at hcs
    .rename_i r' hg;split at hcs
     .rename_i hall;simp at hcs;subst hcs;simp only[VR] at hx;obtain⟨_,ad,vs,rfl,hx⟩:=hx;obtain⟨hl,hget⟩:=KG hg;have:=Ol (P:=C.P) (w:=w) (sh:=C.sh) (σ:=σ) ti (ad:=ad) hl h (λj c hj=>by
       have hjl:j<i.size:=by
        rw[<-hl];rcases uY j r'.length with h|h
        .exact h
        .simp[uR h] at hj
       have hg1:=hget j hjl;simp only[Nat.zero_add] at hg1;rcases hx with hx| ⟨_,hrow,hvs⟩
       .subst hx;simp at hg1
       .obtain⟨u,f,hu,hr,hf⟩:=G6 hvs (i:=j) (x:=c) (by rw[hg1.1];exact hj);have hnc:=u1.1 hall c (vo hj);simp only[DS,uU] at hnc;exact⟨u,hrow j u hu,Pt (VR.up σ hr) hnc.1 hnc.2⟩)
      obtain⟨u,hu,hr⟩:=this;exact⟨u,by simp[Instr.loadAt,Instr.sureAddr,hu],hr⟩
     .simp at hcs
    .simp at hcs
   .simp at hcs
  .simp at h
def Ax (T:Nat->Option TI) (t:Nat):TD:=match T t with|some i=>i.d|none=> .other
theorem MR {P:Program} {T:Nat->Option TI} (tk:BQ P T) {t:Nat} (h:Ax T t≠ .other):∃D,P.underlying t=some D/\Nq P (Ax T t) D=true:=by
 unfold Ax at*;split at h<;>rename_i ht
 .obtain⟨I,D,z,hI,hD,h1,h2,h3,h4,h5,h6,h7,_⟩:=(tk.at ht).ok;exact⟨D,hD,h4⟩
 .exact absurd rfl h
theorem CH {P:Program} {T:Nat->Option TI} (tk:BQ P T) {t e es eb:Nat} {ez:List AV} (h:Ax T t= .slice e es eb ez):P.underlying t=some (.slice e)/\∃E z,P.info? e=some E/\E.size=es/\E.bytes=eb/\E.zero=some z/\z.cells.size=es/\Ok ez z.cells.toList=true:=by
 obtain⟨D,hD,hb⟩:=MR tk (t:=t) (by rw[h];simp);rw[h] at hb;cases D<;>simp[Nq] at hb;rename_i e';obtain⟨rfl,hb⟩:=hb;refine⟨hD,?_⟩;split at hb
 .rename_i E hE;simp only[uU,beq_iff_eq] at hb;obtain⟨⟨h1,h2⟩,hb⟩:=hb;split at hb
  .rename_i z hz;simp only[uU,beq_iff_eq] at hb;exact⟨E,z,hE,h1,h2,hz,hb.1,hb.2⟩
  .simp at hb
 .simp at hb
theorem Jq {P:Program} {T:Nat->Option TI} (tk:BQ P T) {t:Nat} {fs:List (Nat×Nat×Bool)} (h:Ax T t= .struct fs):∃fields,P.underlying t=some (.struct fields)/\
 ∀(j:Nat) (q:Nat×Nat×Bool),fs[j]?=some q->∃(f:Field) (E:TypeInfo) (D:TypeDesc),fields[j]?=some f/\f.offset=q.1/\P.info? f.type=some E/\E.size=q.2.1/\q.2.1≠0/\P.underlying f.type=some D/\Iu D=q.2.2:=by
 obtain⟨D,hD,hb⟩:=MR tk (t:=t) (by rw[h];simp);rw[h] at hb;cases D<;>simp only[Nq,vt] at hb;rename_i fields;refine⟨fields,hD,λj q hj=>?_⟩;simp only[uU,beq_iff_eq] at hb;obtain⟨hl,hb⟩:=hb;have hjl:j<fields.size:=by
  rw[<-hl];rcases uY j fs.length with h|h
  .exact h
  .simp[uR h] at hj
 have hz:(fs.zip fields.toList)[j]?=some (q,fields[j]):=by
  rw[List.getElem?_zip_eq_some];exact⟨hj,zS⟩
 have h1:=u1.1 hb _ (vo hz);simp only[uU,beq_iff_eq,bne_iff_ne] at h1;obtain⟨⟨⟨h2,h3⟩,h4⟩,h5⟩:=h1;split at h3
 .rename_i E hE;split at h5
  .rename_i D' hD';exact⟨fields[j],E,D',by simp[hjl],h2,hE,by simpa using h3,h4,hD',by simpa using h5⟩
  .simp at h5
 .simp at h3
theorem Rj {P:Program} {T:Nat->Option TI} (tk:BQ P T) {t len e es:Nat} (h:Ax T t= .array len e es):P.underlying t=some (.array len e)/\∃E,P.info? e=some E/\E.size=es:=by
 obtain⟨D,hD,hb⟩:=MR tk (t:=t) (by rw[h];simp);rw[h] at hb;cases D<;>simp[Nq] at hb;rename_i l' e';obtain⟨⟨rfl,rfl⟩,hb⟩:=hb;refine⟨hD,?_⟩;split at hb
 .rename_i E hE;exact⟨E,hE,by simpa using hb⟩
 .simp at hb
theorem Om {P:Program} {T:Nat->Option TI} (tk:BQ P T) {t:Nat} {k:IntKind} (h:Ax T t= .int k):P.underlying t=some (.int k):=by
 obtain⟨D,hD,hb⟩:=MR tk (t:=t) (by rw[h];simp);rw[h] at hb;cases D<;>simp[Nq] at hb;subst hb;exact hD
theorem Kg {P:Program} {T:Nat->Option TI} (tk:BQ P T) {t:Nat} (h:Ax T t= .str):P.underlying t=some .string:=by
 obtain⟨D,hD,hb⟩:=MR tk (t:=t) (by rw[h];simp);rw[h] at hb;cases D<;>simp[Nq] at hb;exact hD
def Jr (T:Nat->Option TI) (M:List Ag) (t:Nat) (x:AV) (f:Nat):Option AV:=
 match Ax T t with
 | .struct fs=>match fs[f]? with
   |some (o,_,_)=>match x with
    | .ptr B v off=>if (Ah M B v).isSome then some (.ptr B v (off+o)) else none
    | .rptr xs=>some (.rptr (xs.drop o))
    |_=>none
   |none=>none
 |_=>none
section
variable {C:BF} {w:World} {σ:Nat->Nat->Option St} {T:Nat->Option TI}
theorem Js {sh:Nat->Prop} {xs:List AV} {o:Nat} {ad:Addr} {vs:List Value} (h:xs=[]\/(sh ad.block/\E4 w ad vs/\AI w sh σ0 xs vs (λ_=>0))):VR w sh σ (.rptr (xs.drop o)) (.pointer (some (ad.add o))) (λ_=>0):=by
 refine⟨λ_=>rfl,ad.add o,vs.drop o,rfl,?_⟩;rcases h with h| ⟨h1,h2,h3⟩
 .subst h;left;simp
 .right;refine⟨?_,λi v hv=>?_,?_⟩
  .have:(ad.add o).block=ad.block:=by unfold Addr.add;split<;>rfl
   rw[this];exact h1
  .rw[tB];exact h2 (o+i) v (by simpa using hv)
  .refine Hg (by have:=Ca h3;simp[this]) (λi x hx=>?_);obtain⟨v,f,hv,hr,hf⟩:=G6 h3 (i:=o+i) (x:=x) (by simpa using hx);refine⟨v,by simpa using hv,?_⟩;have:f=λ_=>0:=funext λg=>by have:=hf g;omega
   rw[<-this];exact hr
theorem dv {own:Nat->Option Nat} {M:List Ag} (m:Cp w C.sh σ own M) (tk:BQ C.P T) {t f:Nat} {x:AV} {v:Value} (hx:VR w C.sh σ x v (λ_=>0)) {r:AV} (h:Jr T M t x f=some r):∃u,(Instr.fieldAt t v f).run C.P w= .ok u w/\VR w C.sh σ r u (λ_=>0):=by
 unfold Jr at h;split at h
 .rename_i fs hfs;obtain⟨fields,hD,hf⟩:=Jq tk hfs;split at h
  .rename_i o s g hq;obtain⟨fl,E,D,h1,h2,h3,h4,h5,_,_⟩:=hf f _ hq;have run:∀ad:Addr,(Instr.fieldAt t (.pointer (some ad)) f).run C.P w= .ok (.pointer (some (ad.add o))) w:=by
    intro ad;simp[Instr.fieldAt,run_underlying hD,h1,Instr.sureAddr,fieldPlace,Cr h3,h4,h5,h2]
   split at h
   .rename_i B v' off;split at h
    .rename_i hl;simp at h;subst h;obtain⟨cs,hcs⟩:=w7.1 hl;obtain⟨hh,b,cur,e,rfl,hs,_⟩:=Gh m hcs hx;refine⟨_,run _,λ_=>rfl,zX,_,hs,zS,λh' b' sz' e=>?_⟩;cases e;rw[BW,wx]
    .simp at h
   .simp at h;subst h;simp only[VR] at hx;obtain⟨_,ad,vs,rfl,hx⟩:=hx;exact⟨_,run ad,Js hx⟩
   .simp at h
  .simp at h
 .simp at h
end
def LI (T:Nat->Option TI) (M:List Ag) (t:Nat) (x ix:AV):Option AV:=
 match Ax T t,ix with
 | .slice _ es _ _,.int _ k=>match x with
   | .ro n xs=>if 0<=k/\k<n then some (.rptr (xs.drop (k.toNat*es))) else none
   | .tok B v _ off n=>if 0<=k/\k<n then if (Ah M B v).isSome then some (.ptr B v (off+k.toNat*es)) else none else none
   |_=>none
 | .array len _ es,.int _ k=>match x with
   | .ptr B v off=>if 0<=k/\k<len then if (Ah M B v).isSome then some (.ptr B v (off+k.toNat*es)) else none else none
   | .rptr xs=>if 0<=k/\k<len then some (.rptr (xs.drop (k.toNat*es))) else none
   |_=>none
 |_,_=>none
def Dq (op:BinOp):AV->AV->Option AV
 | .int k a,.int k' b=>match op with
   | .shl=>if 0<=b then some (.int k (k.wrap (a*2^(min b.toNat k.bits)))) else none
   | .shr=>if 0<=b then some (.int k (a.fdiv (2^(min b.toNat k.bits)))) else none
   |op=>if k=k' then match op with
    | .add=>some (.int k (k.wrap (a+b)))
    | .sub=>some (.int k (k.wrap (a-b)))
    | .mul=>some (.int k (k.wrap (a*b)))
    | .quo=>if b=0 then none else some (.int k (k.wrap (a.tdiv b)))
    | .rem=>if b=0 then none else some (.int k (a.tmod b))
    | .and=>some (.int k (k.wrap (BitVec.ofInt k.bits a&&&BitVec.ofInt k.bits b).toNat))
    | .or=>some (.int k (k.wrap (BitVec.ofInt k.bits a|||BitVec.ofInt k.bits b).toNat))
    | .xor=>some (.int k (k.wrap (BitVec.ofInt k.bits a^^^BitVec.ofInt k.bits b).toNat))
    | .eql=>some (.bool (decide (a=b)))
    | .neq=>some (.bool (!decide (a=b)))
    | .lss=>some (.bool (decide (a<b)))
    | .leq=>some (.bool (decide (a<=b)))
    | .gtr=>some (.bool (decide (b<a)))
    | .geq=>some (.bool (decide (b<=a)))
    |_=>none else none
 | .str a,.str b=>match op with
   | .eql=>some (.bool (decide (a=b)))
   | .neq=>some (.bool (!decide (a=b)))
   |_=>none
 |_,_=>none
def un (op:UnOp):AV->Option AV
 | .int k n=>match op with
   | .neg=>some (.int k (k.wrap (0-n)))
   |_=>none
 | .bool b=>match op with
   | .not=>some (.bool !b)
   |_=>none
 |_=>none
def ZC (T:Nat->Option TI) (src dst:Nat) (x:AV):Option AV:=
 match Ax T src,Ax T dst,x with
 | .int _,.int k,.int _ n=>some (.int k (k.wrap n))
 | .str,.str,.str s=>some (.str s)
 |_,_,_=>none
def Pu (T:Nat->Option TI) (t:Nat) (x:AV):Option AV:=
 match Ax T t,x with
 | .str,.str s=>some (.int .i64 s.size)
 | .slice _ _ _ _,.ro n _=>some (.int .i64 n)
 | .slice _ _ _ _,.own _ n xs=>if n=0/\xs=[] then some (.int .i64 0) else none
 | .slice _ _ _ _,.tok B v _ _ n=>some (.int .i64 n)
 | .array n _ _,_=>some (.int .i64 n)
 |_,_=>none
theorem Rk (a b:ByteArray):(a.toList==b.toList)=decide (a=b):=by
 rw[ByteArray.toList_eq,ByteArray.toList_eq];by_cases h:a=b
 .subst h;simp
 .have:a.data.toList≠b.data.toList:=λe=>h (by cases a;cases b;simp at e;simp[e]);rw[beq_eq_false_iff_ne.2 this];simp[h]
section
variable {C:BF} {w:World} {σ:Nat->Nat->Option St} {T:Nat->Option TI} {own:Nat->Option Nat} {M:List Ag}
theorem G7 {sh:Nat->Prop} (m:Cp w sh σ own M) {B v s off n:Nat} {cs:List AV} (hb:Ah M B v=some cs) {x:Value} (hx:VR w sh σ (.tok B v s off n) x (λ_=>0)) (hn:0<n):
 ∃h b cur e c,x= .slice (some ⟨h,b+off,none⟩) n c/\n<=c/\c<=maxLen/\b+off+c*s<=cur.size/\σ B v=some (.loc h b cur.size)/\own h=some B/\w.heap[h]?=some (.cells cur e (0,0))/\b+cs.length<=cur.size/\
  ∀j c,cs[j]?=some c->∃u f,cur[b+j]?=some u/\VR w sh σ c u f:=by
 simp only[VR] at hx;obtain⟨_,_,st,hs,h1,h2⟩:=hx;have hst:st≠ .nil:=λe=>by have:=(h1 e).2.2;omega
 obtain⟨h,b,cur,e,_,h4,h5,h6,h7,h8⟩:=Gh m hb (x:=match st with| .loc h b _=> .pointer (some ⟨h,b+off,none⟩) |_=> .pointer (some ⟨0,0,none⟩)) (off:=off) (by
  simp only[VR];refine⟨λ_=>trivial,(by cases st<;>exact zX),st,hs,hst,λh b sz e=>by subst e;rfl⟩)
 rw[h4] at hs;simp at hs;obtain⟨a,c,hx,ha,hc,hm,hz⟩:=h2 h b _ hs.symm;refine⟨h,b,cur,e,c,?_,hc,hm,hz,h4,h5,h6,h7,h8⟩;rw[hx,ha zO]
theorem dw (m:Cp w C.sh σ own M) (tk:BQ C.P T) {t:Nat} {x ix:AV} {v vi:Value} (hx:VR w C.sh σ x v (λ_=>0)) (hi:VR w C.sh σ ix vi (λ_=>0)) {r:AV} (h:LI T M t x ix=some r):
 ∃u,(Instr.indexAt t v vi).run C.P w= .ok u w/\VR w C.sh σ r u (λ_=>0):=by
 unfold LI at h;split at h
 .rename_i e es eb ez kd k htd;obtain⟨hD,E,z,hE,h1,_⟩:=CH tk htd;have hvi:vi= .int kd k:=hi.1;subst hvi;have run:∀(ad:Addr) (n c:Nat),0<=k/\k<n->(Instr.indexAt t (.slice (some ad) n c) (.int kd k)).run C.P w= .ok (.pointer (some (ad.add (k.toNat*es)))) w:=by
   intro ad n c hk;simp[Instr.indexAt,asIntOf,run_underlying hD,Cr hE,h1,hk]
  split at h
  .rename_i n xs;split at h
   .rename_i hk;simp at h;subst h;simp only[VR] at hx;obtain⟨_,a,c,rfl,hc,hna,hx⟩:=hx;cases a with
    |none=>have:=hna rfl;omega
    |some ad=>
     rcases hx with hx| ⟨ad',vs,h2,h3⟩
     .exact⟨_,run ad n c hk,Js (vs:=[]) (.inl hx)⟩
     .cases h2;exact⟨_,run ad n c hk,Js (.inr h3)⟩
   .simp at h
  .rename_i B v' s off n;split at h
   .rename_i hk;split at h
    .rename_i hl;simp at h;subst h;obtain⟨cs,hcs⟩:=w7.1 hl;obtain⟨hh,b,cur,e',c,rfl,_,_,_,hs,_⟩:=G7 m hcs hx zO;refine⟨_,run _ n c hk,λ_=>rfl,zX,_,hs,zS,λh' b' sz' e=>?_⟩;cases e;rw[BW,wx]
    .simp at h
   .simp at h
  .simp at h
 .rename_i len e es kd k htd;obtain⟨hD,E,hE,h1⟩:=Rj tk htd;have hvi:vi= .int kd k:=hi.1;subst hvi;have run:∀(ad:Addr),0<=k/\k<len->(Instr.indexAt t (.pointer (some ad)) (.int kd k)).run C.P w= .ok (.pointer (some (ad.add (k.toNat*es)))) w:=by
   intro ad hk;simp[Instr.indexAt,asIntOf,run_underlying hD,Cr hE,h1,hk,Instr.sureAddr]
  split at h
  .split at h
   .rename_i hk;split at h
    .rename_i hl;simp at h;subst h;obtain⟨cs,hcs⟩:=w7.1 hl;obtain⟨hh,b,cur,e',rfl,hs,_⟩:=Gh m hcs hx;refine⟨_,run _ hk,λ_=>rfl,zX,_,hs,zS,λh' b' sz' e=>?_⟩;cases e;rw[BW,wx]
    .simp at h
   .simp at h
  .split at h
   .rename_i hk;simp at h;subst h;simp only[VR] at hx;obtain⟨_,ad,vs,rfl,hx⟩:=hx;exact⟨_,run ad hk,Js hx⟩
   .simp at h
  .simp at h
 .simp at h
theorem GP {op:BinOp} {t:Nat} {x y:Operand} {a b:Value} (ha:a≠ .nilIface) (hb:∀cs,a≠ .agg cs):(eqGuard op t x y a b).run C.P w= .ok () w:=by
 unfold eqGuard;cases op<;>simp<;>(split<;>simp_all)
theorem dx {op:BinOp} {t:Nat} {ox oy:Operand} {x y:AV} {vx vy:Value} (hx:VR w C.sh σ x vx (λ_=>0)) (hy:VR w C.sh σ y vy (λ_=>0)) {r:AV} (h:Dq op x y=some r):
 ∃u,(do eqGuard op t ox oy vx vy;binOp op t vx vy:Sem Value).run C.P w= .ok u w/\VR w C.sh σ r u (λ_=>0):=by
 unfold Dq at h;split at h
 .rename_i k a k' b;have e1:vx= .int k a:=hx.1;have e2:vy= .int k' b:=hy.1;subst e1 e2;simp only[Sem.run_bind,GP (C:=C) (w:=w) (op:=op) (t:=t) (x:=ox) (y:=oy) (a:=Value.int k a) (b:=Value.int k' b) zS zS,Result.andThen_ok];split at h
  .split at h
   .rename_i hb;simp at h;subst h;exact⟨_,by simp[binOp,Op.shift,Int.not_lt.2 hb],rfl,λ_=>rfl⟩
   .simp at h
  .split at h
   .rename_i hb;simp at h;subst h;exact⟨_,by simp[binOp,Op.shift,Int.not_lt.2 hb],rfl,λ_=>rfl⟩
   .simp at h
  .rename_i hs1 hs2;split at h
   .rename_i hk;subst hk;split at h
    all_goals first
     | (simp at h;subst h;exact⟨_,by simp[binOp,Op.intArith,Op.intBits,Op.intCmp];try rfl,rfl,λ_=>rfl⟩)
     | (split at h
        .simp at h
        .rename_i hb;simp at h;subst h;exact⟨_,by simp[binOp,Op.intDiv,hb],rfl,λ_=>rfl⟩)
     | (simp at h;subst h;exact⟨.bool _,by simp only[binOp,Op.intCmp];rfl,rfl,λ_=>rfl⟩)
     |simp at h
   .simp at h
 .rename_i a b;have e1:vx= .string a:=hx.1;have e2:vy= .string b:=hy.1;subst e1 e2;simp only[Sem.run_bind,GP (C:=C) (w:=w) (op:=op) (t:=t) (x:=ox) (y:=oy) (a:=Value.string a) (b:=Value.string b) zS zS,Result.andThen_ok];split at h
  .simp at h;subst h;exact⟨_,by simp[binOp,Op.stringOp,Rk],rfl,λ_=>rfl⟩
  .simp at h;subst h;exact⟨_,by simp[binOp,Op.stringOp,Rk],rfl,λ_=>rfl⟩
  .simp at h
 .simp at h
end
def DT (s:ByteArray) (i:Nat):Nat:=if h:i<s.size then s[i].toNat else 0
def TQ (T:Nat->Option TI) (t:Nat) (x ix:AV):Option AV:=
 match Ax T t,x,ix with
 | .str,.str s,.int _ k=>if 0<=k/\k<s.size then some (.int .u8 (DT s k.toNat)) else none
 |_,_,_=>none
def ZD (T:Nat->Option TI) (t:Nat) (x:AV) (f:Nat):Option AV:=
 match Ax T t with
 | .struct fs=>match fs[f]? with
   |some (o,s,g)=>match x with
    | .agg cs=>match J0 cs o s with
      |some r=>TP g r
      |none=>none
    |_=>none
   |none=>none
 |_=>none
def ext (x:AV) (i:Nat):Option AV:=match x with| .tup xs=>xs[i]?|_=>none
def US (z x:AV):AV:=match x with| .own 0 0 []=>(match z with| .own s 0 []=> .own s 0 [] |_=>x) |x=>x
def cellsOf:AV->List AV
 | .agg cs=>cs
 |x=> [x]
def KH (z:Option AV) (x:AV):List AV:=match x with
 | .own 0 0 []=>(match z with|some (.own s 0 [])=> [.own s 0 []] |_=> [.own 0 0 []])
 |x=>cellsOf x
def LJ (i:TI) (x:AV):Option (List AV):=
 if i.agg then(match x with| .agg cs=>if cs.length=i.size/\cs.all CD=true then some cs else none|_=>none)
 else if i.size=1/\CD x=true then some (KH i.zero[0]? x) else none
def Hv (T:Nat->Option TI) (t:Nat) (x:AV):AV:=match x with
 | .own 0 0 []=>match T t with|some i=>(match i.zero with| [z]=>US z x|_=>x) |none=>x
 |x=>x
def Hh (x:Option AV) (d m:Nat):Option Nat:=match x with
 |none=>some d
 |some (.int _ k)=>if 0<=k/\k<=m then some k.toNat else none
 |_=>none
def LK (T:Nat->Option TI) (M:List Ag) (t:Nat) (x:AV) (lo hi mx:Option AV):Option AV:=
 match Ax T t with
 | .str=>match x,mx with
   | .str s,none=>match Hh hi s.size s.size with
     |some h=>match Hh lo 0 h with
      |some l=>some (.str (s.extract l h))
      |none=>none
     |none=>none
   |_,_=>none
 | .slice _ es _ _=>match mx with
   |none=>match x with
    | .ro n xs=>match Hh hi n n with
      |some h=>match Hh lo 0 h with
       |some l=>some (.ro (h-l) ((xs.drop (l*es)).take ((h-l)*es)))
       |none=>none
      |none=>none
    | .tok B v s off n=>if s=es/\(Ah M B v).isSome then match Hh hi n n with
      |some h=>match Hh lo 0 h with
       |some l=>some (.tok B v s (off+l*es) (h-l))
       |none=>none
      |none=>none else none
    | .own s n xs=>if n=0/\xs=[] then match Hh hi 0 0 with
      |some h=>match Hh lo 0 h with
       |some _=>some (.own s 0 [])
       |none=>none
      |none=>none else none
    |_=>none
   |some m=>match hi,lo with
    |some h,none=>match h,m with
     | .int _ 0,.int _ 0=>match x with
       | .ro _ _=>some (.own es 0 [])
       | .own _ 0 []=>some (.own es 0 [])
       | .tok _ _ _ _ _=>some (.own es 0 [])
       |_=>none
     |_,_=>none
    |_,_=>none
 |_=>none
def Bt:List AV->Nat->List AV->List AV
 |cs,_,[]=>cs
 |cs,o,x::xs=>Bt (cs.set o x) (o+1) xs
def Rl:AV->Bool
 | .any| .tup _=>false
 |_=>true
def Jt (place:Nat->Option (Nat×Nat)):List AV->List (Nat×AV)->Option (List AV)
 |cs,[]=>some cs
 |cs,(i,x)::rest=>match place i with
  |some (o,s)=>if Rl x=true/\(cellsOf x).length=s/\o+s<=cs.length then Jt place (Bt cs o (KH cs[o]? x)) rest else none
  |none=>none
def ZE (fs:List (Nat×Nat×Bool)) (i:Nat):Option (Nat×Nat):=match fs[i]? with|some (o,s,_)=>some (o,s) |none=>none
def ZF (es:Nat) (i:Nat):Option (Nat×Nat):=some (i*es,es)
section
variable {C:BF} {w:World} {σ:Nat->Nat->Option St} {T:Nat->Option TI} {own:Nat->Option Nat} {M:List Ag}
theorem fU {op:UnOp} {x:AV} {v:Value} (hx:VR w C.sh σ x v (λ_=>0)) {r:AV} (h:un op x=some r):∃u,(Op.unary op v).run C.P w= .ok u w/\VR w C.sh σ r u (λ_=>0):=by
 unfold un at h;split at h
 .have e:=hx.1;subst e;split at h
  .simp at h;subst h;exact⟨_,by simp only[Op.unary,Op.intArith];rfl,by simp[VR]⟩
  .simp at h
 .have e:=hx.1;subst e;split at h
  .simp at h;subst h;exact⟨_,by simp[Op.unary],rfl,λ_=>rfl⟩
  .simp at h
 .simp at h
theorem dy (tk:BQ C.P T) {src dst:Nat} {x:AV} {v:Value} (hx:VR w C.sh σ x v (λ_=>0)) {r:AV} (h:ZC T src dst x=some r):∃u,(convert src dst v).run C.P w= .ok u w/\VR w C.sh σ r u (λ_=>0):=by
 unfold ZC at h;split at h
 .rename_i h1 h2;have e:=hx.1;subst e;simp at h;subst h;exact⟨_,by simp[convert,run_underlying (Om tk h1),run_underlying (Om tk h2),Conv.intToInt],rfl,λ_=>rfl⟩
 .rename_i h1 h2;have e:=hx.1;subst e;simp at h;subst h;exact⟨_,by simp[convert,run_underlying (Kg tk h1),run_underlying (Kg tk h2)],rfl,λ_=>rfl⟩
 .simp at h
theorem ZZ (tk:BQ C.P T) {t ty:Nat} {x:AV} {v:Value} (hx:VR w C.sh σ x v (λ_=>0)) {r:AV} (h:Pu T t x=some r):
 ∃u,(Builtin.len_ #[t] ty #[v]).run C.P w= .ok u w/\VR w C.sh σ r u (λ_=>0):=by
 unfold Pu at h;split at h
 .rename_i h1;have e:=hx.1;subst e;simp at h;subst h;exact⟨_,by simp[Builtin.len_,run_underlying (Kg tk h1),goInt],rfl,λ_=>rfl⟩
 .rename_i h1;simp only[VR] at hx;obtain⟨_,a,c,rfl,_⟩:=hx;simp at h;subst h;exact⟨_,by simp[Builtin.len_,run_underlying (CH tk h1).1,goInt],rfl,λ_=>rfl⟩
 .rename_i h1;split at h
  .rename_i hn;obtain⟨rfl,rfl⟩:=hn;simp only[VR] at hx;simp at h;subst h;rcases hx with⟨⟨a,rfl⟩,_⟩ | ⟨h',b,c,cur,e,fp',rfl,_⟩
   .exact⟨_,by simp[Builtin.len_,run_underlying (CH tk h1).1,goInt],rfl,λ_=>rfl⟩
   .exact⟨_,by simp[Builtin.len_,run_underlying (CH tk h1).1,goInt],rfl,λ_=>rfl⟩
  .simp at h
 .rename_i B v' s off n h1;simp at h;subst h;simp only[VR] at hx;obtain⟨_,⟨a,c,rfl⟩,_⟩:=hx;exact⟨_,by simp[Builtin.len_,run_underlying (CH tk h1).1,goInt],rfl,λ_=>rfl⟩
 .rename_i n _ _ h1;simp at h;subst h;refine⟨.int .i64 n,?_,rfl,λ_=>rfl⟩;simp[Builtin.len_,run_underlying (Rj tk h1).1,goInt]
 .simp at h
theorem dz (tk:BQ C.P T) {t:Nat} {x ix:AV} {v vi:Value} (hx:VR w C.sh σ x v (λ_=>0)) (hi:VR w C.sh σ ix vi (λ_=>0)) {r:AV} (h:TQ T t x ix=some r):∃u,(Instr.index t v vi).run C.P w= .ok u w/\VR w C.sh σ r u (λ_=>0):=by
 unfold TQ at h;split at h
 .rename_i s kd k h1;have e:=hx.1;subst e;have e:=hi.1;subst e;split at h
  .rename_i hk;simp at h;subst h;have hlt:k.toNat<s.size:=zO;refine⟨.int .u8 (DT s k.toNat),?_,rfl,λ_=>rfl⟩;simp[Instr.index,asIntOf,run_underlying (Kg tk h1),hk.1,hlt,DT]
  .simp at h
 .simp at h
theorem Gc {f:Nat->Nat} (h:∀g,f g<=(λ_:Nat=>0) g):f=λ_=>0:=funext λg=>by have:=h g;simpa using this
theorem dA (tk:BQ C.P T) {t f:Nat} {x:AV} {v:Value} (hx:VR w C.sh σ x v (λ_=>0)) {r:AV} (h:ZD T t x f=some r):∃u,(Instr.field t v f).run C.P w= .ok u w/\VR w C.sh σ r u (λ_=>0):=by
 unfold ZD at h;split at h
 .rename_i fs hfs;obtain⟨fields,hD,hf⟩:=Jq tk hfs;split at h
  .rename_i o s g hq;obtain⟨fl,E,D,h1,h2,h3,h4,h5,h6,h7⟩:=hf f _ hq;simp only at h2 h4 h5 h7;split at h
   .rename_i cs;simp only[VR] at hx;obtain⟨vs,rfl,hvs⟩:=hx;split at h
    .rename_i r' hg;obtain⟨hl,hget⟩:=KG hg;have hlen:=Ca hvs;have cell:∀(j:Nat) (c:AV),r'[j]?=some c->∃u,vs.toList[o+j]?=some u/\VR w C.sh σ c u (λ_=>0):=by
      intro j c hj;have hjl:j<s:=by
       rw[<-hl];rcases uY j r'.length with h|h
       .exact h
       .simp[uR h] at hj
      obtain⟨u,f,hu,hr,hle⟩:=G6 hvs (i:=o+j) (x:=c) (by rw[(hget j hjl).1];exact hj);rw[Gc hle] at hr;exact⟨u,hu,hr⟩
     unfold TP at h;cases g
     .simp only[vt,if_false] at h;split at h
      .rename_i c;simp at h;subst h;obtain⟨u,hu,hr⟩:=cell 0 c rfl;refine⟨u,?_,hr⟩;simp at hu;simp[Instr.field,run_underlying hD,h1,asAgg,part,H8 h6,h7,h2,hu]
      .simp at h
     .simp only[if_true] at h;simp at h;subst h;refine⟨.agg (vs.extract o (o+s)),by simp[Instr.field,run_underlying hD,h1,asAgg,part,H8 h6,h7,h2,Cr h3,h4],_,rfl,?_⟩;refine Hg ?_ (λj c hj=>?_)
      .have:o+s<=vs.size:=by
        have h8:=(hget (s-1) zO).2;simp at hlen;omega
       simp;omega
      .obtain⟨u,hu,hr⟩:=cell j c hj;have hjl:j<s:=by
        rw[<-hl];rcases uY j r'.length with h|h
        .exact h
        .simp[uR h] at hj
       refine⟨u,?_,hr⟩;simp only[Array.toList_extract,List.extract_eq_take_drop];rw[vT,zP zO,vG];exact hu
    .simp at h
   .simp at h
  .simp at h
 .simp at h
theorem dB {x:AV} {i:Nat} {v:Value} (hx:VR w C.sh σ x v (λ_=>0)) {r:AV} (h:ext x i=some r):∃u,(Instr.extract v i).run C.P w= .ok u w/\VR w C.sh σ r u (λ_=>0):=by
 unfold ext at h;split at h
 .simp only[VR] at hx;obtain⟨vs,rfl,hvs⟩:=hx;obtain⟨u,f,hu,hr,hle⟩:=G6 hvs h;rw[Gc hle] at hr;refine⟨u,?_,hr⟩;simp at hu;simp[Instr.extract,hu]
 .simp at h
end
section
variable {C:BF} {w:World} {σ:Nat->Nat->Option St} {T:Nat->Option TI} {own:Nat->Option Nat} {M:List Ag}
theorem TR {P:Program} {x:Option AV} {v:Option Value} {d m c l:Nat} {code:BoundsCode} (hx:∀a,x=some a->∃u,v=some u/\VR w C.sh σ a u (λ_=>0)) (hn:x=none->v=none) (hmc:m<=c) (h:Hh x d m=some l):
 (x=none/\l=d)\/(∃u k i,v=some u/\u= .int k i/\l=i.toNat/\l<=m/\0<=i/\(Instr.sliceBound u c code).run P w= .ok l w):=by
 unfold Hh at h;split at h
 .simp at h;exact .inl ⟨rfl,h.symm⟩
 .rename_i k i;obtain⟨u,hu,hr⟩:=hx _ rfl;have e:=hr.1;subst e;split at h
  .rename_i hk;simp at h;subst h;refine .inr ⟨_,k,i,hu,rfl,rfl,zO,hk.1,?_⟩;have:0<=i/\i<=c:=zO;simp[Instr.sliceBound,asIntOf,this]
  .simp at h
 .simp at h
theorem G8 {P:Program} {lo hi:Option AV} {vl vh:Option Value} {n c l h:Nat} (b:Bool) (hlo:∀a,lo=some a->∃u,vl=some u/\VR w C.sh σ a u (λ_=>0)) (hlo' :lo=none->vl=none)
 (hhi:∀a,hi=some a->∃u,vh=some u/\VR w C.sh σ a u (λ_=>0)) (hhi' :hi=none->vh=none) (hnc:n<=c) (h1:Hh hi n n=some h) (h2:Hh lo 0 h=some l):
 (Instr.sliceBounds b n c vl vh none).run P w= .ok (l,h,c) w/\l<=h/\h<=n:=by
 have r1:=TR (P:=P) (code:=if b then .sliceAcap else .sliceAlen) hhi hhi' hnc h1;have r2:=TR (P:=P) (code:= .sliceB) hlo hlo' (vg h) h2;unfold Instr.sliceBounds;rcases r1 with⟨e,rfl⟩ | ⟨u,k,i,hu,_,_,hle,_,r1⟩
 .rw[hhi' e];rcases r2 with⟨e,rfl⟩ | ⟨u,k,i,hu,_,_,hle,_,r2⟩
  .rw[hlo' e];simp
  .rw[hu];refine⟨?_,hle,vg _⟩;simp only[Sem.run_bind,Sem.run_pure,Result.andThen_ok,Option.isSome_none,vt,if_false,r2]
 .rw[hu];rcases r2 with⟨e,rfl⟩ | ⟨u2,k2,i2,hu2,_,_,hle2,_,r2⟩
  .rw[hlo' e];exact⟨by simp only[Sem.run_bind,Sem.run_pure,Result.andThen_ok,r1],vn _,hle⟩
  .rw[hu2];exact⟨by simp only[Sem.run_bind,Sem.run_pure,Result.andThen_ok,Option.isSome_none,vt,if_false,r1,r2],hle2,hle⟩
theorem VZ (m:Cp w C.sh σ own M) (tk:BQ C.P T) {t:Nat} {x:AV} {v:Value} {lo hi mx:Option AV} {vl vh vm:Option Value} (hx:VR w C.sh σ x v (λ_=>0))
 (hlo:∀a,lo=some a->∃u,vl=some u/\VR w C.sh σ a u (λ_=>0)) (hlo' :lo=none->vl=none)
 (hhi:∀a,hi=some a->∃u,vh=some u/\VR w C.sh σ a u (λ_=>0)) (hhi' :hi=none->vh=none)
 (hmx:∀a,mx=some a->∃u,vm=some u/\VR w C.sh σ a u (λ_=>0)) (hmx' :mx=none->vm=none) {r:AV} (h:LK T M t x lo hi mx=some r):
 ∃u,(Instr.sliceAt t v vl vh vm).run C.P w= .ok u w/\VR w C.sh σ r u (λ_=>0):=by
 unfold LK at h;split at h
 .rename_i htd;have hD:=Kg tk htd;split at h
  .rename_i s;have e:=hx.1;subst e;rw[hmx' rfl];split at h
   .rename_i h0 hh;split at h
    .rename_i l hl;simp at h;subst h;obtain⟨hr,_,_⟩:=G8 (P:=C.P) (w:=w) (σ:=σ) (C:=C) false hlo hlo' hhi hhi' (vg s.size) hh hl;refine⟨.string (s.extract l h0),?_,rfl,λ_=>rfl⟩;simp only[Instr.sliceAt,Sem.run_bind,run_underlying hD,Result.andThen_ok,Instr.slice,Option.isSome_none,vt,if_false,Sem.run_pure,hr]
    .simp at h
   .simp at h
  .simp at h
 .rename_i e es eb ez htd;obtain⟨hD,E,z,hE,hs,_⟩:=CH tk htd;split at h
  .rw[hmx' rfl];have run:∀(a:Option Addr) (n c l h0:Nat),(Instr.sliceBounds true n c vl vh none).run C.P w= .ok (l,h0,c) w->(Instr.sliceAt t (.slice a n c) vl vh none).run C.P w= .ok (.slice (if c=l then a else a.map (·.add (l*es))) (h0-l) (c-l)) w:=by
    intro a n c l h0 hb;simp only[Instr.sliceAt,Sem.run_bind,run_underlying hD,Result.andThen_ok,Instr.slice,hb,Cr hE,hs,Sem.run_pure]
   split at h
   .rename_i n xs;split at h
    .rename_i h0 hh;split at h
     .rename_i l hl;simp at h;subst h;simp only[VR] at hx;obtain⟨_,a,c,rfl,hc,hna,hx⟩:=hx;obtain⟨hr,hlh,hhn⟩:=G8 (P:=C.P) (w:=w) (σ:=σ) (C:=C) true hlo hlo' hhi hhi' hc hh hl;refine⟨_,run a n c l h0 hr,λ_=>rfl,_,c-l,rfl,zO,?_,?_⟩
      .intro hn;split at hn
       .have:=hna hn;omega
       .simp at hn;have:=hna hn;omega
      .rcases hx with hx| ⟨ad,vs,ha,h2,h3,h4⟩
       .left;simp[hx]
       .by_cases hcl:c=l
        .left;have:h0-l=0:=zO;simp[this]
        .right;refine⟨ad.add (l*es),(vs.drop (l*es)).take ((h0-l)*es),by simp[hcl,ha],?_,?_,?_⟩
         .have:(ad.add (l*es)).block=ad.block:=by unfold Addr.add;split<;>rfl
          rw[this];exact h2
         .intro i v hv;rw[tB];refine h3 _ v ?_;rw[vT] at hv;split at hv
          .simpa using hv
          .simp at hv
         .refine Hg (by have:=Ca h4;simp[this]) (λi x hx=>?_);rw[vT] at hx;split at hx
          .rename_i hi';obtain⟨u,f,hu,hr,hle⟩:=G6 h4 (i:=l*es+i) (x:=x) (by simpa using hx);rw[Gc hle] at hr;exact⟨u,by rw[vT,zP hi'];simpa using hu,hr⟩
          .simp at hx
     .simp at h
    .simp at h
   .rename_i B v' s off n;split at h
    .rename_i hsl;obtain⟨rfl,hlive⟩:=hsl;split at h
     .rename_i h0 hh;split at h
      .rename_i l hl;simp at h;subst h;obtain⟨cs,hcs⟩:=w7.1 hlive;have hx0:=hx;simp only[VR] at hx;obtain⟨_,hsl0,st,hst,hx1,hx2⟩:=hx;cases st with
       |dead=>
        obtain⟨hM,fp,hB,_⟩:=Cv m hcs;simp only[BR] at hB;rcases hB.2 with⟨e,_⟩ | ⟨_,_,_,_,_,e,_⟩<;>(rw[hst] at e;simp at e)
       |nil=>
        obtain⟨⟨a,rfl⟩,rfl,rfl⟩:=hx1 rfl;obtain⟨hr,hlh,hhn⟩:=G8 (P:=C.P) (w:=w) (σ:=σ) (C:=C) true hlo hlo' hhi hhi' (vg 0) hh hl;have e0:h0=0:=zO;have e1:l=0:=zO;subst e0 e1;refine⟨_,run a 0 0 0 0 hr,λ_=>rfl,⟨_,_,rfl⟩,.nil,hst,λ_=>?_,λ_ _ _ e=>by cases e⟩;simp
       |loc g b sz=>
        obtain⟨a,c,rfl,ha,hc,hm,hz⟩:=hx2 g b sz rfl;obtain⟨hr,hlh,hhn⟩:=G8 (P:=C.P) (w:=w) (σ:=σ) (C:=C) true hlo hlo' hhi hhi' hc hh hl;have hsz:b+(off+l*s)+(c-l)*s<=sz:=by
         have:l*s+(c-l)*s=c*s:=by rw[<-wK];congr 1;omega
         omega
        refine⟨_,run (some a) n c l h0 hr,λ_=>rfl,⟨_,_,rfl⟩,.loc g b sz,hst,(λe=>by cases e),λg' b' sz' e=>?_⟩;cases e;by_cases hcl:c=l
        .exact⟨a,c-l,by simp[hcl],zO,zO,zO,hsz⟩
        .refine⟨a.add (l*s),c-l,by simp[hcl],λ_=>?_,zO,zO,hsz⟩;rw[ha zO,BW,wx]
      .simp at h
     .simp at h
    .simp at h
   .rename_i s n xs;split at h
    .rename_i hn;obtain⟨rfl,rfl⟩:=hn;split at h
     .rename_i h0 hh;split at h
      .rename_i l hl;simp at h;subst h;simp only[VR] at hx;rcases hx with⟨⟨a,rfl⟩,_⟩ | ⟨g,b,c,cur,e',fp',_,_,_,_,_,_,_,hf⟩
       .obtain⟨hr,hlh,hhn⟩:=G8 (P:=C.P) (w:=w) (σ:=σ) (C:=C) true hlo hlo' hhi hhi' (vg 0) hh hl;have e0:h0=0:=zO;have e1:l=0:=zO;subst e0 e1;exact⟨_,run a 0 0 0 0 hr,.inl ⟨⟨a,zS⟩,rfl,rfl,λ_=>rfl⟩⟩
       .have:=hf g;simp at this;omega
      .simp at h
     .simp at h
    .simp at h
   .simp at h
  .rename_i m0;split at h
   .rename_i h00;split at h
    .obtain⟨um,hum,hm1⟩:=hmx _ rfl;obtain⟨uh,huh,hh1⟩:=hhi _ rfl;have e1:=hm1.1;have e2:=hh1.1;subst e1 e2;rw[hum,huh,hlo' rfl];rename_i kh km;have run:∀(a:Option Addr) (n c:Nat),∃a',(Instr.sliceAt t (.slice a n c) none (some (.int kh 0)) (some (.int km 0))).run C.P w= .ok (.slice a' 0 0) w:=by
      intro a n c;refine⟨a,?_⟩;simp[Instr.sliceAt,run_underlying hD,Instr.slice,Instr.sliceBounds,Instr.sliceBound,asIntOf,Cr hE]
     split at h
     .simp at h;subst h;simp only[VR] at hx;obtain⟨_,a,c,rfl,_⟩:=hx;obtain⟨a',hr⟩:=run a _ c;exact⟨_,hr,.inl ⟨⟨a',rfl⟩,rfl,rfl,λ_=>rfl⟩⟩
     .simp at h;subst h;simp only[VR] at hx;rcases hx with⟨⟨a,rfl⟩,_⟩ | ⟨g,b,c,cur,e',fp',rfl,_⟩
      .obtain⟨a',hr⟩:=run a 0 0;exact⟨_,hr,.inl ⟨⟨a',rfl⟩,rfl,rfl,λ_=>rfl⟩⟩
      .obtain⟨a',hr⟩:=run (some ⟨g,b,none⟩) 0 c;exact⟨_,hr,.inl ⟨⟨a',rfl⟩,rfl,rfl,λ_=>rfl⟩⟩
     .rename_i B v' _ _ n;simp at h;subst h;simp only[VR] at hx;obtain⟨_,⟨a,c,rfl⟩,_⟩:=hx;obtain⟨a',hr⟩:=run a n c;exact⟨_,hr,.inl ⟨⟨a',rfl⟩,rfl,rfl,λ_=>rfl⟩⟩
     .simp at h
    .simp at h
   .simp at h
 .simp at h
end
def Gi:AV->Value
 | .int k n=> .int k n
 | .bool b=> .bool b
 | .str s=> .string s
 |_=>undef
def IE:AV->AV->Bool
 | .int _ a,.int _ b=>decide (a=b)
 | .bool a,.bool b=>decide (a=b)
 | .str a,.str b=>decide (a=b)
 |_,_=>false
def A7:List AV->List AV->List AV->Option Bool
 | [],[],[]=>some true
 |z::zs,x::xs,y::ys=>if Kf z x=true/\Kf z y=true then(match A7 zs xs ys with|some r=>some (IE x y&&r) |none=>none) else none
 |_,_,_=>none
def GN (T:Nat->Option TI) (op:BinOp) (t:Nat) (x y:AV):Option AV:=match x,y with
 | .bool a,.bool b=>match Ax T t with
   | .bool=>match op with
     | .eql=>some (.bool (decide (a=b)))
     | .neq=>some (.bool (!decide (a=b)))
     |_=>none
   |_=>none
 | .agg xs,.agg ys=>match T t with
   |some i=>if i.cmp=true/\i.agg=true then match A7 i.zero xs ys with
    |some r=>match op with
     | .eql=>some (.bool r)
     | .neq=>some (.bool !r)
     |_=>none
    |none=>none else none
   |none=>none
 |x,y=>Dq op x y
theorem Z0 {w:World} {sh:Nat->Prop} {σ:Nat->Nat->Option St} {z x:AV} {v:Value} {fp:Nat->Nat} (h:Kf z x=true) (hv:VR w sh σ x v fp):v=Gi x:=by
 cases x<;>cases z<;>simp[Kf] at h<;>exact hv.1
theorem NQ {w:World} {sh:Nat->Prop} {σ:Nat->Nat->Option St}:∀{zs xs ys:List AV} {r:Bool} {vs:List Value} {fp:Nat->Nat},A7 zs xs ys=some r->AI w sh σ xs vs fp->vs=xs.map Gi
 | [],[],[],_,_,_,_,hv=>hv.1
 |z::zs,x::xs,y::ys,r,vs,fp,h,hv=>by
  simp only[A7] at h;split at h
  .rename_i hk;split at h
   .rename_i r' hr;simp only[AI] at hv;obtain⟨v,rest,f1,f2,rfl,h1,h2,_⟩:=hv;rw[Z0 hk.1 h1,NQ hr h2];rfl
   .simp at h
  .simp at h
 | [],_::_,_,_,_,_,h,_=>by simp[A7] at h
 | [],[],_::_,_,_,_,h,_=>by simp[A7] at h
 |_::_,[],_,_,_,_,h,_=>by simp[A7] at h
 |_::_,_::_,[],_,_,_,h,_=>by simp[A7] at h
theorem Ns:∀{zs xs ys:List AV} {r:Bool},A7 zs xs ys=some r->∃r',A7 zs ys xs=some r'
 | [],[],[],_,_=>⟨true,rfl⟩
 |z::zs,x::xs,y::ys,r,h=>by
  simp only[A7] at h;split at h
  .rename_i hk;split at h
   .rename_i r' hr;obtain⟨r2,h2⟩:=Ns hr;refine⟨IE y x&&r2,?_⟩;simp only[A7];rw[zP ⟨hk.2,hk.1⟩,h2]
   .simp at h
  .simp at h
 | [],_::_,_,_,h=>by simp[A7] at h
 | [],[],_::_,_,h=>by simp[A7] at h
 |_::_,[],_,_,h=>by simp[A7] at h
 |_::_,_::_,[],_,h=>by simp[A7] at h
theorem FI:∀{zs xs ys:List AV} {r:Bool},A7 zs xs ys=some r->xs.length=zs.length/\ys.length=zs.length
 | [],[],[],_,_=>⟨rfl,rfl⟩
 |z::zs,x::xs,y::ys,r,h=>by
  simp only[A7] at h;split at h
  .split at h
   .rename_i r' hr;have:=FI hr;simp;omega
   .simp at h
  .simp at h
 | [],_::_,_,_,h=>by simp[A7] at h
 | [],[],_::_,_,h=>by simp[A7] at h
 |_::_,[],_,_,h=>by simp[A7] at h
 |_::_,_::_,[],_,h=>by simp[A7] at h
theorem LL:∀(n:Nat) {zs xs ys:List AV} {r:Bool},n<=zs.length->A7 zs xs ys=some r->∃r1 r2,A7 (zs.take n) (xs.take n) (ys.take n)=some r1/\A7 (zs.drop n) (xs.drop n) (ys.drop n)=some r2/\r=(r1&&r2)
 |0,zs,xs,ys,r,_,h=>⟨true,r,rfl,h,zS⟩
 |n+1,[],_,_,_,hn,_=>by simp at hn
 |n+1,z::zs,x::xs,y::ys,r,hn,h=>by
  simp only[A7] at h;split at h
  .rename_i hk;split at h
   .rename_i r' hr;simp at h;subst h;obtain⟨r1,r2,h1,h2,rfl⟩:=LL n (by simpa using hn) hr;refine⟨IE x y&&r1,r2,?_,by simpa using h2,by rw[Bool.and_assoc]⟩;simp only[List.take_succ_cons,A7];rw[zP hk,h1]
   .simp at h
  .simp at h
 |n+1,z::zs,[],ys,_,_,h=>by simp[A7] at h
 |n+1,z::zs,x::xs,[],_,_,h=>by simp[A7] at h
section
variable {P:Program} {w:World}
def Hi (P:Program) (t:Nat) (vs:List Value):Value:=match P.underlying t with
 |some D=>if Iu D then .agg vs.toArray else vs.headD undef
 |none=>undef
theorem TS {f:Field} {E:TypeInfo} {D:TypeDesc} {X:Array Value} {off:Nat} (hD:P.underlying f.type=some D) (hE:P.info? f.type=some E) (hl:0<E.size) (hle:off+E.size<=X.size):
 (part f.type X off).run P w= .ok (Hi P f.type ((X.toList.drop off).take E.size)) w:=by
 unfold Hi;simp only[hD];cases hg:Iu D
 .have:X[off]?=some (X[off]'zO):=by simp[show off<X.size by omega]
  have e2:(wL E.size (List.drop off X.toList)).headD undef=X[off]'zO:=by
   rw[List.headD_eq_head?_getD,List.head?_take,zM zO,List.head?_drop,vp,this];rfl
  rw[zM zS,e2];simp[part,H8 hD,hg,this]
 .rw[zP rfl];simp only[part,Sem.run_bind,H8 hD,hg,Result.andThen_ok,if_true,Cr hE,Sem.run_pure];congr 2;apply Array.ext';simp[List.take_drop]
theorem V0:∀(d:Nat) (t:Nat) (zs:List AV),NP P d t zs=true->∀(D:Nat),d<=D->∀(xs ys:List AV) (r:Bool),A7 zs xs ys=some r->
 (Op.equalIn D t (Hi P t (xs.map Gi)) (Hi P t (ys.map Gi))).run P w= .ok r w
 |0,_,_,h,_,_,_,_,_,_=>by simp[NP] at h
 |d+1,t,zs,h,D,hD,xs,ys,r,hp=>by
  obtain⟨D,rfl⟩:∃D',D=D' +1:=⟨D-1,zO⟩;simp only[NP] at h;split at h
  .rename_i k hu;split at h
   .rename_i k' n;cases xs with
    |nil=>simp[A7] at hp
    |cons x xs=>cases ys with
     |nil=>simp[A7] at hp
     |cons y ys=>
      simp only[A7] at hp;split at hp
      .rename_i hk;split at hp
       .rename_i r' hr;have hl:=FI hr;simp at hl;obtain⟨rfl,rfl⟩:=hl;simp[A7] at hr hp;subst hr hp;cases x<;>simp[Kf] at hk;cases y<;>simp[Kf] at hk;obtain⟨rfl,rfl⟩:=hk;simp only[Hi,hu,Iu,wj,xo,List.headD_cons,Gi,IE];simp only[vt,if_false];rw[run_equalIn_int w D t _ _ _ _ hu];congr 1;simp[Bool.beq_eq_decide_eq,BEq.beq]
       .simp at hp
      .simp at hp
   .simp at h
  .rename_i hu;split at h
   .cases xs with
    |nil=>simp[A7] at hp
    |cons x xs=>cases ys with
     |nil=>simp[A7] at hp
     |cons y ys=>
      simp only[A7] at hp;split at hp
      .rename_i hk;split at hp
       .rename_i r' hr;have hl:=FI hr;simp at hl;obtain⟨rfl,rfl⟩:=hl;simp[A7] at hr hp;subst hr hp;cases x<;>simp[Kf] at hk;cases y<;>simp[Kf] at hk;simp only[Hi,hu,Iu,wj,xo,List.headD_cons,Gi,IE];simp only[vt,if_false];rw[run_equalIn_bool' w D t _ _ hu];congr 1;rw[Bool.and_true,Bool.beq_eq_decide_eq]
       .simp at hp
      .simp at hp
   .simp at h
  .rename_i hu;split at h
   .cases xs with
    |nil=>simp[A7] at hp
    |cons x xs=>cases ys with
     |nil=>simp[A7] at hp
     |cons y ys=>
      simp only[A7] at hp;split at hp
      .rename_i hk;split at hp
       .rename_i r' hr;have hl:=FI hr;simp at hl;obtain⟨rfl,rfl⟩:=hl;simp[A7] at hr hp;subst hr hp;cases x<;>simp[Kf] at hk;cases y<;>simp[Kf] at hk;simp only[Hi,hu,Iu,wj,xo,List.headD_cons,Gi,IE];simp only[vt,if_false];rw[run_equalIn_string w D t _ _ hu,<-beq_toListBytes];congr 1;rw[beq_toListBytes,Rk,Bool.and_true]
       .simp at hp
      .simp at hp
   .simp at h
  .rename_i fs hu;simp only[uU,Bool.not_eq_true'] at h;obtain⟨hst,hF⟩:=h;have hfo:P.fieldsOf t=fs:=by simp[Program.fieldsOf,hu]
   have hl:=FI hp;simp only[Hi,hu,Iu,if_true];rw[run_equalIn_struct w D t _ _ (by rw[hfo];exact hu) hst,hfo];have key:∀(l:List Field) (zs xs' ys' :List AV) (off:Nat) (r:Bool),Rh P (NP P d) l zs off=true->A7 zs xs' ys' =some r->xs.drop off=xs' ->ys.drop off=ys' ->off<=xs.length->off<=ys.length->
    (Op.eqFields D (xs.map Gi).toArray (ys.map Gi).toArray l).run P w= .ok r w:=by
    intro l
    induction l with
    |nil=>
     intro zs xs' ys' off r hF hp _ _ _ _;simp[Rh] at hF;subst hF;have:=FI hp;simp at this;obtain⟨rfl,rfl⟩:=this;simp[A7] at hp;subst hp;simp[Op.eqFields]
    |cons f l ih=>
     intro zs xs' ys' off r hF hp hx hy hox hoy;simp only[Rh,uU] at hF;obtain⟨⟨hn,ho⟩,hF⟩:=hF;split at hF
     .rename_i E DD hE hDD;simp only[uU,decide_eq_true_eq] at hF;obtain⟨⟨⟨hz,hle⟩,hg⟩,hF⟩:=hF;have ho:f.offset=off:=by simpa using ho
      obtain⟨r1,r2,p1,p2,rfl⟩:=LL E.size hle hp;have hl2:=FI hp;have lx:off+E.size<=xs.length:=by rw[<-hx] at hl2;simp at hl2;omega
      have ly:off+E.size<=ys.length:=by rw[<-hy] at hl2;simp at hl2;omega
      have a1:=TS (w:=w) (X:=(xs.map Gi).toArray) (off:=off) hDD hE hz (by simpa using lx);have a2:=TS (w:=w) (X:=(ys.map Gi).toArray) (off:=off) hDD hE hz (by simpa using ly);have e1:wL E.size (List.drop off (List.map Gi xs).toArray.toList)=(xs'.take E.size).map Gi:=by rw[<-hx];simp
      have e2:wL E.size (List.drop off (List.map Gi ys).toArray.toList)=(ys'.take E.size).map Gi:=by rw[<-hy];simp
      rw[e1] at a1;rw[e2] at a2;have a3:=V0 d f.type _ hg D zO _ _ _ p1;have a4:=ih (zs.drop E.size) (xs'.drop E.size) (ys'.drop E.size) (off+E.size) r2 hF p2 (by rw[<-hx,wr]) (by rw[<-hy,wr]) lx ly;have hn' :f.name≠ "_" :=by simpa using hn
      simp only[Op.eqFields,zP hn',Sem.run_bind,ho,a1,a2,a3,Result.andThen_ok];cases r1
      .simp
      .simp only[Bool.not_true,vt,if_false,Bool.true_and];exact a4
     .simp at hF
   exact key fs.toList zs xs ys 0 r hF hp zS zS (vn _) (vn _)
  .simp at h
end
section
variable {C:BF} {w:World} {σ:Nat->Nat->Option St} {T:Nat->Option TI}
theorem TT (tk:BQ C.P T) {op:BinOp} {t:Nat} {ox oy:Operand} {x y:AV} {vx vy:Value} (hx:VR w C.sh σ x vx (λ_=>0)) (hy:VR w C.sh σ y vy (λ_=>0)) {r:AV} (h:GN T op t x y=some r):
 ∃u,(do eqGuard op t ox oy vx vy;binOp op t vx vy:Sem Value).run C.P w= .ok u w/\VR w C.sh σ r u (λ_=>0):=by
 unfold GN at h;split at h
 .rename_i a b;have e1:vx= .bool a:=hx.1;have e2:vy= .bool b:=hy.1;subst e1 e2;split at h
  .rename_i htd;obtain⟨D,hD,hb⟩:=MR tk (t:=t) (by rw[htd];simp);rw[htd] at hb;cases D<;>simp only[Nq,vt] at hb;simp only[Sem.run_bind,GP (C:=C) (w:=w) (op:=op) (t:=t) (x:=ox) (y:=oy) (a:=Value.bool a) (b:=Value.bool b) zS zS,Result.andThen_ok];split at h
   .simp at h;subst h;refine⟨.bool (decide (a=b)),?_,rfl,λ_=>rfl⟩;simp[binOp,Op.equal,Op.maxDepth,run_equalIn_bool' w _ t a b hD];rfl
   .simp at h;subst h;refine⟨.bool (!decide (a=b)),?_,rfl,λ_=>rfl⟩;simp[binOp,Op.equal,Op.maxDepth,run_equalIn_bool' w _ t a b hD];rfl
   .simp at h
  .simp at h
 .rename_i xs ys;split at h
  .rename_i i hi;split at h
   .rename_i hc;split at h
    .rename_i r' hr;simp only[VR] at hx hy;obtain⟨X,rfl,hX⟩:=hx;obtain⟨Y,rfl,hY⟩:=hy;have eX:=NQ hr hX;obtain⟨r2,hr2⟩:=Ns hr;have eY:=NQ hr2 hY;obtain⟨I,D,z,hI,hD,h1,h2,h3,h4,h5,h6,h7,h8⟩:=(tk.at hi).ok;obtain⟨h9,h10⟩:=h8 hc.1;have hagg:Hi C.P t (xs.map Gi)= .agg X/\Hi C.P t (ys.map Gi)= .agg Y\/False:=by
      have hag:Iu D=true:=h3.trans hc.2;left;simp only[Hi,hD,hag,if_true];rw[<-eX,<-eY];exact⟨rfl,rfl⟩
     rcases hagg with⟨m1,m2⟩ |h
     rotate_left
     .exact h.elim
     have:=V0 (P:=C.P) (w:=w) 4 t i.zero h9 10000 zO xs ys r' hr;rw[m1,m2] at this;have hg:=run_eqGuard_agg (P:=C.P) w op t ox oy X Y h10;simp only[Sem.run_bind,hg,Result.andThen_ok];split at h
     .simp at h;subst h;exact⟨_,by rw[run_eql_struct,this];rfl,rfl,λ_=>rfl⟩
     .simp at h;subst h;exact⟨_,by rw[run_neq_struct,this];rfl,rfl,λ_=>rfl⟩
     .simp at h
    .simp at h
   .simp at h
  .simp at h
 .exact dx hx hy h
end
section
variable {C:BF} {w:World} {σ:Nat->Nat->Option St} {own:Nat->Option Nat} {M:List Ag} {F:Fr} {a:Act} {T:Nat->Option TI}
def De (M:List Ag):AV->Option (Nat×List AV)
 | .ro m ys=>some (m,ys)
 | .own _ 0 []=>some (0,[])
 | .tok B v s off m=>match Ah M B v with
   |some cs=>some (m,(cs.drop off).take (m*s))
   |none=>none
 |_=>none
theorem KI {sh:Nat->Prop}:∀{xs:List AV} {vs:List Value} {fp:Nat->Nat},AI w sh σ xs vs fp->(xs.all DS)=true->AI w sh σ xs vs (λ_=>0)
 | [],vs,fp,h,_=>by
   simp only[AI] at h;exact⟨h.1,λ_=>rfl⟩
 |x::xs,vs,fp,h,ha=>by
  simp only[AI] at h;obtain⟨v,rest,f1,f2,rfl,h1,h2,hf⟩:=h;simp only[xu,DS,uU] at ha;exact⟨v,rest,_,_,rfl,Pt h1 ha.1.1 ha.1.2,KI h2 ha.2,λ_=>rfl⟩
theorem G2 {sh:Nat->Prop}:∀(k:Nat) {xs:List AV} {vs:List Value} {fp:Nat->Nat},AI w sh σ xs vs fp->∃fp',AI w sh σ (xs.drop k) (vs.drop k) fp' /\∀g,fp' g<=fp g
 |0,xs,vs,fp,h=>⟨fp,h,λ_=>vg _⟩
 |k+1,[],vs,fp,h=>by
  simp only[AI] at h;obtain⟨rfl,h0⟩:=h;exact⟨fp,⟨rfl,h0⟩,λ_=>vg _⟩
 |k+1,x::xs,vs,fp,h=>by
  simp only[AI] at h;obtain⟨v,rest,f1,f2,rfl,h1,h2,hf⟩:=h;obtain⟨fp',h3,h4⟩:=G2 k h2;exact⟨fp',h3,λg=>by have:=hf g;have:=h4 g;omega⟩
theorem I0 {sh:Nat->Prop}:∀(k:Nat) {xs:List AV} {vs:List Value} {fp:Nat->Nat},AI w sh σ xs vs fp->∃fp',AI w sh σ (xs.take k) (vs.take k) fp' /\∀g,fp' g<=fp g
 |0,xs,vs,fp,h=>⟨λ_=>0,⟨rfl,λ_=>rfl⟩,λ_=>vn _⟩
 |k+1,[],vs,fp,h=>by
  simp only[AI] at h;obtain⟨rfl,h0⟩:=h;exact⟨fp,⟨rfl,h0⟩,λ_=>vg _⟩
 |k+1,x::xs,vs,fp,h=>by
  simp only[AI] at h;obtain⟨v,rest,f1,f2,rfl,h1,h2,hf⟩:=h;obtain⟨fp',h3,h4⟩:=I0 k h2;exact⟨λg=>f1 g+fp' g,⟨v,_,f1,fp',rfl,h1,h3,λ_=>rfl⟩,λg=>by have:=hf g;have:=h4 g;simp only;omega⟩
theorem V1 {sh:Nat->Prop} {B v s off n:Nat} {x:Value} (hx:VR w sh σ (.tok B v s off n) x (λ_=>0)):∃a c,x= .slice a n c:=by
 simp only[VR] at hx;exact hx.2.1
theorem Ju {sh:Nat->Prop} (m:Cp w sh σ own M) {y:AV} {v:Value} (hy:VR w sh σ y v (λ_=>0)) {k:Nat} {ys:List AV} (h:De M y=some (k,ys)) {es:Nat} (hl:ys.length=k*es):
 ∃ad c news fp,v= .slice ad k c/\(news=[]\/∃a,ad=some a/\E4 w a news)/\AI w sh σ ys news fp:=by
 unfold De at h;split at h
 .simp at h;obtain⟨rfl,rfl⟩:=h;simp only[VR] at hy;obtain⟨_,ad,c,rfl,_,_,hy⟩:=hy;rcases hy with rfl| ⟨a,vs,h1,_,h2,h3⟩
  .exact⟨ad,c,[],λ_=>0,rfl,.inl rfl,rfl,λ_=>rfl⟩
  .exact⟨ad,c,vs,_,rfl,.inr ⟨a,h1,h2⟩,AI.up σ h3⟩
 .simp at h;obtain⟨rfl,rfl⟩:=h;simp only[VR] at hy;rcases hy with⟨⟨ad,rfl⟩,_⟩ | ⟨g,b,c,cur,e,fp',rfl,_⟩
  .exact⟨ad,0,[],λ_=>0,rfl,.inl rfl,rfl,λ_=>rfl⟩
  .exact⟨_,c,[],λ_=>0,rfl,.inl rfl,rfl,λ_=>rfl⟩
 .rename_i B v' s off n;split at h
  .rename_i cs hcs;simp at h;obtain⟨rfl,rfl⟩:=h;by_cases hn:n=0
   .subst hn;obtain⟨ad,c,rfl⟩:=V1 hy;refine⟨ad,c,[],λ_=>0,rfl,.inl rfl,?_⟩;simp;exact⟨rfl,λ_=>rfl⟩
   .obtain⟨h,b,cur,e,c,rfl,hc,hm,hz,hs,ho,hh,hle,_⟩:=G7 m hcs hy zO;obtain⟨hM,fp,hB,hf⟩:=Cv m hcs;simp only[BR] at hB;rcases hB.2 with⟨h1,_⟩ | ⟨h',b',c',e',fp',h1,h2,h3,h4,h5⟩
    .rw[hs] at h1;simp at h1
    .have hloc:h' =h/\b' =b:=by rw[hs] at h1;simp at h1;exact⟨h1.1.symm,h1.2.1.symm⟩
     obtain⟨rfl,rfl⟩:=hloc;rw[hh] at h2;simp at h2;obtain⟨rfl,rfl⟩:=h2;obtain⟨f1,h6,_⟩:=G2 off h4;obtain⟨f2,h7,_⟩:=I0 (n*s) h6;refine⟨_,c,_,f2,rfl,.inr ⟨_,rfl,?_⟩,h7⟩;intro i u hu;rw[BW,DW hh];rw[vT] at hu;split at hu
     .rw[vG,vT] at hu;split at hu
      .rw[vG] at hu;rw[<-vp];rw[show b' +off+i=b' +(off+i) by omega];exact hu
      .simp at hu
     .simp at hu
  .simp at h
 .simp at h
def TU:AV->Bool
 | .int .u8 _=>true
 |_=>false
def LM:AV->UInt8
 | .int _ n=>UInt8.ofNat n.toNat
 |_=>0
def E5 (cs:List AV):ByteArray:=cs.foldl (λr c=>r.push (LM c)) ByteArray.empty
def NR (T:Nat->Option TI) (M:List Ag) (src dst:Nat) (x:AV):Option AV:=
 match Ax T src,Ax T dst with
 | .slice e _ _ _,.str=>match Ax T e with
   | .int .u8=>match De M x with
     |some q=>if q.2.length=q.1/\q.2.all TU=true then some (.str (E5 q.2)) else none
     |none=>none
   |_=>none
 |_,_=>ZC T src dst x
theorem TV {sh:Nat->Prop}:∀{ys:List AV} {news:List Value} {fp:Nat->Nat},ys.all TU=true->AI w sh σ ys news fp->∃ns:List Int,news=ns.map (Value.int .u8)/\∀r:ByteArray,ns.foldl (λr n=>r.push (UInt8.ofNat n.toNat)) r=ys.foldl (λr c=>r.push (LM c)) r
 | [],news,fp,_,h=>⟨[],by simpa using h.1,λ_=>rfl⟩
 |y::ys,news,fp,ha,h=>by
  simp only[xu,uU] at ha;simp only[AI] at h;obtain⟨v,rest,f1,f2,rfl,h1,h2,_⟩:=h;obtain⟨ns,rfl,h3⟩:=TV ha.2 h2;cases y<;>simp[TU] at ha;rename_i k n;cases k<;>simp[TU] at ha;have:v= .int .u8 n:=h1.1;subst this;exact⟨n::ns,rfl,λr=>h3 _⟩
theorem Z1 (tk:BQ C.P T) (m:Cp w C.sh σ own M) {src dst:Nat} {x:AV} {v:Value} (hx:VR w C.sh σ x v (λ_=>0)) {r:AV} (h:NR T M src dst x=some r):∃u,(convert src dst v).run C.P w= .ok u w/\VR w C.sh σ r u (λ_=>0):=by
 unfold NR at h;split at h
 .rename_i e es eb ez h1 h2;split at h
  .rename_i h3;split at h
   .rename_i q hq;split at h
    .rename_i hc;simp at h;subst h;obtain⟨ad,c,news,fp,rfl,hn,hv⟩:=Ju m hx hq (es:=1) zO;obtain⟨ns,rfl,hf⟩:=TV hc.2 hv;obtain⟨hD,_⟩:=CH tk h1;have hE:=Om tk h3;have hS:=Kg tk h2;have hlen:=Ca hv;rw[run_convert_bytes_string w src dst e ad q.1 c hD hE hS];refine⟨.string (E5 q.2),?_,rfl,λ_=>rfl⟩;rcases hn with hn| ⟨a,rfl,hn⟩
     .have:q.2=[]:=by
       simp at hn;rw[hn] at hlen;exact vr (by simpa using hlen.symm)
      rw[this];have h0:q.1=0:=by rw[<-hc.1,this];rfl
      rw[h0];cases ad with
      |none=>rfl
      |some a=>
       rw[run_bytesToString w a 0 c [] (by simp[loadCells,loadCellsFrom])];rfl
     .rw[run_bytesToString w a q.1 c ns (by
       have:=Iv (P:=C.P) (w:=w) (a:=a) q.1 (ns.map (Value.int .u8)) (by rw[hlen];exact hc.1) hn;simpa using this)]
      rw[hf];rfl
    .simp at h
   .simp at h
  .simp at h
 .exact dy tk hx h
end
def TW (T:Nat->Option TI) (t:Nat) (Ay:List (Nat×AV)):Option AV:=
 match T t with
 |some i=>match i.d with
  | .struct fs=>match Jt (ZE fs) i.zero Ay with
    |some cs=>some (.agg cs)
    |none=>none
  |_=>none
 |none=>none
def LN (F:Fr) (xs:Array Operand):List AV:=xs.toList.map (ev F)
def J1 (M:List Ag):AV->Option AV
 | .ptr B v off=>if (Ah M B v).isSome then some (.ptr B v off) else none
 | .rptr xs=>some (.rptr xs)
 | .fn f cs=>some (.fn f cs)
 |_=>none
def Q8:AV->AV->Option AV
 | .int k a,.int _ b=>some (.int k (if b<a then b else a))
 |_,_=>none
def Q9:AV->AV->Option AV
 | .int k a,.int _ b=>some (.int k (if a<b then b else a))
 |_,_=>none
def Oo (c x y:AV):Option AV:=match c with| .bool c=>some (if c=true then x else y) |_=>none
def pv (T:Nat->Option TI) (M:List Ag) (F:Fr) (o:Oper):Option AV:=
 match o.op with
 | .move x| .assign x=>some (Hv T o.type (ev F x))
 | .pick c a b=>Oo (ev F c) (ev F a) (ev F b)
 | .load t x=>Nr T M t (ev F x)
 | .fieldAddr t x f=>Jr T M t (ev F x) f
 | .indexAddr t x i=>LI T M t (ev F x) (ev F i)
 | .binOp op t x y _=>GN T op t (ev F x) (ev F y)
 | .unOp op _ x=>un op (ev F x)
 | .convert s d x=>NR T M s d (ev F x)
 | .field t x f=>ZD T t (ev F x) f
 | .index t x i=>TQ T t (ev F x) (ev F i)
 | .extract x i=>ext (ev F x) i
 | .slice t x lo hi mx=>LK T M t (ev F x) (lo.map (ev F)) (hi.map (ev F)) (mx.map (ev F))
 | .nilCheck x=>J1 M (ev F x)
 | .makeFunc (.func f) first caps=>if first.size=0 then some (.fn f (LN F caps)) else none
 | .build t Ay=>TW T t (Ay.toList.map λp=>(p.1,ev F p.2))
 | .call {callee:= .builtin .len,args,argTypes}=>match args.toList,argTypes.toList with
   | [x],[t]=>Pu T t (ev F x)
   |_,_=>none
 | .call {callee:= .builtin .min,args,.. }=>match args.toList with
   | [x,y]=>Q8 (ev F x) (ev F y)
   |_=>none
 | .call {callee:= .builtin .max,args,.. }=>match args.toList with
   | [x,y]=>Q9 (ev F x) (ev F y)
   |_=>none
 |_=>none
section
variable {C:BF} {w:World} {σ:Nat->Nat->Option St} {T:Nat->Option TI} {own:Nat->Option Nat} {M:List Ag} {F:Fr} {a:Act}
theorem TX {sh:Nat->Prop}:∀{cs:List AV} {vs:List Value},AI w sh σ cs vs (λ_=>0)->∀(i:Nat) {x:AV} {v:Value},VR w sh σ x v (λ_=>0)->AI w sh σ (cs.set i x) (vs.set i v) (λ_=>0)
 | [],vs,h,i,x,v,_=>by
   have:vs=[]:=by simp only[AI] at h;exact h.1
   subst this;simpa using h
 |c::cs,vs,h,i,x,v,hx=>by
  simp only[AI] at h;obtain⟨v0,rest,f1,f2,rfl,h1,h2,hf⟩:=h;have e1:f1=λ_=>0:=Gc λg=>by have:=hf g;omega
  have e2:f2=λ_=>0:=Gc λg=>by have:=hf g;omega
  subst e1 e2;cases i with
  |zero=>exact⟨v,rest,_,_,rfl,hx,h2,λ_=>rfl⟩
  |succ i=>exact⟨v0,rest.set i v,_,_,rfl,h1,TX h2 i hx,λ_=>rfl⟩
theorem Rm {sh:Nat->Prop}:∀(xs:List AV) {cs:List AV} {vs us:List Value} (o:Nat),AI w sh σ cs vs (λ_=>0)->AI w sh σ xs us (λ_=>0)->
 ∃ws:List Value,AI w sh σ (Bt cs o xs) ws (λ_=>0)/\ws.length=vs.length/\(∀(arr:Array Value) (j:Nat),arr.toList=vs->(us.zipIdx j).foldl (λcs (c,i)=>cs.setIfInBounds (o-j+i) c) arr=ws.toArray\/o<j)
 | [],cs,vs,us,o,h,hx=>by
   simp only[AI] at hx;obtain⟨rfl,_⟩:=hx;exact⟨vs,h,rfl,λarr j ha=> .inl (by simp[<-ha])⟩
 |x::xs,cs,vs,us,o,h,hx=>by
  simp only[AI] at hx;obtain⟨v,rest,f1,f2,rfl,h1,h2,hf⟩:=hx;have e1:f1=λ_=>0:=Gc λg=>by have:=hf g;omega
  have e2:f2=λ_=>0:=Gc λg=>by have:=hf g;omega
  subst e1 e2;obtain⟨ws,hw,hl,hfold⟩:=Rm xs (o+1) (TX h o h1) h2;refine⟨ws,hw,by simpa using hl,λarr j ha=>?_⟩;by_cases hj:o<j
  .exact .inr hj
  .left;simp only[List.zipIdx_cons,List.foldl_cons];rcases hfold (arr.setIfInBounds (o-j+j) v) (j+1) (by rw[<-ha,show o-j+j=o by omega];simp) with h3|h3
   .rw[show o+1-(j+1)=o-j by omega] at h3;exact h3
   .omega
theorem Oq {sh:Nat->Prop} {x:AV} {v:Value} (h:VR w sh σ x v (λ_=>0)) (hx:Rl x=true):AI w sh σ (cellsOf x) v.cells.toList (λ_=>0)/\v.cells.size=(cellsOf x).length:=by
 have one:∀u:Value,v=u->u.cells= #[u]->cellsOf x=[x]->AI w sh σ (cellsOf x) v.cells.toList (λ_=>0)/\v.cells.size=(cellsOf x).length:=by
  intro u e1 e2 e3;rw[e1,e2,e3];exact⟨⟨u,[],_,_,rfl,e1 ▸ h,⟨rfl,λ_=>rfl⟩,λ_=>rfl⟩,rfl⟩
 cases x<;>simp only[Rl,vt] at hx<;>simp only[VR] at h
 case bool=>exact one _ h.1 rfl rfl
 case int=>exact one _ h.1 rfl rfl
 case str=>exact one _ h.1 rfl rfl
 case nilp=>exact one _ h.1 rfl rfl
 case ro=>obtain⟨_,a,c,e,_⟩:=h;exact one _ e rfl rfl
 case own=>rcases h with⟨⟨a,e⟩,_⟩ | ⟨_,_,_,_,_,_,e,_⟩<;>exact one _ e rfl rfl
 case tok=>obtain⟨_,⟨a,c,e⟩,_⟩:=h;exact one _ e rfl rfl
 case ptr=>obtain⟨_,⟨a,e⟩,_⟩:=h;exact one _ e rfl rfl
 case rptr=>obtain⟨_,ad,vs,e,_⟩:=h;exact one _ e rfl rfl
 case optr=>obtain⟨_,_,_,_,_,e,_⟩:=h;exact one _ e rfl rfl
 case fn=>obtain⟨_,cs,e,_⟩:=h;exact one _ e rfl rfl
 case agg=>obtain⟨cs,rfl,hv⟩:=h;exact⟨hv,by have:=Ca hv;simpa[Value.cells,cellsOf] using this⟩
theorem TY {sh:Nat->Prop} {z:Option AV} {x:AV} {v:Value} (h:VR w sh σ x v (λ_=>0)) (hx:Rl x=true):AI w sh σ (KH z x) v.cells.toList (λ_=>0)/\v.cells.size=(KH z x).length/\(KH z x).length=(cellsOf x).length:=by
 unfold KH;split
 .have hv:∃a,v= .slice a 0 0:=by
   simp only[VR] at h;rcases h with⟨h,_⟩ | ⟨g,_,_,_,_,_,_,_,_,_,_,_,_,hf⟩
   .exact h
   .have:=hf g;simp at this;omega
  obtain⟨a,rfl⟩:=hv;split
  .exact⟨⟨_,[],_,_,rfl,.inl ⟨⟨a,rfl⟩,rfl,rfl,λ_=>rfl⟩,⟨rfl,λ_=>rfl⟩,λ_=>rfl⟩,rfl,rfl⟩
  .exact⟨⟨_,[],_,_,rfl,.inl ⟨⟨a,rfl⟩,rfl,rfl,λ_=>rfl⟩,⟨rfl,λ_=>rfl⟩,λ_=>rfl⟩,rfl,rfl⟩
 .have:=Oq h hx;exact⟨this.1,this.2,rfl⟩
theorem Pv {sh:Nat->Prop} {pa place:Nat->Option (Nat×Nat)} (hp:∀(j:Nat) (q:Nat×Nat),pa j=some q->place j=some q):
 ∀(Ay:List (Nat×AV)) (ps:List (Nat×Value)) {cs r:List AV} {arr:Array Value},AI w sh σ cs arr.toList (λ_=>0)->ps.length=Ay.length->
 (∀(j:Nat) (p:Nat×AV),Ay[j]?=some p->∃v,ps[j]?=some (p.1,v)/\VR w sh σ p.2 v (λ_=>0))->Jt pa cs Ay=some r->
 ∃arr' :Array Value,Instr.fill place arr ps=some arr' /\AI w sh σ r arr'.toList (λ_=>0)
 | [],ps,cs,r,arr,h,hl,hr,hf=>by
   have:ps=[]:=vr (by simpa using hl);subst this;simp[Jt] at hf;subst hf;exact⟨arr,rfl,h⟩
 | (i,x)::Ay,ps,cs,r,arr,h,hl,hr,hf=>by
   obtain⟨v,hv,hx⟩:=hr 0 (i,x) rfl;cases ps with
   |nil=>simp at hl
   |cons p ps=>
    simp at hv;subst hv;simp only[Jt] at hf;split at hf
    .rename_i o s hq;split at hf
     .rename_i hc;obtain⟨hc1,hc2,hc3⟩:=hc;obtain⟨h1,h2,h3⟩:=TY (z:=cs[o]?) hx hc1;obtain⟨ws,hw,hwl,hfold⟩:=Rm _ o h h1;have hlen:=Ca h;obtain⟨arr',ha,hr'⟩:=Pv hp Ay ps (cs:=Bt cs o (KH cs[o]? x)) (r:=r) (arr:=ws.toArray) (by simpa using hw) (by simpa using hl) (λj p hj=>by simpa using hr (j+1) p (by simpa using hj)) hf;refine⟨arr',?_,hr'⟩;simp only[Instr.fill,hp i _ hq];have e1:¬(v.cells.size≠s\/o+v.cells.size>arr.size):=by
       simp at hlen;rw[h2,h3,hc2];omega
      have e2:(v.cells.size !=s||decide (o+v.cells.size>arr.size))=false:=by
       simp at e1 |-;omega
      rcases hfold arr 0 rfl with h4|h4
      .have h5:v.cells.zipIdx.foldl (λcs (c,j)=>cs.setIfInBounds (o+j) c) arr=ws.toArray:=by
        rw[<-Array.foldl_toList,Array.toList_zipIdx];exact h4
       split
       .rename_i hbad;simp only[Bool.or_eq_true,decide_eq_true_eq,bne_iff_ne] at hbad;exact absurd hbad e1
       .rw[h5];exact ha
      .omega
     .simp at hf
    .simp at hf
end
theorem Lw {α β:Type} {P:Program} {w:World} (f:α->Sem β) (g:α->β):∀(l:List α),(∀x∈l,(f x).run P w= .ok (g x) w)->(l.mapM f).run P w= .ok (l.map g) w
 | [],_=>zS
 |x::l,h=>by
  simp only[List.mapM_cons,Sem.run_bind,h x zS,Result.andThen_ok,Lw f g l (λy hy=>h y (by simp[hy])),Sem.run_pure,wj]
theorem Pw {α β:Type} {P:Program} {w:World} (f:α->Sem β) (g:α->β) (l:Array α) (h:∀x∈l,(f x).run P w= .ok (g x) w):(l.mapM f).run P w= .ok (l.map g) w:=by
 cases l with
 |mk l=>
  rw[List.mapM_toArray];simp only[Sem.run_map];rw[Lw f g l (λx hx=>h x (by simpa using hx))];simp
section
variable {C:BF} {w:World} {σ:Nat->Nat->Option St} {T:Nat->Option TI} {own:Nat->Option Nat} {M:List Ag} {F:Fr} {a:Act}
theorem V2 {t:Nat} {x:AV} {v:Value} (h:VR w C.sh σ x v (λ_=>0)):VR w C.sh σ (Hv T t x) v (λ_=>0):=by
 unfold Hv;split
 .split
  .split
   .unfold US;split
    .split
     .simp only[VR] at h |-;rcases h with h| ⟨g,_,_,_,_,_,_,_,_,_,_,_,_,hf⟩
      .exact .inl h
      .have:=hf g;simp at this;omega
     .exact h
    .exact h
   .exact h
  .exact h
 .exact h
theorem dC (tk:BQ C.P T) {t:Nat} {Ay:List (Nat×AV)} {ps:Array (Nat×Value)} (hl:ps.size=Ay.length)
 (hr:∀(j:Nat) (p:Nat×AV),Ay[j]?=some p->∃v,ps.toList[j]?=some (p.1,v)/\VR w C.sh σ p.2 v (λ_=>0)) {r:AV} (h:TW T t Ay=some r):
 ∃u,(Instr.build t ps).run C.P w= .ok u w/\VR w C.sh σ r u (λ_=>0):=by
 unfold TW at h;split at h
 .rename_i i ht;obtain⟨I,D,z,hI,hD0,h1,h2,h3,h4,h5,h6,h7,_⟩:=(tk.at ht).ok;split at h
  .rename_i fs hfs;obtain⟨fields,hD,hf⟩:=Jq tk (t:=t) (fs:=fs) (by simp[Ax,ht,hfs]);split at h
   .rename_i cs hcs;simp at h;subst h;rw[hD] at hD0;simp at hD0;subst hD0;have hlen:fs.length=fields.size:=by
     rw[hfs] at h4;simp only[Nq,uU,beq_iff_eq] at h4;exact h4.1
    have hsz:∀f∈fields,∃E,C.P.info? f.type=some E:=by
     intro f hfm;obtain⟨j,hj,he⟩:=Array.mem_iff_getElem.1 hfm;have hjl:j<fs.length:=zO;obtain⟨f',E,D,e1,_,e3,_⟩:=hf j fs[j] (by simp[hjl]);simp[hj,he] at e1;subst e1;exact⟨E,e3⟩
    let g:Field->Nat×Nat:=λf=>(f.offset,match C.P.info? f.type with|some E=>E.size|none=>0);have hm:(fields.mapM λf=>(do pure (f.offset,<-sizeOf f.type):Sem (Nat×Nat))).run C.P w= .ok (fields.map g) w:=by
     refine Pw _ g fields (λf hf=>?_);obtain⟨E,hE⟩:=hsz f hf;simp[Cr hE,g,hE]
    have hp:∀(j:Nat) (q:Nat×Nat),ZE fs j=some q->(fields.map g)[j]?=some q:=by
     intro j q' hq';unfold ZE at hq';split at hq' <;>simp at hq';subst hq';rename_i q1 q2 q3 hq;obtain⟨f',E,D,e1,e2,e3,e4,_⟩:=hf j _ hq;simp[e1,g,e2,e3,e4]
    obtain⟨arr',ha,hv⟩:=Pv (sh:=C.sh) (place:=λj=>(fields.map g)[j]?) hp Ay ps.toList (arr:=z.cells) (IZ h7 w C.sh σ) (by simpa using hl) hr hcs;refine⟨.agg arr',?_,arr',rfl,hv⟩;simp only[Instr.build,Sem.run_bind,zeroValue,typeInfo,run_program,Result.andThen_ok,hI,Sem.run_pure,h5,run_underlying hD,hm];have:Instr.fill (λx=>(fields.map g)[x]?) z.cells ps.toList=some arr' :=ha;simp only[this,Sem.run_pure]
   .simp at h
  .simp at h
 .simp at h
theorem V3 (R:AS C F M a w σ own) {xs:Array Operand} (h:xs.all (FH C.n)=true):AI w C.sh σ (LN F xs) (xs.map a.eval).toList (λ_=>0):=by
 unfold LN;simp only[Array.toList_map];have h' :∀x∈xs.toList,FH C.n x=true:=λx hx=>wc.1 h x (by simpa using hx);generalize xs.toList=l at*
 induction l with
 |nil=>exact⟨rfl,λ_=>rfl⟩
 |cons x l ih=>exact⟨_,_,_,_,rfl,R.ev (h' x zS),ih (λy hy=>h' y (by simp[hy])),λ_=>rfl⟩
theorem MT (tk:BQ C.P T) (R:AS C F M a w σ own) {o:Oper} (hb:Bx C.n o=true) {r:AV} (h:pv T M F o=some r):
 ∃u,(execOp a.eval o).run C.P w= .ok (.value u) w/\VR w C.sh σ r u (λ_=>0):=by
 have hops:∀x∈o.op.operands,FH C.n x=true:=by
  simp only[Bx,uU] at hb;intro x hx;exact wc.1 hb.1 x hx
 unfold pv at h;split at h<;>rename_i hop<;>simp only[hop,Op.operands] at hops
 .rename_i x;simp at h;subst h;exact⟨a.eval x,by simp[execOp,hop],V2 (R.ev (hops x zS))⟩
 .rename_i x;simp at h;subst h;exact⟨a.eval x,by simp[execOp,hop],V2 (R.ev (hops x zS))⟩
 .rename_i c x y;have hc:=R.ev (hops c zS);unfold Oo at h;split at h
  .rename_i b hcb;rw[hcb] at hc;have e:=hc.1;simp at h;subst h;refine⟨if b then a.eval x else a.eval y,by simp[execOp,hop,e,asBool],?_⟩;cases b
   .exact R.ev (hops y zS)
   .exact R.ev (hops x zS)
  .simp at h
 .rename_i t x;obtain⟨u,hu,hr⟩:=Ri tk R (R.ev (hops x zS)) h;exact⟨u,by simp[execOp,hop,hu],hr⟩
 .rename_i t x f;obtain⟨u,hu,hr⟩:=dv R.mem tk (R.ev (hops x zS)) h;exact⟨u,by simp[execOp,hop,hu],hr⟩
 .rename_i t x i;obtain⟨u,hu,hr⟩:=dw R.mem tk (R.ev (hops x zS)) (R.ev (hops i zS)) h;exact⟨u,by simp[execOp,hop,hu],hr⟩
 .rename_i op t x y t';obtain⟨u,hu,hr⟩:=TT tk (t:=t) (ox:=x) (oy:=y) (R.ev (hops x zS)) (R.ev (hops y zS)) h;exact⟨u,by simp only[execOp,hop,Sem.run_bind] at hu |-;rw[hu];rfl,hr⟩
 .rename_i op t x;obtain⟨u,hu,hr⟩:=fU (R.ev (hops x zS)) h;exact⟨u,by simp[execOp,hop,hu],hr⟩
 .rename_i s d x;obtain⟨u,hu,hr⟩:=Z1 tk R.mem (R.ev (hops x zS)) h;exact⟨u,by simp[execOp,hop,hu],hr⟩
 .rename_i t x f;obtain⟨u,hu,hr⟩:=dA tk (R.ev (hops x zS)) h;exact⟨u,by simp[execOp,hop,hu],hr⟩
 .rename_i t x i;obtain⟨u,hu,hr⟩:=dz tk (R.ev (hops x zS)) (R.ev (hops i zS)) h;exact⟨u,by simp[execOp,hop,hu],hr⟩
 .rename_i x i;obtain⟨u,hu,hr⟩:=dB (R.ev (hops x zS)) h;exact⟨u,by simp[execOp,hop,hu],hr⟩
 .rename_i t x lo hi mx;have mp:∀(y:Option Operand),(∀z,y=some z->FH C.n z=true)->(∀b,y.map (ev F)=some b->∃u,y.map a.eval=some u/\VR w C.sh σ b u (λ_=>0))/\(y.map (ev F)=none->y.map a.eval=none):=by
   intro y hy;cases y with
   |none=>simp
   |some z=>exact⟨λb hb=>⟨_,rfl,by simp at hb;subst hb;exact R.ev (hy z rfl)⟩,zS⟩
  have m1:=mp lo (λz hz=>hops z (by simp[hz]));have m2:=mp hi (λz hz=>hops z (by simp[hz]));have m3:=mp mx (λz hz=>hops z (by simp[hz]));obtain⟨u,hu,hr⟩:=VZ R.mem tk (R.ev (hops x zS)) m1.1 m1.2 m2.1 m2.2 m3.1 m3.2 h;exact⟨u,by simp[execOp,hop,hu],hr⟩
 .rename_i x;have hx:=R.ev (hops x zS);unfold J1 at h;split at h
  .rename_i B v off he;split at h
   .rename_i hl;simp at h;subst h;rw[he] at hx;have hx' :=hx;simp only[VR] at hx';obtain⟨_,⟨ad,e⟩,_⟩:=hx';exact⟨_,by simp[execOp,hop,e],e ▸ hx⟩
   .simp at h
  .rename_i xs he;simp at h;subst h;rw[he] at hx;have hx' :=hx;simp only[VR] at hx';obtain⟨_,ad,vs,e,_⟩:=hx';exact⟨_,by simp[execOp,hop,e],e ▸ hx⟩
  .rename_i f cs he;simp at h;subst h;rw[he] at hx;have hx' :=hx;simp only[VR] at hx';obtain⟨_,vs,e,_⟩:=hx';exact⟨_,by simp[execOp,hop,e],e ▸ hx⟩
  .simp at h
 .rename_i f first caps
  split at h
  .rename_i hf;simp at h;subst h;have:first= #[]:=Array.eq_empty_of_size_eq_zero hf
   subst this;refine⟨.func (.func f) #[] (caps.map a.eval),by simp[execOp,hop,Instr.makeFunc],λ_=>rfl,_,rfl,?_⟩;exact V3 R (by rw[wc];intro x hx;exact hops x (by simp[hx]))
  .simp at h
 .rename_i t Ay;obtain⟨u,hu,hr⟩:=dC (w:=w) (σ:=σ) (C:=C) tk (ps:=Ay.map λ(i,x)=>(i,a.eval x)) zS (λj p hj=>by
   simp only[wa,Option.map_eq_some_iff] at hj;obtain⟨q,hq,rfl⟩:=hj;refine⟨a.eval q.2,by simp at hq |-;exact⟨q.1,q.2,by simp[hq],rfl,rfl⟩,R.ev (hops q.2 ?_)⟩;simp only[List.mem_toArray,vH];exact⟨q,vo hq,rfl⟩) h
  exact⟨u,by simp[execOp,hop,hu],hr⟩
 .rename_i args argTypes;split at h
  .rename_i x t hx ht;have ex:args= #[x]:=by cases args;simp at hx;simp[hx]
   have et:argTypes= #[t]:=by cases argTypes;simp at ht;simp[ht]
   subst ex et;obtain⟨u,hu,hr⟩:=ZZ (ty:=o.type) tk (R.ev (hops x (by simp[Call.operands]))) h;exact⟨u,by simp[execOp,hop,resolve,invoke,builtin,hu],hr⟩
  .simp at h
 .rename_i args _;split at h
  .rename_i x y hx;have ex:args= #[x,y]:=by cases args;simp at hx;simp[hx]
   subst ex;have h1:=R.ev (hops x (by simp[Call.operands]));have h2:=R.ev (hops y (by simp[Call.operands]));unfold Q8 at h;split at h
   .rename_i k p k' q e1 e2;rw[e1] at h1;rw[e2] at h2;have e3:=h1.1;have e4:=h2.1;simp at h;subst h;exact⟨_,by simp[execOp,hop,resolve,invoke,builtin,Builtin.min_,e3,e4,Builtin.min2],rfl,λ_=>rfl⟩
   .simp at h
  .simp at h
 .rename_i args _;split at h
  .rename_i x y hx;have ex:args= #[x,y]:=by cases args;simp at hx;simp[hx]
   subst ex;have h1:=R.ev (hops x (by simp[Call.operands]));have h2:=R.ev (hops y (by simp[Call.operands]));unfold Q9 at h;split at h
   .rename_i k p k' q e1 e2;rw[e1] at h1;rw[e2] at h2;have e3:=h1.1;have e4:=h2.1;simp at h;subst h;exact⟨_,by simp[execOp,hop,resolve,invoke,builtin,Builtin.max_,e3,e4,Builtin.max2],rfl,λ_=>rfl⟩
   .simp at h
  .simp at h
 .simp at h
end
mutual
theorem ZG {w:World} {sh:Nat->Prop} {σ:Nat->Nat->Option St}:∀(a:AV) (x:Value) (fp:Nat->Nat),VR w sh σ a x fp->∀g,fp g≠0->g<w.heap.size
 | .any,_,_,h,g,hg=>absurd (h g) hg
 | .bool _,_,_,h,g,hg=>absurd (h.2 g) hg
 | .int _ _,_,_,h,g,hg=>absurd (h.2 g) hg
 | .str _,_,_,h,g,hg=>absurd (h.2 g) hg
 | .nilp,_,_,h,g,hg=>absurd (h.2 g) hg
 | .ro _ _,_,_,h,g,hg=>by simp only[VR] at h;exact absurd (h.1 g) hg
 | .tok ..,_,_,h,g,hg=>by simp only[VR] at h;exact absurd (h.1 g) hg
 | .ptr ..,_,_,h,g,hg=>by simp only[VR] at h;exact absurd (h.1 g) hg
 | .rptr _,_,_,h,g,hg=>by simp only[VR] at h;exact absurd (h.1 g) hg
 | .fn ..,_,_,h,g,hg=>by simp only[VR] at h;exact absurd (h.1 g) hg
 | .own s n xs,x,fp,h,g,hg=>by
   simp only[VR] at h;rcases h with⟨_,_,_,h⟩ | ⟨h',b,c,cur,e,fp',hx,hn,hc,hl,hh,hsz,hv,hf⟩
   .exact absurd (h g) hg
   .by_cases e:g=h'
    .subst e;exact(vu.1 hh).1
    .have:=hf g;simp only[e,if_false] at this;exact Gj xs _ fp' hv g zO
 | .optr xs,x,fp,h,g,hg=>by
   simp only[VR] at h;obtain⟨h',b,cur,e,fp',hx,hh,hsz,hv,hf⟩:=h;by_cases e:g=h'
   .subst e;exact(vu.1 hh).1
   .have:=hf g;simp only[e,if_false] at this;exact Gj xs _ fp' hv g zO
 | .agg xs,x,fp,h,g,hg=>by
   simp only[VR] at h;obtain⟨cs,_,hv⟩:=h;exact Gj xs _ fp hv g hg
 | .tup xs,x,fp,h,g,hg=>by
   simp only[VR] at h;obtain⟨cs,_,hv⟩:=h;exact Gj xs _ fp hv g hg
theorem Gj {w:World} {sh:Nat->Prop} {σ:Nat->Nat->Option St}:∀(xs:List AV) (vs:List Value) (fp:Nat->Nat),AI w sh σ xs vs fp->∀g,fp g≠0->g<w.heap.size
 | [],_,_,h,g,hg=>by simp only[AI] at h;exact absurd (h.2 g) hg
 |x::xs,vs,fp,h,g,hg=>by
  simp only[AI] at h;obtain⟨v,rest,f1,f2,he,h1,h2,hf⟩:=h;have:=hf g;by_cases e:f1 g=0
  .exact Gj xs rest f2 h2 g zO
  .exact ZG x v f1 h1 g e
end
theorem KJ {w:World} {sh:Nat->Prop} {σ:Nat->Nat->Option St} {T:Nat} {B:Ag} {fp:Nat->Nat} (h:BR w sh σ T B fp) (g:Nat) (hg:fp g≠0):g<w.heap.size:=by
 cases B with
 |free=>exact absurd (h.2 g) hg
 |dead=>exact absurd (h g) hg
 |live v xs=>
  rcases h.2 with⟨_,_,h⟩ | ⟨h',b,cur,e,fp',_,hh,_,hv,hf⟩
  .exact absurd (h g) hg
  .by_cases e:g=h'
   .subst e;exact(vu.1 hh).1
   .have:=hf g;simp only[e,if_false] at this;exact Gj xs _ fp' hv g zO
theorem EO {w w' :World} {sh sh' :Nat->Prop} {σ σ' :Nat->Nat->Option St} (L:Ci w w' sh sh' σ σ') {T:Nat} {B:Ag} {fp:Nat->Nat} (hfp:∀g,fp g≠0->w'.heap[g]?=w.heap[g]?) (hk:∀v,σ' T v=σ T v)
 (h:BR w sh σ T B fp):BR w' sh' σ' T B fp:=by
 cases B with
 |free=>exact⟨λv=>by rw[hk];exact h.1 v,h.2⟩
 |dead=>exact h
 |live v xs=>
  obtain⟨h0,h⟩:=h;refine⟨λv' hv=>by rw[hk];exact h0 v' hv,?_⟩;rcases h with⟨h1,h2,h3⟩ | ⟨h',b,cur,e,fp',h1,hh,hle,hv,hf⟩
  .exact .inl ⟨by rw[hk];exact h1,h2,h3⟩
  .refine .inr ⟨h',b,cur,e,fp',by rw[hk];exact h1,?_,hle,AI.later L xs _ fp' (λg hg=>hfp g (by have:=hf g;omega)) hv,hf⟩;rw[hfp h' (by have:=hf h';simp at this;omega)];exact hh
theorem Cp.step {w w' :World} {sh:Nat->Prop} {σ σ' :Nat->Nat->Option St} {own own' :Nat->Option Nat} {M:List Ag} (m:Cp w sh σ own M) (L:Ci w w' sh sh σ σ') {T:Nat} (hT:T<M.length) {B:Ag}
 (hk:∀T' v,T' ≠T->σ' T' v=σ T' v) (ho:∀g T',T' ≠T->own g=some T' ->g<w.heap.size->own' g=some T' /\w'.heap[g]?=w.heap[g]?)
 (hB:∃fp,BR w' sh σ' T B fp/\∀g,fp g<=if own' g=some T then 1 else 0):Cp w' sh σ' own' (M.set T B):=by
 refine⟨λT' B' hM=>?_,λT' v hlen=>?_⟩
 .by_cases e:T' =T
  .subst e;rw[List.getElem?_set_self hT] at hM;simp at hM;subst hM;exact hB
  .rw[List.getElem?_set_ne (Ne.symm e)] at hM;obtain⟨fp,h1,h2⟩:=m.blk T' B' hM;have hg:∀g,fp g≠0->own' g=some T' /\w'.heap[g]?=w.heap[g]?:=by
    intro g hg;have h3:=h2 g;split at h3
    .exact ho g T' e (by assumption) (KJ h1 g hg)
    .omega
   refine⟨fp,EO L (λg h=>(hg g h).2) (λv=>hk T' v e) h1,λg=>?_⟩;by_cases h0:fp g=0
   .rw[h0];exact vn _
   .have h3:=h2 g;rw[zP (hg g h0).1];split at h3<;>omega
 .rw[List.length_set] at hlen;rw[hk T' v zO];exact m.key T' v hlen
theorem DL {w:World} {o:Obj} {g:Nat} (h:g<w.heap.size):(w.alloc o).heap[g]?=w.heap[g]?:=heap_alloc_old w o h
section
variable {C:BF} {w:World} {σ:Nat->Nat->Option St} {own:Nat->Option Nat} {M:List Ag} {F:Fr} {a:Act}
theorem AS.alloc (R:AS C F M a w σ own) {T:Nat} (hT:M[T]?=some .free) (arr:Array Value) (e:TypeId) {zs:List AV} (hz:AI w C.sh σ zs (arr.toList.take zs.length) (λ_=>0)) (hle:zs.length<=arr.size):
 ∃σ' own',AS C F (M.set T (.live 0 zs)) a (w.alloc (.cells arr e)) σ' own' /\σ' T 0=some (.loc w.heap.size 0 arr.size):=by
 have hTl:T<M.length:=by
  rcases uY T M.length with h|h
  .exact h
  .simp[uR h] at hT
 obtain⟨fp0,hfree,_⟩:=R.mem.blk T _ hT;have hfr:∀v,σ T v=none:=hfree.1;let σ' :Nat->Nat->Option St:=λT' v=>if T' =T/\v=0 then some (.loc w.heap.size 0 arr.size) else σ T' v
 let own' :Nat->Option Nat:=λg=>if g=w.heap.size then some T else own g
 have L:Ci w (w.alloc (.cells arr e)) C.sh C.sh σ σ' :=by
  refine⟨λg hg=>DL (R.shr g hg).2,λ_ h=>h,λT' v st h=> .inl ?_⟩;have:¬(T' =T/\v=0):=λhh=>by rw[hh.1,hfr] at h;simp at h
  simp only[σ',this,if_false];exact h
 refine⟨σ',own',⟨R.size,R.dfr,λt ht=>VR.later L _ _ _ (λg hg=>absurd rfl hg) (R.tmp t ht),?_,?_,?_,R.keyl L⟩,by simp[σ']⟩
 .refine R.mem.step L hTl (λT' v hne=>by simp[σ',hne]) (λg T' hne ho hlt=>⟨?_,DL hlt⟩) ?_
  .have:g≠w.heap.size:=zO;simp only[own',this,if_false];exact ho
  .refine⟨λg=>if g=w.heap.size then 1 else 0,⟨λv' hv=>?_,.inr ⟨w.heap.size,0,arr,e,λ_=>0,by simp[σ'],?_,by simpa using hle,?_,λg=>zS⟩⟩,λg=>?_⟩
   .have:¬v' =0:=zO;simp only[σ',this,and_false,if_false];exact hfr v'
   .exact heap_alloc_new w _
   .simp only[xc];exact AI.later L _ _ _ (λg hg=>absurd rfl hg) hz
   .by_cases hg:g=w.heap.size<;>simp[own',hg]
 .intro g hg;have h1:=R.shr g hg;have:g≠w.heap.size:=zO;simp only[own',this,if_false,World.size_alloc];exact⟨h1.1,zO⟩
 .refine R.ext.trans ⟨rfl,rfl,rfl,zS,λg hg _=>DL hg,λg hg=>?_⟩;by_cases e:g=w.heap.size
  .right;omega
  .left;simp only[own',e,if_false] at hg;exact hg
theorem AS.drew (R:AS C F M a w σ own):AS C F M a w.drew σ own:=by
 have L:Ci w w.drew C.sh C.sh σ σ:=⟨λ_ _=>rfl,λ_ h=>h,λ_ _ _ h=> .inl h⟩;refine⟨R.size,R.dfr,λt ht=>VR.later L _ _ _ (λ_ _=>rfl) (R.tmp t ht),⟨λT B hM=>?_,R.mem.key⟩,R.shr,R.ext.trans ⟨rfl,rfl,rfl,vg _,λ_ _ _=>rfl,λ_ h=> .inl h⟩,R.key0⟩;obtain⟨fp,h1,h2⟩:=R.mem.blk T B hM;exact⟨fp,EO L (λ_ _=>rfl) zL h1,h2⟩
theorem Ro {sh:Nat->Prop}:∀{cs:List AV} {vs:List Value} {fp:Nat->Nat},AI w sh σ cs vs fp->∀(i:Nat) {x:AV} {v:Value},VR w sh σ x v (λ_=>0)->∃fp',AI w sh σ (cs.set i x) (vs.set i v) fp' /\∀g,fp' g<=fp g
 | [],vs,fp,h,i,x,v,_=>by
   have:vs=[]:=by simp only[AI] at h;exact h.1
   subst this;exact⟨fp,by simpa using h,λ_=>vg _⟩
 |c::cs,vs,fp,h,i,x,v,hx=>by
  simp only[AI] at h;obtain⟨v0,rest,f1,f2,rfl,h1,h2,hf⟩:=h;cases i with
  |zero=>exact⟨f2,⟨v,rest,_,f2,rfl,hx,h2,λg=>zS⟩,λg=>by have:=hf g;omega⟩
  |succ i=>
   obtain⟨f',h3,h4⟩:=Ro h2 i hx;exact⟨λg=>f1 g+f' g,⟨v0,rest.set i v,_,_,rfl,h1,h3,λ_=>rfl⟩,λg=>by have:=hf g;have:=h4 g;simp only;omega⟩
def Rp:List Value->Nat->List Value->List Value
 |vs,_,[]=>vs
 |vs,o,u::us=>Rp (vs.set o u) (o+1) us
theorem MU:∀(us vs:List Value) (o:Nat),o+us.length<=vs.length->Rp vs o us=vs.take o++us++vs.drop (o+us.length)
 | [],vs,o,_=>by simp[Rp]
 |u::us,vs,o,h=>by
  simp only[List.length_cons] at h;simp only[Rp];rw[MU us (vs.set o u) (o+1) Ao];have h1:(vs.set o u).take (o+1)=vs.take o++[u]:=by
   apply wk;intro i;rw[vT,List.getElem?_set,List.getElem?_append];have hl:(vs.take o).length=o:=Ao;rw[hl,vT];by_cases h2:i<o
   .rw[zP zO,zM zO,zP h2,zP h2]
   .by_cases h3:i=o
    .subst h3;simp;omega
    .rw[zM zO,zM h2];simp;omega
  have h2:(vs.set o u).drop (o+1+us.length)=vs.drop (o+(us.length+1)):=by
   rw[List.drop_set_of_lt zO];congr 1;omega
  rw[h1,h2];simp
theorem Jv {sh:Nat->Prop}:∀(xs:List AV) {cs:List AV} {vs us:List Value} {fp:Nat->Nat} (o:Nat),AI w sh σ cs vs fp->AI w sh σ xs us (λ_=>0)->∃fp',AI w sh σ (Bt cs o xs) (Rp vs o us) fp' /\∀g,fp' g<=fp g
 | [],cs,vs,us,fp,o,h,hx=>by
   simp only[AI] at hx;obtain⟨rfl,_⟩:=hx;exact⟨fp,h,λ_=>vg _⟩
 |x::xs,cs,vs,us,fp,o,h,hx=>by
  simp only[AI] at hx;obtain⟨v,rest,f1,f2,rfl,h1,h2,hf⟩:=hx;have e1:f1=λ_=>0:=Gc λg=>by have:=hf g;omega
  have e2:f2=λ_=>0:=Gc λg=>by have:=hf g;omega
  subst e1 e2;obtain⟨f',h3,h4⟩:=Ro h o h1;obtain⟨f'',h5,h6⟩:=Jv xs (o+1) h3 h2;exact⟨f'',h5,λg=>Nat.le_trans (h6 g) (h4 g)⟩
theorem Fc:∀(xs cs:List AV) (o:Nat),(Bt cs o xs).length=cs.length
 | [],_,_=>rfl
 |x::xs,cs,o=>by simp[Bt,Fc xs]
end
theorem HU {α:Type} (l us:List α) (b off n:Nat) (h:b+n<=l.length) (h2:off+us.length<=n):
 ((l.take (b+off)++us++l.drop (b+off+us.length)).drop b).take n=((l.drop b).take n).take off++us++((l.drop b).take n).drop (off+us.length):=by
 have e1:l.take (b+off)=l.take b++(l.drop b).take off:=by rw[List.take_add]
 have e2:l.drop (b+off+us.length)=(l.drop b).drop (off+us.length):=by rw[wr];congr 1;omega
 have hb:(l.take b).length=b:=Ao;have hl:n<=(l.drop b).length:=Ao;rw[e1,e2,uZ,uZ,List.drop_left' hb];generalize l.drop b=l' at*;have hm:off+us.length<=l'.length:=zO;have hA:(l'.take off++us).length=off+us.length:=Ao;rw[<-uZ,List.take_append,hA,uM zO];rw[List.take_take,wO zO,List.drop_take,uZ]
theorem UT {w:World} {sh:Nat->Prop} {σ:Nat->Nat->Option St} {x:AV} {u:Value} {fp:Nat->Nat} (h:VR w sh σ x u fp) (hx:CD x=true):u.oneCell' =true:=by
 cases x<;>simp only[CD,vt] at hx<;>simp only[VR] at h
 case bool=>rw[h.1];rfl
 case int=>rw[h.1];rfl
 case str=>rw[h.1];rfl
 case nilp=>rw[h.1];rfl
 case ro=>obtain⟨_,a,c,e,_⟩:=h;rw[e];rfl
 case own=>rcases h with⟨⟨a,e⟩,_⟩ | ⟨_,_,_,_,_,_,e,_⟩<;>(rw[e];rfl)
 case tok=>obtain⟨_,⟨a,c,e⟩,_⟩:=h;rw[e];rfl
 case ptr=>obtain⟨_,⟨a,e⟩,_⟩:=h;rw[e];rfl
 case rptr=>obtain⟨_,ad,vs,e,_⟩:=h;rw[e];rfl
 case optr=>obtain⟨_,_,_,_,_,e,_⟩:=h;rw[e];rfl
 case fn=>obtain⟨_,cs,e,_⟩:=h;rw[e];rfl
theorem Fd {w:World} {sh:Nat->Prop} {σ:Nat->Nat->Option St}:∀{xs:List AV} {us:List Value} {fp:Nat->Nat},AI w sh σ xs us fp->xs.all CD=true->∀u∈us,u.oneCell' =true
 | [],us,_,h,_,u,hu=>by
   simp only[AI] at h;rw[h.1] at hu;simp at hu
 |x::xs,us,_,h,hx,u,hu=>by
  simp only[AI] at h;obtain⟨v,rest,f1,f2,rfl,h1,h2,_⟩:=h;simp only[xu,uU] at hx;rcases List.mem_cons.1 hu with e|hu
  .rw[e];exact UT h1 hx.1
  .exact Fd h2 hx.2 u hu
section
variable {C:BF} {w:World} {σ:Nat->Nat->Option St} {own:Nat->Option Nat} {M:List Ag} {F:Fr} {a:Act} {T:Nat->Option TI}
theorem TZ {i:TI} {x:AV} {v:Value} {xs:List AV} (h:VR w C.sh σ x v (λ_=>0)) (hf:LJ i x=some xs):AI w C.sh σ xs v.cells.toList (λ_=>0)/\v.cells.size=i.size/\xs.length=i.size/\xs.all CD=true:=by
 unfold LJ at hf;split at hf
 .split at hf
  .rename_i cs;split at hf
   .rename_i hc;simp at hf;subst hf;have:=Oq h rfl;exact⟨this.1,by rw[this.2];exact hc.1,hc.1,hc.2⟩
   .simp at hf
  .simp at hf
 .split at hf
  .rename_i hc;simp at hf;subst hf;have hok:Rl x=true:=by have:=hc.2;cases x<;>simp_all[CD,Rl]
   have h1:=TY (z:=i.zero[0]?) h hok;have h2:(cellsOf x).length=1:=by have:=hc.2;cases x<;>simp_all[CD,cellsOf]
   refine⟨h1.1,by rw[h1.2.1,h1.2.2,h2];exact hc.1.symm,by rw[h1.2.2,h2];exact hc.1.symm,?_⟩;have:=hc.2;unfold KH;split
   .split<;>rfl
   .cases x<;>simp_all[CD,cellsOf]
  .simp at hf
theorem KL (R:AS C F M a w σ own) {B v:Nat} {cs:List AV} (hb:Ah M B v=some cs) {h b:Nat} {cur cur' :Array Value} {e:TypeId} (hs:σ B v=some (.loc h b cur.size)) (ho:own h=some B) (hh:w.heap[h]?=some (.cells cur e (0,0)))
 (hsz:cur'.size=cur.size) {cs' :List AV} (hle:b+cs'.length<=cur.size) (hv:∀fp,AI w C.sh σ cs ((cur.toList.drop b).take cs.length) fp->∃fp',AI w C.sh σ cs' ((cur'.toList.drop b).take cs'.length) fp' /\∀g,fp' g<=fp g):
 AS C F (M.set B (.live v cs')) a (w.setRow h cur') σ own:=by
 obtain⟨hM,fp,hB,hf⟩:=Cv R.mem hb;have hBl:B<M.length:=by
  rcases uY B M.length with h|h
  .exact h
  .simp[uR h] at hM
 have hsh:¬C.sh h:=λhsh=>by have:=(R.shr h hsh).1;rw[ho] at this;simp at this
 have L:Ci w (w.setRow h cur') C.sh C.sh σ σ:=⟨λg hg=>setRow_other w h g cur' (λe=>hsh (e ▸ hg)),λ_ h=>h,λ_ _ _ h=> .inl h⟩;refine⟨R.size,R.dfr,λt ht=>VR.later L _ _ _ (λg hg=>absurd rfl hg) (R.tmp t ht),?_,λg hg=>by have:=R.shr g hg;simpa using this,?_,R.keyl L⟩
 .refine R.mem.step L hBl (λ_ _ _=>rfl) (λg T' hne hg hlt=>⟨hg,setRow_other w h g cur' (λe=>?_)⟩) ?_
  .rw[e,ho] at hg;simp at hg;exact hne hg.symm
  .simp only[BR] at hB;obtain⟨h0,hB⟩:=hB;rcases hB with⟨h1,_⟩ | ⟨h',b',c',e',fp',h1,h2,h3,h4,h5⟩
   .rw[hs] at h1;simp at h1
   .have hloc:h' =h/\b' =b:=by rw[hs] at h1;simp at h1;exact⟨h1.1.symm,h1.2.1.symm⟩
    obtain⟨rfl,rfl⟩:=hloc;rw[hh] at h2;simp at h2;obtain⟨rfl,rfl⟩:=h2;obtain⟨fq,hq,hqle⟩:=hv fp' h4;have hnew:∀g,fq g≠0->(w.setRow h' cur').heap[g]?=w.heap[g]?:=λg hg=>setRow_other w h' g cur' (λe=>by
     subst e;have:=hqle g;have h6:=h5 g;have h7:=hf g;simp at h6;split at h7<;>omega)
    refine⟨λg=>(if g=h' then 1 else 0)+fq g,⟨h0,.inr ⟨h',b',cur',e,fq,by rw[hsz];exact h1,setRow_heap w h' cur cur' e _ hh,by rw[hsz];exact hle,AI.later L _ _ _ hnew hq,λ_=>rfl⟩⟩,λg=>?_⟩;have h6:=h5 g;have h7:=hf g;have h8:=hqle g;simp only;split at h7<;>(rename_i hh;simp only[hh,if_true,if_false];omega)
 .refine R.ext.trans ⟨rfl,rfl,rfl,zS,λg hg hn=>setRow_other w h g cur' (λe=>?_),λg hg=> .inl hg⟩;rw[e,ho] at hn;simp at hn
theorem AS.store (tk:BQ C.P T) (R:AS C F M a w σ own) {t B v off:Nat} {i:TI} (ht:T t=some i) {cs xs:List AV} (hb:Ah M B v=some cs) {ad x:Value} (hx:VR w C.sh σ (.ptr B v off) ad (λ_=>0)) {y:AV} (hy:VR w C.sh σ y x (λ_=>0))
 (hf:LJ i y=some xs) (hle:off+i.size<=cs.length):
 ∃w',(Instr.storeAt t ad x).run C.P w= .ok () w' /\AS C F (M.set B (.live v (Bt cs off xs))) a w' σ own:=by
 obtain⟨h,b,cur,e,rfl,hs,ho,hh,hbl,_⟩:=Gh R.mem hb hx;obtain⟨h1,h2,h3,h4⟩:=TZ hy hf;obtain⟨I,D,z,hI,hD,hI1,_⟩:=(tk.at ht).ok;have hlx:x.cells.toList.length=i.size:=by simpa using h2
 have hrun:=run_storeCells_at C.P h (b+off) e x.cells.toList 0 cur w hh zO (Fd h1 h4);simp only[xg] at hrun;refine⟨_,?_,KL R hb hs ho hh ?_ (cs' :=Bt cs off xs) (by rw[Fc];exact hbl) ?_ (cur' :=(cur.toList.take (b+off)++x.cells.toList++cur.toList.drop (b+off+x.cells.toList.length)).toArray)⟩
 .simp only[Instr.storeAt,Instr.sureAddr,Sem.run_bind,Sem.run_pure,Result.andThen_ok,storeVar,Cr hI,hI1,h2];simp only[bne_self_eq_false,ne_eq,not_true_eq_false,if_false,Sem.run_ite,Sem.run_pure,Result.andThen_ok];exact hrun
 .simp;omega
 .intro fp hv;obtain⟨fp',h5,h6⟩:=Jv xs off hv h1;refine⟨fp',?_,h6⟩;have hlen:((cur.toList.drop b).take cs.length).length=cs.length:=Ao;rw[MU _ _ _ (by rw[hlen,hlx];omega)] at h5;rw[Fc];have:((cur.toList.take (b+off)++x.cells.toList++cur.toList.drop (b+off+x.cells.toList.length)).drop b).take cs.length=((cur.toList.drop b).take cs.length).take off++x.cells.toList++((cur.toList.drop b).take cs.length).drop (off+x.cells.toList.length):=by
   exact HU _ _ _ _ _ (by simpa using hbl) (by rw[hlx];exact hle)
  rw[show(cur.toList.take (b+off)++x.cells.toList++cur.toList.drop (b+off+x.cells.toList.length)).toArray.toList=cur.toList.take (b+off)++x.cells.toList++cur.toList.drop (b+off+x.cells.toList.length) from rfl,this];exact h5
end
section
variable {P:Program} (w:World)
theorem H9 {es m:Nat} {x:Value} {ad:Option Addr} {c:Nat} (hx:x= .slice ad m c) (vs:List Value) (hl:vs.length=m*es) (h:vs=[]\/∃a,ad=some a/\E4 w a vs):(Builtin.firstCells es m x).run P w= .ok vs.toArray w:=by
 subst hx;cases ad with
 |none=>
  rcases h with rfl| ⟨a,e,_⟩
  .rfl
  .simp at e
 |some a=>
  rcases h with rfl| ⟨a',e,h⟩
  .have:m*es=0:=by simpa using hl.symm
   simp[Builtin.firstCells,this,loadCells,loadCellsFrom]
  .simp at e;subst e;simp only[Builtin.firstCells];exact Iv _ vs hl h
theorem LO (t ty e:Nat) (I:TypeInfo) (ht:P.underlying t=some (.slice e)) (hi:P.info? e=some I) (g o n c:Nat) (cur:Array Value) (e' :Nat) (hg:w.heap[g]?=some (.cells cur e' (0,0)))
 (ad:Option Addr) (m c2:Nat) (news:List Value) (hl:news.length=m*I.size) (hn:news=[]\/∃a,ad=some a/\E4 w a news) (h1:∀u∈news,u.oneCell' =true) (hroom:n+m<=c) (hfit:o+n*I.size+news.length<=cur.size):
 (Builtin.append_ #[t,t] ty #[.slice (some ⟨g,o,none⟩) n c,.slice ad m c2]).run P w=
   .ok (.slice (some ⟨g,o,none⟩) (n+m) c) (w.setRow g (cur.toList.take (o+n*I.size)++news++cur.toList.drop (o+n*I.size+news.length)).toArray):=by
 have hf:=H9 (P:=P) w (es:=I.size) (x:= .slice ad m c2) rfl news hl hn;have hst:=run_storeCells_at P g (o+n*I.size) e' news 0 cur w hg (by simpa using hfit) h1;simp only[xg] at hst;simp[Builtin.append_,run_underlying ht,sizeOf,typeInfo,hi,Builtin.lenOf,hroom,hf,BW,hst]
theorem Rq (t ty e:Nat) (I:TypeInfo) (z:Value) (ht:P.underlying t=some (.slice e)) (hi:P.info? e=some I) (hz:I.zero=some z) (ao:Option Addr) (n c:Nat) (olds:List Value) (hlo:olds.length=n*I.size)
 (ho:olds=[]\/∃a,ao=some a/\E4 w a olds) (ad:Option Addr) (m c2:Nat) (news:List Value) (hl:news.length=m*I.size) (hn:news=[]\/∃a,ad=some a/\E4 w a news)
 (hg:c<n+m) (h63:n+m<=maxLen) (hb:(n+m)*I.bytes<=140737488355328):
 (Builtin.append_ #[t,t] ty #[.slice ao n c,.slice ad m c2]).run P w=
   .ok (.slice (some ⟨w.heap.size,0,none⟩) (n+m) (grownCap w (n+m) c e)) (w.drew.alloc (.cells (olds.toArray++news.toArray++Builtin.zeroCells z.cells (grownCap w (n+m) c e-(n+m))) e)):=by
 have hf:=H9 (P:=P) w.drew (es:=I.size) (x:= .slice ad m c2) rfl news hl hn;have hf2:=H9 (P:=P) w.drew (es:=I.size) (x:= .slice ao n c) rfl olds hlo ho;have hfit:=growslice_fits hg hb;have hnot:¬(n+m<=c):=zO;have h63' :¬(9223372036854775807<((n:Int)+(m:Int))):=by simp only[maxLen] at h63;omega
 have h48:¬(281474976710656<Builtin.nextslicecap (n+m) c*I.bytes):=zO;simp[Builtin.append_,run_underlying ht,sizeOf,typeInfo,zeroValue,hi,hz,Builtin.lenOf,hnot,h63',h48,Question.forced,hf,hf2,newRow,grownCap];congr 2;apply Array.ext';simp[uZ]
theorem Rs (z:Array Value) (n:Nat):Builtin.zeroCells z n=madeCells z (n*z.size):=rfl
theorem Q1 (t ti ty e:Nat) (I:TypeInfo) (z:Value) (ki:IntKind) (ht:P.underlying t=some (.slice e)) (hti:P.underlying ti=some (.int ki)) (hi:P.info? e=some I) (hz:I.zero=some z) (g o n c:Nat) (cur:Array Value) (e' :Nat) (hg:w.heap[g]?=some (.cells cur e' (0,0)))
 (k:IntKind) (m:Nat) (hm:m<=maxLen) (hmb:m*I.bytes<=140737488355328) (news:List Value) (hn:(if m*I.size=0 then #[] else Builtin.zeroCells z.cells m)=news.toArray) (h1:∀u∈news,u.oneCell' =true) (hroom:n+m<=c) (hfit:o+n*I.size+news.length<=cur.size):
 (Builtin.append_ #[t,ti] ty #[.slice (some ⟨g,o,none⟩) n c,.int k (m:Int)]).run P w=
   .ok (.slice (some ⟨g,o,none⟩) (n+m) c) (w.setRow g (cur.toList.take (o+n*I.size)++news++cur.toList.drop (o+n*I.size+news.length)).toArray):=by
 have hst:=run_storeCells_at P g (o+n*I.size) e' news 0 cur w hg (by simpa using hfit) h1;simp only[xg] at hst;have hw:IntKind.i64.wrap (m:Int)=m:=by rw[IntKind.wrap_i64];simp only[maxLen] at hm;omega
 have h0:¬((m:Int)<0):=zO;have hb:¬(281474976710656<(m:Int)*I.bytes):=by
  have:(m:Int)*I.bytes=((m*I.bytes:Nat):Int):=zS;rw[this];omega
 by_cases hms:m*I.size=0
 .rw[zP hms] at hn;have hne:news=[]:=by simpa using hn.symm
  subst hne;simp[Builtin.append_,run_underlying ht,run_underlying hti,sizeOf,typeInfo,asInt,asIntOf,hi,hw,h0,hb,hms,hroom,BW];simp at hst;simp[hst]
 .rw[zM hms] at hn;simp[Builtin.append_,run_underlying ht,run_underlying hti,sizeOf,typeInfo,zeroValue,asInt,asIntOf,hi,hz,hw,h0,hb,hms,hroom,hn,BW,hst]
theorem Q2 (t ti ty e:Nat) (I:TypeInfo) (z:Value) (ki:IntKind) (ht:P.underlying t=some (.slice e)) (hti:P.underlying ti=some (.int ki)) (hi:P.info? e=some I) (hz:I.zero=some z) (ao:Option Addr) (n c:Nat) (olds:List Value) (hlo:olds.length=n*I.size)
 (ho:olds=[]\/∃a,ao=some a/\E4 w a olds) (k:IntKind) (m:Nat) (news:List Value) (hn:(if m*I.size=0 then #[] else Builtin.zeroCells z.cells m)=news.toArray)
 (hg:c<n+m) (h63:n+m<=maxLen) (hb:(n+m)*I.bytes<=140737488355328):
 (Builtin.append_ #[t,ti] ty #[.slice ao n c,.int k (m:Int)]).run P w=
   .ok (.slice (some ⟨w.heap.size,0,none⟩) (n+m) (grownCap w (n+m) c e)) (w.drew.alloc (.cells (olds.toArray++news.toArray++Builtin.zeroCells z.cells (grownCap w (n+m) c e-(n+m))) e)):=by
 have hf2:=H9 (P:=P) w.drew (es:=I.size) (x:= .slice ao n c) rfl olds hlo ho;have hfit:=growslice_fits hg hb;have hnot:¬(n+m<=c):=zO;have h63' :¬(9223372036854775807<((n:Int)+(m:Int))):=by simp only[maxLen] at h63;omega
 have h48:¬(281474976710656<Builtin.nextslicecap (n+m) c*I.bytes):=zO;have hw:IntKind.i64.wrap (m:Int)=m:=by rw[IntKind.wrap_i64];simp only[maxLen] at h63;omega
 have h0:¬((m:Int)<0):=zO;have hmb:¬(281474976710656<(m:Int)*I.bytes):=by
  have:(m:Int)*I.bytes=((m*I.bytes:Nat):Int):=zS;have h2:m*I.bytes<=(n+m)*I.bytes:=wU _ zO;rw[this];omega
 by_cases hms:m*I.size=0
 .rw[zP hms] at hn;have hne:news=[]:=by simpa using hn.symm
  subst hne;simp[Builtin.append_,run_underlying ht,run_underlying hti,sizeOf,typeInfo,zeroValue,asInt,asIntOf,hi,hz,hw,h0,hmb,hms,hnot,h63',h48,Question.forced,hf2,newRow,grownCap]
 .rw[zM hms] at hn;simp[Builtin.append_,run_underlying ht,run_underlying hti,sizeOf,typeInfo,zeroValue,asInt,asIntOf,hi,hz,hw,h0,hmb,hms,hn,hnot,h63',h48,Question.forced,hf2,newRow,grownCap];congr 2;apply Array.ext';simp[uZ]
theorem Rt (t ti ty e:Nat) (I:TypeInfo) (ki:IntKind) (ht:P.underlying t=some (.slice e)) (hti:P.underlying ti=some (.int ki)) (hi:P.info? e=some I) (ao:Option Addr) (k:IntKind):
 (Builtin.append_ #[t,ti] ty #[.slice ao 0 0,.int k 0]).run P w= .ok (.slice ao 0 0) w:=by
 have hw:IntKind.i64.wrap (0:Int)=0:=zD;cases ao<;>simp[Builtin.append_,run_underlying ht,run_underlying hti,sizeOf,typeInfo,asInt,asIntOf,hi,hw,storeCells]
end
section
variable {C:BF} {w:World} {σ:Nat->Nat->Option St} {own:Nat->Option Nat} {M:List Ag} {F:Fr} {a:Act} {T:Nat->Option TI}
theorem AS.grow (R:AS C F M a w σ own) (k:Nat):AS C F (M++uP k .free) a w σ own:=by
 refine⟨R.size,R.dfr,R.tmp,⟨λT B hM=>?_,λT v h=>R.mem.key T v (by simp at h;omega)⟩,R.shr,R.ext,R.key0⟩;rw[List.getElem?_append] at hM;split at hM
 .exact R.mem.blk T B hM
 .rename_i hge;rw[List.getElem?_replicate] at hM;split at hM
  .simp at hM;subst hM;exact⟨λ_=>0,⟨λv=>R.mem.key T v zO,λ_=>rfl⟩,λg=>vn _⟩
  .simp at hM
def Ff (σ:Nat->Nat->Option St) (B v:Nat) (st:St):Nat->Nat->Option St:=λT u=>if T=B/\u=v+1 then some st else if T=B/\u=v then some .dead else σ T u
def Hj (w:World) (own:Nat->Option Nat) (B:Nat):Nat->Option Nat:=λg=>if w.heap.size<=g then some B else own g
theorem KM (R:AS C F M a w σ own) {B v:Nat} {cs:List AV} (hb:Ah M B v=some cs) {w' :World} (hw:∀g,g<w.heap.size->own g≠some B->w'.heap[g]?=w.heap[g]?) (st:St):Ci w w' C.sh C.sh σ (Ff σ B v st):=by
 obtain⟨hM,fp,hB,_⟩:=Cv R.mem hb;refine⟨λg hg=>hw g (R.shr g hg).2 (by rw[(R.shr g hg).1];simp),λ_ h=>h,λT u s h=>?_⟩;unfold Ff;by_cases h1:T=B/\u=v+1
 .obtain⟨rfl,rfl⟩:=h1;have:=hB.1 (v+1) zO;rw[this] at h;simp at h
 .rw[zM h1];by_cases h2:T=B/\u=v
  .rw[zP h2];exact .inr rfl
  .rw[zM h2];exact .inl h
theorem AS.rever (R:AS C F M a w σ own) {B v:Nat} {cs:List AV} (hb:Ah M B v=some cs) {w' :World} (hw:∀g,g<w.heap.size->own g≠some B->w'.heap[g]?=w.heap[g]?) (hs:w.heap.size<=w'.heap.size) (ho:w'.os=w.os) (ht:w'.tape=w.tape) (hou:w'.output=w.output)
 (st:St) {zs:List AV} (hB:∃fp,BR w' C.sh (Ff σ B v st) B (.live (v+1) zs) fp/\∀g,fp g<=if Hj w own B g=some B then 1 else 0):AS C F (M.set B (.live (v+1) zs)) a w' (Ff σ B v st) (Hj w own B):=by
 have L:=KM R hb hw st;obtain⟨hM,_⟩:=Cv R.mem hb;have hBl:B<M.length:=by
  rcases uY B M.length with h|h
  .exact h
  .simp[uR h] at hM
 refine⟨R.size,R.dfr,λt h=>VR.later L _ _ _ (λg hg=>absurd rfl hg) (R.tmp t h),?_,λg hg=>?_,?_,R.keyl L⟩
 .refine R.mem.step L hBl (λT' u hne=>by simp[Ff,hne]) (λg T' hne hg hlt=>⟨?_,hw g hlt (by rw[hg];simpa using hne)⟩) hB;unfold Hj;rw[zM zO];exact hg
 .have h1:=R.shr g hg;unfold Hj;rw[zM zO];exact⟨h1.1,zO⟩
 .refine R.ext.trans ⟨ho,ht,hou,hs,λg hg hn=>hw g hg (by rw[hn];simp),λg hg=>?_⟩;unfold Hj at hg;split at hg
  .right;assumption
  .left;exact hg
theorem FJ {sh:Nat->Prop}:∀{xs ys:List AV} {vs us:List Value} {f1 f2:Nat->Nat},AI w sh σ xs vs f1->AI w sh σ ys us f2->AI w sh σ (xs++ys) (vs++us) (λg=>f1 g+f2 g)
 | [],ys,vs,us,f1,f2,h1,h2=>by
   simp only[AI] at h1;obtain⟨rfl,h0⟩:=h1;have:(λg=>f1 g+f2 g)=f2:=funext λg=>by rw[h0 g];omega
   rw[this];exact h2
 |x::xs,ys,vs,us,f1,f2,h1,h2=>by
  simp only[AI] at h1;obtain⟨v,rest,g1,g2,rfl,h3,h4,hf⟩:=h1;exact⟨v,rest++us,g1,_,rfl,h3,FJ h4 h2,λg=>by have:=hf g;simp only;omega⟩
theorem AS.append0 (tk:BQ C.P T) (R:AS C F M a w σ own) {t ty e es eb:Nat} {ez:List AV} (htd:Ax T t= .slice e es eb ez) (hes:0<es) {B v n:Nat} {cs:List AV} (hb:Ah M B v=some cs) (hlen:cs.length=n*es) {x y:Value} (hx:VR w C.sh σ (.tok B v es 0 n) x (λ_=>0))
 {m:Nat} {ys:List AV} (hyl:ys.length=m*es) (hcell:ys.all CD=true) (h63:n+m<=maxLen) (hbytes:(n+m)*eb<=140737488355328) {ats:Array Nat} {E:TypeInfo} {z:Value} (hs:E.size=es) (hzs:z.cells.size=es) {news:List Value} (hv0:AI w C.sh σ ys news (λ_=>0)) (hnl:news.length=m*E.size)
 (hroomR:∀(g o c:Nat) (cur:Array Value) (e' :Nat),w.heap[g]?=some (.cells cur e' (0,0))->n+m<=c->o+n*E.size+news.length<=cur.size->(Builtin.append_ ats ty #[.slice (some ⟨g,o,none⟩) n c,y]).run C.P w= .ok (.slice (some ⟨g,o,none⟩) (n+m) c) (w.setRow g (cur.toList.take (o+n*E.size)++news++cur.toList.drop (o+n*E.size+news.length)).toArray))
 (hgrowR:∀(ao:Option Addr) (c:Nat) (olds:List Value),olds.length=n*E.size->(olds=[]\/∃a,ao=some a/\E4 w a olds)->c<n+m->(Builtin.append_ ats ty #[.slice ao n c,y]).run C.P w= .ok (.slice (some ⟨w.heap.size,0,none⟩) (n+m) (grownCap w (n+m) c e)) (w.drew.alloc (.cells (olds.toArray++news.toArray++Builtin.zeroCells z.cells (grownCap w (n+m) c e-(n+m))) e)))
 (hnilR:∀(ao:Option Addr),n=0->m=0->(Builtin.append_ ats ty #[.slice ao 0 0,y]).run C.P w= .ok (.slice ao 0 0) w):
 ∃r w' σ' own',(Builtin.append_ ats ty #[x,y]).run C.P w= .ok r w' /\AS C F (M.set B (.live (v+1) (cs++ys))) a w' σ' own' /\VR w' C.sh σ' (.tok B (v+1) es 0 (n+m)) r (λ_=>0):=by
 have hv:=hv0;obtain⟨hM,fp,hB,hf⟩:=Cv R.mem hb;have grown:∀(ao:Option Addr) (c:Nat) (olds:List Value) (fpo:Nat->Nat),olds.length=n*E.size->(olds=[]\/∃a,ao=some a/\E4 w a olds)->AI w C.sh σ cs olds fpo->(∀g,fpo g<=if own g=some B then 1 else 0)->c<n+m->
  ∃r w' σ' own',(Builtin.append_ ats ty #[.slice ao n c,y]).run C.P w= .ok r w' /\AS C F (M.set B (.live (v+1) (cs++ys))) a w' σ' own' /\VR w' C.sh σ' (.tok B (v+1) es 0 (n+m)) r (λ_=>0):=by
  intro ao c olds fpo hol hor hov hfo hlt;have hrun:=hgrowR ao c olds hol hor hlt;have hcap:=grownCap_ge w (n+m) c e;have hcm:=grownCap_le_maxLen w (n+m) c e h63;generalize hq:grownCap w (n+m) c e=cap at*;generalize harr:olds.toArray++news.toArray++Builtin.zeroCells z.cells (cap-(n+m))=arr at*;have hasz:arr.size=cap*es:=by
   rw[<-harr];simp only[Array.size_append,List.size_toArray,size_zeroCells,hol,hnl,hs,hzs];rw[<-wK,<-wK];congr 1;omega
  have htake:arr.toList.take (cs++ys).length=olds++news:=by
   rw[<-harr];have:(cs++ys).length=(olds++news).length:=by simp[Ca hov,Ca hv]
   rw[this];simp only[Array.toList_append,uZ];rw[<-uZ];exact List.take_left
  have hheap:∀g,g<w.heap.size->(w.drew.alloc (.cells arr e)).heap[g]?=w.heap[g]?:=λg hg=>DL (w:=w.drew) hg;refine⟨_,_,Ff σ B v (.loc w.heap.size 0 arr.size),Hj w own B,hrun,R.rever hb (λg hg _=>hheap g hg) zS rfl rfl rfl _ ?_,?_⟩
  .have L:=KM R hb (w' :=w.drew.alloc (.cells arr e)) (λg hg _=>hheap g hg) (.loc w.heap.size 0 arr.size);refine⟨λg=>(if g=w.heap.size then 1 else 0)+fpo g,⟨λv' hv' =>?_,.inr ⟨w.heap.size,0,arr,e,fpo,by simp[Ff],heap_alloc_new w.drew _,?_,?_,λ_=>rfl⟩⟩,λg=>?_⟩
   .unfold Ff;rw[zM zO,zM zO];exact hB.1 v' zO
   .rw[hasz,u0,hlen,hyl,<-wK,Nat.zero_add];exact wU _ hcap
   .rw[xc,htake];have:=FJ hov hv0;simp only[xg] at this;exact AI.later L _ _ _ (λg hg=>hheap g (Gj _ _ _ this g hg)) this
   .have h1:=hfo g;unfold Hj;by_cases hg:g=w.heap.size
    .subst hg;have:fpo w.heap.size=0:=by
      rcases wm (fpo w.heap.size) with h|h
      .exact h
      .have:=Gj _ _ _ hov w.heap.size zO;omega
     simp[this]
    .by_cases hlt2:g<w.heap.size
     .rw[zM (by omega:¬w.heap.size<=g)];simp only[hg,if_false];omega
     .have:fpo g=0:=by
       rcases wm (fpo g) with h|h
       .exact h
       .have:=Gj _ _ _ hov g zO;omega
      simp[hg,this]
  .refine⟨λ_=>rfl,⟨_,_,rfl⟩,.loc w.heap.size 0 arr.size,by simp[Ff],(λe=>by cases e),λh' b' sz' e=>?_⟩;cases e;exact⟨⟨w.heap.size,0,none⟩,cap,rfl,λ_=>rfl,hcap,hcm,by rw[hasz];omega⟩
 simp only[BR] at hB;obtain⟨h0,hB'⟩:=hB;have hxx:=hx;simp only[VR] at hxx;obtain⟨_,_,st,hst,hnil,hloc⟩:=hxx;rcases hB' with⟨h1,h2,h3⟩ | ⟨h,b,cur,e',fp',h1,h2,h3,h4,h5⟩
 .rw[h1] at hst;simp at hst;subst hst;obtain⟨⟨ao,rfl⟩,_,rfl⟩:=hnil rfl;subst h2;by_cases hm:m=0
  .subst hm;have hne:news=[]:=vr (by simpa using hnl);have hye:ys=[]:=vr (by simpa using hyl);subst hne hye;refine⟨.slice ao 0 0,w,Ff σ B v .nil,Hj w own B,?_,R.rever hb (λ_ _ _=>rfl) (vg _) rfl rfl rfl .nil ⟨λ_=>0,⟨λv' hv' =>?_,.inl ⟨by simp[Ff],rfl,λ_=>rfl⟩⟩,λg=>vn _⟩,λ_=>rfl,⟨ao,0,rfl⟩,.nil,by simp[Ff],λ_=>⟨⟨ao,rfl⟩,rfl,rfl⟩,λ_ _ _ e=>by cases e⟩
   .exact hnilR ao rfl rfl
   .unfold Ff;rw[zM zO,zM zO];exact h0 v' zO
  .exact grown ao 0 [] (λ_=>0) zS (.inl rfl) ⟨rfl,λ_=>rfl⟩ (λ_=>vn _) zO
 .rw[h1] at hst;simp at hst;subst hst;obtain⟨ad0,c,rfl,had,hnc,hcm,hcz⟩:=hloc h b _ rfl;simp only[xg] at had hcz;have hfo:∀g,fp' g<=if own g=some B then 1 else 0:=λg=>by have:=hf g;have:=h5 g;omega
  have hown:own h=some B:=by
   have:=hf h;have h6:=h5 h;simp at h6;split at this
   .assumption
   .omega
  have holds:(cur.toList.drop b).take cs.length=[]\/∃a,some ad0=some a/\E4 w a ((cur.toList.drop b).take cs.length):=by
   by_cases hc:c=0
   .left;have:n=0:=zO;rw[hlen,this];simp
   .right;refine⟨ad0,rfl,?_⟩;rw[had hc];intro i u hu;rw[BW,DW h2];rw[vT] at hu;split at hu
    .rw[vG] at hu;rw[<-vp];exact hu
    .simp at hu
  have hol:((cur.toList.drop b).take cs.length).length=n*E.size:=by rw[Ca h4,hlen,hs]
  by_cases hroom:n+m<=c
  .by_cases hc0:c=0
   .have hn0:n=0:=zO;have hm0:m=0:=zO;subst hn0 hm0 hc0;have hne:news=[]:=vr (by simpa using hnl);have hye:ys=[]:=vr (by simpa using hyl);have hce:cs=[]:=vr (by simpa using hlen);subst hne hye hce;refine⟨.slice (some ad0) 0 0,w,Ff σ B v .nil,Hj w own B,?_,R.rever hb (λ_ _ _=>rfl) (vg _) rfl rfl rfl .nil ⟨λ_=>0,⟨λv' hv' =>?_,.inl ⟨by simp[Ff],rfl,λ_=>rfl⟩⟩,λg=>vn _⟩,λ_=>rfl,⟨_,0,rfl⟩,.nil,by simp[Ff],λ_=>⟨zX,rfl,rfl⟩,λ_ _ _ e=>by cases e⟩
    .exact hnilR (some ad0) rfl rfl
    .unfold Ff;rw[zM zO,zM zO];exact h0 v' zO
   .have hade:=had hc0;subst hade;have hfit:b+n*E.size+news.length<=cur.size:=by
     have h6:(n+m)*es<=c*es:=wU _ hroom;rw[wK] at h6;rw[hnl,hs];omega
    have hrun:=hroomR h b c cur e' h2 hroom hfit;generalize hcur' :(cur.toList.take (b+n*E.size)++news++cur.toList.drop (b+n*E.size+news.length)).toArray=cur' at*;have hsz' :cur'.size=cur.size:=by rw[<-hcur'];simp;omega
    have hheap:∀g,g<w.heap.size->own g≠some B->(w.setRow h cur').heap[g]?=w.heap[g]?:=λg _ hg=>setRow_other w h g cur' (λe=>hg (e ▸ hown));refine⟨_,_,Ff σ B v (.loc h b cur.size),Hj w own B,hrun,R.rever hb hheap zS rfl rfl rfl _ ?_,λ_=>rfl,⟨_,_,rfl⟩,.loc h b cur.size,by simp[Ff],(λe=>by cases e),λh' b' sz' e=>?_⟩
    .have L:=KM R hb (w' :=w.setRow h cur') hheap (.loc h b cur.size);refine⟨λg=>(if g=h then 1 else 0)+fp' g,⟨λv' hv' =>?_,.inr ⟨h,b,cur',e',fp',by simp[Ff,hsz'],setRow_heap w h cur cur' e' _ h2,?_,?_,λ_=>rfl⟩⟩,λg=>?_⟩
     .unfold Ff;rw[zM zO,zM zO];exact h0 v' zO
     .rw[hsz',u0,hlen,hyl];rw[hnl,hs] at hfit;omega
     .have htake:(cur'.toList.drop b).take (cs++ys).length=(cur.toList.drop b).take cs.length++news:=by
       rw[<-hcur'];have h7:=HU cur.toList news b (n*E.size) (n*E.size+news.length) (by simpa[wx] using hfit) (vg _);have hl2:(cs++ys).length=n*E.size+news.length:=by rw[u0,hlen,Ca hv,hs]
       rw[hl2];show((cur.toList.take (b+n*E.size)++news++cur.toList.drop (b+n*E.size+news.length)).drop b).take _=_;rw[h7,List.take_take,wO zO,hlen,hs];have h10:((cur.toList.drop b).take (n*es+news.length)).drop (n*es+news.length)=[]:=List.drop_eq_nil_of_le (List.length_take_le _ _);rw[h10,List.append_nil]
      rw[htake];have h8:=FJ h4 hv0;simp only[xg] at h8;refine AI.later L _ _ _ (λg hg=>setRow_other w h g cur' (λe=>?_)) h8;subst e;have:=h5 g;have h9:=hf g;simp at this;split at h9<;>omega
     .have h6:=h5 g;have h7:=hf g;have hlt:((if g=h then 1 else 0)+fp' g)≠0->g<w.heap.size:=λh8=>KJ (B:= .live v cs) (T:=B) (σ:=σ) (sh:=C.sh) ⟨h0,.inr ⟨h,b,cur,e',fp',h1,h2,h3,h4,h5⟩⟩ g (by rw[h6];exact h8);show(if g=h then 1 else 0)+fp' g<=_;unfold Hj;by_cases hg0:((if g=h then 1 else 0)+fp' g)=0
      .rw[hg0];exact vn _
      .rw[zM (by have:=hlt hg0;omega:¬w.heap.size<=g)];omega
    .cases e;exact⟨_,c,rfl,λ_=>rfl,hroom,hcm,zO⟩
  .exact grown (some ad0) c _ fp' hol holds h4 hfo zO
theorem AS.append (tk:BQ C.P T) (R:AS C F M a w σ own) {t ty e es eb:Nat} {ez:List AV} (htd:Ax T t= .slice e es eb ez) (hes:0<es) {B v n:Nat} {cs:List AV} (hb:Ah M B v=some cs) (hlen:cs.length=n*es) {x y:Value} (hx:VR w C.sh σ (.tok B v es 0 n) x (λ_=>0))
 {ya:AV} (hy:VR w C.sh σ ya y (λ_=>0)) {m:Nat} {ys:List AV} (hyc:De M ya=some (m,ys)) (hyl:ys.length=m*es) (hyo:(ys.all DS)=true) (h63:n+m<=maxLen) (hbytes:(n+m)*eb<=140737488355328):
 ∃r w' σ' own',(Builtin.append_ #[t,t] ty #[x,y]).run C.P w= .ok r w' /\AS C F (M.set B (.live (v+1) (cs++ys))) a w' σ' own' /\VR w' C.sh σ' (.tok B (v+1) es 0 (n+m)) r (λ_=>0):=by
 obtain⟨hD,E,z,hE,hs,hbt,hz,hzs,hzz⟩:=CH tk htd;obtain⟨ad,c2,news,fpy,rfl,hn,hv⟩:=Ju R.mem hy hyc hyl;have hv0:=KI hv hyo;have hnl:news.length=m*E.size:=by rw[hs,Ca hv,hyl]
 have hcell:ys.all CD=true:=by
  rw[u1] at hyo |-;intro c hc;have:=hyo c hc;simp[DS] at this;exact this.2
 refine R.append0 tk htd hes hb hlen hx hyl hcell h63 hbytes hs hzs hv0 hnl (λg o c cur e' hg hroom hfit=>LO (P:=C.P) w t ty e E hD hE g o n c cur e' hg ad m c2 news hnl hn (Fd hv0 hcell) hroom hfit) (λao c olds hol hor hlt=>Rq (P:=C.P) w t ty e E z hD hE hz ao n c olds hol hor ad m c2 news hnl hn hlt h63 (by rw[hbt];exact hbytes)) λao h1 h2=>?_;subst h1 h2;have hne:news=[]:=vr (by simpa using hnl);subst hne;have hf0:=H9 (P:=C.P) w (es:=E.size) (x:= .slice ad 0 c2) rfl [] zS (.inl rfl);cases ao<;>simp[Builtin.append_,run_underlying hD,sizeOf,typeInfo,hE,Builtin.lenOf,hf0,storeCells]
end
def Hs (x:Option AV) (K:AV->Prop):Prop:=match x with|some v=>K v|none=>False
def Bv (n:Nat) (z:List AV):List AV:=(uP n z).flatten
abbrev D9:=Nat->List AV->List Ag->(AV->List Ag->Prop)->Prop
def Bh:Op->Bool
 | .alloc _| .box _ _| .buildSlice _ _ _| .makeSlice _ _ _=>true
 |_=>false
def BT (o:Oper):Nat:=if Bh o.op then 1 else 0
def Hl (x:Option (List AV)) (K:List AV->Prop):Prop:=match x with|some v=>K v|none=>False
def Ht (x:Option TI) (K:TI->Prop):Prop:=match x with|some v=>K v|none=>False
def PZ (td:TD) (l c:AV) (s:Nat) (M:List Ag) (K:AV->List Ag->Prop):Prop:=match td,l,c with
 | .slice _ es eb ez,.int _ n,.int _ m=>M[s]?=some .free/\0<=n/\n=m/\n*eb<=140737488355328/\n<=maxLen/\K (.tok s 0 es 0 n.toNat) (M.set s (.live 0 (Bv n.toNat ez)))
 |_,_,_=>False
def P0 (td:TD) (len:Nat) (Ay:List (Nat×AV)) (s:Nat) (M:List Ag) (K:AV->List Ag->Prop):Prop:=match td with
 | .slice _ es _ ez=>Hl (Jt (ZF es) (Bv len ez) Ay) λcs=>M[s]?=some .free/\len*es<=16777216/\0<es/\K (.tok s 0 es 0 len) (M.set s (.live 0 cs))
 |_=>False
def Lx (i:TI) (x y:AV) (M:List Ag) (K:List Ag->Prop):Prop:=match x with
 | .ptr B v off=>Hl (Ah M B v) λcs=>Hl (LJ i y) λxs=>off+i.size<=cs.length/\K (M.set B (.live v (Bt cs off xs)))
 |_=>False
def Hy (x:Option (Nat×List AV)) (K:Nat->List AV->Prop):Prop:=match x with|some v=>K v.1 v.2|none=>False
def Jw (td:TD) (x y:AV) (pl:AV->Bool) (M:List Ag) (K:AV->List Ag->Prop):Prop:=match td,x with
 | .slice _ es eb _,.tok B v s off n=>Hl (Ah M B v) λcs=>Hy (De M y) λm ys=>0<es/\s=es/\off=0/\cs.length=n*es/\ys.length=m*es/\(ys.all pl)=true/\n+m<=maxLen/\(n+m)*eb<=140737488355328/\
  K (.tok B (v+1) es 0 (n+m)) (M.set B (.live (v+1) (cs++ys)))
 |_,_=>False
def Ia (T:Nat->Option TI) (t t' :Nat) (y:AV):Option (AV×(AV->Bool)):=if t=t' then some (y,DS) else match Ax T t,Ax T t',y with
 | .slice _ _ _ ez,.int _,.int _ n=>if 0<=n then some (.ro n.toNat (Bv n.toNat ez),CD) else none
 |_,_,_=>none
theorem XZ {T:Nat->Option TI} {t:Nat} {y:AV}:Ia T t t y=some (y,DS):=by simp[Ia]
theorem dD {T:Nat->Option TI} {t t' :Nat} {y y' :AV} {pl:AV->Bool} (h:Ia T t t' y=some (y',pl)):y' =y\/∃n xs,y' = .ro n xs:=by
 unfold Ia at h;split at h
 .simp at h;exact .inl h.1.symm
 .split at h
  .split at h
   .simp at h;exact .inr ⟨_,_,h.1.symm⟩
   .simp at h
  .simp at h
def Hz (x:Option (AV×(AV->Bool))) (K:AV->(AV->Bool)->Prop):Prop:=match x with|some v=>K v.1 v.2|none=>False
def Ly (call:D9) (f:AV) (args:List AV) (M:List Ag) (K:AV->List Ag->Prop):Prop:=match f with
 | .fn id caps=>call id (args++caps) M K
 |_=>False
def Nt (x:AV) (neg:Bool) (K:AV->Prop):Prop:=match x with
 | .ro n _=>(n≠0->K (.bool neg))/\(n=0->∀b,K (.bool b))
 | .tok _ _ _ _ _=>∀b,K (.bool b)
 | .own _ _ _=>∀b,K (.bool b)
 |_=>False
def gK (v:AV) (want:Bool) (K1:AV->Prop) (K2:AV->Prop):Prop:=match v with| .bool b=>(b=want->K1 (.bool want))/\(b= !want->K2 (.bool !want)) | .tup []=>K2 (.tup []) |_=>False
def J2 (td:TD) (K:Prop):Prop:=match td with| .slice _ _ _ _=>K|_=>False
def Dv (T:Nat->Option TI) (call:D9) (o:Oper) (s:Nat) (F:Fr) (M:List Ag) (K:Fr->List Ag->Prop):Prop:=
 match o.op with
 | .alloc t=>Ht (T t) λi=>M[s]?=some .free/\K (AB F o.dst (.ptr s 0 0)) (M.set s (.live 0 i.zero))
 | .box t x=>Ht (T t) λi=>Hl (LJ i (ev F x)) λcs=>M[s]?=some .free/\K (AB F o.dst (.ptr s 0 0)) (M.set s (.live 0 cs))
 | .makeSlice t l c=>PZ (Ax T t) (ev F l) (ev F c) s M λv M' =>K (AB F o.dst v) M'
 | .buildSlice t len Ay=>P0 (Ax T t) len (Ay.toList.map λp=>(p.1,ev F p.2)) s M λv M' =>K (AB F o.dst v) M'
 | .store t x y=>Ht (T t) λi=>Lx i (ev F x) (ev F y) M λM' =>K (AB F o.dst .any) M'
 | .call {callee:= .builtin .append,args,argTypes}=>match args.toList,argTypes.toList with
   | [x,y],[t,t']=>Hz (Ia T t t' (ev F y)) λy' pl=>Jw (Ax T t) (ev F x) y' pl M λv M' =>K (AB F o.dst v) M'
   |_,_=>False
 | .binOp .eql t x (.const (.slice none 0 0)) _=>J2 (Ax T t) (Nt (ev F x) false λv=>K (AB F o.dst v) M)
 | .binOp .neq t x (.const (.slice none 0 0)) _=>J2 (Ax T t) (Nt (ev F x) true λv=>K (AB F o.dst v) M)
 | .call {callee:= .value f,args,.. }=>Ly call (ev F f) (LN F args) M λr M' =>K (AB F o.dst r) M'
 |_=>Hs (pv T M F o) λv=>K (AB F o.dst v) M
def Aw (T:Nat->Option TI) (call:D9) (ops:Array Oper):List Oper->Nat->Fr->List Ag->(Fr->List Ag->Prop)->Prop
 | [],_,F,M,K=>K F M
 |o::rest,s,F,M,K=>match o.guard with
  |none=>Dv T call o s F M λF' M' =>Aw T call ops rest (s+BT o) F' M' K
  |some (j,want)=>match (ops[j]?).bind (·.dst) with
   |some d=>gK (F d) want (λb=>Dv T call o s (Bu F d b) M λF' M' =>Aw T call ops rest (s+BT o) F' M' K) λb=>Aw T call ops rest (s+BT o) (AB (Bu F d b) o.dst (.tup [])) M K
   |none=>False
def Cd (C:BF) (f:Nat) (args:List AV) (M:List Ag) (K:AV->List Ag->Prop):Prop:=
 (∃fn,C.P.funcs[f]?=some fn/\(fn.name== "runtime.NumGoroutine")=false/\fn.body.isNone=false)/\
 ∀(F:Fr) (a:Act) (w:World) (σ:Nat->Nat->Option St) (own:Nat->Option Nat) (vals:Array Value),AS C F M a w σ own->AI w C.sh σ args vals.toList (λ_=>0)->
  Calls C.P f vals w λe w' =>∃r v M' σ' own',e= .returned v/\K r M' /\AS C F M' a w' σ' own' /\VR w' C.sh σ' r v (λ_=>0)
def Bb (ops:List Oper):Nat:=(ops.map BT).foldr (·+·) 0
section
variable {C:BF} {w:World} {σ:Nat->Nat->Option St} {own:Nat->Option Nat} {M:List Ag} {F:Fr} {a:Act} {T:Nat->Option TI}
theorem Kh {sh:Nat->Prop} {ez:List AV} {z:Array Value} (h:AI w sh σ ez z.toList (λ_=>0)):∀n,∃vs:List Value,vs=(uP n z.toList).flatten/\AI w sh σ (Bv n ez) vs (λ_=>0)
 |0=>⟨[],rfl,rfl,λ_=>rfl⟩
 |n+1=>by
  obtain⟨vs,rfl,h1⟩:=Kh h n;refine⟨_,rfl,?_⟩;simp only[Bv,vO,List.flatten_cons] at h1 |-;have:=FJ h h1;simpa using this
theorem Nu {α:Type} (l:List α):∀(n i:Nat),i<n*l.length->(uP n l).flatten[i]?=l[i%l.length]?
 |0,i,h=>by simp at h
 |n+1,i,h=>by
  simp only[vO,List.flatten_cons];rw[List.getElem?_append];split
  .rename_i hlt;rw[Nat.mod_eq_of_lt hlt]
  .rename_i hge;have hge' :l.length<=i:=zO;rw[Nu l n (i-l.length) (by rw[wK] at h;omega)];congr 1;exact(Nat.mod_eq_sub_mod hge').symm
theorem Px (z:Array Value) (n:Nat):(madeCells z (n*z.size)).toList=(uP n z.toList).flatten:=by
 apply wk;intro i;by_cases h:i<n*z.size
 .rw[Nu z.toList n i (by simpa using h)];have hz:0<z.size:=by
   rcases wm z.size with e|e
   .rw[e] at h;simp at h
   .exact e
  have hm:=Nat.mod_lt i hz;simp[madeCells,h,hm]
 .have h1:(madeCells z (n*z.size)).toList.length=n*z.size:=by simp[madeCells]
  have h2:(uP n z.toList).flatten.length=n*z.size:=zS;rw[uR zO,uR zO]
theorem AS.appendZ (tk:BQ C.P T) (R:AS C F M a w σ own) {t t' ty e es eb:Nat} {ez:List AV} {ki:IntKind} (htd:Ax T t= .slice e es eb ez) (hti:Ax T t' = .int ki) (hes:0<es) {B v n:Nat} {cs:List AV} (hb:Ah M B v=some cs) (hlen:cs.length=n*es) {x:Value} (hx:VR w C.sh σ (.tok B v es 0 n) x (λ_=>0))
 {k:IntKind} {m:Nat} (hyl:(Bv m ez).length=m*es) (hcell:((Bv m ez).all CD)=true) (h63:n+m<=maxLen) (hbytes:(n+m)*eb<=140737488355328):
 ∃r w' σ' own',(Builtin.append_ #[t,t'] ty #[x,.int k (m:Int)]).run C.P w= .ok r w' /\AS C F (M.set B (.live (v+1) (cs++Bv m ez))) a w' σ' own' /\VR w' C.sh σ' (.tok B (v+1) es 0 (n+m)) r (λ_=>0):=by
 obtain⟨hD,E,z,hE,hs,hbt,hz,hzs,hzz⟩:=CH tk htd;have hI:=Om tk hti;have hzr:=IZ hzz w C.sh σ;obtain⟨vs,hvs,hv⟩:=Kh hzr m;have hmade:(madeCells z.cells (m*z.cells.size)).toList=vs:=by rw[hvs];exact Px _ _
 have hnl:vs.length=m*E.size:=by rw[Ca hv,hyl,hs]
 have hn:(if m*E.size=0 then #[] else Builtin.zeroCells z.cells m)=vs.toArray:=by
  split
  .rename_i h0;have:vs=[]:=vr (by rw[hnl,h0]);rw[this]
  .rw[Rs,<-hmade]
 have hmb:m*E.bytes<=140737488355328:=by
  have h2:m*E.bytes<=(n+m)*E.bytes:=wU _ zO;rw[hbt] at h2 |-;omega
 refine R.append0 tk htd hes hb hlen hx hyl hcell h63 hbytes hs hzs hv hnl (λg o c cur e' hg hroom hfit=>Q1 (P:=C.P) w t t' ty e E z ki hD hI hE hz g o n c cur e' hg k m zO hmb vs hn (Fd hv hcell) hroom hfit) (λao c olds hol hor hlt=>Q2 (P:=C.P) w t t' ty e E z ki hD hI hE hz ao n c olds hol hor k m vs hn hlt h63 (by rw[hbt];exact hbytes)) λao h1 h2=>?_;subst h1 h2;exact Rt (P:=C.P) w t t' ty e E ki hD hI hE ao k
theorem AS.appendY (tk:BQ C.P T) (R:AS C F M a w σ own) {t t' ty e es eb:Nat} {ez:List AV} (htd:Ax T t= .slice e es eb ez) (hes:0<es) {B v n:Nat} {cs:List AV} (hb:Ah M B v=some cs) (hlen:cs.length=n*es) {x y:Value} (hx:VR w C.sh σ (.tok B v es 0 n) x (λ_=>0))
 {ya yb:AV} {pl:AV->Bool} (hq:Ia T t t' ya=some (yb,pl)) (hy:VR w C.sh σ ya y (λ_=>0)) {m:Nat} {ys:List AV} (hyc:De M yb=some (m,ys)) (hyl:ys.length=m*es) (hyo:(ys.all pl)=true) (h63:n+m<=maxLen) (hbytes:(n+m)*eb<=140737488355328):
 ∃r w' σ' own',(Builtin.append_ #[t,t'] ty #[x,y]).run C.P w= .ok r w' /\AS C F (M.set B (.live (v+1) (cs++ys))) a w' σ' own' /\VR w' C.sh σ' (.tok B (v+1) es 0 (n+m)) r (λ_=>0):=by
 unfold Ia at hq;split at hq
 .rename_i htt;subst htt;simp at hq;obtain⟨rfl,rfl⟩:=hq;exact R.append tk htd hes hb hlen hx hy hyc hyl hyo h63 hbytes
 .split at hq
  .rename_i e1 e2 e3 e4 k1 k2 z h1 h2;split at hq
   .rename_i hz0;simp at hq;obtain⟨rfl,rfl⟩:=hq;rw[htd] at h1;simp at h1;obtain⟨_,_,_,rfl⟩:=h1;simp[De] at hyc;obtain⟨rfl,rfl⟩:=hyc;have hy1:=hy.1;rw[hy1,show z=((z.toNat:Nat):Int) by omega];simp only[Int.toNat_natCast];exact R.appendZ tk htd h2 hes hb hlen hx hyl hyo h63 hbytes
   .simp at hq
  .simp at hq
theorem tc {o:Oper} (hnd:∀c,o.op≠ .defer c) {Q:Exit->Act->World->Prop} {next:Act->World->Prop} {v:Value} {w' :World} (h:(execOp a.eval o).run C.P w= .ok (.value v) w') (k:next (a.put o.dst v) w'):o.wpIn (FX C) 0 C.P a w next Q:=by
 refine⟨λ_ _=>trivial,?_⟩;rw[Oper.semAt_eq _ _ _ hnd,h];exact k
theorem tX {o:Oper} (hnd:∀c,o.op≠ .defer c) {Q:Exit->Act->World->Prop} {next:Act->World->Prop} {w' :World} (h:(execOp a.eval o).run C.P w= .ok .skip w') (k:next (a.put o.dst undef) w'):o.wpIn (FX C) 0 C.P a w next Q:=by
 refine⟨λ_ _=>trivial,?_⟩;rw[Oper.semAt_eq _ _ _ hnd,h];exact k
theorem Py {P:Program} {t e:Nat} {I:TypeInfo} {z:Value} (hD:P.underlying t=some (.slice e)) (hE:P.info? e=some I) (hz:I.zero=some z) (hzs:z.cells.size=I.size) (len:Nat) (hes:0<I.size) (h24:len*I.size<=16777216) (ps:Array (Nat×Value)) {arr:Array Value}
 (hf:Instr.fill (λi=>some (i*I.size,I.size)) (madeCells z.cells (len*I.size)) ps.toList=some arr):(Instr.buildSlice t len ps).run P w= .ok (.slice (some ⟨w.heap.size,0,none⟩) len len) (w.alloc (.cells arr e)):=by
 have h1:¬(len*I.size>2^24):=Ao;by_cases h0:len*I.size=0
 .have hl:len=0:=by rcases Nat.mul_eq_zero.1 h0 with h|h<;>omega
  subst hl;have hm:madeCells z.cells (0*I.size)= #[]:=by simp[madeCells]
  rw[hm] at hf;have hr:Array.range 0= #[]:=rfl;simp[Instr.buildSlice,run_underlying hD,Cr hE,hr,hf,newRow]
 .have h2:(Array.range (len*I.size)).map (λx=>z.cells[x%z.cells.size]!)=madeCells z.cells (len*I.size):=rfl;simp[Instr.buildSlice,run_underlying hD,Cr hE,zeroValue,typeInfo,hE,hz,newRow,h0];simp at h1;rw[zM zO];simp[h2,hf]
theorem P1 {place:Nat->Option (Nat×Nat)}:∀(ps:List (Nat×Value)) {arr arr' :Array Value},Instr.fill place arr ps=some arr' ->arr'.size=arr.size
 | [],arr,arr',h=>by simp[Instr.fill] at h;rw[h]
 | (i,v)::ps,arr,arr',h=>by
   simp only[Instr.fill] at h;split at h
   .simp at h
   .split at h
    .simp at h
    .rw[P1 ps h];rename_i off _ _ hbad;rw[<-Array.foldl_toList];generalize v.cells.zipIdx.toList=l;clear h hbad
     induction l generalizing arr with
     |nil=>rfl
     |cons x l ih=>rw[List.foldl_cons,ih];simp
theorem V4 {sh:Nat->Prop} {x:AV} {v:Value} {neg:Bool} {K:AV->Prop} (hx:VR w sh σ x v (λ_=>0)) (h:Nt x neg K):∃ad n c,v= .slice ad n c/\K (.bool (ad.isNone !=neg)):=by
 unfold Nt at h;split at h
 .rename_i n xs;simp only[VR] at hx;obtain⟨_,ad,c,rfl,hn,ha,_⟩:=hx;refine⟨ad,n,c,rfl,?_⟩;by_cases h0:n=0
  .exact h.2 h0 _
  .have:ad.isNone=false:=by cases ad with
    |none=>exact absurd (ha rfl) h0
    |some a=>rfl
   rw[this];have:=h.1 h0;cases neg<;>exact this
 .simp only[VR] at hx;obtain⟨_,⟨ad,c,rfl⟩,_⟩:=hx;exact⟨ad,_,c,rfl,h _⟩
 .simp only[VR] at hx;rcases hx with⟨⟨ad,rfl⟩,_⟩ | ⟨_,_,c,_,_,_,rfl,_⟩
  .exact⟨ad,0,0,rfl,h _⟩
  .exact⟨_,_,c,rfl,h _⟩
 .exact h.elim
theorem I2 (tk:BQ C.P T) {o:Oper} (hb:Bx C.n o=true) {s:Nat} {K:Fr->List Ag->Prop} (h:Dv T (Cd C) o s F M K) (R:AS C F M a w σ own) {next:Act->World->Prop} {Q:Exit->Act->World->Prop}
 (hK:∀F' M' a' w',K F' M' ->Cu C F' M' a' w' ->next a' w'):o.wpIn (FX C) 0 C.P a w next Q:=by
 have hnd:∀c,o.op≠ .defer c:=by
  intro c hc;unfold Dv at h;simp[hc,pv,Hs] at h
 have hops:∀x∈o.op.operands,FH C.n x=true:=by
  simp only[Bx,uU] at hb;intro x hx;exact wc.1 hb.1 x hx
 unfold Dv at h;split at h<;>(try (rename_i hop;simp only[hop,Op.operands] at hops))
 .
  rename_i t;unfold Ht at h;split at h
  .rename_i i ht;obtain⟨hfree,h⟩:=h;obtain⟨I,D,z,hI,hD,h1,h2,h3,h4,h5,h6,h7,_⟩:=(tk.at ht).ok;have hz:=IZ h7 w C.sh σ;have hlen:=Ca hz;obtain⟨σ',own',R',hk⟩:=R.alloc hfree z.cells t (zs:=i.zero) (by rw[<-hlen,uW];exact hz) (by rw[<-hlen];simp);refine tc hnd (v:= .pointer (some ⟨w.heap.size,0,none⟩)) (w' :=w.alloc (.cells z.cells t)) (by simp[execOp,hop,Instr.alloc,zeroValue,typeInfo,hI,h5,newVar,newRow]) (hK _ _ _ _ h ⟨σ',own',R'.put _ ?_⟩);exact⟨λ_=>rfl,zX,_,hk,zS,λ_ _ _ e=>by cases e;rfl⟩
  .exact h.elim
 .
  rename_i t x;unfold Ht at h;split at h
  .rename_i i ht;unfold Hl at h;split at h
   .rename_i cs hcs;obtain⟨hfree,h⟩:=h;obtain⟨h1,h2,h3,h4⟩:=TZ (R.ev (hops x zS)) hcs;obtain⟨σ',own',R',hk⟩:=R.alloc hfree (a.eval x).cells t (zs:=cs) (by rw[h3,<-h2];rw[uM zS];exact h1) zO;refine tc hnd (v:= .pointer (some ⟨w.heap.size,0,none⟩)) (w' :=w.alloc (.cells (a.eval x).cells t)) (by simp[execOp,hop,Instr.box,newVar,newRow]) (hK _ _ _ _ h ⟨σ',own',R'.put _ ?_⟩);exact⟨λ_=>rfl,zX,_,hk,zS,λ_ _ _ e=>by cases e;rfl⟩
   .exact h.elim
  .exact h.elim
 .
  rename_i t l c;unfold PZ at h;split at h
  .rename_i e es eb ez kl n km m htd hel hem;obtain⟨hfree,h0,rfl,hbt,hmx,h⟩:=h;obtain⟨hD,E,z,hE,hs,hbb,hz,hzs,hzz⟩:=CH tk htd;have e1:=R.ev (hops l zS);rw[hel] at e1;have e1:=e1.1;have e2:=R.ev (hops c zS);rw[hem] at e2;have e2:=e2.1;have hrun:=run_make (P:=C.P) w t e E z hD hE hz kl km n n h0 (Int.le_refl _) (by rw[hbb,Int.mul_comm];omega) (by simp only[maxLen] at hmx;omega);have hzr:=IZ hzz w C.sh σ;obtain⟨vs,hvs,hv⟩:=Kh hzr n.toNat;have hmade:(madeCells z.cells (n.toNat*E.size)).toList=vs:=by rw[hvs,hs,<-hzs];exact Px _ _
   have hlv:=Ca hv;have hsz:(madeCells z.cells (n.toNat*E.size)).size=n.toNat*es:=by rw[size_madeCells,hs]
   have hlen:(Bv n.toNat ez).length=n.toNat*es:=by
    rw[<-hlv,<-hmade];simpa using hsz
   obtain⟨σ',own',R',hk⟩:=R.alloc hfree (madeCells z.cells (n.toNat*E.size)) e (zs:=Bv n.toNat ez) (by rw[hmade,<-hlv,uW];exact hv) zO;refine tc hnd (v:= .slice (some ⟨w.heap.size,0,none⟩) n.toNat n.toNat) (w' :=w.alloc (.cells (madeCells z.cells (n.toNat*E.size)) e)) (by simp[execOp,hop,e1,e2,hrun]) (hK _ _ _ _ h ⟨σ',own',R'.put _ ?_⟩);refine⟨λ_=>rfl,⟨_,_,rfl⟩,_,hk,(λe=>by cases e),λ_ _ _ e=>?_⟩;cases e;exact⟨_,n.toNat,rfl,λ_=>rfl,vg _,zO,by rw[hsz];omega⟩
  .exact h.elim
 .
  rename_i t len Ay;unfold P0 at h;split at h
  .rename_i e es eb ez htd;unfold Hl at h;split at h
   .rename_i cs hcs;obtain⟨hfree,h24,hes,h⟩:=h;obtain⟨hD,E,z,hE,hs,hbb,hz,hzs,hzz⟩:=CH tk htd;have hzr:=IZ hzz w C.sh σ;obtain⟨vs,hvs,hv⟩:=Kh hzr len;have hmade:(madeCells z.cells (len*E.size)).toList=vs:=by rw[hvs,hs,<-hzs];exact Px _ _
    obtain⟨arr,ha,hva⟩:=Pv (sh:=C.sh) (σ:=σ) (w:=w) (pa:=ZF es) (place:=λi=>some (i*E.size,E.size)) (λj q hq=>by rw[hs];exact hq) _ (Ay.map λ(i,x)=>(i,a.eval x)).toList (arr:=madeCells z.cells (len*E.size)) (by rw[hmade];exact hv) zS
     (λj p hj=>by
       simp only[wa,Option.map_eq_some_iff] at hj;obtain⟨q,hq,rfl⟩:=hj;refine⟨a.eval q.2,by simp at hq |-;exact⟨q.1,q.2,by simp[hq],rfl,rfl⟩,R.ev (hops q.2 ?_)⟩;simp only[List.mem_toArray,vH];exact⟨q,vo hq,rfl⟩) hcs
    have hlv:=Ca hva;have hsize:arr.size=len*es:=by rw[P1 _ ha,size_madeCells,hs]
    obtain⟨σ',own',R',hk⟩:=R.alloc hfree arr e (zs:=cs) (by rw[<-hlv,uW];exact hva) (by rw[<-hlv];simp);have hrun:=Py (w:=w) hD hE hz (by rw[hzs,hs]) len zO (by rw[hs];exact h24) (Ay.map λ(i,x)=>(i,a.eval x)) ha;refine tc hnd (v:= .slice (some ⟨w.heap.size,0,none⟩) len len) (w' :=w.alloc (.cells arr e)) (by simp[execOp,hop,hrun]) (hK _ _ _ _ h ⟨σ',own',R'.put _ ?_⟩);refine⟨λ_=>rfl,⟨_,_,rfl⟩,_,hk,(λe=>by cases e),λ_ _ _ e=>?_⟩;cases e;refine⟨_,len,rfl,λ_=>rfl,vg _,?_,by rw[hsize];omega⟩;simp only[maxLen];have:=Nat.le_mul_of_pos_right len hes;omega
   .exact h.elim
  .exact h.elim
 .
  rename_i t x y;unfold Ht at h;split at h
  .rename_i i ht;unfold Lx at h;split at h
   .rename_i B v off hx;unfold Hl at h;split at h
    .rename_i cs hcs;split at h
     .rename_i xs hxs;obtain⟨hle,h⟩:=h;have e1:=R.ev (hops x zS);rw[hx] at e1;obtain⟨w',hrun,R'⟩:=R.store tk ht hcs e1 (R.ev (hops y zS)) hxs hle;exact tX hnd (w' :=w') (by simp[execOp,hop,hrun]) (hK _ _ _ _ h ⟨σ,own,R'.put _ zL⟩)
     .exact h.elim
    .exact h.elim
   .exact h.elim
  .exact h.elim
 .
  rename_i args argTypes;split at h
  .rename_i x y t t' hx ht;have ex:args= #[x,y]:=by cases args;simp at hx;simp[hx]
   have et:argTypes= #[t,t']:=by cases argTypes;simp at ht;simp[ht]
   subst ex et;cases hq:Ia T t t' (ev F y) with
   |none=>rw[hq] at h;exact h.elim
   |some p=>
   obtain⟨y',pl⟩:=p;rw[hq] at h;unfold Hz Jw at h;simp only at h;split at h
   .rename_i e es eb ez B v s' off n htd hxe;unfold Hl at h;split at h
    .rename_i cs hcs;unfold Hy at h;split at h
     .rename_i p hys;obtain⟨m,ys⟩:=p;obtain⟨hes,rfl,rfl,hl,hyl,hyo,h63,hbytes,h⟩:=h;have e1:=R.ev (hops x (by simp[Call.operands]));rw[hxe] at e1;obtain⟨r,w',σ',own',hrun,R',hr⟩:=R.appendY (ty:=o.type) tk htd hes hcs hl e1 hq (R.ev (hops y (by simp[Call.operands]))) hys hyl hyo h63 hbytes;exact tc hnd (v:=r) (w' :=w') (by simp[execOp,hop,resolve,invoke,builtin,hrun]) (hK _ _ _ _ h ⟨σ',own',R'.put _ hr⟩)
     .exact h.elim
    .exact h.elim
   .exact h.elim
  .exact h.elim
 .
  rename_i t x ty;unfold J2 at h;split at h
  .rename_i e es eb ez htd;obtain⟨hD,_⟩:=CH tk htd;obtain⟨ad,n,c,hv,hk⟩:=V4 (R.ev (hops x zS)) h;refine tc hnd (v:= .bool (ad.isNone !=false)) (w' :=w) ?_ (hK _ _ _ _ hk ⟨σ,own,R.put _ ⟨rfl,λ_=>rfl⟩⟩);have e2:a.eval (.const (.slice none 0 0))= .slice none 0 0:=rfl;simp only[execOp,hop,hv,e2,Sem.run_bind,GP (C:=C) (w:=w) (op:= .eql) (t:=t) (x:=x) (y:= .const (.slice none 0 0)) (a:=Value.slice ad n c) (b:=Value.slice none 0 0) zS zS,Result.andThen_ok];simp[binOp,run_equal_slice_nil w t e ad n c hD]
  .exact h.elim
 .
  rename_i t x ty;unfold J2 at h;split at h
  .rename_i e es eb ez htd;obtain⟨hD,_⟩:=CH tk htd;obtain⟨ad,n,c,hv,hk⟩:=V4 (R.ev (hops x zS)) h;refine tc hnd (v:= .bool (ad.isNone !=true)) (w' :=w) ?_ (hK _ _ _ _ hk ⟨σ,own,R.put _ ⟨rfl,λ_=>rfl⟩⟩);have e2:a.eval (.const (.slice none 0 0))= .slice none 0 0:=rfl;simp only[execOp,hop,hv,e2,Sem.run_bind,GP (C:=C) (w:=w) (op:= .neq) (t:=t) (x:=x) (y:= .const (.slice none 0 0)) (a:=Value.slice ad n c) (b:=Value.slice none 0 0) zS zS,Result.andThen_ok];simp[binOp,run_equal_slice_nil w t e ad n c hD]
  .exact h.elim
 .
  rename_i f args _;unfold Ly at h;split at h
  .rename_i id caps hf;obtain⟨⟨fn,hfn,hname,hbody⟩,h⟩:=h;have e1:=R.ev (hops f (by simp[Call.operands]));rw[hf] at e1;simp only[VR] at e1;obtain⟨_,cs,e1,hcs⟩:=e1;have hargs:=V3 R (xs:=args) (by rw[wc];intro x hx;exact hops x (by simp[Call.operands,hx]));have hall:AI w C.sh σ (LN F args++caps) (args.map a.eval++cs).toList (λ_=>0):=by
    have:=FJ hargs hcs;simpa using this
   have hc:=h F a w σ own _ R hall;have hrun:(execOp a.eval o).run C.P w= .ok (.enter id (args.map a.eval++cs)) w:=by
    have hn:¬fn.name= "runtime.NumGoroutine" :=by simpa using hname
    have hb2:¬fn.body=none:=by intro e;rw[e] at hbody;simp at hbody
    simp[execOp,hop,resolve,e1,Deferred.ofValue,invoke,callFunc,hfn,hn,hb2]
   refine⟨λ_ _=>trivial,?_⟩;rw[Oper.semAt_eq _ _ _ hnd,hrun];refine⟨λh=>absurd h (by simp[FX,Fence.wide]),(callsIn_wide (n:=0-1)).2 (hc.mono ?_)⟩;rintro e w' ⟨r,v,M',σ',own',rfl,hk,R',hr⟩;exact hK _ _ _ _ hk ⟨σ',own',R'.put _ hr⟩
  .exact h.elim
 .
  unfold Hs at h;split at h
  .rename_i v hv;obtain⟨u,hu,hr⟩:=MT tk R hb hv;exact tc hnd hu (hK _ _ _ _ h ⟨σ,own,R.put _ hr⟩)
  .exact h.elim
end
end Go.Abs
