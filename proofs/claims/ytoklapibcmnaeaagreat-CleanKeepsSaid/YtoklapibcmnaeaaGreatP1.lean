/- Abstract values for a Go walk: what a machine's value is worth, as content (read only), as a tree of its own memory, or as a name of own memory. Plain definitions and lemmas; no program. -/
import Derived.Below
import Derived.WalkKit
import Derived.Laws.AppendOwn
import Derived.Laws.Rows
import Derived.Calls
import Derived.RangeFuncLeaves
import Derived.LoopNIn
import Derived.OrdersIn
import Derived.TacticsIn
import Derived.LoopN
import Derived.Laws.Slices
import Derived.Laws.StructEq
import Derived.WalkLawsBesides
import Derived.Laws.MakeOwn
import Derived.Laws.BytesString
set_option linter.unusedVariables false
set_option linter.unusedSimpArgs false
namespace Go.Abs
inductive AV where
 |any
 |bool (b:Bool)
 |int (k:IntKind) (n:Int)
 |str (s:ByteArray)
 |nilp
 |ro (n:Nat) (xs:List AV)
 |own (s n:Nat) (xs:List AV)
 |tok (T v s off n:Nat)
 |ptr (T v off:Nat)
 |rptr (xs:List AV)
 |optr (xs:List AV)
 |fn (f:Nat) (caps:List AV)
 |agg (xs:List AV)
 |tup (xs:List AV)
 deriving Inhabited
inductive St where
 |dead
 |nil
 |loc (g b sz:Nat)
def EE (w:World) (ad:Addr) (vs:List Value):Prop:=∀i v,vs[i]?=some v->w.cell? (ad.add i)=some v
abbrev σ0:Nat->Nat->Option St:=fun _ _=>none
mutual
def VR (w:World) (sh:Nat->Prop) (σ:Nat->Nat->Option St):AV->Value->(Nat->Nat)->Prop
 | .any,_,fp=>∀g,fp g=0
 | .bool b,x,fp=>x= .bool b/\∀g,fp g=0
 | .int k n,x,fp=>x= .int k n/\∀g,fp g=0
 | .str s,x,fp=>x= .string s/\∀g,fp g=0
 | .nilp,x,fp=>x= .pointer none/\∀g,fp g=0
 | .ro n xs,x,fp=>(∀g,fp g=0)/\∃a c,x= .slice a n c/\n<=c/\(a=none->n=0)/\(xs=[]\/∃ad vs,a=some ad/\sh ad.block/\EE w ad vs/\Aw w sh σ0 xs vs (fun _=>0))
 | .own s n xs,x,fp=>((∃a,x= .slice a 0 0)/\n=0/\xs=[]/\∀g,fp g=0)\/
  ∃h b c cur e fp',x= .slice (some ⟨h,b,none⟩) n c/\n<=c/\c<=maxLen/\xs.length=n*s/\w.heap[h]?=some (.cells cur e (0,0))/\b+c*s<=cur.size/\
   Aw w sh σ0 xs ((cur.toList.drop b).take (n*s)) fp' /\∀g,fp g=(if g=h then 1 else 0)+fp' g
 | .tok T v s off n,x,fp=>(∀g,fp g=0)/\(∃a c,x= .slice a n c)/\∃st,σ T v=some st/\(st= .nil->(∃a,x= .slice a 0 0)/\off=0/\n=0)/\
  ∀h b sz,st= .loc h b sz->∃a c,x= .slice (some a) n c/\(c≠0->a=⟨h,b+off,none⟩)/\n<=c/\c<=maxLen/\b+off+c*s<=sz
 | .ptr T v off,x,fp=>(∀g,fp g=0)/\(∃a,x= .pointer (some a))/\∃st,σ T v=some st/\st≠ .nil/\∀h b sz,st= .loc h b sz->x= .pointer (some ⟨h,b+off,none⟩)
 | .rptr xs,x,fp=>(∀g,fp g=0)/\∃ad vs,x= .pointer (some ad)/\(xs=[]\/(sh ad.block/\EE w ad vs/\Aw w sh σ0 xs vs (fun _=>0)))
 | .optr xs,x,fp=>∃h b cur e fp',x= .pointer (some ⟨h,b,none⟩)/\w.heap[h]?=some (.cells cur e (0,0))/\b+xs.length<=cur.size/\
  Aw w sh σ0 xs ((cur.toList.drop b).take xs.length) fp' /\∀g,fp g=(if g=h then 1 else 0)+fp' g
 | .fn f caps,x,fp=>(∀g,fp g=0)/\∃cs:Array Value,x= .func (.func f) #[] cs/\Aw w sh σ caps cs.toList (fun _=>0)
 | .agg xs,x,fp=>∃cs:Array Value,x= .agg cs/\Aw w sh σ xs cs.toList fp
 | .tup xs,x,fp=>∃cs:Array Value,x= .tuple cs/\Aw w sh σ xs cs.toList fp
def Aw (w:World) (sh:Nat->Prop) (σ:Nat->Nat->Option St):List AV->List Value->(Nat->Nat)->Prop
 | [],vs,fp=>vs=[]/\∀g,fp g=0
 |x::xs,vs,fp=>∃v rest f1 f2,vs=v::rest/\VR w sh σ x v f1/\Aw w sh σ xs rest f2/\∀g,fp g=f1 g+f2 g
end
structure Cb (w w' :World) (sh sh' :Nat->Prop) (σ σ' :Nat->Nat->Option St):Prop where
 ro:∀g,sh g->w'.heap[g]?=w.heap[g]?
 sh:∀g,sh g->sh' g
 key:∀T v st,σ T v=some st->σ' T v=some st\/σ' T v=some .dead
theorem Cb.zero {w w' :World} {sh sh' :Nat->Prop} {σ σ' :Nat->Nat->Option St} (L:Cb w w' sh sh' σ σ') (τ:Nat->Nat->Option St):Cb w w' sh sh' σ0 τ:=⟨L.ro,L.sh,fun _ _ _ h=>by simp[σ0] at h⟩
theorem EE.later {w w' :World} {ad:Addr} {vs:List Value} (h:EE w ad vs) (hb:w'.heap[ad.block]?=w.heap[ad.block]?):EE w' ad vs:=by
 intro i v hv
 have h1:=h i v hv
 rw[World.cell?_of_block (w:=w)]
 .exact h1
 .have:(ad.add i).block=ad.block:=by unfold Addr.add;split<;>rfl
  rw[this];exact hb
mutual
theorem VR.later {w w' :World} {sh sh' :Nat->Prop} {σ σ' :Nat->Nat->Option St} (L:Cb w w' sh sh' σ σ'):
 ∀(a:AV) (x:Value) (fp:Nat->Nat),(∀g,fp g≠0->w'.heap[g]?=w.heap[g]?)->VR w sh σ a x fp->VR w' sh' σ' a x fp
 | .any,_,_,_,h=>h
 | .bool _,_,_,_,h=>h
 | .int _ _,_,_,_,h=>h
 | .str _,_,_,_,h=>h
 | .nilp,_,_,_,h=>h
 | .ro n xs,x,fp,_,h=>by
   simp only[VR] at h |-
   obtain⟨h0,a,c,hx,hn,hna,h⟩:=h
   refine⟨h0,a,c,hx,hn,hna,?_⟩
   rcases h with h| ⟨ad,vs,ha,hs,hr,hv⟩
   .exact .inl h
   .exact .inr ⟨ad,vs,ha,L.sh _ hs,hr.later (L.ro _ hs),Aw.later (L.zero σ0) xs vs _ (fun g hg=>absurd rfl hg) hv⟩
 | .own s n xs,x,fp,hfp,h=>by
   simp only[VR] at h |-
   rcases h with h| ⟨h',b,c,cur,e,fp',hx,hn,hc,hl,hh,hsz,hv,hf⟩
   .exact .inl h
   .refine .inr ⟨h',b,c,cur,e,fp',hx,hn,hc,hl,?_,hsz,Aw.later (L.zero σ0) xs _ fp' (fun g hg=>hfp g (by have:=hf g;omega)) hv,hf⟩
    rw[hfp h' (by have:=hf h';simp at this;omega)];exact hh
 | .tok T v s off n,x,fp,_,h=>by
   simp only[VR] at h |-
   obtain⟨h0,hsh,st,hs,h1,h2⟩:=h
   refine⟨h0,hsh,?_⟩
   rcases L.key T v st hs with h|h
   .exact⟨st,h,h1,h2⟩
   .exact⟨.dead,h,(fun e=>by cases e),(fun _ _ _ e=>by cases e)⟩
 | .ptr T v off,x,fp,_,h=>by
   simp only[VR] at h |-
   obtain⟨h0,hsh,st,hs,h1,h2⟩:=h
   refine⟨h0,hsh,?_⟩
   rcases L.key T v st hs with h|h
   .exact⟨st,h,h1,h2⟩
   .exact⟨.dead,h,(fun e=>by cases e),(fun _ _ _ e=>by cases e)⟩
 | .rptr xs,x,fp,_,h=>by
   simp only[VR] at h |-
   obtain⟨h0,ad,vs,hx,h⟩:=h
   refine⟨h0,ad,vs,hx,?_⟩
   rcases h with h| ⟨hs,hr,hv⟩
   .exact .inl h
   .exact .inr ⟨L.sh _ hs,hr.later (L.ro _ hs),Aw.later (L.zero σ0) xs vs _ (fun g hg=>absurd rfl hg) hv⟩
 | .optr xs,x,fp,hfp,h=>by
   simp only[VR] at h |-
   obtain⟨h',b,cur,e,fp',hx,hh,hsz,hv,hf⟩:=h
   refine⟨h',b,cur,e,fp',hx,?_,hsz,Aw.later (L.zero σ0) xs _ fp' (fun g hg=>hfp g (by have:=hf g;omega)) hv,hf⟩
   rw[hfp h' (by have:=hf h';simp at this;omega)];exact hh
 | .fn f caps,x,fp,_,h=>by
   simp only[VR] at h |-
   obtain⟨h0,cs,hx,hv⟩:=h
   exact⟨h0,cs,hx,Aw.later L caps _ _ (fun g hg=>absurd rfl hg) hv⟩
 | .agg xs,x,fp,hfp,h=>by
   simp only[VR] at h |-
   obtain⟨cs,hx,hv⟩:=h
   exact⟨cs,hx,Aw.later L xs _ _ hfp hv⟩
 | .tup xs,x,fp,hfp,h=>by
   simp only[VR] at h |-
   obtain⟨cs,hx,hv⟩:=h
   exact⟨cs,hx,Aw.later L xs _ _ hfp hv⟩
theorem Aw.later {w w' :World} {sh sh' :Nat->Prop} {σ σ' :Nat->Nat->Option St} (L:Cb w w' sh sh' σ σ'):
 ∀(xs:List AV) (vs:List Value) (fp:Nat->Nat),(∀g,fp g≠0->w'.heap[g]?=w.heap[g]?)->Aw w sh σ xs vs fp->Aw w' sh' σ' xs vs fp
 | [],_,_,_,h=>h
 |x::xs,vs,fp,hfp,h=>by
  simp only[Aw] at h |-
  obtain⟨v,rest,f1,f2,he,h1,h2,hf⟩:=h
  exact⟨v,rest,f1,f2,he,VR.later L x v f1 (fun g hg=>hfp g (by have:=hf g;omega)) h1,Aw.later L xs rest f2 (fun g hg=>hfp g (by have:=hf g;omega)) h2,hf⟩
end
theorem Cb.up (w:World) (sh:Nat->Prop) (σ:Nat->Nat->Option St):Cb w w sh sh σ0 σ:=⟨fun _ _=>rfl,fun _ h=>h,fun _ _ _ h=>by simp[σ0] at h⟩
theorem VR.up {w:World} {sh:Nat->Prop} (σ:Nat->Nat->Option St) {a:AV} {x:Value} {fp:Nat->Nat} (h:VR w sh σ0 a x fp):VR w sh σ a x fp:=VR.later (Cb.up w sh σ) _ _ _ (fun _ _=>rfl) h
theorem Aw.up {w:World} {sh:Nat->Prop} (σ:Nat->Nat->Option St) {a:List AV} {x:List Value} {fp:Nat->Nat} (h:Aw w sh σ0 a x fp):Aw w sh σ a x fp:=Aw.later (Cb.up w sh σ) _ _ _ (fun _ _=>rfl) h
inductive Ag where
 |free
 |dead
 |live (v:Nat) (xs:List AV)
 deriving Inhabited
def BR (w:World) (sh:Nat->Prop) (σ:Nat->Nat->Option St) (T:Nat):Ag->(Nat->Nat)->Prop
 | .free,fp=>(∀v,σ T v=none)/\∀g,fp g=0
 | .dead,fp=>∀g,fp g=0
 | .live v xs,fp=>(∀v',v<v' ->σ T v' =none)/\((σ T v=some .nil/\xs=[]/\∀g,fp g=0)\/
  ∃h b cur e fp',σ T v=some (.loc h b cur.size)/\w.heap[h]?=some (.cells cur e (0,0))/\b+xs.length<=cur.size/\
   Aw w sh σ xs ((cur.toList.drop b).take xs.length) fp' /\∀g,fp g=(if g=h then 1 else 0)+fp' g)
structure B7 (w:World) (sh:Nat->Prop) (σ:Nat->Nat->Option St) (own:Nat->Option Nat) (M:List Ag):Prop where
 blk:∀T B,M[T]?=some B->∃fp,BR w sh σ T B fp/\∀g,fp g<=if own g=some T then 1 else 0
 key:∀T v,M.length<=T->σ T v=none
structure Fx (w w' :World) (own own' :Nat->Option Nat):Prop where
 os:w'.os=w.os
 tape:w'.tape=w.tape
 output:w'.output=w.output
 size:w.heap.size<=w'.heap.size
 block:∀g,g<w.heap.size->own g=none->w'.heap[g]?=w.heap[g]?
 own:∀g,own' g≠none->own g≠none\/w.heap.size<=g
theorem Fx.refl (w:World) (own:Nat->Option Nat):Fx w w own own:=⟨rfl,rfl,rfl,Nat.le_refl _,fun _ _ _=>rfl,fun _ h=> .inl h⟩
theorem Fx.trans {a b c:World} {oa ob oc:Nat->Option Nat} (h:Fx a b oa ob) (k:Fx b c ob oc):Fx a c oa oc:=by
 refine⟨k.os.trans h.os,k.tape.trans h.tape,k.output.trans h.output,Nat.le_trans h.size k.size,fun g hg ho=>?_,fun g hg=>?_⟩
 .have hb:ob g=none:=by
   cases hob:ob g with
   |none=>rfl
   |some T=>rcases h.own g (by simp[hob]) with h1|h1
            .exact absurd ho h1
            .omega
  rw[k.block g (by have:=h.size;omega) hb,h.block g hg ho]
 .rcases k.own g hg with h1|h1
  .exact h.own g h1
  .exact .inr (by have:=h.size;omega)
structure Bn where
 P:Program
 n:Nat
 sh:Nat->Prop
 w0:World
 own0:Nat->Option Nat
 k0:Nat->Nat->Option St
 p:Nat
 rd:Option Nat
 df:List Deferred
def FX (C:Bn):Fence:={Fence.wide with round:=C.rd}
abbrev Fr:=Nat->AV
structure AK (C:Bn) (F:Fr) (M:List Ag) (a:Act) (w:World) (σ:Nat->Nat->Option St) (own:Nat->Option Nat):Prop where
 size:a.tmps.size=C.n
 dfr:a.defers=C.df
 tmp:∀t,t<C.n->VR w C.sh σ (F t) (a.tmps.getD t undef) (fun _=>0)
 mem:B7 w C.sh σ own M
 shr:∀g,C.sh g->own g=none/\g<w.heap.size
 ext:Fx C.w0 w C.own0 own
 key0:∀T v st,C.k0 T v=some st->T<C.p/\(σ T v=some st\/σ T v=some .dead)
theorem AK.keyl {C:Bn} {F:Fr} {M:List Ag} {a:Act} {w w' :World} {σ σ' :Nat->Nat->Option St} {own:Nat->Option Nat} (R:AK C F M a w σ own) (L:Cb w w' C.sh C.sh σ σ'):∀T v st,C.k0 T v=some st->T<C.p/\(σ' T v=some st\/σ' T v=some .dead):=fun T v st h=>by
 obtain⟨h0,h1⟩:=R.key0 T v st h
 refine⟨h0,?_⟩
 rcases h1 with h1|h1
 .exact L.key T v st h1
 .rcases L.key T v _ h1 with h2|h2<;>exact .inr h2
def C1 (C:Bn) (F:Fr) (M:List Ag) (a:Act) (w:World):Prop:=∃σ own,AK C F M a w σ own
abbrev Cn:=Exit->Fr->List Ag->Prop
def JG (D:Nat):List Deferred:=[{target:= .collected D,args:= #[]}]
def aq (C:Bn) (Q:Cn):Exit->Act->World->Prop:=fun e a w=>(∃F M,Q e F M/\C1 C F M a w)\/
 (e= .ret/\∃D F M w',Q .ret F M/\C1 C F M {a with defers:=[]} w' /\a.defers=JG D/\(Instr.takeDeferred D).run C.P w= .ok [] w' /\C.rd=none)
def AW (C:Bn) (c:Code) (F:Fr) (M:List Ag) (Q:Cn):Prop:=∀a w,C1 C F M a w->c.wpIn (FX C) 0 C.P (aq C Q) a w
def DN (K:Fr->List Ag->Prop) (Q:Cn):Cn:=fun e F M=>match e with| .normal=>K F M|e=>Q e F M
def KD (id:Nat) (Q:Cn):Cn:=fun e F M=>match e with| .exit i=>if i=id then Q .normal F M else Q (.exit i) F M|e=>Q e F M
theorem AW.mono {C:Bn} {c:Code} {F:Fr} {M:List Ag} {Q Q' :Cn} (h:AW C c F M Q) (hq:∀e F M,Q e F M->Q' e F M):AW C c F M Q' :=
 fun a w hr=>wpIn_mono (h a w hr) fun _ _ _ h=>by
  rcases h with⟨F,M,q,r⟩ | ⟨rfl,D,F,M,w1,q,r⟩
  .exact .inl ⟨F,M,hq _ _ _ q,r⟩
  .exact .inr ⟨rfl,D,F,M,w1,hq _ _ _ q,r⟩
theorem AW.skip {C:Bn} {F:Fr} {M:List Ag} {Q:Cn} (h:Q .normal F M):AW C .skip F M Q:=fun _ _ hr=>wpIn_skip (.inl ⟨F,M,h,hr⟩)
theorem AW.label {C:Bn} {F:Fr} {M:List Ag} {Q:Cn} {l:Nat} (h:Q .normal F M):AW C (.label l) F M Q:=fun _ _ hr=>wpIn_label (.inl ⟨F,M,h,hr⟩)
theorem AW.exit {C:Bn} {F:Fr} {M:List Ag} {Q:Cn} {id:Nat} (h:Q (.exit id) F M):AW C (.exit id) F M Q:=fun _ _ hr=>wpIn_exit (.inl ⟨F,M,h,hr⟩)
theorem AW.ret {C:Bn} {F:Fr} {M:List Ag} {Q:Cn} (h:Q .ret F M):AW C .ret F M Q:=fun _ _ hr=>wpIn_ret (.inl ⟨F,M,h,hr⟩)
theorem AW.seq {C:Bn} {x y:Code} {F:Fr} {M:List Ag} {Q:Cn} (h:AW C x F M (DN (fun F M=>AW C y F M Q) Q)):AW C (.seq x y) F M Q:=by
 intro a w hr
 refine wpIn_seq (wpIn_mono (h a w hr) ?_)
 rintro e a' w' (⟨F',M',q,r⟩ | ⟨rfl,D,F',M',w1,q,r⟩)
 .cases e<;>first|exact q a' w' r|exact .inl ⟨F',M',q,r⟩
 .exact .inr ⟨rfl,D,F',M',w1,q,r⟩
theorem AW.block {C:Bn} {id:Nat} {x:Code} {F:Fr} {M:List Ag} {Q:Cn} (h:AW C x F M (KD id Q)):AW C (.block id x) F M Q:=by
 intro a w hr
 refine wpIn_block (wpIn_mono (h a w hr) ?_)
 rintro e a' w' (⟨F',M',q,r⟩ | ⟨rfl,D,F',M',w1,q,r⟩)
 .cases e<;>first|exact .inl ⟨F',M',q,r⟩ |skip
  simp only[Exit.inBlock,KD] at q |-
  split<;>rename_i Bw
  .simp only[Bw,if_true] at q;exact .inl ⟨F',M',q,r⟩
  .simp only[Bw,if_false] at q;exact .inl ⟨F',M',q,r⟩
 .exact .inr ⟨rfl,D,F',M',w1,q,r⟩
def SZ (F:Fr):Operand->AV
 | .tmp t=>F t
 | .const (.bool b)=> .bool b
 |_=> .any
theorem AW.cond {C:Bn} {c:Operand} {x y:Code} {F:Fr} {M:List Ag} {Q:Cn} (b:Bool) (hn:∀t,c= .tmp t->t<C.n) (hc:SZ F c= .bool b)
 (ht:b=true->AW C x F M Q) (hf:b=false->AW C y F M Q):AW C (.cond c x y) F M Q:=by
 intro a w hr
 have he:a.eval c= .bool b:=by
  obtain⟨σ,own,R⟩:=hr
  cases c with
  |tmp t=>
   have:=R.tmp t (hn t rfl)
   simp only[SZ] at hc
   rw[hc] at this
   exact this.1
  |const v=>cases v<;>simp[SZ] at hc;subst hc;rfl
  |global g=>simp[SZ] at hc
  |func f=>simp[SZ] at hc
 exact wpIn_cond_split he (fun h=>ht h a w hr) (fun h=>hf h a w hr)
def CD (C:Bn) (F:Fr) (M:List Ag) (F' :Fr) (M' :List Ag):Prop:=∀a w,C1 C F M a w->C1 C F' M' a w
theorem CD.refl (C:Bn) (F:Fr) (M:List Ag):CD C F M F M:=fun _ _ h=>h
theorem CD.trans {C:Bn} {F F' F'' :Fr} {M M' M'' :List Ag} (h:CD C F M F' M') (k:CD C F' M' F'' M''):CD C F M F'' M'' :=fun a w r=>k a w (h a w r)
theorem AW.weak {C:Bn} {c:Code} {F F' :Fr} {M M' :List Ag} {Q:Cn} (h:CD C F M F' M') (k:AW C c F' M' Q):AW C c F M Q:=fun a w r=>k a w (h a w r)
theorem AW.post {C:Bn} {c:Code} {F:Fr} {M:List Ag} {Q Q' :Cn} (h:AW C c F M Q) (hq:∀e F M,Q e F M->∃F' M',CD C F M F' M' /\Q' e F' M'):AW C c F M Q' :=
 fun a w hr=>wpIn_mono (h a w hr) fun _ a' w' h=>by
  rcases h with⟨F,M,q,r⟩ | ⟨rfl,D,F,M,w1,q,r,h1⟩
  .obtain⟨F',M',hw,q'⟩:=hq _ _ _ q
   exact .inl ⟨F',M',q',hw a' w' r⟩
  .obtain⟨F',M',hw,q'⟩:=hq _ _ _ q
   exact .inr ⟨rfl,D,F',M',w1,q',hw _ w1 r,h1⟩
theorem CD.drop {C:Bn} {F F' :Fr} {M:List Ag} (h:∀t,t<C.n->F' t=F t\/F' t= .any):CD C F M F' M:=by
 rintro a w ⟨σ,own,R⟩
 refine⟨σ,own,R.size,R.dfr,fun t ht=>?_,R.mem,R.shr,R.ext,R.key0⟩
 rcases h t ht with h|h
 .rw[h];exact R.tmp t ht
 .rw[h];intro g;rfl
theorem AW.loop {C:Bn} {c:Code} {F:Fr} {M:List Ag} {Q:Cn} (I:Nat->Fr->List Ag->Prop) (k:Nat) (F₀:Fr) (M₀:List Ag) (h0:CD C F M F₀ M₀) (hI:I k F₀ M₀)
 (round:∀k F M,I k F M->AW C c F M (DN (fun F' M' =>∃k' F₁ M₁,k' <k/\CD C F' M' F₁ M₁/\I k' F₁ M₁) Q)):AW C (.loop c) F M Q:=by
 intro a w hr
 have key:∀k,∀F M,I k F M->∀a w,C1 C F M a w->Code.roundsIn (FX C) 0 C.P c (aq C Q) (k+1) a w:=by
  intro k
  induction k using Nat.strongRecOn with
  |_ k ih=>
   intro F M hI a w hr
   refine wpIn_mono (round k F M hI a w hr) ?_
   rintro e a' w' (⟨F',M',q,r⟩ | ⟨rfl,D,F',M',w1,q,r⟩)
   rotate_left
   .exact .inr ⟨rfl,D,F',M',w1,q,r⟩
   cases e<;>first|exact .inl ⟨F',M',q,r⟩ |skip
   obtain⟨k',F₁,M₁,hk,hw,hI'⟩:=q
   have h1:=ih k' hk F₁ M₁ hI' a' w' (hw a' w' r)
   have mono:∀m j a w,Code.roundsIn (FX C) 0 C.P c (aq C Q) j a w->Code.roundsIn (FX C) 0 C.P c (aq C Q) (j+m) a w:=by
    intro m j
    induction j with
    |zero=>intro a w h;exact h.elim
    |succ j ihj=>
     intro a w h
     rw[show j+1+m=(j+m)+1 by omega]
     refine wpIn_mono h ?_
     intro e a w hq
     cases e<;>first|exact hq|exact ihj _ _ hq
   have:=mono (k-(k' +1)) (k' +1) a' w' h1
   rw[show k' +1+(k-(k' +1))=k by omega] at this
   exact this
 exact wpIn_loop_rounds (k+1) (key k F₀ M₀ hI a w (h0 a w hr))
theorem AW.cut {C:Bn} {x y:Code} {F:Fr} {M:List Ag} {Q:Cn} (R:Fr->List Ag->Prop)
 (h:AW C x F M (DN (fun F M=>∃F' M',CD C F M F' M' /\R F' M') Q)) (k:∀F M,R F M->AW C y F M Q):AW C (.seq x y) F M Q:=
 AW.seq (h.mono fun e F M q=>by
  cases e<;>first|exact q|skip
  obtain⟨F',M',hw,r⟩:=q
  exact AW.weak hw (k _ _ r))
inductive TD where
 |other
 |bool
 |str
 |ptr
 |int (k:IntKind)
 |slice (e es eb:Nat) (ez:List AV)
 |struct (fs:List (Nat×Nat×Bool))
 |array (len e es:Nat)
structure TI where
 agg:Bool
 size:Nat
 bytes:Nat
 zero:List AV
 d:TD
 cmp:Bool
def zB:AV->Value->Bool
 | .int k n,.int k' m=>k==k' &&n==m
 | .bool b,.bool c=>b==c
 | .str s,.string t=>s.size==0&&t.size==0
 | .own _ n xs,.slice none 0 0=>n==0&&xs.isEmpty
 | .nilp,.pointer none=>true
 |_,_=>false
def LM:List AV->List Value->Bool
 | [],[]=>true
 |x::xs,v::vs=>zB x v&&LM xs vs
 |_,_=>false
theorem aN {x:AV} {v:Value} (h:zB x v=true) (w:World) (sh:Nat->Prop) (σ:Nat->Nat->Option St):VR w sh σ x v (fun _=>0):=by
 unfold zB at h
 split at h<;>simp_all[VR]
theorem Ik:∀{xs:List AV} {vs:List Value},LM xs vs=true->∀(w:World) (sh:Nat->Prop) (σ:Nat->Nat->Option St),Aw w sh σ xs vs (fun _=>0)
 | [],[],_,_,_,_=>⟨rfl,fun _=>rfl⟩
 |x::xs,v::vs,h,w,sh,σ=>by
  simp only[LM,Bool.and_eq_true] at h
  exact⟨v,vs,_,_,rfl,aN h.1 w sh σ,Ik h.2 w sh σ,fun _=>rfl⟩
 | [],_::_,h,_,_,_=>by simp[LM] at h
 |_::_,[],h,_,_,_=>by simp[LM] at h
def G3:TypeDesc->Bool
 | .struct _| .array _ _=>true
 |_=>false
def KY (P:Program):TD->TypeDesc->Bool
 | .other,_=>true
 | .bool,.bool=>true
 | .str,.string=>true
 | .ptr,.pointer _=>true
 | .int k,.int k' =>k==k'
 | .slice e es eb ez,.slice e' =>e==e' &&match P.info? e with
   |some E=>E.size==es&&E.bytes==eb&&match E.zero with
    |some z=>z.cells.size==es&&LM ez z.cells.toList
    |none=>false
   |none=>false
 | .struct fs,.struct fields=>fs.length==fields.size&&(fs.zip fields.toList).all fun(q,f)=>f.offset==q.1&&(match P.info? f.type with|some E=>E.size==q.2.1|none=>false)&&q.2.1 !=0&&
  (match P.underlying f.type with|some D=>G3 D==q.2.2|none=>false)
 | .array len e es,.array len' e' =>len==len' &&e==e' &&match P.info? e with
   |some E=>E.size==es
   |none=>false
 |_,_=>false
def Il:AV->AV->Bool
 | .int k _,.int k' _=>k==k'
 | .bool _,.bool _=>true
 | .str _,.str _=>true
 |_,_=>false
def OK (P:Program) (g:Nat->List AV->Bool):List Field->List AV->Nat->Bool
 | [],zs,_=>zs.isEmpty
 |f::fs,zs,off=>f.name != "_" &&f.offset==off&&(match P.info? f.type,P.underlying f.type with
  |some E,some _=>decide (0<E.size)&&decide (E.size<=zs.length)&&g f.type (zs.take E.size)&&OK P g fs (zs.drop E.size) (off+E.size)
  |_,_=>false)
def Lp (P:Program):Nat->Nat->List AV->Bool
 |0,_,_=>false
 |d+1,t,zs=>match P.underlying t with
  |some (.int _)=>match zs with| [.int _ _]=>true|_=>false
  |some .bool=>match zs with| [.bool _]=>true|_=>false
  |some .string=>match zs with| [.str _]=>true|_=>false
  |some (.struct fs)=> !P.stoodInHeld t&&OK P (Lp P d) fs.toList zs 0
  |_=>false
def Ze (P:Program) (t:Nat) (i:TI):Bool:=
 match P.info? t,P.underlying t with
 |some I,some D=>I.size==i.size&&I.bytes==i.bytes&&G3 D==i.agg&&KY P i.d D&&match I.zero with
  |some z=>z.cells.size==i.size&&LM i.zero z.cells.toList&&(!i.cmp|| (Lp P 4 t i.zero&&!P.eqGuardType P.depth t))
  |none=>false
 |_,_=>false
def BI (P:Program) (T:Nat->Option TI):Prop:=∀t i,T t=some i->Ze P t i=true
structure Zf (P:Program) (t:Nat) (i:TI):Prop where
 ok:∃I D z,P.info? t=some I/\P.underlying t=some D/\I.size=i.size/\I.bytes=i.bytes/\G3 D=i.agg/\KY P i.d D=true/\I.zero=some z/\z.cells.size=i.size/\LM i.zero z.cells.toList=true/\(i.cmp=true->Lp P 4 t i.zero=true/\P.eqGuardType P.depth t=false)
theorem BI.at {P:Program} {T:Nat->Option TI} (h:BI P T) {t:Nat} {i:TI} (ht:T t=some i):Zf P t i:=by
 have h1:=h t i ht
 unfold Ze at h1
 split at h1
 .rename_i I D hI hD
  split at h1
  .rename_i z hz
   simp only[Bool.and_eq_true,beq_iff_eq] at h1
   obtain⟨⟨⟨⟨h2,h3⟩,h4⟩,h5⟩,⟨h6,h7⟩,h8⟩:=h1
   exact⟨I,D,z,hI,hD,h2,h3,h4,h5,hz,h6,h7,fun hc=>by simpa[hc] using h8⟩
  .simp at h1
 .simp at h1
def Bg (F:Fr) (d:Nat) (v:AV):Fr:=fun t=>if t=d then v else F t
def Al (F:Fr):Option Nat->AV->Fr
 |some d,v=>Bg F d v
 |none,_=>F
def QJ:Value->AV
 | .bool b=> .bool b
 | .int k n=> .int k n
 | .string s=> .str s
 | .slice none 0 0=> .own 0 0 []
 | .pointer none=> .nilp
 |_=> .any
def ev (F:Fr):Operand->AV
 | .tmp t=>F t
 | .const v=>QJ v
 | .func f=> .fn f []
 | .global _=> .any
def Fu (n:Nat):Operand->Bool
 | .tmp t=>decide (t<n)
 |_=>true
def By (n:Nat) (o:Oper):Bool:=o.op.operands.all (Fu n)&&(match o.dst with|some d=>decide (d<n) |none=>true)
theorem Zg (v:Value) (w:World) (sh:Nat->Prop) (σ:Nat->Nat->Option St):VR w sh σ (QJ v) v (fun _=>0):=by
 unfold QJ
 split<;>simp[VR]
section
variable {C:Bn} {F:Fr} {M:List Ag} {a:Act} {w:World} {σ:Nat->Nat->Option St} {own:Nat->Option Nat}
theorem AK.ev (R:AK C F M a w σ own) {x:Operand} (h:Fu C.n x=true):VR w C.sh σ (ev F x) (a.eval x) (fun _=>0):=by
 cases x with
 |tmp t=>exact R.tmp t (by simpa[Fu] using h)
 |const v=>exact Zg v w _ _
 |global g=>intro g;rfl
 |func f=>exact⟨fun _=>rfl, #[],rfl,rfl,fun _=>rfl⟩
theorem AK.put (R:AK C F M a w σ own) (dst:Option Nat) {av:AV} {v:Value} (h:VR w C.sh σ av v (fun _=>0)):AK C (Al F dst av) M (a.put dst v) w σ own:=by
 cases dst with
 |none=>exact R
 |some d=>
  refine⟨by simp[Act.put,R.size],R.dfr,fun t ht=>?_,R.mem,R.shr,R.ext,R.key0⟩
  have hs:=R.size
  simp only[Al,Bg,Act.put]
  split
  .rename_i e;subst e;simp[Array.getD,hs,ht];exact h
  .rename_i e
   have:=R.tmp t ht
   simpa[Array.getD,Array.getElem_setIfInBounds,hs,ht,Ne.symm e] using this
end
def H9 (xs:List AV):Nat->Nat->Option (List AV)
 |_,0=>some []
 |off,m+1=>match xs[off]?,H9 xs (off+1) m with
  |some x,some r=>some (x::r)
  |_,_=>none
def LN:AV->Bool
 | .own _ _ _=>false
 | .optr _=>false
 |_=>true
def QK (agg:Bool):List AV->Option AV
 |cs=>if agg then some (.agg cs) else match cs with| [c]=>some c|_=>none
def BO:AV->Bool
 | .agg _| .tup _| .any=>false
 |_=>true
def Da (c:AV):Bool:=LN c&&BO c
theorem FM {w:World} {sh:Nat->Prop} {σ:Nat->Nat->Option St}:∀{xs:List AV} {vs:List Value} {fp:Nat->Nat},Aw w sh σ xs vs fp->∀{i:Nat} {x:AV},xs[i]?=some x->
 ∃v f,vs[i]?=some v/\VR w sh σ x v f/\∀g,f g<=fp g
 | [],_,_,_,_,_,hx=>by simp at hx
 |y::ys,vs,fp,h,i,x,hx=>by
  simp only[Aw] at h
  obtain⟨v,rest,f1,f2,rfl,h1,h2,hf⟩:=h
  cases i with
  |zero=>simp at hx;subst hx;exact⟨v,f1,rfl,h1,fun g=>by have:=hf g;omega⟩
  |succ i=>
   obtain⟨v',f,hv,hr,hle⟩:=FM h2 (i:=i) (x:=x) (by simpa using hx)
   exact⟨v',f,by simpa using hv,hr,fun g=>by have:=hf g;have:=hle g;omega⟩
theorem BF {w:World} {sh:Nat->Prop} {σ:Nat->Nat->Option St}:∀{xs:List AV} {vs:List Value} {fp:Nat->Nat},Aw w sh σ xs vs fp->vs.length=xs.length
 | [],_,_,h=>by simp only[Aw] at h;simp[h.1]
 |y::ys,vs,fp,h=>by
  simp only[Aw] at h
  obtain⟨v,rest,f1,f2,rfl,h1,h2,hf⟩:=h
  simp[BF h2]
theorem MY {w:World} {sh:Nat->Prop} {σ:Nat->Nat->Option St} {x:AV} {v:Value} {f:Nat->Nat} (h:VR w sh σ x v f) (hx:LN x=true) (hc:BO x=true):VR w sh σ x v (fun _=>0):=by
 cases x<;>simp[LN,BO] at hx hc<;>simp only[VR] at h |-<;>simp_all
theorem IG:∀{m:Nat} {xs cs:List AV} {off:Nat},H9 xs off m=some cs->cs.length=m/\∀i,i<m->xs[off+i]?=cs[i]?/\off+i<xs.length
 |0,_,_,_,h=>by simp[H9] at h;subst h;simp
 |m+1,xs,cs,off,h=>by
  simp only[H9] at h
  split at h
  .rename_i x r hx hr
   simp at h;subst h
   obtain⟨h1,h2⟩:=IG hr
   refine⟨by simp[h1],fun i hi=>?_⟩
   have hlt:off<xs.length:=by
    rcases Nat.lt_or_ge off xs.length with h|h
    .exact h
    .simp[List.getElem?_eq_none h] at hx
   cases i with
   |zero=>exact⟨by simpa using hx,by omega⟩
   |succ i=>
    have:=h2 i (by omega)
    exact⟨by rw[show off+(i+1)=off+1+i by omega];simpa using this.1,by have:=this.2;omega⟩
  .simp at h
theorem Addr.add_assoc (a:Addr) (m k:Nat):(a.add m).add k=a.add (m+k):=by
 unfold Addr.add
 by_cases hm:m=0<;>by_cases hk:k=0<;>simp[hm,hk,Nat.add_assoc]
theorem G4 {P:Program} {w:World} {a:Addr}:∀(m:Nat) (vs:List Value),vs.length=m->(∀i v,vs[i]?=some v->w.cell? (a.add i)=some v)->(loadCells a m).run P w= .ok vs.toArray w:=by
 intro m vs hl h
 have key:∀(m:Nat) (vs:List Value) (i:Nat) (acc:Array Value),vs.length=m->(∀j v,vs[j]?=some v->w.cell? (a.add (i+j))=some v)->
  (loadCellsFrom a i m acc).run P w= .ok (acc++vs.toArray) w:=by
  intro m
  induction m with
  |zero=>intro vs i acc hl h;simp at hl;subst hl;simp[loadCellsFrom]
  |succ m ih=>
   intro vs i acc hl h
   cases vs with
   |nil=>simp at hl
   |cons v vs=>
    have h0:w.cell? (a.add i)=some v:=by simpa using h 0 v rfl
    simp only[loadCellsFrom,Sem.run_bind,run_load,h0,Result.andThen_ok]
    rw[ih vs (i+1) (acc.push v) (by simpa using hl) (fun j u hu=>by have:=h (j+1) u (by simpa using hu);rwa [show i+1+j=i+(j+1) by omega])]
    simp
 have:=key m vs 0 #[] hl (fun j v hv=>by simpa using h j v hv)
 simpa[loadCells] using this
theorem GQ {P:Program} {w:World} {t:Nat} {D:TypeDesc} (h:P.underlying t=some D):(isAgg t).run P w= .ok (G3 D) w:=by
 unfold isAgg
 simp only[Sem.run_bind,run_underlying h,Result.andThen_ok]
 cases D<;>rfl
theorem BZ {P:Program} {w:World} {t:Nat} {I:TypeInfo} (h:P.info? t=some I):(sizeOf t).run P w= .ok I.size w:=by
 simp[sizeOf,typeInfo,h]
def Aj (M:List Ag) (T v:Nat):Option (List AV):=
 match M[T]? with
 |some (.live v' cs)=>if v=v' then some cs else none
 |_=>none
def KZ (T:Nat->Option TI) (M:List Ag) (t:Nat) (x:AV):Option AV:=
 match T t with
 |none=>none
 |some i=>match (match x with
  | .ptr B v off=>match Aj M B v with
    |some cs=>match H9 cs off i.size with
     |some r=>if r.all Da then some r else none
     |none=>none
    |none=>none
  | .rptr xs=>match H9 xs 0 i.size with
   |some r=>if r.all Da then some r else none
   |none=>none
  |_=>none) with
  |some r=>QK i.agg r
  |none=>none
theorem DZ {w:World} {h:Nat} {cur:Array Value} {e:TypeId} (hh:w.heap[h]?=some (.cells cur e (0,0))) (o:Nat):w.cell? ⟨h,o,none⟩=cur[o]?:=by
 simp[World.cell?,hh]
theorem BG (h o j:Nat):(⟨h,o,none⟩:Addr).add j=⟨h,o+j,none⟩:=by
 unfold Addr.add;split<;>simp_all
theorem BS {w:World} {sh:Nat->Prop} {σ:Nat->Nat->Option St} {own:Nat->Option Nat} {M:List Ag} (m:B7 w sh σ own M) {T v:Nat} {cs:List AV} (hb:Aj M T v=some cs):
 M[T]?=some (.live v cs)/\∃fp,BR w sh σ T (.live v cs) fp/\∀g,fp g<=if own g=some T then 1 else 0:=by
 unfold Aj at hb
 split at hb
 .rename_i v' cs' hM
  split at hb
  .rename_i e;subst e;simp at hb;subst hb
   exact⟨hM,m.blk T _ hM⟩
  .simp at hb
 .simp at hb
theorem FN {w:World} {sh:Nat->Prop} {σ:Nat->Nat->Option St} {own:Nat->Option Nat} {M:List Ag} (m:B7 w sh σ own M) {T v off:Nat} {cs:List AV} (hb:Aj M T v=some cs)
 {x:Value} (hx:VR w sh σ (.ptr T v off) x (fun _=>0)):
 ∃h b cur e,x= .pointer (some ⟨h,b+off,none⟩)/\σ T v=some (.loc h b cur.size)/\own h=some T/\w.heap[h]?=some (.cells cur e (0,0))/\b+cs.length<=cur.size/\
  ∀j c,cs[j]?=some c->∃u f,cur[b+j]?=some u/\VR w sh σ c u f:=by
 obtain⟨hM,fp,hB,hf⟩:=BS m hb
 simp only[VR] at hx
 obtain⟨_,_,st,hs,hn,hx⟩:=hx
 simp only[BR] at hB
 obtain⟨_,hB⟩:=hB
 rcases hB with⟨h1,_,_⟩ | ⟨h,b,cur,e,fp',h1,h2,h3,h4,h5⟩
 .rw[h1] at hs;simp at hs;exact absurd hs.symm hn
 .rw[h1] at hs;simp at hs
  refine⟨h,b,cur,e,hx h b _ hs.symm,h1,?_,h2,h3,fun j c hc=>?_⟩
  .have:=hf h;have h6:=h5 h;simp at h6
   split at this
   .assumption
   .omega
  .obtain⟨u,f,hu,hr,_⟩:=FM h4 hc
   refine⟨u,f,?_,hr⟩
   have hj:j<cs.length:=by
    rcases Nat.lt_or_ge j cs.length with h|h
    .exact h
    .simp[List.getElem?_eq_none h] at hc
   rw[List.getElem?_take,if_pos hj,List.getElem?_drop] at hu
   simpa using hu
theorem F6 {w:World} {sh:Nat->Prop} {σ:Nat->Nat->Option St}:∀{xs:List AV} {vs:List Value},vs.length=xs.length->(∀(i:Nat) (x:AV),xs[i]?=some x->∃v,vs[i]?=some v/\VR w sh σ x v (fun _=>0))->Aw w sh σ xs vs (fun _=>0)
 | [],vs,hl,_=>by
   have:vs=[]:=List.eq_nil_of_length_eq_zero (by simpa using hl)
   subst this;exact⟨rfl,fun _=>rfl⟩
 |x::xs,[],hl,_=>by simp at hl
 |x::xs,v::vs,hl,h=>by
  obtain⟨v',hv,hr⟩:=h 0 x rfl
  simp at hv;subst hv
  exact⟨_,_,_,_,rfl,hr,F6 (by simpa using hl) (fun i y hy=>by simpa using h (i+1) y (by simpa using hy)),fun _=>rfl⟩
theorem LO {P:Program} {w:World} {sh:Nat->Prop} {σ:Nat->Nat->Option St} {t:Nat} {i:TI} (ti:Zf P t i) {ad:Addr} {r:List AV} {av:AV} (hl:r.length=i.size) (hm:QK i.agg r=some av)
 (h:∀j c,r[j]?=some c->∃u,w.cell? (ad.add j)=some u/\VR w sh σ c u (fun _=>0)):∃v,(loadVar t ad).run P w= .ok v w/\VR w sh σ av v (fun _=>0):=by
 obtain⟨I,D,z,hI,hD,h1,h2,h3,h4,h5,h6,h7,_⟩:=ti.ok
 unfold loadVar
 simp only[Sem.run_bind,GQ hD,Result.andThen_ok,h3]
 unfold QK at hm
 cases hagg:i.agg
 .simp only[hagg,Bool.false_eq_true,if_false] at hm |-
  split at hm
  .rename_i c
   simp at hm;subst hm
   obtain⟨u,hu,hr⟩:=h 0 c rfl
   have hz:ad.add 0=ad:=by simp[Addr.add]
   rw[hz] at hu
   exact⟨u,by simp[hu],hr⟩
  .simp at hm
 .simp only[hagg,if_true] at hm |-
  simp at hm;subst hm
  have hvs:∃vs:List Value,vs.length=r.length/\∀j c,r[j]?=some c->∃u,vs[j]?=some u/\w.cell? (ad.add j)=some u/\VR w sh σ c u (fun _=>0):=by
   refine⟨(List.range r.length).map (fun j=>(w.cell? (ad.add j)).getD undef),by simp,fun j c hc=>?_⟩
   obtain⟨u,hu,hr⟩:=h j c hc
   have hj:j<r.length:=by
    rcases Nat.lt_or_ge j r.length with h|h
    .exact h
    .simp[List.getElem?_eq_none h] at hc
   exact⟨u,by simp[hj,hu],hu,hr⟩
  obtain⟨vs,hvl,hv⟩:=hvs
  have hrun:(loadCells ad I.size).run P w= .ok vs.toArray w:=by
   refine G4 _ vs (by rw[hvl,hl,h1]) (fun j v hjv=>?_)
   have hj:j<r.length:=by
    rw[<-hvl]
    rcases Nat.lt_or_ge j vs.length with h|h
    .exact h
    .simp[List.getElem?_eq_none h] at hjv
   obtain⟨u,hu,hc,_⟩:=hv j r[j] (by simp)
   rw[hjv] at hu;simp at hu;subst hu;exact hc
  refine⟨.agg vs.toArray,by simp[BZ hI,hrun],vs.toArray,rfl,?_⟩
  exact F6 hvl (fun j c hc=>let ⟨u,hu,_,hr⟩:=hv j c hc;⟨u,hu,hr⟩)
theorem OL {C:Bn} {F:Fr} {M:List Ag} {a:Act} {w:World} {σ:Nat->Nat->Option St} {own:Nat->Option Nat} {T:Nat->Option TI} (tk:BI C.P T) (R:AK C F M a w σ own)
 {t:Nat} {x:AV} {v:Value} (hx:VR w C.sh σ x v (fun _=>0)) {r:AV} (h:KZ T M t x=some r):∃u,(Instr.loadAt t v).run C.P w= .ok u w/\VR w C.sh σ r u (fun _=>0):=by
 unfold KZ at h
 split at h
 .simp at h
 .rename_i i ht
  have ti:=tk.at ht
  split at h
  .rename_i cs hcs
   split at hcs
   .rename_i B v' off
    split at hcs
    .rename_i bs hbs
     split at hcs
     .rename_i r' hg
      split at hcs
      .rename_i hall
       simp at hcs;subst hcs
       obtain⟨hh,b,cur,e,rfl,hs,ho,hheap,hle,hc⟩:=FN R.mem hbs hx
       obtain⟨hl,hget⟩:=IG hg
       have:=LO (P:=C.P) (w:=w) (sh:=C.sh) (σ:=σ) ti (ad:=⟨hh,b+off,none⟩) hl h (fun j c hj=>by
        have hjl:j<i.size:=by
         rw[<-hl]
         rcases Nat.lt_or_ge j r'.length with h|h
         .exact h
         .simp[List.getElem?_eq_none h] at hj
        obtain⟨u,f,hu,hr⟩:=hc (off+j) c (by rw[(hget j hjl).1];exact hj)
        have hnc:=List.all_eq_true.1 hall c (List.mem_of_getElem? hj)
        simp only[Da,Bool.and_eq_true] at hnc
        refine⟨u,?_,MY hr hnc.1 hnc.2⟩
        rw[BG,DZ hheap,Nat.add_assoc];exact hu)
       obtain⟨u,hu,hr⟩:=this
       exact⟨u,by simp[Instr.loadAt,Instr.sureAddr,hu],hr⟩
      .simp at hcs
     .simp at hcs
    .simp at hcs
   .rename_i xs
    split at hcs
    .rename_i r' hg
     split at hcs
     .rename_i hall
      simp at hcs;subst hcs
      simp only[VR] at hx
      obtain⟨_,ad,vs,rfl,hx⟩:=hx
      obtain⟨hl,hget⟩:=IG hg
      have:=LO (P:=C.P) (w:=w) (sh:=C.sh) (σ:=σ) ti (ad:=ad) hl h (fun j c hj=>by
       have hjl:j<i.size:=by
        rw[<-hl]
        rcases Nat.lt_or_ge j r'.length with h|h
        .exact h
        .simp[List.getElem?_eq_none h] at hj
       have hg1:=hget j hjl
       simp only[Nat.zero_add] at hg1
       rcases hx with hx| ⟨_,hrow,hvs⟩
       .subst hx;simp at hg1
       .obtain⟨u,f,hu,hr,hf⟩:=FM hvs (i:=j) (x:=c) (by rw[hg1.1];exact hj)
        have hnc:=List.all_eq_true.1 hall c (List.mem_of_getElem? hj)
        simp only[Da,Bool.and_eq_true] at hnc
        exact⟨u,hrow j u hu,MY (VR.up σ hr) hnc.1 hnc.2⟩)
      obtain⟨u,hu,hr⟩:=this
      exact⟨u,by simp[Instr.loadAt,Instr.sureAddr,hu],hr⟩
     .simp at hcs
    .simp at hcs
   .simp at hcs
  .simp at h
def Ar (T:Nat->Option TI) (t:Nat):TD:=match T t with|some i=>i.d|none=> .other
theorem KE {P:Program} {T:Nat->Option TI} (tk:BI P T) {t:Nat} (h:Ar T t≠ .other):∃D,P.underlying t=some D/\KY P (Ar T t) D=true:=by
 unfold Ar at*
 split at h<;>rename_i ht
 .obtain⟨I,D,z,hI,hD,h1,h2,h3,h4,h5,h6,h7,_⟩:=(tk.at ht).ok
  exact⟨D,hD,h4⟩
 .exact absurd rfl h
theorem Cf {P:Program} {T:Nat->Option TI} (tk:BI P T) {t e es eb:Nat} {ez:List AV} (h:Ar T t= .slice e es eb ez):P.underlying t=some (.slice e)/\∃E z,P.info? e=some E/\E.size=es/\E.bytes=eb/\E.zero=some z/\z.cells.size=es/\LM ez z.cells.toList=true:=by
 obtain⟨D,hD,hb⟩:=KE tk (t:=t) (by rw[h];simp)
 rw[h] at hb
 cases D<;>simp[KY] at hb
 rename_i e'
 obtain⟨rfl,hb⟩:=hb
 refine⟨hD,?_⟩
 split at hb
 .rename_i E hE
  simp only[Bool.and_eq_true,beq_iff_eq] at hb
  obtain⟨⟨h1,h2⟩,hb⟩:=hb
  split at hb
  .rename_i z hz
   simp only[Bool.and_eq_true,beq_iff_eq] at hb
   exact⟨E,z,hE,h1,h2,hz,hb.1,hb.2⟩
  .simp at hb
 .simp at hb
theorem JH {P:Program} {T:Nat->Option TI} (tk:BI P T) {t:Nat} {fs:List (Nat×Nat×Bool)} (h:Ar T t= .struct fs):∃fields,P.underlying t=some (.struct fields)/\
 ∀(j:Nat) (q:Nat×Nat×Bool),fs[j]?=some q->∃(f:Field) (E:TypeInfo) (D:TypeDesc),fields[j]?=some f/\f.offset=q.1/\P.info? f.type=some E/\E.size=q.2.1/\q.2.1≠0/\P.underlying f.type=some D/\G3 D=q.2.2:=by
 obtain⟨D,hD,hb⟩:=KE tk (t:=t) (by rw[h];simp)
 rw[h] at hb
 cases D<;>simp only[KY,Bool.false_eq_true] at hb
 rename_i fields
 refine⟨fields,hD,fun j q hj=>?_⟩
 simp only[Bool.and_eq_true,beq_iff_eq] at hb
 obtain⟨hl,hb⟩:=hb
 have hjl:j<fields.size:=by
  rw[<-hl]
  rcases Nat.lt_or_ge j fs.length with h|h
  .exact h
  .simp[List.getElem?_eq_none h] at hj
 have hz:(fs.zip fields.toList)[j]?=some (q,fields[j]):=by
  rw[List.getElem?_zip_eq_some];exact⟨hj,by simp⟩
 have h1:=List.all_eq_true.1 hb _ (List.mem_of_getElem? hz)
 simp only[Bool.and_eq_true,beq_iff_eq,bne_iff_ne] at h1
 obtain⟨⟨⟨h2,h3⟩,h4⟩,h5⟩:=h1
 split at h3
 .rename_i E hE
  split at h5
  .rename_i D' hD'
   exact⟨fields[j],E,D',by simp[hjl],h2,hE,by simpa using h3,h4,hD',by simpa using h5⟩
  .simp at h5
 .simp at h3
theorem OM {P:Program} {T:Nat->Option TI} (tk:BI P T) {t len e es:Nat} (h:Ar T t= .array len e es):P.underlying t=some (.array len e)/\∃E,P.info? e=some E/\E.size=es:=by
 obtain⟨D,hD,hb⟩:=KE tk (t:=t) (by rw[h];simp)
 rw[h] at hb
 cases D<;>simp[KY] at hb
 rename_i l' e'
 obtain⟨⟨rfl,rfl⟩,hb⟩:=hb
 refine⟨hD,?_⟩
 split at hb
 .rename_i E hE;exact⟨E,hE,by simpa using hb⟩
 .simp at hb
theorem ON {P:Program} {T:Nat->Option TI} (tk:BI P T) {t:Nat} {k:IntKind} (h:Ar T t= .int k):P.underlying t=some (.int k):=by
 obtain⟨D,hD,hb⟩:=KE tk (t:=t) (by rw[h];simp)
 rw[h] at hb
 cases D<;>simp[KY] at hb
 subst hb;exact hD
theorem Im {P:Program} {T:Nat->Option TI} (tk:BI P T) {t:Nat} (h:Ar T t= .str):P.underlying t=some .string:=by
 obtain⟨D,hD,hb⟩:=KE tk (t:=t) (by rw[h];simp)
 rw[h] at hb
 cases D<;>simp[KY] at hb
 exact hD
def JI (T:Nat->Option TI) (M:List Ag) (t:Nat) (x:AV) (f:Nat):Option AV:=
 match Ar T t with
 | .struct fs=>match fs[f]? with
   |some (o,_,_)=>match x with
    | .ptr B v off=>if (Aj M B v).isSome then some (.ptr B v (off+o)) else none
    | .rptr xs=>some (.rptr (xs.drop o))
    |_=>none
   |none=>none
 |_=>none
section
variable {C:Bn} {w:World} {σ:Nat->Nat->Option St} {T:Nat->Option TI}
theorem HJ {sh:Nat->Prop} {xs:List AV} {o:Nat} {ad:Addr} {vs:List Value} (h:xs=[]\/(sh ad.block/\EE w ad vs/\Aw w sh σ0 xs vs (fun _=>0))):VR w sh σ (.rptr (xs.drop o)) (.pointer (some (ad.add o))) (fun _=>0):=by
 refine⟨fun _=>rfl,ad.add o,vs.drop o,rfl,?_⟩
 rcases h with h| ⟨h1,h2,h3⟩
 .subst h;left;simp
 .right
  refine⟨?_,fun i v hv=>?_,?_⟩
  .have:(ad.add o).block=ad.block:=by unfold Addr.add;split<;>rfl
   rw[this];exact h1
  .rw[Addr.add_assoc];exact h2 (o+i) v (by simpa using hv)
  .refine F6 (by have:=BF h3;simp[this]) (fun i x hx=>?_)
   obtain⟨v,f,hv,hr,hf⟩:=FM h3 (i:=o+i) (x:=x) (by simpa using hx)
   refine⟨v,by simpa using hv,?_⟩
   have:f=fun _=>0:=funext fun g=>by have:=hf g;omega
   rw[<-this];exact hr
theorem Zh {own:Nat->Option Nat} {M:List Ag} (m:B7 w C.sh σ own M) (tk:BI C.P T) {t f:Nat} {x:AV} {v:Value} (hx:VR w C.sh σ x v (fun _=>0)) {r:AV} (h:JI T M t x f=some r):∃u,(Instr.fieldAt t v f).run C.P w= .ok u w/\VR w C.sh σ r u (fun _=>0):=by
 unfold JI at h
 split at h
 .rename_i fs hfs
  obtain⟨fields,hD,hf⟩:=JH tk hfs
  split at h
  .rename_i o s g hq
   obtain⟨fl,E,D,h1,h2,h3,h4,h5,_,_⟩:=hf f _ hq
   have run:∀ad:Addr,(Instr.fieldAt t (.pointer (some ad)) f).run C.P w= .ok (.pointer (some (ad.add o))) w:=by
    intro ad
    simp[Instr.fieldAt,run_underlying hD,h1,Instr.sureAddr,fieldPlace,BZ h3,h4,h5,h2]
   split at h
   .rename_i B v' off
    split at h
    .rename_i hl
     simp at h;subst h
     obtain⟨cs,hcs⟩:=Option.isSome_iff_exists.1 hl
     obtain⟨hh,b,cur,e,rfl,hs,_⟩:=FN m hcs hx
     refine⟨_,run _,fun _=>rfl,⟨_,rfl⟩,_,hs,by simp,fun h' b' sz' e=>?_⟩
     cases e;rw[BG,Nat.add_assoc]
    .simp at h
   .simp at h;subst h
    simp only[VR] at hx
    obtain⟨_,ad,vs,rfl,hx⟩:=hx
    exact⟨_,run ad,HJ hx⟩
   .simp at h
  .simp at h
 .simp at h
end
def JJ (T:Nat->Option TI) (M:List Ag) (t:Nat) (x ix:AV):Option AV:=
 match Ar T t,ix with
 | .slice _ es _ _,.int _ k=>match x with
   | .ro n xs=>if 0<=k/\k<n then some (.rptr (xs.drop (k.toNat*es))) else none
   | .tok B v _ off n=>if 0<=k/\k<n then if (Aj M B v).isSome then some (.ptr B v (off+k.toNat*es)) else none else none
   |_=>none
 | .array len _ es,.int _ k=>match x with
   | .ptr B v off=>if 0<=k/\k<len then if (Aj M B v).isSome then some (.ptr B v (off+k.toNat*es)) else none else none
   | .rptr xs=>if 0<=k/\k<len then some (.rptr (xs.drop (k.toNat*es))) else none
   |_=>none
 |_,_=>none
def CN (op:BinOp):AV->AV->Option AV
 | .int k a,.int k' b=>match op with
   | .shl=>if 0<=b then some (.int k (k.wrap (a*2^(min b.toNat k.bits)))) else none
   | .shr=>if 0<=b then some (.int k (a.fdiv (2^(min b.toNat k.bits)))) else none
   |op=>if k=k' then match op with
    | .add=>some (.int k (k.wrap (a+b)))
    | .sub=>some (.int k (k.wrap (a-b)))
    | .mul=>some (.int k (k.wrap (a*b)))
    | .quo=>if b=0 then none else some (.int k (k.wrap (a.tdiv b)))
    | .rem=>if b=0 then none else some (.int k (a.tmod b))
    | .and=>some (.int k (k.wrap (BitVec.ofInt k.bits a&&&BitVec.ofInt k.bits b).toNat))
    | .or=>some (.int k (k.wrap (BitVec.ofInt k.bits a|||BitVec.ofInt k.bits b).toNat))
    | .xor=>some (.int k (k.wrap (BitVec.ofInt k.bits a^^^BitVec.ofInt k.bits b).toNat))
    | .eql=>some (.bool (decide (a=b)))
    | .neq=>some (.bool (!decide (a=b)))
    | .lss=>some (.bool (decide (a<b)))
    | .leq=>some (.bool (decide (a<=b)))
    | .gtr=>some (.bool (decide (b<a)))
    | .geq=>some (.bool (decide (b<=a)))
    |_=>none else none
 | .str a,.str b=>match op with
   | .eql=>some (.bool (decide (a=b)))
   | .neq=>some (.bool (!decide (a=b)))
   |_=>none
 |_,_=>none
def un (op:UnOp):AV->Option AV
 | .int k n=>match op with
   | .neg=>some (.int k (k.wrap (0-n)))
   |_=>none
 | .bool b=>match op with
   | .not=>some (.bool !b)
   |_=>none
 |_=>none
def WH (T:Nat->Option TI) (src dst:Nat) (x:AV):Option AV:=
 match Ar T src,Ar T dst,x with
 | .int _,.int k,.int _ n=>some (.int k (k.wrap n))
 | .str,.str,.str s=>some (.str s)
 |_,_,_=>none
def MZ (T:Nat->Option TI) (t:Nat) (x:AV):Option AV:=
 match Ar T t,x with
 | .str,.str s=>some (.int .i64 s.size)
 | .slice _ _ _ _,.ro n _=>some (.int .i64 n)
 | .slice _ _ _ _,.own _ n xs=>if n=0/\xs=[] then some (.int .i64 0) else none
 | .slice _ _ _ _,.tok B v _ _ n=>some (.int .i64 n)
 | .array n _ _,_=>some (.int .i64 n)
 |_,_=>none
theorem OO (a b:ByteArray):(a.toList==b.toList)=decide (a=b):=by
 rw[ByteArray.toList_eq,ByteArray.toList_eq]
 by_cases h:a=b
 .subst h;simp
 .have:a.data.toList≠b.data.toList:=fun e=>h (by cases a;cases b;simp at e;simp[e])
  rw[beq_eq_false_iff_ne.2 this];simp[h]
section
variable {C:Bn} {w:World} {σ:Nat->Nat->Option St} {T:Nat->Option TI} {own:Nat->Option Nat} {M:List Ag}
theorem HK {sh:Nat->Prop} (m:B7 w sh σ own M) {B v s off n:Nat} {cs:List AV} (hb:Aj M B v=some cs) {x:Value} (hx:VR w sh σ (.tok B v s off n) x (fun _=>0)) (hn:0<n):
 ∃h b cur e c,x= .slice (some ⟨h,b+off,none⟩) n c/\n<=c/\c<=maxLen/\b+off+c*s<=cur.size/\σ B v=some (.loc h b cur.size)/\own h=some B/\w.heap[h]?=some (.cells cur e (0,0))/\b+cs.length<=cur.size/\
  ∀j c,cs[j]?=some c->∃u f,cur[b+j]?=some u/\VR w sh σ c u f:=by
 simp only[VR] at hx
 obtain⟨_,_,st,hs,h1,h2⟩:=hx
 have hst:st≠ .nil:=fun e=>by have:=(h1 e).2.2;omega
 obtain⟨h,b,cur,e,_,h4,h5,h6,h7,h8⟩:=FN m hb (x:=match st with| .loc h b _=> .pointer (some ⟨h,b+off,none⟩) |_=> .pointer (some ⟨0,0,none⟩)) (off:=off) (by
  simp only[VR]
  refine⟨fun _=>trivial,(by cases st<;>exact⟨_,rfl⟩),st,hs,hst,fun h b sz e=>by subst e;rfl⟩)
 rw[h4] at hs;simp at hs
 obtain⟨a,c,hx,ha,hc,hm,hz⟩:=h2 h b _ hs.symm
 refine⟨h,b,cur,e,c,?_,hc,hm,hz,h4,h5,h6,h7,h8⟩
 rw[hx,ha (by omega)]
theorem Zi (m:B7 w C.sh σ own M) (tk:BI C.P T) {t:Nat} {x ix:AV} {v vi:Value} (hx:VR w C.sh σ x v (fun _=>0)) (hi:VR w C.sh σ ix vi (fun _=>0)) {r:AV} (h:JJ T M t x ix=some r):
 ∃u,(Instr.indexAt t v vi).run C.P w= .ok u w/\VR w C.sh σ r u (fun _=>0):=by
 unfold JJ at h
 split at h
 .rename_i e es eb ez kd k htd
  obtain⟨hD,E,z,hE,h1,_⟩:=Cf tk htd
  have hvi:vi= .int kd k:=hi.1
  subst hvi
  have run:∀(ad:Addr) (n c:Nat),0<=k/\k<n->(Instr.indexAt t (.slice (some ad) n c) (.int kd k)).run C.P w= .ok (.pointer (some (ad.add (k.toNat*es)))) w:=by
   intro ad n c hk
   simp[Instr.indexAt,asIntOf,run_underlying hD,BZ hE,h1,hk]
  split at h
  .rename_i n xs
   split at h
   .rename_i hk
    simp at h;subst h
    simp only[VR] at hx
    obtain⟨_,a,c,rfl,hc,hna,hx⟩:=hx
    cases a with
    |none=>have:=hna rfl;omega
    |some ad=>
     rcases hx with hx| ⟨ad',vs,h2,h3⟩
     .exact⟨_,run ad n c hk,HJ (vs:=[]) (.inl hx)⟩
     .cases h2;exact⟨_,run ad n c hk,HJ (.inr h3)⟩
   .simp at h
  .rename_i B v' s off n
   split at h
   .rename_i hk
    split at h
    .rename_i hl
     simp at h;subst h
     obtain⟨cs,hcs⟩:=Option.isSome_iff_exists.1 hl
     obtain⟨hh,b,cur,e',c,rfl,_,_,_,hs,_⟩:=HK m hcs hx (by omega)
     refine⟨_,run _ n c hk,fun _=>rfl,⟨_,rfl⟩,_,hs,by simp,fun h' b' sz' e=>?_⟩
     cases e;rw[BG,Nat.add_assoc]
    .simp at h
   .simp at h
  .simp at h
 .rename_i len e es kd k htd
  obtain⟨hD,E,hE,h1⟩:=OM tk htd
  have hvi:vi= .int kd k:=hi.1
  subst hvi
  have run:∀(ad:Addr),0<=k/\k<len->(Instr.indexAt t (.pointer (some ad)) (.int kd k)).run C.P w= .ok (.pointer (some (ad.add (k.toNat*es)))) w:=by
   intro ad hk
   simp[Instr.indexAt,asIntOf,run_underlying hD,BZ hE,h1,hk,Instr.sureAddr]
  split at h
  .split at h
   .rename_i hk
    split at h
    .rename_i hl
     simp at h;subst h
     obtain⟨cs,hcs⟩:=Option.isSome_iff_exists.1 hl
     obtain⟨hh,b,cur,e',rfl,hs,_⟩:=FN m hcs hx
     refine⟨_,run _ hk,fun _=>rfl,⟨_,rfl⟩,_,hs,by simp,fun h' b' sz' e=>?_⟩
     cases e;rw[BG,Nat.add_assoc]
    .simp at h
   .simp at h
  .split at h
   .rename_i hk
    simp at h;subst h
    simp only[VR] at hx
    obtain⟨_,ad,vs,rfl,hx⟩:=hx
    exact⟨_,run ad hk,HJ hx⟩
   .simp at h
  .simp at h
 .simp at h
theorem Fy {op:BinOp} {t:Nat} {x y:Operand} {a b:Value} (ha:a≠ .nilIface) (hb:∀cs,a≠ .agg cs):(eqGuard op t x y a b).run C.P w= .ok () w:=by
 unfold eqGuard
 cases op<;>simp<;>(split<;>simp_all)
theorem Zj {op:BinOp} {t:Nat} {ox oy:Operand} {x y:AV} {vx vy:Value} (hx:VR w C.sh σ x vx (fun _=>0)) (hy:VR w C.sh σ y vy (fun _=>0)) {r:AV} (h:CN op x y=some r):
 ∃u,(do eqGuard op t ox oy vx vy;binOp op t vx vy:Sem Value).run C.P w= .ok u w/\VR w C.sh σ r u (fun _=>0):=by
 unfold CN at h
 split at h
 .rename_i k a k' b
  have e1:vx= .int k a:=hx.1
  have e2:vy= .int k' b:=hy.1
  subst e1 e2
  simp only[Sem.run_bind,Fy (C:=C) (w:=w) (op:=op) (t:=t) (x:=ox) (y:=oy) (a:=Value.int k a) (b:=Value.int k' b) (by simp) (by simp),Result.andThen_ok]
  split at h
  .split at h
   .rename_i hb
    simp at h;subst h
    exact⟨_,by simp[binOp,Op.shift,Int.not_lt.2 hb],rfl,fun _=>rfl⟩
   .simp at h
  .split at h
   .rename_i hb
    simp at h;subst h
    exact⟨_,by simp[binOp,Op.shift,Int.not_lt.2 hb],rfl,fun _=>rfl⟩
   .simp at h
  .rename_i hs1 hs2
   split at h
   .rename_i hk
    subst hk
    split at h
    all_goals first
     | (simp at h;subst h;exact⟨_,by simp[binOp,Op.intArith,Op.intBits,Op.intCmp];try rfl,rfl,fun _=>rfl⟩)
     | (split at h
        .simp at h
        .rename_i hb;simp at h;subst h;exact⟨_,by simp[binOp,Op.intDiv,hb],rfl,fun _=>rfl⟩)
     | (simp at h;subst h;exact⟨.bool _,by simp only[binOp,Op.intCmp];rfl,rfl,fun _=>rfl⟩)
     |simp at h
   .simp at h
 .rename_i a b
  have e1:vx= .string a:=hx.1
  have e2:vy= .string b:=hy.1
  subst e1 e2
  simp only[Sem.run_bind,Fy (C:=C) (w:=w) (op:=op) (t:=t) (x:=ox) (y:=oy) (a:=Value.string a) (b:=Value.string b) (by simp) (by simp),Result.andThen_ok]
  split at h
  .simp at h;subst h;exact⟨_,by simp[binOp,Op.stringOp,OO],rfl,fun _=>rfl⟩
  .simp at h;subst h;exact⟨_,by simp[binOp,Op.stringOp,OO],rfl,fun _=>rfl⟩
  .simp at h
 .simp at h
end
def Db (s:ByteArray) (i:Nat):Nat:=if h:i<s.size then s[i].toNat else 0
def QL (T:Nat->Option TI) (t:Nat) (x ix:AV):Option AV:=
 match Ar T t,x,ix with
 | .str,.str s,.int _ k=>if 0<=k/\k<s.size then some (.int .u8 (Db s k.toNat)) else none
 |_,_,_=>none
def QM (T:Nat->Option TI) (t:Nat) (x:AV) (f:Nat):Option AV:=
 match Ar T t with
 | .struct fs=>match fs[f]? with
   |some (o,s,g)=>match x with
    | .agg cs=>match H9 cs o s with
      |some r=>QK g r
      |none=>none
    |_=>none
   |none=>none
 |_=>none
def ext (x:AV) (i:Nat):Option AV:=match x with| .tup xs=>xs[i]?|_=>none
def RH (z x:AV):AV:=match x with| .own 0 0 []=>(match z with| .own s 0 []=> .own s 0 [] |_=>x) |x=>x
def cellsOf:AV->List AV
 | .agg cs=>cs
 |x=> [x]
def IH (z:Option AV) (x:AV):List AV:=match x with
 | .own 0 0 []=>(match z with|some (.own s 0 [])=> [.own s 0 []] |_=> [.own 0 0 []])
 |x=>cellsOf x
def II (i:TI) (x:AV):Option (List AV):=
 if i.agg then(match x with| .agg cs=>if cs.length=i.size/\cs.all BO=true then some cs else none|_=>none)
 else if i.size=1/\BO x=true then some (IH i.zero[0]? x) else none
def Fz (T:Nat->Option TI) (t:Nat) (x:AV):AV:=match x with
 | .own 0 0 []=>match T t with|some i=>(match i.zero with| [z]=>RH z x|_=>x) |none=>x
 |x=>x
def FO (x:Option AV) (d m:Nat):Option Nat:=match x with
 |none=>some d
 |some (.int _ k)=>if 0<=k/\k<=m then some k.toNat else none
 |_=>none
def Ju (T:Nat->Option TI) (M:List Ag) (t:Nat) (x:AV) (lo hi mx:Option AV):Option AV:=
 match Ar T t with
 | .str=>match x,mx with
   | .str s,none=>match FO hi s.size s.size with
     |some h=>match FO lo 0 h with
      |some l=>some (.str (s.extract l h))
      |none=>none
     |none=>none
   |_,_=>none
 | .slice _ es _ _=>match mx with
   |none=>match x with
    | .ro n xs=>match FO hi n n with
      |some h=>match FO lo 0 h with
       |some l=>some (.ro (h-l) ((xs.drop (l*es)).take ((h-l)*es)))
       |none=>none
      |none=>none
    | .tok B v s off n=>if s=es/\(Aj M B v).isSome then match FO hi n n with
      |some h=>match FO lo 0 h with
       |some l=>some (.tok B v s (off+l*es) (h-l))
       |none=>none
      |none=>none else none
    | .own s n xs=>if n=0/\xs=[] then match FO hi 0 0 with
      |some h=>match FO lo 0 h with
       |some _=>some (.own s 0 [])
       |none=>none
      |none=>none else none
    |_=>none
   |some m=>match hi,lo with
    |some h,none=>match h,m with
     | .int _ 0,.int _ 0=>match x with
       | .ro _ _=>some (.own es 0 [])
       | .own _ 0 []=>some (.own es 0 [])
       | .tok _ _ _ _ _=>some (.own es 0 [])
       |_=>none
     |_,_=>none
    |_,_=>none
 |_=>none
def CP:List AV->Nat->List AV->List AV
 |cs,_,[]=>cs
 |cs,o,x::xs=>CP (cs.set o x) (o+1) xs
def OP:AV->Bool
 | .any| .tup _=>false
 |_=>true
def HL (place:Nat->Option (Nat×Nat)):List AV->List (Nat×AV)->Option (List AV)
 |cs,[]=>some cs
 |cs,(i,x)::rest=>match place i with
  |some (o,s)=>if OP x=true/\(cellsOf x).length=s/\o+s<=cs.length then HL place (CP cs o (IH cs[o]? x)) rest else none
  |none=>none
def WI (fs:List (Nat×Nat×Bool)) (i:Nat):Option (Nat×Nat):=match fs[i]? with|some (o,s,_)=>some (o,s) |none=>none
def WJ (es:Nat) (i:Nat):Option (Nat×Nat):=some (i*es,es)
section
variable {C:Bn} {w:World} {σ:Nat->Nat->Option St} {T:Nat->Option TI} {own:Nat->Option Nat} {M:List Ag}
theorem aO {op:UnOp} {x:AV} {v:Value} (hx:VR w C.sh σ x v (fun _=>0)) {r:AV} (h:un op x=some r):∃u,(Op.unary op v).run C.P w= .ok u w/\VR w C.sh σ r u (fun _=>0):=by
 unfold un at h
 split at h
 .have e:=hx.1;subst e
  split at h
  .simp at h;subst h;exact⟨_,by simp only[Op.unary,Op.intArith];rfl,by simp[VR]⟩
  .simp at h
 .have e:=hx.1;subst e
  split at h
  .simp at h;subst h;exact⟨_,by simp[Op.unary],rfl,fun _=>rfl⟩
  .simp at h
 .simp at h
theorem Zk (tk:BI C.P T) {src dst:Nat} {x:AV} {v:Value} (hx:VR w C.sh σ x v (fun _=>0)) {r:AV} (h:WH T src dst x=some r):∃u,(convert src dst v).run C.P w= .ok u w/\VR w C.sh σ r u (fun _=>0):=by
 unfold WH at h
 split at h
 .rename_i h1 h2
  have e:=hx.1;subst e
  simp at h;subst h
  exact⟨_,by simp[convert,run_underlying (ON tk h1),run_underlying (ON tk h2),Conv.intToInt],rfl,fun _=>rfl⟩
 .rename_i h1 h2
  have e:=hx.1;subst e
  simp at h;subst h
  exact⟨_,by simp[convert,run_underlying (Im tk h1),run_underlying (Im tk h2)],rfl,fun _=>rfl⟩
 .simp at h
theorem W6 (tk:BI C.P T) {t ty:Nat} {x:AV} {v:Value} (hx:VR w C.sh σ x v (fun _=>0)) {r:AV} (h:MZ T t x=some r):
 ∃u,(Builtin.len_ #[t] ty #[v]).run C.P w= .ok u w/\VR w C.sh σ r u (fun _=>0):=by
 unfold MZ at h
 split at h
 .rename_i h1
  have e:=hx.1;subst e
  simp at h;subst h
  exact⟨_,by simp[Builtin.len_,run_underlying (Im tk h1),goInt],rfl,fun _=>rfl⟩
 .rename_i h1
  simp only[VR] at hx
  obtain⟨_,a,c,rfl,_⟩:=hx
  simp at h;subst h
  exact⟨_,by simp[Builtin.len_,run_underlying (Cf tk h1).1,goInt],rfl,fun _=>rfl⟩
 .rename_i h1
  split at h
  .rename_i hn
   obtain⟨rfl,rfl⟩:=hn
   simp only[VR] at hx
   simp at h;subst h
   rcases hx with⟨⟨a,rfl⟩,_⟩ | ⟨h',b,c,cur,e,fp',rfl,_⟩
   .exact⟨_,by simp[Builtin.len_,run_underlying (Cf tk h1).1,goInt],rfl,fun _=>rfl⟩
   .exact⟨_,by simp[Builtin.len_,run_underlying (Cf tk h1).1,goInt],rfl,fun _=>rfl⟩
  .simp at h
 .rename_i B v' s off n h1
  simp at h;subst h
  simp only[VR] at hx
  obtain⟨_,⟨a,c,rfl⟩,_⟩:=hx
  exact⟨_,by simp[Builtin.len_,run_underlying (Cf tk h1).1,goInt],rfl,fun _=>rfl⟩
 .rename_i n _ _ h1
  simp at h;subst h
  refine⟨.int .i64 n,?_,rfl,fun _=>rfl⟩
  simp[Builtin.len_,run_underlying (OM tk h1).1,goInt]
 .simp at h
theorem Zl (tk:BI C.P T) {t:Nat} {x ix:AV} {v vi:Value} (hx:VR w C.sh σ x v (fun _=>0)) (hi:VR w C.sh σ ix vi (fun _=>0)) {r:AV} (h:QL T t x ix=some r):∃u,(Instr.index t v vi).run C.P w= .ok u w/\VR w C.sh σ r u (fun _=>0):=by
 unfold QL at h
 split at h
 .rename_i s kd k h1
  have e:=hx.1;subst e
  have e:=hi.1;subst e
  split at h
  .rename_i hk
   simp at h;subst h
   have hlt:k.toNat<s.size:=by omega
   refine⟨.int .u8 (Db s k.toNat),?_,rfl,fun _=>rfl⟩
   simp[Instr.index,asIntOf,run_underlying (Im tk h1),hk.1,hlt,Db]
  .simp at h
 .simp at h
theorem Fv {f:Nat->Nat} (h:∀g,f g<=(fun _:Nat=>0) g):f=fun _=>0:=funext fun g=>by have:=h g;simpa using this
theorem Zm (tk:BI C.P T) {t f:Nat} {x:AV} {v:Value} (hx:VR w C.sh σ x v (fun _=>0)) {r:AV} (h:QM T t x f=some r):∃u,(Instr.field t v f).run C.P w= .ok u w/\VR w C.sh σ r u (fun _=>0):=by
 unfold QM at h
 split at h
 .rename_i fs hfs
  obtain⟨fields,hD,hf⟩:=JH tk hfs
  split at h
  .rename_i o s g hq
   obtain⟨fl,E,D,h1,h2,h3,h4,h5,h6,h7⟩:=hf f _ hq
   simp only at h2 h4 h5 h7
   split at h
   .rename_i cs
    simp only[VR] at hx
    obtain⟨vs,rfl,hvs⟩:=hx
    split at h
    .rename_i r' hg
     obtain⟨hl,hget⟩:=IG hg
     have hlen:=BF hvs
     have cell:∀(j:Nat) (c:AV),r'[j]?=some c->∃u,vs.toList[o+j]?=some u/\VR w C.sh σ c u (fun _=>0):=by
      intro j c hj
      have hjl:j<s:=by
       rw[<-hl]
       rcases Nat.lt_or_ge j r'.length with h|h
       .exact h
       .simp[List.getElem?_eq_none h] at hj
      obtain⟨u,f,hu,hr,hle⟩:=FM hvs (i:=o+j) (x:=c) (by rw[(hget j hjl).1];exact hj)
      rw[Fv hle] at hr
      exact⟨u,hu,hr⟩
     unfold QK at h
     cases g
     .simp only[Bool.false_eq_true,if_false] at h
      split at h
      .rename_i c
       simp at h;subst h
       obtain⟨u,hu,hr⟩:=cell 0 c rfl
       refine⟨u,?_,hr⟩
       simp at hu
       simp[Instr.field,run_underlying hD,h1,asAgg,part,GQ h6,h7,h2,hu]
      .simp at h
     .simp only[if_true] at h
      simp at h;subst h
      refine⟨.agg (vs.extract o (o+s)),by simp[Instr.field,run_underlying hD,h1,asAgg,part,GQ h6,h7,h2,BZ h3,h4],_,rfl,?_⟩
      refine F6 ?_ (fun j c hj=>?_)
      .have:o+s<=vs.size:=by
        have h8:=(hget (s-1) (by omega)).2
        simp at hlen;omega
       simp;omega
      .obtain⟨u,hu,hr⟩:=cell j c hj
       have hjl:j<s:=by
        rw[<-hl]
        rcases Nat.lt_or_ge j r'.length with h|h
        .exact h
        .simp[List.getElem?_eq_none h] at hj
       refine⟨u,?_,hr⟩
       simp only[Array.toList_extract,List.extract_eq_take_drop]
       rw[List.getElem?_take,if_pos (by omega),List.getElem?_drop];exact hu
    .simp at h
   .simp at h
  .simp at h
 .simp at h
theorem Zn {x:AV} {i:Nat} {v:Value} (hx:VR w C.sh σ x v (fun _=>0)) {r:AV} (h:ext x i=some r):∃u,(Instr.extract v i).run C.P w= .ok u w/\VR w C.sh σ r u (fun _=>0):=by
 unfold ext at h
 split at h
 .simp only[VR] at hx
  obtain⟨vs,rfl,hvs⟩:=hx
  obtain⟨u,f,hu,hr,hle⟩:=FM hvs h
  rw[Fv hle] at hr
  refine⟨u,?_,hr⟩
  simp at hu
  simp[Instr.extract,hu]
 .simp at h
end
section
variable {C:Bn} {w:World} {σ:Nat->Nat->Option St} {T:Nat->Option TI} {own:Nat->Option Nat} {M:List Ag}
theorem QN {P:Program} {x:Option AV} {v:Option Value} {d m c l:Nat} {code:BoundsCode} (hx:∀a,x=some a->∃u,v=some u/\VR w C.sh σ a u (fun _=>0)) (hn:x=none->v=none) (hmc:m<=c) (h:FO x d m=some l):
 (x=none/\l=d)\/(∃u k i,v=some u/\u= .int k i/\l=i.toNat/\l<=m/\0<=i/\(Instr.sliceBound u c code).run P w= .ok l w):=by
 unfold FO at h
 split at h
 .simp at h;exact .inl ⟨rfl,h.symm⟩
 .rename_i k i
  obtain⟨u,hu,hr⟩:=hx _ rfl
  have e:=hr.1;subst e
  split at h
  .rename_i hk
   simp at h;subst h
   refine .inr ⟨_,k,i,hu,rfl,rfl,by omega,hk.1,?_⟩
   have:0<=i/\i<=c:=by omega
   simp[Instr.sliceBound,asIntOf,this]
  .simp at h
 .simp at h
theorem FP {P:Program} {lo hi:Option AV} {vl vh:Option Value} {n c l h:Nat} (b:Bool) (hlo:∀a,lo=some a->∃u,vl=some u/\VR w C.sh σ a u (fun _=>0)) (hlo' :lo=none->vl=none)
 (hhi:∀a,hi=some a->∃u,vh=some u/\VR w C.sh σ a u (fun _=>0)) (hhi' :hi=none->vh=none) (hnc:n<=c) (h1:FO hi n n=some h) (h2:FO lo 0 h=some l):
 (Instr.sliceBounds b n c vl vh none).run P w= .ok (l,h,c) w/\l<=h/\h<=n:=by
 have r1:=QN (P:=P) (code:=if b then .sliceAcap else .sliceAlen) hhi hhi' hnc h1
 have r2:=QN (P:=P) (code:= .sliceB) hlo hlo' (Nat.le_refl h) h2
 unfold Instr.sliceBounds
 rcases r1 with⟨e,rfl⟩ | ⟨u,k,i,hu,_,_,hle,_,r1⟩
 .rw[hhi' e]
  rcases r2 with⟨e,rfl⟩ | ⟨u,k,i,hu,_,_,hle,_,r2⟩
  .rw[hlo' e];simp
  .rw[hu];refine⟨?_,hle,Nat.le_refl _⟩
   simp only[Sem.run_bind,Sem.run_pure,Result.andThen_ok,Option.isSome_none,Bool.false_eq_true,if_false,r2]
 .rw[hu]
  rcases r2 with⟨e,rfl⟩ | ⟨u2,k2,i2,hu2,_,_,hle2,_,r2⟩
  .rw[hlo' e];exact⟨by simp only[Sem.run_bind,Sem.run_pure,Result.andThen_ok,r1],Nat.zero_le _,hle⟩
  .rw[hu2];exact⟨by simp only[Sem.run_bind,Sem.run_pure,Result.andThen_ok,Option.isSome_none,Bool.false_eq_true,if_false,r1,r2],hle2,hle⟩
theorem S0 (m:B7 w C.sh σ own M) (tk:BI C.P T) {t:Nat} {x:AV} {v:Value} {lo hi mx:Option AV} {vl vh vm:Option Value} (hx:VR w C.sh σ x v (fun _=>0))
 (hlo:∀a,lo=some a->∃u,vl=some u/\VR w C.sh σ a u (fun _=>0)) (hlo' :lo=none->vl=none)
 (hhi:∀a,hi=some a->∃u,vh=some u/\VR w C.sh σ a u (fun _=>0)) (hhi' :hi=none->vh=none)
 (hmx:∀a,mx=some a->∃u,vm=some u/\VR w C.sh σ a u (fun _=>0)) (hmx' :mx=none->vm=none) {r:AV} (h:Ju T M t x lo hi mx=some r):
 ∃u,(Instr.sliceAt t v vl vh vm).run C.P w= .ok u w/\VR w C.sh σ r u (fun _=>0):=by
 unfold Ju at h
 split at h
 .rename_i htd
  have hD:=Im tk htd
  split at h
  .rename_i s
   have e:=hx.1;subst e
   rw[hmx' rfl]
   split at h
   .rename_i h0 hh
    split at h
    .rename_i l hl
     simp at h;subst h
     obtain⟨hr,_,_⟩:=FP (P:=C.P) (w:=w) (σ:=σ) (C:=C) false hlo hlo' hhi hhi' (Nat.le_refl s.size) hh hl
     refine⟨.string (s.extract l h0),?_,rfl,fun _=>rfl⟩
     simp only[Instr.sliceAt,Sem.run_bind,run_underlying hD,Result.andThen_ok,Instr.slice,Option.isSome_none,Bool.false_eq_true,if_false,Sem.run_pure,hr]
    .simp at h
   .simp at h
  .simp at h
 .rename_i e es eb ez htd
  obtain⟨hD,E,z,hE,hs,_⟩:=Cf tk htd
  split at h
  .rw[hmx' rfl]
   have run:∀(a:Option Addr) (n c l h0:Nat),(Instr.sliceBounds true n c vl vh none).run C.P w= .ok (l,h0,c) w->(Instr.sliceAt t (.slice a n c) vl vh none).run C.P w= .ok (.slice (if c=l then a else a.map (·.add (l*es))) (h0-l) (c-l)) w:=by
    intro a n c l h0 hb
    simp only[Instr.sliceAt,Sem.run_bind,run_underlying hD,Result.andThen_ok,Instr.slice,hb,BZ hE,hs,Sem.run_pure]
   split at h
   .rename_i n xs
    split at h
    .rename_i h0 hh
     split at h
     .rename_i l hl
      simp at h;subst h
      simp only[VR] at hx
      obtain⟨_,a,c,rfl,hc,hna,hx⟩:=hx
      obtain⟨hr,hlh,hhn⟩:=FP (P:=C.P) (w:=w) (σ:=σ) (C:=C) true hlo hlo' hhi hhi' hc hh hl
      refine⟨_,run a n c l h0 hr,fun _=>rfl,_,c-l,rfl,by omega,?_,?_⟩
      .intro hn
       split at hn
       .have:=hna hn;omega
       .simp at hn;have:=hna hn;omega
      .rcases hx with hx| ⟨ad,vs,ha,h2,h3,h4⟩
       .left;simp[hx]
       .by_cases hcl:c=l
        .left;have:h0-l=0:=by omega
         simp[this]
        .right
         refine⟨ad.add (l*es),(vs.drop (l*es)).take ((h0-l)*es),by simp[hcl,ha],?_,?_,?_⟩
         .have:(ad.add (l*es)).block=ad.block:=by unfold Addr.add;split<;>rfl
          rw[this];exact h2
         .intro i v hv
          rw[Addr.add_assoc]
          refine h3 _ v ?_
          rw[List.getElem?_take] at hv
          split at hv
          .simpa using hv
          .simp at hv
         .refine F6 (by have:=BF h4;simp[this]) (fun i x hx=>?_)
          rw[List.getElem?_take] at hx
          split at hx
          .rename_i hi'
           obtain⟨u,f,hu,hr,hle⟩:=FM h4 (i:=l*es+i) (x:=x) (by simpa using hx)
           rw[Fv hle] at hr
           exact⟨u,by rw[List.getElem?_take,if_pos hi'];simpa using hu,hr⟩
          .simp at hx
     .simp at h
    .simp at h
   .rename_i B v' s off n
    split at h
    .rename_i hsl
     obtain⟨rfl,hlive⟩:=hsl
     split at h
     .rename_i h0 hh
      split at h
      .rename_i l hl
       simp at h;subst h
       obtain⟨cs,hcs⟩:=Option.isSome_iff_exists.1 hlive
       have hx0:=hx
       simp only[VR] at hx
       obtain⟨_,hsl0,st,hst,hx1,hx2⟩:=hx
       cases st with
       |dead=>
        obtain⟨hM,fp,hB,_⟩:=BS m hcs
        simp only[BR] at hB
        rcases hB.2 with⟨e,_⟩ | ⟨_,_,_,_,_,e,_⟩<;>(rw[hst] at e;simp at e)
       |nil=>
        obtain⟨⟨a,rfl⟩,rfl,rfl⟩:=hx1 rfl
        obtain⟨hr,hlh,hhn⟩:=FP (P:=C.P) (w:=w) (σ:=σ) (C:=C) true hlo hlo' hhi hhi' (Nat.le_refl 0) hh hl
        have e0:h0=0:=by omega
        have e1:l=0:=by omega
        subst e0 e1
        refine⟨_,run a 0 0 0 0 hr,fun _=>rfl,⟨_,_,rfl⟩,.nil,hst,fun _=>?_,fun _ _ _ e=>by cases e⟩
        simp
       |loc g b sz=>
        obtain⟨a,c,rfl,ha,hc,hm,hz⟩:=hx2 g b sz rfl
        obtain⟨hr,hlh,hhn⟩:=FP (P:=C.P) (w:=w) (σ:=σ) (C:=C) true hlo hlo' hhi hhi' hc hh hl
        have hsz:b+(off+l*s)+(c-l)*s<=sz:=by
         have:l*s+(c-l)*s=c*s:=by rw[<-Nat.add_mul];congr 1;omega
         omega
        refine⟨_,run (some a) n c l h0 hr,fun _=>rfl,⟨_,_,rfl⟩,.loc g b sz,hst,(fun e=>by cases e),fun g' b' sz' e=>?_⟩
        cases e
        by_cases hcl:c=l
        .exact⟨a,c-l,by simp[hcl],by omega,by omega,by omega,hsz⟩
        .refine⟨a.add (l*s),c-l,by simp[hcl],fun _=>?_,by omega,by omega,hsz⟩
         rw[ha (by omega),BG,Nat.add_assoc]
      .simp at h
     .simp at h
    .simp at h
   .rename_i s n xs
    split at h
    .rename_i hn
     obtain⟨rfl,rfl⟩:=hn
     split at h
     .rename_i h0 hh
      split at h
      .rename_i l hl
       simp at h;subst h
       simp only[VR] at hx
       rcases hx with⟨⟨a,rfl⟩,_⟩ | ⟨g,b,c,cur,e',fp',_,_,_,_,_,_,_,hf⟩
       .obtain⟨hr,hlh,hhn⟩:=FP (P:=C.P) (w:=w) (σ:=σ) (C:=C) true hlo hlo' hhi hhi' (Nat.le_refl 0) hh hl
        have e0:h0=0:=by omega
        have e1:l=0:=by omega
        subst e0 e1
        exact⟨_,run a 0 0 0 0 hr,.inl ⟨⟨a,by simp⟩,rfl,rfl,fun _=>rfl⟩⟩
       .have:=hf g;simp at this;omega
      .simp at h
     .simp at h
    .simp at h
   .simp at h
  .rename_i m0
   split at h
   .rename_i h00
    split at h
    .obtain⟨um,hum,hm1⟩:=hmx _ rfl
     obtain⟨uh,huh,hh1⟩:=hhi _ rfl
     have e1:=hm1.1;have e2:=hh1.1
     subst e1 e2
     rw[hum,huh,hlo' rfl]
     rename_i kh km
     have run:∀(a:Option Addr) (n c:Nat),∃a',(Instr.sliceAt t (.slice a n c) none (some (.int kh 0)) (some (.int km 0))).run C.P w= .ok (.slice a' 0 0) w:=by
      intro a n c
      refine⟨a,?_⟩
      simp[Instr.sliceAt,run_underlying hD,Instr.slice,Instr.sliceBounds,Instr.sliceBound,asIntOf,BZ hE]
     split at h
     .simp at h;subst h
      simp only[VR] at hx
      obtain⟨_,a,c,rfl,_⟩:=hx
      obtain⟨a',hr⟩:=run a _ c
      exact⟨_,hr,.inl ⟨⟨a',rfl⟩,rfl,rfl,fun _=>rfl⟩⟩
     .simp at h;subst h
      simp only[VR] at hx
      rcases hx with⟨⟨a,rfl⟩,_⟩ | ⟨g,b,c,cur,e',fp',rfl,_⟩
      .obtain⟨a',hr⟩:=run a 0 0
       exact⟨_,hr,.inl ⟨⟨a',rfl⟩,rfl,rfl,fun _=>rfl⟩⟩
      .obtain⟨a',hr⟩:=run (some ⟨g,b,none⟩) 0 c
       exact⟨_,hr,.inl ⟨⟨a',rfl⟩,rfl,rfl,fun _=>rfl⟩⟩
     .rename_i B v' _ _ n
      simp at h;subst h
      simp only[VR] at hx
      obtain⟨_,⟨a,c,rfl⟩,_⟩:=hx
      obtain⟨a',hr⟩:=run a n c
      exact⟨_,hr,.inl ⟨⟨a',rfl⟩,rfl,rfl,fun _=>rfl⟩⟩
     .simp at h
    .simp at h
   .simp at h
 .simp at h
end
def E0:AV->Value
 | .int k n=> .int k n
 | .bool b=> .bool b
 | .str s=> .string s
 |_=>undef
def G7:AV->AV->Bool
 | .int _ a,.int _ b=>decide (a=b)
 | .bool a,.bool b=>decide (a=b)
 | .str a,.str b=>decide (a=b)
 |_,_=>false
def AT:List AV->List AV->List AV->Option Bool
 | [],[],[]=>some true
 |z::zs,x::xs,y::ys=>if Il z x=true/\Il z y=true then(match AT zs xs ys with|some r=>some (G7 x y&&r) |none=>none) else none
 |_,_,_=>none
def DY (T:Nat->Option TI) (op:BinOp) (t:Nat) (x y:AV):Option AV:=match x,y with
 | .bool a,.bool b=>match Ar T t with
   | .bool=>match op with
     | .eql=>some (.bool (decide (a=b)))
     | .neq=>some (.bool (!decide (a=b)))
     |_=>none
   |_=>none
 | .agg xs,.agg ys=>match T t with
   |some i=>if i.cmp=true/\i.agg=true then match AT i.zero xs ys with
    |some r=>match op with
     | .eql=>some (.bool r)
     | .neq=>some (.bool !r)
     |_=>none
    |none=>none else none
   |none=>none
 |x,y=>CN op x y
theorem W7 {w:World} {sh:Nat->Prop} {σ:Nat->Nat->Option St} {z x:AV} {v:Value} {fp:Nat->Nat} (h:Il z x=true) (hv:VR w sh σ x v fp):v=E0 x:=by
 cases x<;>cases z<;>simp[Il] at h<;>exact hv.1
theorem Lq {w:World} {sh:Nat->Prop} {σ:Nat->Nat->Option St}:∀{zs xs ys:List AV} {r:Bool} {vs:List Value} {fp:Nat->Nat},AT zs xs ys=some r->Aw w sh σ xs vs fp->vs=xs.map E0
 | [],[],[],_,_,_,_,hv=>hv.1
 |z::zs,x::xs,y::ys,r,vs,fp,h,hv=>by
  simp only[AT] at h
  split at h
  .rename_i hk
   split at h
   .rename_i r' hr
    simp only[Aw] at hv
    obtain⟨v,rest,f1,f2,rfl,h1,h2,_⟩:=hv
    rw[W7 hk.1 h1,Lq hr h2];rfl
   .simp at h
  .simp at h
 | [],_::_,_,_,_,_,h,_=>by simp[AT] at h
 | [],[],_::_,_,_,_,h,_=>by simp[AT] at h
 |_::_,[],_,_,_,_,h,_=>by simp[AT] at h
 |_::_,_::_,[],_,_,_,h,_=>by simp[AT] at h
theorem K0:∀{zs xs ys:List AV} {r:Bool},AT zs xs ys=some r->∃r',AT zs ys xs=some r'
 | [],[],[],_,_=>⟨true,rfl⟩
 |z::zs,x::xs,y::ys,r,h=>by
  simp only[AT] at h
  split at h
  .rename_i hk
   split at h
   .rename_i r' hr
    obtain⟨r2,h2⟩:=K0 hr
    refine⟨G7 y x&&r2,?_⟩
    simp only[AT]
    rw[if_pos ⟨hk.2,hk.1⟩,h2]
   .simp at h
  .simp at h
 | [],_::_,_,_,h=>by simp[AT] at h
 | [],[],_::_,_,h=>by simp[AT] at h
 |_::_,[],_,_,h=>by simp[AT] at h
 |_::_,_::_,[],_,h=>by simp[AT] at h
theorem EF:∀{zs xs ys:List AV} {r:Bool},AT zs xs ys=some r->xs.length=zs.length/\ys.length=zs.length
 | [],[],[],_,_=>⟨rfl,rfl⟩
 |z::zs,x::xs,y::ys,r,h=>by
  simp only[AT] at h
  split at h
  .split at h
   .rename_i r' hr
    have:=EF hr
    simp;omega
   .simp at h
  .simp at h
 | [],_::_,_,_,h=>by simp[AT] at h
 | [],[],_::_,_,h=>by simp[AT] at h
 |_::_,[],_,_,h=>by simp[AT] at h
 |_::_,_::_,[],_,h=>by simp[AT] at h
theorem JK:∀(n:Nat) {zs xs ys:List AV} {r:Bool},n<=zs.length->AT zs xs ys=some r->∃r1 r2,AT (zs.take n) (xs.take n) (ys.take n)=some r1/\AT (zs.drop n) (xs.drop n) (ys.drop n)=some r2/\r=(r1&&r2)
 |0,zs,xs,ys,r,_,h=>⟨true,r,rfl,h,by simp⟩
 |n+1,[],_,_,_,hn,_=>by simp at hn
 |n+1,z::zs,x::xs,y::ys,r,hn,h=>by
  simp only[AT] at h
  split at h
  .rename_i hk
   split at h
   .rename_i r' hr
    simp at h;subst h
    obtain⟨r1,r2,h1,h2,rfl⟩:=JK n (by simpa using hn) hr
    refine⟨G7 x y&&r1,r2,?_,by simpa using h2,by rw[Bool.and_assoc]⟩
    simp only[List.take_succ_cons,AT]
    rw[if_pos hk,h1]
   .simp at h
  .simp at h
 |n+1,z::zs,[],ys,_,_,h=>by simp[AT] at h
 |n+1,z::zs,x::xs,[],_,_,h=>by simp[AT] at h
section
variable {P:Program} {w:World}
def F7 (P:Program) (t:Nat) (vs:List Value):Value:=match P.underlying t with
 |some D=>if G3 D then .agg vs.toArray else vs.headD undef
 |none=>undef
theorem QO {f:Field} {E:TypeInfo} {D:TypeDesc} {X:Array Value} {off:Nat} (hD:P.underlying f.type=some D) (hE:P.info? f.type=some E) (hl:0<E.size) (hle:off+E.size<=X.size):
 (part f.type X off).run P w= .ok (F7 P f.type ((X.toList.drop off).take E.size)) w:=by
 unfold F7
 simp only[hD]
 cases hg:G3 D
 .have:X[off]?=some (X[off]'(by omega)):=by simp[show off<X.size by omega]
  have e2:(List.take E.size (List.drop off X.toList)).headD undef=X[off]'(by omega):=by
   rw[List.headD_eq_head?_getD,List.head?_take,if_neg (by omega),List.head?_drop,Array.getElem?_toList,this];rfl
  rw[if_neg (by simp),e2]
  simp[part,GQ hD,hg,this]
 .rw[if_pos rfl]
  simp only[part,Sem.run_bind,GQ hD,hg,Result.andThen_ok,if_true,BZ hE,Sem.run_pure]
  congr 2
  apply Array.ext'
  simp[List.take_drop]
theorem S1:∀(d:Nat) (t:Nat) (zs:List AV),Lp P d t zs=true->∀(D:Nat),d<=D->∀(xs ys:List AV) (r:Bool),AT zs xs ys=some r->
 (Op.equalIn D t (F7 P t (xs.map E0)) (F7 P t (ys.map E0))).run P w= .ok r w
 |0,_,_,h,_,_,_,_,_,_=>by simp[Lp] at h
 |d+1,t,zs,h,D,hD,xs,ys,r,hp=>by
  obtain⟨D,rfl⟩:∃D',D=D' +1:=⟨D-1,by omega⟩
  simp only[Lp] at h
  split at h
  .rename_i k hu
   split at h
   .rename_i k' n
    cases xs with
    |nil=>simp[AT] at hp
    |cons x xs=>cases ys with
     |nil=>simp[AT] at hp
     |cons y ys=>
      simp only[AT] at hp
      split at hp
      .rename_i hk
       split at hp
       .rename_i r' hr
        have hl:=EF hr
        simp at hl
        obtain⟨rfl,rfl⟩:=hl
        simp[AT] at hr hp;subst hr hp
        cases x<;>simp[Il] at hk
        cases y<;>simp[Il] at hk
        obtain⟨rfl,rfl⟩:=hk
        simp only[F7,hu,G3,List.map_cons,List.map_nil,List.headD_cons,E0,G7]
        simp only[Bool.false_eq_true,if_false]
        rw[run_equalIn_int w D t _ _ _ _ hu]
        congr 1
        simp[Bool.beq_eq_decide_eq,BEq.beq]
       .simp at hp
      .simp at hp
   .simp at h
  .rename_i hu
   split at h
   .cases xs with
    |nil=>simp[AT] at hp
    |cons x xs=>cases ys with
     |nil=>simp[AT] at hp
     |cons y ys=>
      simp only[AT] at hp
      split at hp
      .rename_i hk
       split at hp
       .rename_i r' hr
        have hl:=EF hr
        simp at hl
        obtain⟨rfl,rfl⟩:=hl
        simp[AT] at hr hp;subst hr hp
        cases x<;>simp[Il] at hk
        cases y<;>simp[Il] at hk
        simp only[F7,hu,G3,List.map_cons,List.map_nil,List.headD_cons,E0,G7]
        simp only[Bool.false_eq_true,if_false]
        rw[run_equalIn_bool' w D t _ _ hu]
        congr 1
        rw[Bool.and_true,Bool.beq_eq_decide_eq]
       .simp at hp
      .simp at hp
   .simp at h
  .rename_i hu
   split at h
   .cases xs with
    |nil=>simp[AT] at hp
    |cons x xs=>cases ys with
     |nil=>simp[AT] at hp
     |cons y ys=>
      simp only[AT] at hp
      split at hp
      .rename_i hk
       split at hp
       .rename_i r' hr
        have hl:=EF hr
        simp at hl
        obtain⟨rfl,rfl⟩:=hl
        simp[AT] at hr hp;subst hr hp
        cases x<;>simp[Il] at hk
        cases y<;>simp[Il] at hk
        simp only[F7,hu,G3,List.map_cons,List.map_nil,List.headD_cons,E0,G7]
        simp only[Bool.false_eq_true,if_false]
        rw[run_equalIn_string w D t _ _ hu,<-beq_toListBytes]
        congr 1
        rw[beq_toListBytes,OO,Bool.and_true]
       .simp at hp
      .simp at hp
   .simp at h
  .rename_i fs hu
   simp only[Bool.and_eq_true,Bool.not_eq_true'] at h
   obtain⟨hst,hF⟩:=h
   have hfo:P.fieldsOf t=fs:=by simp[Program.fieldsOf,hu]
   have hl:=EF hp
   simp only[F7,hu,G3,if_true]
   rw[run_equalIn_struct w D t _ _ (by rw[hfo];exact hu) hst,hfo]
   have key:∀(l:List Field) (zs xs' ys' :List AV) (off:Nat) (r:Bool),OK P (Lp P d) l zs off=true->AT zs xs' ys' =some r->xs.drop off=xs' ->ys.drop off=ys' ->off<=xs.length->off<=ys.length->
    (Op.eqFields D (xs.map E0).toArray (ys.map E0).toArray l).run P w= .ok r w:=by
    intro l
    induction l with
    |nil=>
     intro zs xs' ys' off r hF hp _ _ _ _
     simp[OK] at hF
     subst hF
     have:=EF hp
     simp at this
     obtain⟨rfl,rfl⟩:=this
     simp[AT] at hp;subst hp
     simp[Op.eqFields]
    |cons f l ih=>
     intro zs xs' ys' off r hF hp hx hy hox hoy
     simp only[OK,Bool.and_eq_true] at hF
     obtain⟨⟨hn,ho⟩,hF⟩:=hF
     split at hF
     .rename_i E DD hE hDD
      simp only[Bool.and_eq_true,decide_eq_true_eq] at hF
      obtain⟨⟨⟨hz,hle⟩,hg⟩,hF⟩:=hF
      have ho:f.offset=off:=by simpa using ho
      obtain⟨r1,r2,p1,p2,rfl⟩:=JK E.size hle hp
      have hl2:=EF hp
      have lx:off+E.size<=xs.length:=by rw[<-hx] at hl2;simp at hl2;omega
      have ly:off+E.size<=ys.length:=by rw[<-hy] at hl2;simp at hl2;omega
      have a1:=QO (w:=w) (X:=(xs.map E0).toArray) (off:=off) hDD hE hz (by simpa using lx)
      have a2:=QO (w:=w) (X:=(ys.map E0).toArray) (off:=off) hDD hE hz (by simpa using ly)
      have e1:List.take E.size (List.drop off (List.map E0 xs).toArray.toList)=(xs'.take E.size).map E0:=by rw[<-hx];simp
      have e2:List.take E.size (List.drop off (List.map E0 ys).toArray.toList)=(ys'.take E.size).map E0:=by rw[<-hy];simp
      rw[e1] at a1;rw[e2] at a2
      have a3:=S1 d f.type _ hg D (by omega) _ _ _ p1
      have a4:=ih (zs.drop E.size) (xs'.drop E.size) (ys'.drop E.size) (off+E.size) r2 hF p2 (by rw[<-hx,List.drop_drop]) (by rw[<-hy,List.drop_drop]) lx ly
      have hn' :f.name≠ "_" :=by simpa using hn
      simp only[Op.eqFields,if_pos hn',Sem.run_bind,ho,a1,a2,a3,Result.andThen_ok]
      cases r1
      .simp
      .simp only[Bool.not_true,Bool.false_eq_true,if_false,Bool.true_and];exact a4
     .simp at hF
   exact key fs.toList zs xs ys 0 r hF hp (by simp) (by simp) (Nat.zero_le _) (Nat.zero_le _)
  .simp at h
end
section
variable {C:Bn} {w:World} {σ:Nat->Nat->Option St} {T:Nat->Option TI}
theorem W8 (tk:BI C.P T) {op:BinOp} {t:Nat} {ox oy:Operand} {x y:AV} {vx vy:Value} (hx:VR w C.sh σ x vx (fun _=>0)) (hy:VR w C.sh σ y vy (fun _=>0)) {r:AV} (h:DY T op t x y=some r):
 ∃u,(do eqGuard op t ox oy vx vy;binOp op t vx vy:Sem Value).run C.P w= .ok u w/\VR w C.sh σ r u (fun _=>0):=by
 unfold DY at h
 split at h
 .rename_i a b
  have e1:vx= .bool a:=hx.1
  have e2:vy= .bool b:=hy.1
  subst e1 e2
  split at h
  .rename_i htd
   obtain⟨D,hD,hb⟩:=KE tk (t:=t) (by rw[htd];simp)
   rw[htd] at hb
   cases D<;>simp only[KY,Bool.false_eq_true] at hb
   simp only[Sem.run_bind,Fy (C:=C) (w:=w) (op:=op) (t:=t) (x:=ox) (y:=oy) (a:=Value.bool a) (b:=Value.bool b) (by simp) (by simp),Result.andThen_ok]
   split at h
   .simp at h;subst h
    refine⟨.bool (decide (a=b)),?_,rfl,fun _=>rfl⟩
    simp[binOp,Op.equal,Op.maxDepth,run_equalIn_bool' w _ t a b hD]
    rfl
   .simp at h;subst h
    refine⟨.bool (!decide (a=b)),?_,rfl,fun _=>rfl⟩
    simp[binOp,Op.equal,Op.maxDepth,run_equalIn_bool' w _ t a b hD]
    rfl
   .simp at h
  .simp at h
 .rename_i xs ys
  split at h
  .rename_i i hi
   split at h
   .rename_i hc
    split at h
    .rename_i r' hr
     simp only[VR] at hx hy
     obtain⟨X,rfl,hX⟩:=hx
     obtain⟨Y,rfl,hY⟩:=hy
     have eX:=Lq hr hX
     obtain⟨r2,hr2⟩:=K0 hr
     have eY:=Lq hr2 hY
     obtain⟨I,D,z,hI,hD,h1,h2,h3,h4,h5,h6,h7,h8⟩:=(tk.at hi).ok
     obtain⟨h9,h10⟩:=h8 hc.1
     have hagg:F7 C.P t (xs.map E0)= .agg X/\F7 C.P t (ys.map E0)= .agg Y\/False:=by
      have hag:G3 D=true:=h3.trans hc.2
      left
      simp only[F7,hD,hag,if_true]
      rw[<-eX,<-eY]
      exact⟨rfl,rfl⟩
     rcases hagg with⟨m1,m2⟩ |h
     rotate_left
     .exact h.elim
     have:=S1 (P:=C.P) (w:=w) 4 t i.zero h9 10000 (by omega) xs ys r' hr
     rw[m1,m2] at this
     have hg:=run_eqGuard_agg (P:=C.P) w op t ox oy X Y h10
     simp only[Sem.run_bind,hg,Result.andThen_ok]
     split at h
     .simp at h;subst h
      exact⟨_,by rw[run_eql_struct,this];rfl,rfl,fun _=>rfl⟩
     .simp at h;subst h
      exact⟨_,by rw[run_neq_struct,this];rfl,rfl,fun _=>rfl⟩
     .simp at h
    .simp at h
   .simp at h
  .simp at h
 .exact Zj hx hy h
end
section
variable {C:Bn} {w:World} {σ:Nat->Nat->Option St} {own:Nat->Option Nat} {M:List Ag} {F:Fr} {a:Act} {T:Nat->Option TI}
def C2 (M:List Ag):AV->Option (Nat×List AV)
 | .ro m ys=>some (m,ys)
 | .own _ 0 []=>some (0,[])
 | .tok B v s off m=>match Aj M B v with
   |some cs=>some (m,(cs.drop off).take (m*s))
   |none=>none
 |_=>none
theorem IJ {sh:Nat->Prop}:∀{xs:List AV} {vs:List Value} {fp:Nat->Nat},Aw w sh σ xs vs fp->(xs.all Da)=true->Aw w sh σ xs vs (fun _=>0)
 | [],vs,fp,h,_=>by
   simp only[Aw] at h;exact⟨h.1,fun _=>rfl⟩
 |x::xs,vs,fp,h,ha=>by
  simp only[Aw] at h
  obtain⟨v,rest,f1,f2,rfl,h1,h2,hf⟩:=h
  simp only[List.all_cons,Da,Bool.and_eq_true] at ha
  exact⟨v,rest,_,_,rfl,MY h1 ha.1.1 ha.1.2,IJ h2 ha.2,fun _=>rfl⟩
theorem FF {sh:Nat->Prop}:∀(k:Nat) {xs:List AV} {vs:List Value} {fp:Nat->Nat},Aw w sh σ xs vs fp->∃fp',Aw w sh σ (xs.drop k) (vs.drop k) fp' /\∀g,fp' g<=fp g
 |0,xs,vs,fp,h=>⟨fp,h,fun _=>Nat.le_refl _⟩
 |k+1,[],vs,fp,h=>by
  simp only[Aw] at h
  obtain⟨rfl,h0⟩:=h
  exact⟨fp,⟨rfl,h0⟩,fun _=>Nat.le_refl _⟩
 |k+1,x::xs,vs,fp,h=>by
  simp only[Aw] at h
  obtain⟨v,rest,f1,f2,rfl,h1,h2,hf⟩:=h
  obtain⟨fp',h3,h4⟩:=FF k h2
  exact⟨fp',h3,fun g=>by have:=hf g;have:=h4 g;omega⟩
theorem Hk {sh:Nat->Prop}:∀(k:Nat) {xs:List AV} {vs:List Value} {fp:Nat->Nat},Aw w sh σ xs vs fp->∃fp',Aw w sh σ (xs.take k) (vs.take k) fp' /\∀g,fp' g<=fp g
 |0,xs,vs,fp,h=>⟨fun _=>0,⟨rfl,fun _=>rfl⟩,fun _=>Nat.zero_le _⟩
 |k+1,[],vs,fp,h=>by
  simp only[Aw] at h
  obtain⟨rfl,h0⟩:=h
  exact⟨fp,⟨rfl,h0⟩,fun _=>Nat.le_refl _⟩
 |k+1,x::xs,vs,fp,h=>by
  simp only[Aw] at h
  obtain⟨v,rest,f1,f2,rfl,h1,h2,hf⟩:=h
  obtain⟨fp',h3,h4⟩:=Hk k h2
  exact⟨fun g=>f1 g+fp' g,⟨v,_,f1,fp',rfl,h1,h3,fun _=>rfl⟩,fun g=>by have:=hf g;have:=h4 g;simp only;omega⟩
theorem S2 {sh:Nat->Prop} {B v s off n:Nat} {x:Value} (hx:VR w sh σ (.tok B v s off n) x (fun _=>0)):∃a c,x= .slice a n c:=by
 simp only[VR] at hx;exact hx.2.1
theorem HM {sh:Nat->Prop} (m:B7 w sh σ own M) {y:AV} {v:Value} (hy:VR w sh σ y v (fun _=>0)) {k:Nat} {ys:List AV} (h:C2 M y=some (k,ys)) {es:Nat} (hl:ys.length=k*es):
 ∃ad c news fp,v= .slice ad k c/\(news=[]\/∃a,ad=some a/\EE w a news)/\Aw w sh σ ys news fp:=by
 unfold C2 at h
 split at h
 .simp at h
  obtain⟨rfl,rfl⟩:=h
  simp only[VR] at hy
  obtain⟨_,ad,c,rfl,_,_,hy⟩:=hy
  rcases hy with rfl| ⟨a,vs,h1,_,h2,h3⟩
  .exact⟨ad,c,[],fun _=>0,rfl,.inl rfl,rfl,fun _=>rfl⟩
  .exact⟨ad,c,vs,_,rfl,.inr ⟨a,h1,h2⟩,Aw.up σ h3⟩
 .simp at h
  obtain⟨rfl,rfl⟩:=h
  simp only[VR] at hy
  rcases hy with⟨⟨ad,rfl⟩,_⟩ | ⟨g,b,c,cur,e,fp',rfl,_⟩
  .exact⟨ad,0,[],fun _=>0,rfl,.inl rfl,rfl,fun _=>rfl⟩
  .exact⟨_,c,[],fun _=>0,rfl,.inl rfl,rfl,fun _=>rfl⟩
 .rename_i B v' s off n
  split at h
  .rename_i cs hcs
   simp at h
   obtain⟨rfl,rfl⟩:=h
   by_cases hn:n=0
   .subst hn
    obtain⟨ad,c,rfl⟩:=S2 hy
    refine⟨ad,c,[],fun _=>0,rfl,.inl rfl,?_⟩
    simp;exact⟨rfl,fun _=>rfl⟩
   .obtain⟨h,b,cur,e,c,rfl,hc,hm,hz,hs,ho,hh,hle,_⟩:=HK m hcs hy (by omega)
    obtain⟨hM,fp,hB,hf⟩:=BS m hcs
    simp only[BR] at hB
    rcases hB.2 with⟨h1,_⟩ | ⟨h',b',c',e',fp',h1,h2,h3,h4,h5⟩
    .rw[hs] at h1;simp at h1
    .have hloc:h' =h/\b' =b:=by rw[hs] at h1;simp at h1;exact⟨h1.1.symm,h1.2.1.symm⟩
     obtain⟨rfl,rfl⟩:=hloc
     rw[hh] at h2;simp at h2
     obtain⟨rfl,rfl⟩:=h2
     obtain⟨f1,h6,_⟩:=FF off h4
     obtain⟨f2,h7,_⟩:=Hk (n*s) h6
     refine⟨_,c,_,f2,rfl,.inr ⟨_,rfl,?_⟩,h7⟩
     intro i u hu
     rw[BG,DZ hh]
     rw[List.getElem?_take] at hu
     split at hu
     .rw[List.getElem?_drop,List.getElem?_take] at hu
      split at hu
      .rw[List.getElem?_drop] at hu
       rw[<-Array.getElem?_toList]
       rw[show b' +off+i=b' +(off+i) by omega];exact hu
      .simp at hu
     .simp at hu
  .simp at h
 .simp at h
def QP:AV->Bool
 | .int .u8 _=>true
 |_=>false
def JL:AV->UInt8
 | .int _ n=>UInt8.ofNat n.toNat
 |_=>0
def D0 (cs:List AV):ByteArray:=cs.foldl (fun r c=>r.push (JL c)) ByteArray.empty
def JM (T:Nat->Option TI) (M:List Ag) (src dst:Nat) (x:AV):Option AV:=
 match Ar T src,Ar T dst with
 | .slice e _ _ _,.str=>match Ar T e with
   | .int .u8=>match C2 M x with
     |some q=>if q.2.length=q.1/\q.2.all QP=true then some (.str (D0 q.2)) else none
     |none=>none
   |_=>none
 |_,_=>WH T src dst x
theorem QQ {sh:Nat->Prop}:∀{ys:List AV} {news:List Value} {fp:Nat->Nat},ys.all QP=true->Aw w sh σ ys news fp->∃ns:List Int,news=ns.map (Value.int .u8)/\∀r:ByteArray,ns.foldl (fun r n=>r.push (UInt8.ofNat n.toNat)) r=ys.foldl (fun r c=>r.push (JL c)) r
 | [],news,fp,_,h=>⟨[],by simpa using h.1,fun _=>rfl⟩
 |y::ys,news,fp,ha,h=>by
  simp only[List.all_cons,Bool.and_eq_true] at ha
  simp only[Aw] at h
  obtain⟨v,rest,f1,f2,rfl,h1,h2,_⟩:=h
  obtain⟨ns,rfl,h3⟩:=QQ ha.2 h2
  cases y<;>simp[QP] at ha
  rename_i k n
  cases k<;>simp[QP] at ha
  have:v= .int .u8 n:=h1.1
  subst this
  exact⟨n::ns,rfl,fun r=>h3 _⟩
theorem W9 (tk:BI C.P T) (m:B7 w C.sh σ own M) {src dst:Nat} {x:AV} {v:Value} (hx:VR w C.sh σ x v (fun _=>0)) {r:AV} (h:JM T M src dst x=some r):∃u,(convert src dst v).run C.P w= .ok u w/\VR w C.sh σ r u (fun _=>0):=by
 unfold JM at h
 split at h
 .rename_i e es eb ez h1 h2
  split at h
  .rename_i h3
   split at h
   .rename_i q hq
    split at h
    .rename_i hc
     simp at h;subst h
     obtain⟨ad,c,news,fp,rfl,hn,hv⟩:=HM m hx hq (es:=1) (by omega)
     obtain⟨ns,rfl,hf⟩:=QQ hc.2 hv
     obtain⟨hD,_⟩:=Cf tk h1
     have hE:=ON tk h3
     have hS:=Im tk h2
     have hlen:=BF hv
     rw[run_convert_bytes_string w src dst e ad q.1 c hD hE hS]
     refine⟨.string (D0 q.2),?_,rfl,fun _=>rfl⟩
     rcases hn with hn| ⟨a,rfl,hn⟩
     .have:q.2=[]:=by
       simp at hn
       rw[hn] at hlen
       exact List.eq_nil_of_length_eq_zero (by simpa using hlen.symm)
      rw[this]
      have h0:q.1=0:=by rw[<-hc.1,this];rfl
      rw[h0]
      cases ad with
      |none=>rfl
      |some a=>
       rw[run_bytesToString w a 0 c [] (by simp[loadCells,loadCellsFrom])]
       rfl
     .rw[run_bytesToString w a q.1 c ns (by
       have:=G4 (P:=C.P) (w:=w) (a:=a) q.1 (ns.map (Value.int .u8)) (by rw[hlen];exact hc.1) hn
       simpa using this)]
      rw[hf];rfl
    .simp at h
   .simp at h
  .simp at h
 .exact Zk tk hx h
end
def QR (T:Nat->Option TI) (t:Nat) (Am:List (Nat×AV)):Option AV:=
 match T t with
 |some i=>match i.d with
  | .struct fs=>match HL (WI fs) i.zero Am with
    |some cs=>some (.agg cs)
    |none=>none
  |_=>none
 |none=>none
def JN (F:Fr) (xs:Array Operand):List AV:=xs.toList.map (ev F)
def Ia (M:List Ag):AV->Option AV
 | .ptr B v off=>if (Aj M B v).isSome then some (.ptr B v off) else none
 | .rptr xs=>some (.rptr xs)
 | .fn f cs=>some (.fn f cs)
 |_=>none
def LP:AV->AV->Option AV
 | .int k a,.int _ b=>some (.int k (if b<a then b else a))
 |_,_=>none
def LQ:AV->AV->Option AV
 | .int k a,.int _ b=>some (.int k (if a<b then b else a))
 |_,_=>none
def LR (c x y:AV):Option AV:=match c with| .bool c=>some (if c=true then x else y) |_=>none
def pv (T:Nat->Option TI) (M:List Ag) (F:Fr) (o:Oper):Option AV:=
 match o.op with
 | .move x| .assign x=>some (Fz T o.type (ev F x))
 | .pick c a b=>LR (ev F c) (ev F a) (ev F b)
 | .load t x=>KZ T M t (ev F x)
 | .fieldAddr t x f=>JI T M t (ev F x) f
 | .indexAddr t x i=>JJ T M t (ev F x) (ev F i)
 | .binOp op t x y _=>DY T op t (ev F x) (ev F y)
 | .unOp op _ x=>un op (ev F x)
 | .convert s d x=>JM T M s d (ev F x)
 | .field t x f=>QM T t (ev F x) f
 | .index t x i=>QL T t (ev F x) (ev F i)
 | .extract x i=>ext (ev F x) i
 | .slice t x lo hi mx=>Ju T M t (ev F x) (lo.map (ev F)) (hi.map (ev F)) (mx.map (ev F))
 | .nilCheck x=>Ia M (ev F x)
 | .makeFunc (.func f) first caps=>if first.size=0 then some (.fn f (JN F caps)) else none
 | .build t Am=>QR T t (Am.toList.map fun p=>(p.1,ev F p.2))
 | .call {callee:= .builtin .len,args,argTypes}=>match args.toList,argTypes.toList with
   | [x],[t]=>MZ T t (ev F x)
   |_,_=>none
 | .call {callee:= .builtin .min,args,.. }=>match args.toList with
   | [x,y]=>LP (ev F x) (ev F y)
   |_=>none
 | .call {callee:= .builtin .max,args,.. }=>match args.toList with
   | [x,y]=>LQ (ev F x) (ev F y)
   |_=>none
 |_=>none
section
variable {C:Bn} {w:World} {σ:Nat->Nat->Option St} {T:Nat->Option TI} {own:Nat->Option Nat} {M:List Ag} {F:Fr} {a:Act}
theorem QS {sh:Nat->Prop}:∀{cs:List AV} {vs:List Value},Aw w sh σ cs vs (fun _=>0)->∀(i:Nat) {x:AV} {v:Value},VR w sh σ x v (fun _=>0)->Aw w sh σ (cs.set i x) (vs.set i v) (fun _=>0)
 | [],vs,h,i,x,v,_=>by
   have:vs=[]:=by simp only[Aw] at h;exact h.1
   subst this;simpa using h
 |c::cs,vs,h,i,x,v,hx=>by
  simp only[Aw] at h
  obtain⟨v0,rest,f1,f2,rfl,h1,h2,hf⟩:=h
  have e1:f1=fun _=>0:=Fv fun g=>by have:=hf g;omega
  have e2:f2=fun _=>0:=Fv fun g=>by have:=hf g;omega
  subst e1 e2
  cases i with
  |zero=>exact⟨v,rest,_,_,rfl,hx,h2,fun _=>rfl⟩
  |succ i=>exact⟨v0,rest.set i v,_,_,rfl,h1,QS h2 i hx,fun _=>rfl⟩
theorem OQ {sh:Nat->Prop}:∀(xs:List AV) {cs:List AV} {vs us:List Value} (o:Nat),Aw w sh σ cs vs (fun _=>0)->Aw w sh σ xs us (fun _=>0)->
 ∃ws:List Value,Aw w sh σ (CP cs o xs) ws (fun _=>0)/\ws.length=vs.length/\(∀(arr:Array Value) (j:Nat),arr.toList=vs->(us.zipIdx j).foldl (fun cs (c,i)=>cs.setIfInBounds (o-j+i) c) arr=ws.toArray\/o<j)
 | [],cs,vs,us,o,h,hx=>by
   simp only[Aw] at hx
   obtain⟨rfl,_⟩:=hx
   exact⟨vs,h,rfl,fun arr j ha=> .inl (by simp[<-ha])⟩
 |x::xs,cs,vs,us,o,h,hx=>by
  simp only[Aw] at hx
  obtain⟨v,rest,f1,f2,rfl,h1,h2,hf⟩:=hx
  have e1:f1=fun _=>0:=Fv fun g=>by have:=hf g;omega
  have e2:f2=fun _=>0:=Fv fun g=>by have:=hf g;omega
  subst e1 e2
  obtain⟨ws,hw,hl,hfold⟩:=OQ xs (o+1) (QS h o h1) h2
  refine⟨ws,hw,by simpa using hl,fun arr j ha=>?_⟩
  by_cases hj:o<j
  .exact .inr hj
  .left
   simp only[List.zipIdx_cons,List.foldl_cons]
   rcases hfold (arr.setIfInBounds (o-j+j) v) (j+1) (by rw[<-ha,show o-j+j=o by omega];simp) with h3|h3
   .rw[show o+1-(j+1)=o-j by omega] at h3;exact h3
   .omega
theorem LS {sh:Nat->Prop} {x:AV} {v:Value} (h:VR w sh σ x v (fun _=>0)) (hx:OP x=true):Aw w sh σ (cellsOf x) v.cells.toList (fun _=>0)/\v.cells.size=(cellsOf x).length:=by
 have one:∀u:Value,v=u->u.cells= #[u]->cellsOf x=[x]->Aw w sh σ (cellsOf x) v.cells.toList (fun _=>0)/\v.cells.size=(cellsOf x).length:=by
  intro u e1 e2 e3
  rw[e1,e2,e3]
  exact⟨⟨u,[],_,_,rfl,e1 ▸ h,⟨rfl,fun _=>rfl⟩,fun _=>rfl⟩,rfl⟩
 cases x<;>simp only[OP,Bool.false_eq_true] at hx<;>simp only[VR] at h
 case bool=>exact one _ h.1 rfl rfl
 case int=>exact one _ h.1 rfl rfl
 case str=>exact one _ h.1 rfl rfl
 case nilp=>exact one _ h.1 rfl rfl
 case ro=>obtain⟨_,a,c,e,_⟩:=h;exact one _ e rfl rfl
 case own=>rcases h with⟨⟨a,e⟩,_⟩ | ⟨_,_,_,_,_,_,e,_⟩<;>exact one _ e rfl rfl
 case tok=>obtain⟨_,⟨a,c,e⟩,_⟩:=h;exact one _ e rfl rfl
 case ptr=>obtain⟨_,⟨a,e⟩,_⟩:=h;exact one _ e rfl rfl
 case rptr=>obtain⟨_,ad,vs,e,_⟩:=h;exact one _ e rfl rfl
 case optr=>obtain⟨_,_,_,_,_,e,_⟩:=h;exact one _ e rfl rfl
 case fn=>obtain⟨_,cs,e,_⟩:=h;exact one _ e rfl rfl
 case agg=>obtain⟨cs,rfl,hv⟩:=h;exact⟨hv,by have:=BF hv;simpa[Value.cells,cellsOf] using this⟩
theorem QT {sh:Nat->Prop} {z:Option AV} {x:AV} {v:Value} (h:VR w sh σ x v (fun _=>0)) (hx:OP x=true):Aw w sh σ (IH z x) v.cells.toList (fun _=>0)/\v.cells.size=(IH z x).length/\(IH z x).length=(cellsOf x).length:=by
 unfold IH
 split
 .have hv:∃a,v= .slice a 0 0:=by
   simp only[VR] at h
   rcases h with⟨h,_⟩ | ⟨g,_,_,_,_,_,_,_,_,_,_,_,_,hf⟩
   .exact h
   .have:=hf g;simp at this;omega
  obtain⟨a,rfl⟩:=hv
  split
  .exact⟨⟨_,[],_,_,rfl,.inl ⟨⟨a,rfl⟩,rfl,rfl,fun _=>rfl⟩,⟨rfl,fun _=>rfl⟩,fun _=>rfl⟩,rfl,rfl⟩
  .exact⟨⟨_,[],_,_,rfl,.inl ⟨⟨a,rfl⟩,rfl,rfl,fun _=>rfl⟩,⟨rfl,fun _=>rfl⟩,fun _=>rfl⟩,rfl,rfl⟩
 .have:=LS h hx
  exact⟨this.1,this.2,rfl⟩
theorem M0 {sh:Nat->Prop} {pa place:Nat->Option (Nat×Nat)} (hp:∀(j:Nat) (q:Nat×Nat),pa j=some q->place j=some q):
 ∀(Am:List (Nat×AV)) (ps:List (Nat×Value)) {cs r:List AV} {arr:Array Value},Aw w sh σ cs arr.toList (fun _=>0)->ps.length=Am.length->
 (∀(j:Nat) (p:Nat×AV),Am[j]?=some p->∃v,ps[j]?=some (p.1,v)/\VR w sh σ p.2 v (fun _=>0))->HL pa cs Am=some r->
 ∃arr' :Array Value,Instr.fill place arr ps=some arr' /\Aw w sh σ r arr'.toList (fun _=>0)
 | [],ps,cs,r,arr,h,hl,hr,hf=>by
   have:ps=[]:=List.eq_nil_of_length_eq_zero (by simpa using hl)
   subst this
   simp[HL] at hf;subst hf
   exact⟨arr,rfl,h⟩
 | (i,x)::Am,ps,cs,r,arr,h,hl,hr,hf=>by
   obtain⟨v,hv,hx⟩:=hr 0 (i,x) rfl
   cases ps with
   |nil=>simp at hl
   |cons p ps=>
    simp at hv;subst hv
    simp only[HL] at hf
    split at hf
    .rename_i o s hq
     split at hf
     .rename_i hc
      obtain⟨hc1,hc2,hc3⟩:=hc
      obtain⟨h1,h2,h3⟩:=QT (z:=cs[o]?) hx hc1
      obtain⟨ws,hw,hwl,hfold⟩:=OQ _ o h h1
      have hlen:=BF h
      obtain⟨arr',ha,hr'⟩:=M0 hp Am ps (cs:=CP cs o (IH cs[o]? x)) (r:=r) (arr:=ws.toArray) (by simpa using hw) (by simpa using hl) (fun j p hj=>by simpa using hr (j+1) p (by simpa using hj)) hf
      refine⟨arr',?_,hr'⟩
      simp only[Instr.fill,hp i _ hq]
      have e1:¬(v.cells.size≠s\/o+v.cells.size>arr.size):=by
       simp at hlen
       rw[h2,h3,hc2];omega
      have e2:(v.cells.size !=s||decide (o+v.cells.size>arr.size))=false:=by
       simp at e1 |-;omega
      rcases hfold arr 0 rfl with h4|h4
      .have h5:v.cells.zipIdx.foldl (fun cs (c,j)=>cs.setIfInBounds (o+j) c) arr=ws.toArray:=by
        rw[<-Array.foldl_toList,Array.toList_zipIdx];exact h4
       split
       .rename_i hbad
        simp only[Bool.or_eq_true,decide_eq_true_eq,bne_iff_ne] at hbad
        exact absurd hbad e1
       .rw[h5];exact ha
      .omega
     .simp at hf
    .simp at hf
end
end Go.Abs
