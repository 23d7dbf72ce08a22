/- A number put into a list of one's own. -/
import Derived.Test.YtgdmnlibcdajjaaGreatP9
import Derived.Shelf.Spec.SlicesInsert
import Derived.Shelf.Spec.SlicesInsertGrow
open Array renaming getElem?_toList -> vp
open List renaming take_of_length_le -> uM, getElem?_set_ne -> uN, getElem?_set_self -> uO, replicate -> uP, getElem_mem -> uQ, getElem?_eq_none -> uR, getElem?_eq_getElem -> uT, take_add_one -> uV, take_length -> uW, append_assoc -> uZ, getElem?_append_right -> vj, getElem?_append_left -> vk, length_cons -> vA, pairwise_iff_getElem -> vB, getElem?_drop -> vG, mem_map -> vH, length_set -> vS, mem_or_eq_of_mem_set -> vX, length_filter_le -> vY, getElem_set_self -> vZ, getElem?_map -> wa, getElem?_take_of_lt -> wd, map_set -> wi, ext_getElem? -> wk, getElem?_set -> wl, map_append -> wo, getElem?_eq_some_iff -> wv, length_take -> wy, length_map -> wB, set_set -> wF, take -> wL, pairwise_map -> wZ, contains_iff_mem -> xx, mem_take_iff_getElem -> xA
open Nat renaming lt_or_ge -> uY, le_refl -> vg, zero_le -> vn, eq_zero_or_pos -> wm, add_assoc -> wx, min_eq_left -> wO, add_zero -> xg
set_option maxHeartbeats 8000000
set_option linter.unusedVariables false
set_option linter.unusedSimpArgs false
set_option maxRecDepth 100000
namespace Go.Abs
open Go.Proofs Go.Sort
def GB:Go.Shelf.Ren:=⟨λ|21=>225|27=>263|28=>264|35=>291|39=>301|n=>n,λ|0=>0|3=>3|4=>4|22=>36|n=>n,λn=>n⟩
theorem UP:Go.Proofs.Lays2.n21 Tryz.prog GB:={
 mixed:=AK
 f21:=Tryz.func225.trans (congrArg some AK)
 f27:=Tryz.func263.trans (congrArg some AK)
 f28:=Tryz.func264.trans (congrArg some AK)
 f35:=Tryz.func291.trans (congrArg some AK)
 f39:=Tryz.func301.trans (congrArg some AK)
 t0:=Tryz.underlying0
 a0:=Tryz.isAgg0
 z0:=Tryz.sizeOf0
 v0:=Tryz.zeroValue0
 t3:=Tryz.underlying3
 a3:=Tryz.isAgg3
 z3:=Tryz.sizeOf3
 v3:=Tryz.zeroValue3
 t4:=Tryz.underlying4
 a4:=Tryz.isAgg4
 z4:=Tryz.sizeOf4
 v4:=Tryz.zeroValue4
 t22:=Tryz.underlying36
 a22:=Tryz.isAgg36
 z22:=Tryz.sizeOf36
 v22:=Tryz.zeroValue36
 i3:=by kernel_rfl}
theorem EZ (h e:Nat):∀(vs:List Value) (o:Nat) (w:World) (cur:Array Value),w.heap[h]?=some (.cells cur e (0,0))->o+vs.length<=cur.size->(w.setCells h o vs).heap[h]?=some (.cells (cur.toList.take o++vs++cur.toList.drop (o+vs.length)).toArray e (0,0))
 | [],o,w,cur,hh,_=>by
   rw[World.setCells,hh,List.append_nil,List.length_nil,xg,List.take_append_drop,Array.toArray_toList]
 |v::vs,o,w,cur,hh,hl=>by
  simp only[vA] at hl;rw[World.setCells];have h1:(w.setCell ⟨h,o,none⟩ v).heap[h]?=some (.cells (cur.setIfInBounds o v) e (0,0)):=by
   simp[World.setCell,Array.getElem?_modify,hh]
  rw[EZ h e vs (o+1) _ _ h1 Ao];have e1:(cur.setIfInBounds o v).toList.take (o+1)=cur.toList.take o++[v]:=by
   rw[Array.toList_setIfInBounds,uV,List.take_set_of_le (vg _),uO (by rw[Array.length_toList];omega)];rfl
  have e2:(cur.setIfInBounds o v).toList.drop (o+1+vs.length)=cur.toList.drop (o+(vs.length+1)):=by
   rw[Array.toList_setIfInBounds,List.drop_set_of_lt zO,show o+1+vs.length=o+(vs.length+1) by omega]
  rw[e1,e2,vA];simp
theorem GV (h:Nat):∀(vs:List Value) (o:Nat) (w:World),(w.setCells h o vs).os=w.os/\(w.setCells h o vs).tape=w.tape/\(w.setCells h o vs).output=w.output/\(w.setCells h o vs).heap.size=w.heap.size/\∀g,g≠h->(w.setCells h o vs).heap[g]?=w.heap[g]?
 | [],_,_=>⟨rfl,rfl,rfl,rfl,λ_ _=>rfl⟩
 |v::vs,o,w=>by
  obtain⟨h1,h2,h3,h4,h5⟩:=GV h vs (o+1) (w.setCell ⟨h,o,none⟩ v);refine⟨h1.trans rfl,h2.trans rfl,h3.trans rfl,h4.trans (by simp[World.setCell]),λg hg=>(h5 g hg).trans ?_⟩;simp[World.setCell,Array.getElem?_modify,Ne.symm hg]
theorem UQ {w w' :World} {sh:Nat->Prop} {σ:Nat->Nat->Option St} {own:Nat->Option Nat} {u:Nat} {l ys:List Int} {b:Int} (m:Cp w sh σ own [.live u (Ab l),.live 0 [.int .i64 b]]) (hs:∀g,sh g->own g=none/\g<w.heap.size)
 (hos:w'.os=w.os) (htp:w'.tape=w.tape) (hou:w'.output=w.output) (hsz:w.heap.size<=w'.heap.size) (hsame:∀g,g<w.heap.size->own g≠some 0->w'.heap[g]?=w.heap[g]?) {H b' c' e' :Nat} {cur' :Array Value} (hH:own H=some 0\/w.heap.size<=H) (hh:w'.heap[H]?=some (.cells cur' e' (0,0)))
 (hnc:ys.length<=c') (hcm:c' <=maxLen) (hcz:b' +c' <=cur'.size) (hv:(cur'.toList.drop b').take ys.length=ys.map (Value.int .i64)):
 ∃r v M' σ' own' fpr,Ending.returned (.slice (some ⟨H,b',none⟩) ys.length c')= .returned v/\(r= .own 1 ys.length (Ab ys)/\M' =[.dead,.live 0 [.int .i64 b]])/\M'.length=[Ag.live u (Ab l),.live 0 [.int .i64 b]].length/\VR w' sh σ0 r v fpr/\(∀g,fpr g<=if own' g=some [Ag.live u (Ab l),.live 0 [.int .i64 b]].length then 1 else 0)/\Cp w' sh σ' own' M' /\(∀g,sh g->own' g=none)/\GJ w w' own own' /\Ci w w' sh sh σ σ' :=by
 have L:Ci w w' sh sh σ σ:=⟨λg hg=>hsame g (hs g hg).2 (by rw[(hs g hg).1];simp),λ_ h=>h,λ_ _ _ h=> .inl h⟩;refine⟨_,_,[.dead,.live 0 [.int .i64 b]],σ,λg=>if g=H then some 2 else own g,λg=>(if g=H then 1 else 0)+0,rfl,⟨rfl,rfl⟩,rfl,.inr ⟨H,b',c',cur',e',λ_=>0,rfl,hnc,hcm,zS,hh,zO,?_,λg=>rfl⟩,λg=>?_,⟨λT B hB=>?_,λT v hT=>m.key T v (by simpa using hT)⟩,λg hg=>?_,⟨hos,htp,hou,hsz,λg hg ho=>hsame g hg (by rw[ho];simp),λg hg=>?_⟩,L⟩
 .rw[Nat.mul_one,hv];exact L3 ys
 .by_cases h:g=H<;>simp[h]
 .cases T with
  |zero=>
   simp at hB;subst hB;exact⟨λ_=>0,λ_=>rfl,λ_=>vn _⟩
  |succ T=>
   cases T with
   |zero=>
    simp at hB;subst hB;obtain⟨fp,hBR,hfp⟩:=m.blk 1 (.live 0 [.int .i64 b]) rfl;have hown:∀g,fp g≠0->own g=some 1:=λg hg=>by
     have:=hfp g;split at this
     .assumption
     .omega
    have hlt:=λg hg=>KJ hBR g hg;have hsm:∀g,fp g≠0->w'.heap[g]?=w.heap[g]?:=λg hg=>hsame g (hlt g hg) (by rw[hown g hg];simp);refine⟨fp,?_,λg=>?_⟩
    .obtain⟨h1,h2⟩:=hBR;refine⟨h1,?_⟩;rcases h2 with h2| ⟨h,b2,cur,e,fp',g1,g2,g3,g4,g5⟩
     .exact .inl h2
     .refine .inr ⟨h,b2,cur,e,fp',g1,?_,g3,AI.later L _ _ _ (λg hg=>hsm g (by rw[g5];omega)) g4,g5⟩;rw[hsm h (by rw[g5];simp)];exact g2
    .have:=hfp g;by_cases h:g=H
     .subst h;have h0:fp g=0:=by
       rcases wm (fp g) with h|h
       .exact h
       .have ho:=hown g zO;have hl:=hlt g zO;rcases hH with h|h
        .rw[h] at ho;simp at ho
        .omega
      rw[h0];exact vn _
     .simp only[zM h];exact this
   |succ T=>simp at hB
 .have:=hs g hg;have hne:g≠H:=λe=>by
   subst e;rcases hH with h|h
   .rw[this.1] at h;simp at h
   .omega
  simp only[zM hne];exact this.1
 .by_cases h:g=H
  .subst h;rcases hH with h|h
   .left;rw[h];simp
   .right;exact h
  .simp only[zM h] at hg;exact .inl hg
theorem Zr (l:List Int) (u i:Nat) (b:Int) (hi:i<l.length) (hn:l.length<1000000):Ac pg 225 [.tok 0 u 1 0 l.length,.int .i64 i,.tok 1 0 1 0 1] [.live u (Ab l),.live 0 [.int .i64 b]] (λr M=>r= .own 1 (l.take i++b::l.drop i).length (Ab (l.take i++b::l.drop i))/\M=[.dead,.live 0 [.int .i64 b]]):=by
 refine⟨J8 (fn:=Tryz.f225) rfl AK rfl,λw sh σ own vals hv m hs=>?_⟩;simp only[AI] at hv;obtain⟨x,r1,f1,f2,he,h1,⟨y,r2,f3,f4,rfl,h2,⟨z,r3,f5,f6,rfl,h3,⟨rfl,_⟩,hf3⟩,hf2⟩,hf1⟩:=hv;have e1:f1=λ_=>0:=Gc λg=>by have:=hf1 g;omega
 have e5:f5=λ_=>0:=Gc λg=>by have:=hf1 g;have:=hf2 g;have:=hf3 g;omega
 subst e1 e5;obtain⟨rfl,_⟩:=h2;have hb0:Ah [Ag.live u (Ab l),.live 0 [.int .i64 b]] 0 u=some (Ab l):=by simp[Ah]
 have hb1:Ah [Ag.live u (Ab l),.live 0 [.int .i64 b]] 1 0=some [.int .i64 b]:=by simp[Ah]
 obtain⟨hh,b0,cur,e,c,rfl,hnc,hcm,hcz,hst,how,hheap,hbl,hce⟩:=G7 m hb0 h1 zO;obtain⟨vh,vb,vcur,ve,vc,rfl,hvn,hvm,hvz,hvst,hvow,hvheap,hvbl,hvce⟩:=G7 m hb1 h3 zO;simp only[xg,Nat.mul_one] at*;have hne:vh≠hh:=λh=>by rw[h,how] at hvow;simp at hvow
 have hlt:hh<w.heap.size:=(Array.getElem?_eq_some_iff.1 hheap).1;have hvals:vals= #[.slice (some ⟨hh,b0,none⟩) l.length c,.int .i64 i,.slice (some ⟨vh,vb,none⟩) 1 vc]:=by
  apply Array.ext';rw[he]
 rw[hvals];have hcell:∀j,j<l.length->cur[b0+j]?=(l[j]?).map (Value.int .i64):=λj hj=>by
  obtain⟨v,f,g1,g2⟩:=hce j (.int .i64 l[j]) (by simp[hj,Ab]);rw[g1,g2.1];simp[hj]
 have hvcell:vcur[vb]?=some (Value.int .i64 b):=by
  obtain⟨v,f,g1,g2⟩:=hvce 0 (.int .i64 b) rfl;rw[<-g2.1];exact g1
 obtain⟨cs,hcs⟩:∃cs:List Value,cs=l.map (Value.int .i64):=zX;have hcl:cs.length=l.length:=by rw[hcs];simp
 have hcw:∀j v,cs[j]?=some v->w.cell? ⟨hh,b0+j,none⟩=some v:=λj v hj=>by
  have hjl:j<l.length:=by rw[<-hcl];exact(wv.1 hj).1
  rw[DW hheap,hcell j hjl];rw[hcs,wa] at hj;exact hj
 have hvw:∀j v,[Value.int .i64 b][j]?=some v->w.cell? ⟨vh,vb+j,none⟩=some v:=λj v hj=>by
  cases j with
  |zero=>simp at hj;subst hj;rw[DW hvheap];exact hvcell
  |succ j=>simp at hj
 have h1c:∀v∈cs,v.oneCell' =true:=λv hv=>by
  rw[hcs] at hv;obtain⟨z,_,rfl⟩:=vH.1 hv;rfl
 have h1v:∀v∈ [Value.int .i64 b],v.oneCell' =true:=λv hv=>by simp at hv;subst hv;rfl
 have hdr:(cs.drop i).length=l.length-i:=by rw[List.length_drop,hcl]
 have hys:(l.take i++b::l.drop i).length=l.length+1:=Ao;by_cases hroom:l.length+1<=c
 .have hc:=Any2.slices_Insert_int_shift UP hh b0 l.length c i vh vb 1 vc cs [Value.int .i64 b] w hi zO hroom (by simp only[maxLen] at hcm;omega) hne hcl rfl hcw
   (λj hj=>by rw[DW hheap,Array.getElem?_eq_getElem zO];rfl) (λj hj=>by simp[World.frozen?,hheap]) hvw h1c h1v ve e vcur.size cur.size (by simp[World.shape?,hvheap]) (by simp[World.shape?,hheap]) zO (by simp[World.frozen?,hvheap]) (by simp[World.frozen?,hvheap])
  change Calls pg 225 _ _ _ at hc;refine hc.mono ?_;rintro _ w' ⟨rfl,rfl⟩;obtain⟨p1,p2,p3,p4,p5⟩:=GV hh (cs.drop i) (b0+(i+1)) w.drew;obtain⟨q1,q2,q3,q4,q5⟩:=GV hh [Value.int .i64 b] (b0+i) (w.drew.setCells hh (b0+(i+1)) (cs.drop i));have g1:=EZ hh e (cs.drop i) (b0+(i+1)) w.drew cur hheap (by rw[hdr];omega);generalize hcu:(cur.toList.take (b0+(i+1))++cs.drop i++cur.toList.drop (b0+(i+1)+(cs.drop i).length)).toArray=cur1 at g1;have hs1:cur1.size=cur.size:=by rw[<-hcu];simp[hcl];omega
  have g2:=EZ hh e [Value.int .i64 b] (b0+i) _ cur1 g1 Ao;generalize hcu2:(cur1.toList.take (b0+i)++[Value.int .i64 b]++cur1.toList.drop (b0+i+[Value.int .i64 b].length)).toArray=cur2 at g2;have hs2:cur2.size=cur.size:=by rw[<-hcu2];simp;omega
  have hval:∀j,j<l.length+1->cur2[b0+j]?=((l.take i++b::l.drop i)[j]?).map (Value.int .i64):=λj hj=>by
   rw[<-vp,<-hcu2];simp only[uZ,List.length_singleton];by_cases k1:j<i
   .rw[vk Ao,wd zO,<-hcu];simp only[uZ];rw[vk Ao,wd zO,vp,hcell j zO,vk Ao,wd k1]
   .have hmin:(wL (b0+i) cur1.toList).length=b0+i:=Ao;have hmin2:(wL i l).length=i:=Ao;have hr:(l.take i++b::l.drop i)[j]?=(b::l.drop i)[j-i]?:=by rw[vj zO,hmin2]
    rw[hr,vj zO,hmin,show b0+j-(b0+i)=j-i by omega];obtain⟨k,hk⟩:∃k,k=j-i:=zX;rw[<-hk];cases k with
    |zero=>simp
    |succ k=>
     simp only[List.singleton_append,List.getElem?_cons_succ];rw[vG,<-hcu];simp only[uZ];have hmin3:(wL (b0+(i+1)) cur.toList).length=b0+(i+1):=Ao;rw[vj zO,hmin3,show b0+i+1+k-(b0+(i+1))=k by omega,vk zO,hcs,vG,wa,vG]
  have:=UQ (ys:=l.take i++b::l.drop i) (H:=hh) (b' :=b0) (c' :=c) (e' :=e) (cur' :=cur2) (w' :=(w.drew.setCells hh (b0+(i+1)) (cs.drop i)).setCells hh (b0+i) [Value.int .i64 b]) m hs (by rw[q1,p1];rfl) (by rw[q2,p2];rfl) (by rw[q3,p3];rfl) (by rw[q4,p4];exact vg _)
   (λg hg ho=>by
     have:g≠hh:=λh=>ho (by rw[h];exact how);rw[q5 g this,p5 g this];rfl) (.inl how) g2 (by rw[hys];exact hroom) hcm (by rw[hs2];exact hcz)
   (by
     apply wk;intro j;rw[hys];by_cases hj:j<l.length+1
     .rw[wd hj,vG,vp,hval j hj,wa]
     .rw[List.getElem?_take_eq_none zO,uR (by rw[wB,hys];omega)])
  rw[hys] at this |-;exact this
 .have hbig:(l.length+1)*8<=140737488355328:=zO;have hc:=Any2.slices_Insert_int_grow UP hh b0 l.length c i vh vb 1 vc cs [Value.int .i64 b] w hi zO hnc zO hbig hcl rfl hcw hvw h1c h1v;change Calls pg 225 _ _ _ at hc;refine hc.mono ?_;rintro _ w' ⟨rfl,rfl⟩;have hcap:=grownCap_ge w (l.length+1) c (GB.t 3);have hcmx:=grownCap_le_maxLen w (l.length+1) c (GB.t 3) (by simp only[maxLen];omega);generalize grownCap w (l.length+1) c (GB.t 3)=G at hcap hcmx |-;generalize ha:(cs.take i).toArray++Builtin.zeroCells (Value.int .i64 0).cells (l.length+1-i)++Builtin.zeroCells (Value.int .i64 0).cells (G-(l.length+1))=arr;have hsa:arr.size=G:=by
   rw[<-ha];have h1:(Value.int .i64 0).cells.size=1:=rfl;simp only[Array.size_append,List.size_toArray,size_zeroCells,h1,wy,hcl];omega
  have h0:(w.alloc (.cells arr (GB.t 3))).heap[w.heap.size]?=some (.cells arr (GB.t 3) (0,0)):=heap_alloc_new w _;have hold:∀g,g<w.heap.size->(w.alloc (.cells arr (GB.t 3))).heap[g]?=w.heap[g]?:=λg hg=>DL hg;obtain⟨W0,hW0⟩:∃W0,W0=w.alloc (.cells arr (GB.t 3)):=zX;have hsz0:W0.heap.size=w.heap.size+1:=by rw[hW0];simp
  have ho0:W0.os=w.os/\W0.tape=w.tape/\W0.output=w.output:=by rw[hW0];exact⟨rfl,rfl,rfl⟩
  rw[<-hW0] at h0 hold |-;obtain⟨p1,p2,p3,p4,p5⟩:=GV w.heap.size [Value.int .i64 b] i W0.drew;obtain⟨q1,q2,q3,q4,q5⟩:=GV w.heap.size (cs.drop i) (i+1) (W0.drew.setCells w.heap.size i [Value.int .i64 b]).drew;have g1:=EZ w.heap.size (GB.t 3) [Value.int .i64 b] i W0.drew arr h0 Ao;generalize hcu:(arr.toList.take i++[Value.int .i64 b]++arr.toList.drop (i+[Value.int .i64 b].length)).toArray=cur1 at g1;have hs1:cur1.size=G:=by rw[<-hcu];simp[hsa];omega
  have g2:=EZ w.heap.size (GB.t 3) (cs.drop i) (i+1) (W0.drew.setCells w.heap.size i [Value.int .i64 b]).drew cur1 g1 (by rw[hdr];omega);generalize hcu2:(cur1.toList.take (i+1)++cs.drop i++cur1.toList.drop (i+1+(cs.drop i).length)).toArray=cur2 at g2;have hs2:cur2.size=G:=by rw[<-hcu2];simp[hcl];omega
  have hval:∀j,j<l.length+1->cur2[0+j]?=((l.take i++b::l.drop i)[j]?).map (Value.int .i64):=λj hj=>by
   rw[Nat.zero_add,<-vp,<-hcu2];simp only[uZ];have hmin:(wL (i+1) cur1.toList).length=i+1:=Ao;have hmin2:(wL i l).length=i:=Ao;by_cases k1:j<i+1
   .rw[vk zO,wd k1,<-hcu];simp only[uZ];have hmin3:(wL i arr.toList).length=i:=Ao;by_cases k2:j<i
    .rw[vk zO,wd k2,<-ha];simp only[Array.toList_append,uZ];rw[vk (by simp[hcl];omega),wd k2,hcs,wa,vk zO,wd k2]
    .have:j=i:=zO;subst this;have hr:(l.take j++b::l.drop j)[j]?=(b::l.drop j)[j-j]?:=by rw[vj zO,hmin2]
     rw[hr,vj zO,hmin3];simp
   .have hr:(l.take i++b::l.drop i)[j]?=(b::l.drop i)[j-i]?:=by rw[vj zO,hmin2]
    obtain⟨k,rfl⟩:∃k,j=i+1+k:=⟨j-i-1,zO⟩;rw[hr,vj zO,hmin,show i+1+k-(i+1)=k by omega,show i+1+k-i=k+1 by omega,List.getElem?_cons_succ,vk zO,hcs,vG,wa,vG]
  have:=UQ (ys:=l.take i++b::l.drop i) (H:=w.heap.size) (b' :=0) (c' :=G) (e' :=GB.t 3) (cur' :=cur2) (w' :=(W0.drew.setCells w.heap.size i [Value.int .i64 b]).drew.setCells w.heap.size (i+1) (cs.drop i)) m hs (by rw[q1];exact p1.trans ho0.1) (by rw[q2];exact p2.trans ho0.2.1) (by rw[q3];exact p3.trans ho0.2.2) (by rw[q4];show w.heap.size<=(W0.drew.setCells w.heap.size i [Value.int .i64 b]).heap.size;rw[p4];show w.heap.size<=W0.heap.size;omega)
   (λg hg ho=>by
     have:g≠w.heap.size:=zO;rw[q5 g this];exact(p5 g this).trans (hold g hg)) (.inr (vg _)) g2 (by rw[hys];exact hcap) hcmx (by rw[hs2];omega)
   (by
     apply wk;intro j;rw[hys];by_cases hj:j<l.length+1
     .rw[wd hj,vG,vp,hval j hj,wa]
     .rw[List.getElem?_take_eq_none zO,uR (by rw[wB,hys];omega)])
  rw[hys] at this |-;exact this
theorem Zs (l:List Int) (u:Nat) (b:Int) (hn:l.length<1000000):Ac pg 225 [.tok 0 u 1 0 l.length,.int .i64 l.length,.tok 1 0 1 0 1] [.live u (Ab l),.live 0 [.int .i64 b]] (λr M=>r= .own 1 (l.length+1) (Ab (l++[b]))/\M=[.dead,.live 0 [.int .i64 b]]):=by
 refine zE (fn:=Tryz.f225) [.tmp 6] ?_;rw[A6];refine eA ?_;refine zr ?_;have e:wL (l.length+1) (Ab l++[AV.int .i64 b])=Ab (l++[b]):=by rw[uM zS];simp[Ab]
 rw[e];simp
theorem Zt (l:List Int) (u i:Nat) (b:Int) (hi:i<=l.length) (hn:l.length<1000000):Ac pg 225 [.tok 0 u 1 0 l.length,.int .i64 i,.tok 1 0 1 0 1] [.live u (Ab l),.live 0 [.int .i64 b]] (λr M=>r= .own 1 (l.take i++b::l.drop i).length (Ab (l.take i++b::l.drop i))/\M=[.dead,.live 0 [.int .i64 b]]):=by
 by_cases h:i<l.length
 .exact Zr l u i b h hn
 .have:i=l.length:=zO;subst this;have e:l.take l.length++b::l.drop l.length=l++[b]:=zS;rw[e];simpa using Zs l u b hn
open Go.Proofs
theorem cY (g:Gr) (n:Nat) (hg:AP g) (hn:n<=16):Ac pg 183 [.agg (A1 false g),iN n] [] (λr _=>r= .tup [.agg (A1 true (GI g n).1),iN (GI g n).2]):=by
 have hin:=hg.inn;have spM:=Jc g hin;rw[zT hg] at spM;have spO:=O3 g hin;obtain⟨q,hq⟩:∃q,q=GI g n:=zX;rw[<-hq];unfold GI at hq;have hn1:=hg.1;have hn2:=hg.2.1;have hn3:=hg.2.2.1;refine zE (fn:=Tryz.f183) [.cell 4 34,.tmp 5] ?_;rw[Aq];refine Cx ?_;refine zb ?_;refine AL spM ?_;refine zn ?_;by_cases c1:16-g.n<n
 .rw[zP c1] at hq;refine th c1 ?_;refine W.weak (sX 1 1) ?_;refine zr ?_;simp[hq,Az]
 rw[zM c1] at hq;refine th c1 ?_;simp only[CB,CC,BN];refine AL spO ?_;have ll:(Ak true g.out).length=g.out.length:=by simp[Ak]
 (repeat refine ta ?_);refine tj 0 [(2,29),(2,30),(24,29),(24,30)] rfl true Df AK λK hK=>?_;simp -implicitDefEqProofs (disch:=omega) [ll];refine⟨by simp[Bv],λx hx=>?_,zO,zO,?_⟩
 .simp[Bv] at hx;rw[hx.2];rfl
 (repeat refine⟨by first|assumption|omega,?_⟩);refine hK _ _ (by simp(disch:=omega)) ?_;clear hK K;rw[N0];have ea:Ak true g.out++Ak true (uP n [])=Ak true (g.out++uP n []):=by simp[Ak]
 rw[ea];refine Bd ?_;rw[hq];simp[A1,DH,sl,uM]
def fE:Tr:= .a 0 (.a 2 (.a 3 (.a 5 (.a 8 (.a 9 (.a 1 (.a 4 (.a 6 (.a 7 (.a 10 (.a 11 (.a 12 (.a 13 (.l []) (.s)) (.s)) (.s)) (.s)) (.a 10 (.a 7 (.a 11 (.a 12 (.a 13 (.l []) (.s)) (.s)) (.s)) (.s)) (.s))) (.a 10 (.a 6 (.a 7 (.a 11 (.a 12 (.a 13 (.l []) (.s)) (.s)) (.s)) (.s)) (.s)) (.s))) (.a 10 (.a 4 (.a 6 (.a 7 (.a 11 (.a 12 (.a 13 (.l []) (.s)) (.s)) (.s)) (.s)) (.s)) (.s)) (.s))) (.a 4 (.a 1 (.a 6 (.a 7 (.a 10 (.a 11 (.a 12 (.a 13 (.l []) (.s)) (.s)) (.s)) (.s)) (.a 10 (.a 7 (.a 11 (.a 12 (.a 13 (.l []) (.s)) (.s)) (.s)) (.s)) (.s))) (.a 10 (.a 6 (.a 7 (.a 11 (.a 12 (.a 13 (.l []) (.s)) (.s)) (.s)) (.s)) (.s)) (.s))) (.a 6 (.a 1 (.a 7 (.a 10 (.a 11 (.a 12 (.a 13 (.l []) (.s)) (.s)) (.s)) (.s)) (.a 10 (.a 7 (.a 11 (.a 12 (.a 13 (.l []) (.s)) (.s)) (.s)) (.s)) (.s))) (.a 7 (.a 1 (.a 10 (.a 11 (.a 12 (.a 13 (.l []) (.s)) (.s)) (.s)) (.s)) (.a 10 (.a 1 (.a 11 (.a 12 (.a 13 (.l []) (.s)) (.s)) (.s)) (.a 11 (.a 1 (.a 12 (.a 13 (.l []) (.s)) (.s)) (.s)) (.s))) (.s))) (.a 10 (.a 1 (.a 7 (.a 11 (.a 12 (.a 13 (.l []) (.s)) (.s)) (.s)) (.s)) (.a 7 (.a 1 (.a 11 (.a 12 (.a 13 (.l []) (.s)) (.s)) (.s)) (.a 11 (.a 1 (.a 12 (.a 13 (.l []) (.s)) (.s)) (.s)) (.s))) (.s))) (.s)))) (.a 10 (.a 1 (.a 6 (.a 7 (.a 11 (.a 12 (.a 13 (.l []) (.s)) (.s)) (.s)) (.s)) (.s)) (.a 6 (.a 1 (.a 7 (.a 11 (.a 12 (.a 13 (.l []) (.s)) (.s)) (.s)) (.s)) (.a 7 (.a 1 (.a 11 (.a 12 (.a 13 (.l []) (.s)) (.s)) (.s)) (.a 11 (.a 1 (.a 12 (.a 13 (.l []) (.s)) (.s)) (.s)) (.s))) (.s))) (.s))) (.s)))) (.a 10 (.a 1 (.a 4 (.a 6 (.a 7 (.a 11 (.a 12 (.a 13 (.l []) (.s)) (.s)) (.s)) (.s)) (.s)) (.s)) (.a 4 (.a 1 (.a 6 (.a 7 (.a 11 (.a 12 (.a 13 (.l []) (.s)) (.s)) (.s)) (.s)) (.s)) (.a 6 (.a 1 (.a 7 (.a 11 (.a 12 (.a 13 (.l []) (.s)) (.s)) (.s)) (.s)) (.a 7 (.a 1 (.a 11 (.a 12 (.a 13 (.l []) (.s)) (.s)) (.s)) (.a 11 (.a 1 (.a 12 (.a 13 (.l []) (.s)) (.s)) (.s)) (.s))) (.s))) (.s))) (.s))) (.s)))) .s) .s) .s) .s) .s) .s
theorem Zu (l:List Int) (b:Int):(DA l b).length=l.length+1:=by
 have:D2 l b<=l.length:=by unfold D2;exact List.Sublist.length_le (List.takeWhile_sublist _)
 unfold DA;simp;omega
theorem fF (g:Gr) (a b:Int) (hg:AP g):Ac pg 184 [.agg (A1 false g),iN a,iN b] [] (λr _=>r= .tup [.agg (A1 true (HT g a b).1),iN (HT g a b).2]):=by
 have spA:=UO g a b hg;have hin:=hg.inn;have spO:=O3 g hin;have spN:=WD g (by have:=hg.2.1;have:=hg.2.2.1;omega) (by have:=hg.2.2.2.2;omega);obtain⟨q,hq⟩:∃q,q=HT g a b:=zX;rw[<-hq];unfold HT at hq;refine zE (fn:=Tryz.f184) [.cell 6 34,.tmp 7] ?_;rw[A6];refine Cx ?_;by_cases c1:DC g a/\DC g b;rotate_left
 .rw[zP c1] at hq spA;refine yq spA ?_;refine W.weak (sX 1 1) ?_;refine zr ?_;simp[hq,Az]
 rw[zM (λh=>h c1)] at hq spA;obtain⟨k,rfl⟩:∃k:Nat,a=k:=⟨a.toNat,by have:=c1.1.1;omega⟩;have hn3:=hg.2.2.1;have hk:k<g.out.length:=by have:=c1.1.2;omega
 obtain⟨l,hl⟩:∃l,l=g.out[k]:=zX;have hml:AU l:=by rw[hl];exact(hg.2.2.2.1 _ (uQ hk)).1
 have hll:=Bw hml;have spB:=QZ l b zO hml.2;have eb:AF g k=l:=by simp[AF,hk,hl]
 rw[eb] at hq;refine yq spA ?_;have hl2:g.out[k]?=some l:=by rw[hl];simp[hk]
 obtain⟨bb,hbb⟩:∃bb,bb=l.contains b:=zX;obtain⟨i,hi⟩:∃i,i=D2 l b:=zX;rw[<-hbb] at spB hq;rw[<-hi] at spB;refine Dx ?_;intro K hK;simp -implicitDefEqProofs (disch:=omega) [hk,<-hl];refine xN spB ?_;refine zb ?_;cases bb;rotate_left
 .rw[zP rfl] at hq;refine y3 ?_;refine W.weak (sX 1 1) ?_;refine zr ?_;simp[hq,Az]
 rw[zM zS] at hq;refine y2 ?_;by_cases c2:120<=Br g.out
 .rw[zP c2] at hq;have c2' :(120:Int)<=(Br g.out:Int):=zO;refine z0 ?_;intro K hK;refine sW spN (by simp) (by simp) ?_;refine x5 c2' ?_;refine W.weak (sX 1 1) ?_;refine zr ?_;simp[hq,Az]
 rw[zM c2] at hq;have c2' :¬(120:Int)<=(Br g.out:Int):=zO;refine z0 ?_;intro K hK;refine sW spN (by simp) (by simp) ?_;refine x5 c2' ?_;simp only[CB,CC,BN];refine AL spO ?_;have hgl:(Ak true g.out)[k]?=some (.own 1 l.length (Ab l)):=by simp[Ak,hl2,DB,sl]
 refine W.weak (te (B:=2) (v:=0) (j:=k) (s:=1) (n:=l.length) (cs:=Ak true g.out) (xs:=Ab l) zF hgl) ?_;obtain⟨L,hL⟩:∃L,L=(Ak true g.out).set k (.tok 3 0 1 0 l.length):=zX;have hLk:L[k]?=some (.tok 3 0 1 0 l.length):=by rw[hL];simp[hk]
 have hLl:True->L.length=g.out.length:=λ_=>by rw[hL];simp
 have hpl:D2 l b<=l.length:=by unfold D2;exact List.Sublist.length_le (List.takeWhile_sublist _)
 have spI:=Zt l 0 i b (by rw[hi];exact hpl) zO;have eadd:l.take i++b::l.drop i=DA l b:=by rw[DA,<-hi]
 have hal:=Zu l b;rw[eadd,hal] at spI;refine W.weak (Wk.fr (S:=[(1,iN k),(2,iN b),(3,pt 0),(6,pt 1),(9,iN i)]) zK) ?_;show W _ _ _ _ _ [lv [iN g.n,.tok 2 0 1 0 g.out.length],lv [iN 0,.own 1 0 []],lv ((Ak true g.out).set k (.tok 3 0 1 0 l.length)),lv (Ab l)] _;rw[<-hL];refine uo (R:=λF M=>F=fr [(3,pt 0),(6,pt 1)]/\M=[lv [iN g.n,.tok 2 0 1 0 g.out.length],lv [iN 0,.own 1 0 []],lv (L.set k (.tok 5 0 1 0 (l.length+1))),.dead,lv [iN b],lv (Ab (DA l b))]) ?_ ?_
 .refine tv 1 fE rfl Df AK (λK hK=>?_);unfold fE;refine Cb rfl ?_ Bp;simp -implicitDefEqProofs (maxSteps:=999999) (disch:=omega) [hLk,BT,Bh];refine Cb rfl ?_ Bp;simp -implicitDefEqProofs (maxSteps:=999999) (disch:=omega) [hLk,BT,Bh];refine Cb rfl ?_ Bp;simp -implicitDefEqProofs (maxSteps:=999999) (disch:=omega) [hLk,BT,Bh];refine Cb rfl ?_ Bp;simp -implicitDefEqProofs (maxSteps:=999999) (disch:=omega) [hLk,BT,Bh];refine Cb rfl ?_ Bp;simp -implicitDefEqProofs (maxSteps:=999999) (disch:=omega) [hLk,BT,Bh];refine Cb rfl ?_ Bp;simp -implicitDefEqProofs (maxSteps:=999999) (disch:=omega) [hLk,BT,Bh]
  repeat' (first|exact Bp|refine Eo ?_|refine⟨hk,?_⟩ | (refine sZ [3,4] spI zS zS zS zS ?_;rintro _ _ ⟨rfl,rfl⟩ _;refine⟨zS,zS,?_⟩;simp -implicitDefEqProofs (maxSteps:=999999) (disch:=omega) [hLk,BT,Bh]) | (refine Cb rfl ?_ ?_<;>try exact Bp)<;>try (simp -implicitDefEqProofs (maxSteps:=999999) (disch:=omega) [hLk,BT,Bh]))
  all_goals exact⟨by have:=hLl trivial;omega,Eo (hK _ _ ⟨_,_,Wk.fr zK,rfl,rfl⟩)⟩
 rintro F M ⟨rfl,rfl⟩;have eL:(L.set k (.tok 5 0 1 0 (l.length+1))).set k (.own 1 (l.length+1) (((Ab (DA l b)).drop 0).take ((l.length+1)*1)))=Ak true (g.out.set k (DA l b)):=by
  rw[hL,wF,wF,<-hal];simp[Ak,wi,DB,sl,uM]
 refine W.weak (sY (B:=2) (v:=0) (j:=k) (T:=5) (u:=0) (s:=1) (off:=0) (n:=l.length+1) (xs:=Ab (DA l b)) zF (by rw[uO (by have:=hLl trivial;omega)]) zF zS (by simp[hal]) zS) ?_;show W _ _ _ _ _ [lv [iN g.n,.tok 2 0 1 0 g.out.length],lv [iN 0,.own 1 0 []],lv ((L.set k (.tok 5 0 1 0 (l.length+1))).set k (.own 1 (l.length+1) (((Ab (DA l b)).drop 0).take ((l.length+1)*1)))),.dead,lv [iN b],.dead] _;rw[eL];refine Bd ?_;rw[hq];simp[A1,DH,sl,uM]
theorem XR {M:List Ag} {l:List B3} {u:B3} {i a b c:Nat} (hi:i<l.length) (hu:u=l[i]) {on:Bool} {fr:Int} (ha:M[a]?=some (lv (Ak true u.sT.out))) (hb:M[b]?=some (lv (Ab u.job.list))) (hc:M[c]?=some (lv (Ab u.job.out))) (d:Nat):
 ((((((Aa (Af true) l).set (i*12+5) (.tok a 0 1 0 u.sT.out.length)).set (i*12+10) (.tok b 0 1 0 u.job.list.length)).set (i*12+11) (.tok c 0 1 0 u.job.out.length)).set (i*12+2) (.bool on)).set (i*12+3) (iN fr)).map (CV M (d+1))=Aa (Af false) (l.set i {u with on:=on,frm:=fr}):=by
 rw[wi,wi,wi,wi,wi,RW];exact BA (f:=Af false) (s:=12) zL (ps:=[(5,CV M (d+1) (.tok a 0 1 0 u.sT.out.length)),(10,CV M (d+1) (.tok b 0 1 0 u.job.list.length)),(11,CV M (d+1) (.tok c 0 1 0 u.job.out.length)),(2,CV M (d+1) (.bool on)),(3,CV M (d+1) (iN fr))]) zS hi (by rw[<-hu];simp[Be,Af,CV,Ah,ha,hb,hc])
theorem Zv (s:An) (i n:Nat) (k a b:Int) (hk:k=5\/k=6\/k=7\/k=8\/k=10) (hs:A0 s) (hm:BJ (Ae s)) (hi:i<s.sR.length) (hn:n<=16) (hg:s.sR[i].on=true->AP s.sR[i].sT):Ac pg 132 [pt 0,.agg (AZ ⟨k,i,0,a,b,n⟩)] [lv (Aj true s)]
 (G1 (BM s ⟨k,i,0,a,b,n⟩ s.sR[i])):=by
 have h1:=hs.1;have h2:=hs.2.1;obtain⟨u,hu⟩:∃u,u=s.sR[i]:=zX;obtain⟨p,hp⟩:∃p,p=BM s ⟨k,i,0,a,b,n⟩ s.sR[i]:=zX;rw[<-hp];unfold BM Jn at hp;simp only at hp;rw[<-hu] at hp hg;have fat:∀(q:Nat),q<12->(Aa (Af true) s.sR)[i*12+q]?=(Af true u)[q]?:=λq hq=>by rw[hu];exact Au (f:=Af true) (s:=12) zL hi hq
 have hfl:(Aa (Af true) s.sR).length=s.sR.length*12:=Bk (f:=Af true) zL _;unfold G1;refine zE (fn:=Tryz.f132) [.tmp 4] ?_;rw[Aq];refine AX ?_;refine W.weak (sX 0 2) ?_;refine W.weak (sX 0 3) ?_;refine W.weak (te (B:=3) (v:=0) (j:=i*12+5) (s:=1) (n:=u.sT.out.length) (cs:=Aa (Af true) s.sR) (xs:=Ak true u.sT.out) zF (fat 5 zO)) ?_;refine W.weak (te (B:=3) (v:=0) (j:=i*12+10) (s:=1) (n:=u.job.list.length) (cs:=(Aa (Af true) s.sR).set (i*12+5) (.tok 4 0 1 0 u.sT.out.length)) (xs:=Ab u.job.list) zF (by rw[uN zO];exact fat 10 zO)) ?_;refine W.weak (te (B:=3) (v:=0) (j:=i*12+11) (s:=1) (n:=u.job.out.length) (cs:=((Aa (Af true) s.sR).set (i*12+5) (.tok 4 0 1 0 u.sT.out.length)).set (i*12+10) (.tok 5 0 1 0 u.job.list.length)) (xs:=Ab u.job.out) zF (by rw[uN zO,uN zO];exact fat 11 zO)) ?_;obtain⟨L,hL⟩:∃L,L=(((Aa (Af true) s.sR).set (i*12+5) (.tok 4 0 1 0 u.sT.out.length)).set (i*12+10) (.tok 5 0 1 0 u.job.list.length)).set (i*12+11) (.tok 6 0 1 0 u.job.out.length):=zX;have hLl:True->L.length=s.sR.length*12:=λ_=>by rw[hL];simp[hfl]
 have hV:∀(M:List Ag) (d:Nat),M[4]?=some (lv (Ak true u.sT.out))->M[5]?=some (lv (Ab u.job.list))->M[6]?=some (lv (Ab u.job.out))->L.map (CV M (d+1))=Aa (Af false) s.sR:=λM d ha hb hc=>by
  rw[hL,hu];rw[hu] at ha hb hc;exact Th hi ha hb hc d
 have hV2:∀(on:Bool) (fr:Int) (M:List Ag) (d:Nat),M[4]?=some (lv (Ak true u.sT.out))->M[5]?=some (lv (Ab u.job.list))->M[6]?=some (lv (Ab u.job.out))->((L.set (i*12+2) (.bool on)).set (i*12+3) (iN fr)).map (CV M (d+1))=Aa (Af false) (s.sR.set i {u with on:=on,frm:=fr}):=λon fr M d ha hb hc=>by
  rw[hL];exact XR hi hu ha hb hc d
 have m2:L[i*12+2]?=some (.bool u.on):=by
  rw[hL,uN zO,uN zO,uN zO];exact fat 2 zO
 have m4:L[i*12+4]?=some (iN u.sT.n):=by
  rw[hL,uN zO,uN zO,uN zO];exact fat 4 zO
 have m5:L[i*12+4+1]?=some (.tok 4 0 1 0 u.sT.out.length):=by
  show L[i*12+5]?=_;rw[hL,uN zO,uN zO,uO (by rw[hfl];omega)]
 show W _ _ _ _ _ [_,_,_,lv ((((Aa (Af true) s.sR).set (i*12+5) (.tok 4 0 1 0 u.sT.out.length)).set (i*12+10) (.tok 5 0 1 0 u.job.list.length)).set (i*12+11) (.tok 6 0 1 0 u.job.out.length)),_,_,_] _;rw[<-hL];refine zh hi ?_;rcases hk with rfl|rfl|rfl|rfl|rfl
 .rw[zM zS,zM zS,zM zS,zP rfl] at hp;cases c:u.on;rotate_left
  .rw[zP c] at hp;refine zh (an m2 c) ?_;refine zt ?_;subst hL;subst hu;refine zs ?_;refine W.weak (D7 hi) ?_;refine zr ?_;simp[hp,AE]
  rw[zM (by simp[c])] at hp;refine yp (an m2 c) ?_;refine GQ (an m4 m5) ?_;intro K hK;refine zk ?_;refine y4 ?_;have spL:=EV s hs;refine z0 ?_;intro K hK;refine sW spL (by simp[hV,hLl trivial]) zS ?_;refine xK (an (hLl trivial) hi) ?_;have f3:((L.set (i*12+2) (.bool true)).set (i*12+3) (iN (At s.sQ)))[i*12+3]?=some (iN (At s.sQ)):=by rw[uO (by rw[vS,hLl trivial];omega)]
  have spG:=Pm (Ch s i {u with on:=true,frm:=At s.sQ}) (At s.sQ) ⟨hs.1,by simpa[Ch] using hs.2.1,hs.2.2⟩ hm;have eg:Cf (Ch s i {u with on:=true,frm:=At s.sQ}) (At s.sQ)=Cf s (At s.sQ):=rfl;rw[eg] at spG;obtain⟨g,hgd⟩:∃g,g=Cf s (At s.sQ):=zX;rw[<-hgd] at spG hp;refine Dy f3 ?_;intro K hK;refine s6 spG (by simp[hV2,hLl trivial,Ch];rw[uM zS]) zS ?_;refine x4 ?_;refine zg (an (hLl trivial) hi) ?_;subst hL;refine W.weak (sY (B:=3) (v:=0) (j:=i*12+5) (T:=8) (u:=0) (s:=1) (off:=0) (n:=g.out.length) (xs:=Ak true g.out) zF (by(repeat first|rw[uO Ao] |rw[uN zO]);all_goals rfl) zF zS zS zS) ?_;refine W.weak (sY (B:=3) (v:=0) (j:=i*12+10) (T:=5) (u:=0) (s:=1) (off:=0) (n:=u.job.list.length) (xs:=Ab u.job.list) zF (by(repeat first|rw[uO Ao] |rw[uN zO]);all_goals rfl) zF zS zS zS) ?_;refine W.weak (sY (B:=3) (v:=0) (j:=i*12+11) (T:=6) (u:=0) (s:=1) (off:=0) (n:=u.job.out.length) (xs:=Ab u.job.out) zF (by(repeat first|rw[uO Ao] |rw[uN zO]);all_goals rfl) zF zS zS zS) ?_;refine W.weak (Wk.inn 0 2) ?_;refine W.weak (sY (B:=0) (v:=0) (j:=3) (T:=3) (u:=0) (s:=12) (off:=0) (n:=s.sR.length) (xs:=Aa (Af true) (s.sR.set i {u with on:=true,frm:=At s.sQ,sT:=g})) zF zF (congrArg some (BA (f:=Af true) (s:=12) zL (ps:=[(5,.tok 4 0 1 0 u.sT.out.length),(10,.tok 5 0 1 0 u.job.list.length),(11,.tok 6 0 1 0 u.job.out.length),(2,.bool true),(3,iN (At s.sQ)),(4,iN g.n),(5,.tok 8 0 1 0 g.out.length),(5,.own 1 g.out.length (((Ak true g.out).drop 0).take (g.out.length*1))),(10,.own 1 u.job.list.length (((Ab u.job.list).drop 0).take (u.job.list.length*1))),(11,.own 1 u.job.out.length (((Ab u.job.out).drop 0).take (u.job.out.length*1)))]) zS hi (by rw[<-hu];simp[Be,Af,Az,Ak,uM]))) zS zS zS) ?_;refine Bd ?_;rw[uM zS];simp[hp,DE,Ch]
 .rw[zM zS,zM zS,zM zS,zM zS,zM zS,zM zS,zM zS] at hp;cases c:u.on
  .rw[zP c] at hp;refine zh (an m2 c) ?_;refine zt ?_;subst hL;subst hu;refine zs ?_;refine W.weak (D7 hi) ?_;refine zr ?_;simp[hp,AE]
  rw[zM (by simp[c]),zM zS,zM zS] at hp;simp only[if_true,zP rfl,zM (show¬((7:Int)=6) by decide),zM (show¬((8:Int)=6) by decide),zM (show¬((8:Int)=7) by decide)] at hp;have sp:=cY u.sT n (hg c) hn;obtain⟨q,hq⟩:∃q,q=GI u.sT n:=zX;rw[<-hq] at sp hp;refine yp (an m2 c) ?_;refine GQ (an m4 m5) ?_;intro K hK;refine zk ?_;refine y6 ?_;refine AL sp ?_;by_cases e:q.2=0;rotate_left
  .rw[zP e] at hp;refine th e ?_;subst hL;subst hu;refine zs ?_;refine W.weak (D7 hi) ?_;refine zr ?_;simp[hp,AE]
  rw[zM (λh=>h e)] at hp;refine xP e ?_;refine zg (an (hLl trivial) hi) ?_;subst hL;refine W.weak (sY (B:=3) (v:=0) (j:=i*12+5) (T:=8) (u:=0) (s:=1) (off:=0) (n:=q.1.out.length) (xs:=Ak true q.1.out) zF (by(repeat first|rw[uO Ao] |rw[uN zO]);all_goals rfl) zF zS zS zS) ?_;refine W.weak (sY (B:=3) (v:=0) (j:=i*12+10) (T:=5) (u:=0) (s:=1) (off:=0) (n:=u.job.list.length) (xs:=Ab u.job.list) zF (by(repeat first|rw[uO Ao] |rw[uN zO]);all_goals rfl) zF zS zS zS) ?_;refine W.weak (sY (B:=3) (v:=0) (j:=i*12+11) (T:=6) (u:=0) (s:=1) (off:=0) (n:=u.job.out.length) (xs:=Ab u.job.out) zF (by(repeat first|rw[uO Ao] |rw[uN zO]);all_goals rfl) zF zS zS zS) ?_;refine W.weak (Wk.inn 0 2) ?_;refine W.weak (sY (B:=0) (v:=0) (j:=3) (T:=3) (u:=0) (s:=12) (off:=0) (n:=s.sR.length) (xs:=Aa (Af true) (s.sR.set i {u with sT:=q.1})) zF zF (congrArg some (BA (f:=Af true) (s:=12) zL (ps:=[(5,.tok 4 0 1 0 u.sT.out.length),(10,.tok 5 0 1 0 u.job.list.length),(11,.tok 6 0 1 0 u.job.out.length),(4,iN q.1.n),(5,.tok 8 0 1 0 q.1.out.length),(5,.own 1 q.1.out.length (((Ak true q.1.out).drop 0).take (q.1.out.length*1))),(10,.own 1 u.job.list.length (((Ab u.job.list).drop 0).take (u.job.list.length*1))),(11,.own 1 u.job.out.length (((Ab u.job.out).drop 0).take (u.job.out.length*1)))]) zS hi (by rw[<-hu];simp[Be,Af,Az,Ak,uM]))) zS zS zS) ?_;refine Bd ?_;rw[uM zS];simp[hp,DE,Ch,e]
 .rw[zM zS,zM zS,zM zS,zM zS,zM zS,zM zS,zM zS] at hp;cases c:u.on
  .rw[zP c] at hp;refine zh (an m2 c) ?_;refine zt ?_;subst hL;subst hu;refine zs ?_;refine W.weak (D7 hi) ?_;refine zr ?_;simp[hp,AE]
  rw[zM (by simp[c]),zM zS,zM zS] at hp;simp only[if_true,zP rfl,zM (show¬((7:Int)=6) by decide),zM (show¬((8:Int)=6) by decide),zM (show¬((8:Int)=7) by decide)] at hp;have sp:=fF u.sT a b (hg c);obtain⟨q,hq⟩:∃q,q=HT u.sT a b:=zX;rw[<-hq] at sp hp;refine yp (an m2 c) ?_;refine GQ (an m4 m5) ?_;intro K hK;refine zk ?_;refine y8 ?_;refine AL sp ?_;by_cases e:q.2=0;rotate_left
  .rw[zP e] at hp;refine th e ?_;subst hL;subst hu;refine zs ?_;refine W.weak (D7 hi) ?_;refine zr ?_;simp[hp,AE]
  rw[zM (λh=>h e)] at hp;refine xP e ?_;refine zg (an (hLl trivial) hi) ?_;subst hL;refine W.weak (sY (B:=3) (v:=0) (j:=i*12+5) (T:=8) (u:=0) (s:=1) (off:=0) (n:=q.1.out.length) (xs:=Ak true q.1.out) zF (by(repeat first|rw[uO Ao] |rw[uN zO]);all_goals rfl) zF zS zS zS) ?_;refine W.weak (sY (B:=3) (v:=0) (j:=i*12+10) (T:=5) (u:=0) (s:=1) (off:=0) (n:=u.job.list.length) (xs:=Ab u.job.list) zF (by(repeat first|rw[uO Ao] |rw[uN zO]);all_goals rfl) zF zS zS zS) ?_;refine W.weak (sY (B:=3) (v:=0) (j:=i*12+11) (T:=6) (u:=0) (s:=1) (off:=0) (n:=u.job.out.length) (xs:=Ab u.job.out) zF (by(repeat first|rw[uO Ao] |rw[uN zO]);all_goals rfl) zF zS zS zS) ?_;refine W.weak (Wk.inn 0 2) ?_;refine W.weak (sY (B:=0) (v:=0) (j:=3) (T:=3) (u:=0) (s:=12) (off:=0) (n:=s.sR.length) (xs:=Aa (Af true) (s.sR.set i {u with sT:=q.1})) zF zF (congrArg some (BA (f:=Af true) (s:=12) zL (ps:=[(5,.tok 4 0 1 0 u.sT.out.length),(10,.tok 5 0 1 0 u.job.list.length),(11,.tok 6 0 1 0 u.job.out.length),(4,iN q.1.n),(5,.tok 8 0 1 0 q.1.out.length),(5,.own 1 q.1.out.length (((Ak true q.1.out).drop 0).take (q.1.out.length*1))),(10,.own 1 u.job.list.length (((Ab u.job.list).drop 0).take (u.job.list.length*1))),(11,.own 1 u.job.out.length (((Ab u.job.out).drop 0).take (u.job.out.length*1)))]) zS hi (by rw[<-hu];simp[Be,Af,Az,Ak,uM]))) zS zS zS) ?_;refine Bd ?_;rw[uM zS];simp[hp,DE,Ch,e]
 .rw[zM zS,zM zS,zM zS,zM zS,zM zS,zM zS,zM zS] at hp;cases c:u.on
  .rw[zP c] at hp;refine zh (an m2 c) ?_;refine zt ?_;subst hL;subst hu;refine zs ?_;refine W.weak (D7 hi) ?_;refine zr ?_;simp[hp,AE]
  rw[zM (by simp[c]),zM zS,zM zS] at hp;simp only[if_true,zP rfl,zM (show¬((7:Int)=6) by decide),zM (show¬((8:Int)=6) by decide),zM (show¬((8:Int)=7) by decide)] at hp;have sp:=fD u.sT a b (hg c);obtain⟨q,hq⟩:∃q,q=Hu u.sT a b:=zX;rw[<-hq] at sp hp;refine yp (an m2 c) ?_;refine GQ (an m4 m5) ?_;intro K hK;refine zk ?_;refine eA ?_;refine AL sp ?_;by_cases e:q.2=0;rotate_left
  .rw[zP e] at hp;refine th e ?_;subst hL;subst hu;refine zs ?_;refine W.weak (D7 hi) ?_;refine zr ?_;simp[hp,AE]
  rw[zM (λh=>h e)] at hp;refine xP e ?_;refine zg (an (hLl trivial) hi) ?_;subst hL;refine W.weak (sY (B:=3) (v:=0) (j:=i*12+5) (T:=8) (u:=0) (s:=1) (off:=0) (n:=q.1.out.length) (xs:=Ak true q.1.out) zF (by(repeat first|rw[uO Ao] |rw[uN zO]);all_goals rfl) zF zS zS zS) ?_;refine W.weak (sY (B:=3) (v:=0) (j:=i*12+10) (T:=5) (u:=0) (s:=1) (off:=0) (n:=u.job.list.length) (xs:=Ab u.job.list) zF (by(repeat first|rw[uO Ao] |rw[uN zO]);all_goals rfl) zF zS zS zS) ?_;refine W.weak (sY (B:=3) (v:=0) (j:=i*12+11) (T:=6) (u:=0) (s:=1) (off:=0) (n:=u.job.out.length) (xs:=Ab u.job.out) zF (by(repeat first|rw[uO Ao] |rw[uN zO]);all_goals rfl) zF zS zS zS) ?_;refine W.weak (Wk.inn 0 2) ?_;refine W.weak (sY (B:=0) (v:=0) (j:=3) (T:=3) (u:=0) (s:=12) (off:=0) (n:=s.sR.length) (xs:=Aa (Af true) (s.sR.set i {u with sT:=q.1})) zF zF (congrArg some (BA (f:=Af true) (s:=12) zL (ps:=[(5,.tok 4 0 1 0 u.sT.out.length),(10,.tok 5 0 1 0 u.job.list.length),(11,.tok 6 0 1 0 u.job.out.length),(4,iN q.1.n),(5,.tok 8 0 1 0 q.1.out.length),(5,.own 1 q.1.out.length (((Ak true q.1.out).drop 0).take (q.1.out.length*1))),(10,.own 1 u.job.list.length (((Ab u.job.list).drop 0).take (u.job.list.length*1))),(11,.own 1 u.job.out.length (((Ab u.job.out).drop 0).take (u.job.out.length*1)))]) zS hi (by rw[<-hu];simp[Be,Af,Az,Ak,uM]))) zS zS zS) ?_;refine Bd ?_;rw[uM zS];simp[hp,DE,Ch,e]
 .rw[zM zS,zM zS,zM zS,zM zS,zM zS,zM zS,zM zS] at hp;cases c:u.on
  .rw[zP c] at hp;refine zh (an m2 c) ?_;refine zt ?_;subst hL;subst hu;refine zs ?_;refine W.weak (D7 hi) ?_;refine zr ?_;simp[hp,AE]
  rw[zM (by simp[c]),zP rfl] at hp;refine yp (an m2 c) ?_;refine GQ (an m4 m5) ?_;intro K hK;refine zk ?_;refine nB ?_;refine zg (an (hLl trivial) hi) ?_;refine W.weak (sX 7 1) ?_;refine y2 ?_;refine zg (an (hLl trivial) hi) ?_;subst hL;refine W.weak (sY (B:=3) (v:=0) (j:=i*12+5) (T:=8) (u:=0) (s:=1) (off:=0) (n:=Az.out.length) (xs:=Ak true Az.out) zF (by(repeat first|rw[uO Ao] |rw[uN zO]);all_goals rfl) zF zS zS zS) ?_;refine W.weak (sY (B:=3) (v:=0) (j:=i*12+10) (T:=5) (u:=0) (s:=1) (off:=0) (n:=u.job.list.length) (xs:=Ab u.job.list) zF (by(repeat first|rw[uO Ao] |rw[uN zO]);all_goals rfl) zF zS zS zS) ?_;refine W.weak (sY (B:=3) (v:=0) (j:=i*12+11) (T:=6) (u:=0) (s:=1) (off:=0) (n:=u.job.out.length) (xs:=Ab u.job.out) zF (by(repeat first|rw[uO Ao] |rw[uN zO]);all_goals rfl) zF zS zS zS) ?_;refine W.weak (Wk.inn 0 2) ?_;refine W.weak (sY (B:=0) (v:=0) (j:=3) (T:=3) (u:=0) (s:=12) (off:=0) (n:=s.sR.length) (xs:=Aa (Af true) (s.sR.set i {u with on:=false,frm:=0,sT:=Az})) zF zF (congrArg some (BA (f:=Af true) (s:=12) zL (ps:=[(5,.tok 4 0 1 0 u.sT.out.length),(10,.tok 5 0 1 0 u.job.list.length),(11,.tok 6 0 1 0 u.job.out.length),(2,.bool false),(3,iN 0),(4,iN 0),(5,.tok 8 0 1 0 0),(5,.own 1 Az.out.length (((Ak true Az.out).drop 0).take (Az.out.length*1))),(10,.own 1 u.job.list.length (((Ab u.job.list).drop 0).take (u.job.list.length*1))),(11,.own 1 u.job.out.length (((Ab u.job.out).drop 0).take (u.job.out.length*1)))]) zS hi (by rw[<-hu];simp[Be,Af,Az,Ak,uM]))) zS zS zS) ?_;refine Bd ?_;rw[uM zS];simp[hp,DE,Ch]
def HB (L:List (Int×Int)):List Int:=(L.map λp=> [p.1,p.2]).flatten
theorem IY:∀L:List (Int×Int),(HB L).length=2*L.length
 | []=>rfl
 |x::L=>by
  have:=IY L;unfold HB at this |-;simp only[List.map_cons,List.flatten_cons,List.length_append,this,vA,List.length_nil];omega
theorem Ti {L:List (Int×Int)} {k:Nat} (hk:k<L.length):HB (L.take (k+1))=HB (L.take k)++[L[k].1,L[k].2]:=by
 unfold HB;rw[uV,uT hk,wo,List.flatten_append];rfl
theorem cZ (s:An) (i:Nat) (v k a b n:Int) (hs:A0 s) (hm:BJ (Ae s)) (hi:i<s.sR.length):Ac pg 135 [.rptr (Aj false s),.agg (AZ ⟨k,i,v,a,b,n⟩)] []
 (λr _=>r= .tup [.agg (Fm true ⟨0,(BM s ⟨13,i,v,a,b,n⟩ s.sR[i]).2.n,(BM s ⟨13,i,v,a,b,n⟩ s.sR[i]).2.list⟩),iN (BM s ⟨13,i,v,a,b,n⟩ s.sR[i]).2.err]):=by
 have h1:=hs.1;have h2:=hs.2.1;obtain⟨p,hp⟩:∃p,p=BM s ⟨13,i,v,a,b,n⟩ s.sR[i]:=zX;rw[<-hp];unfold BM at hp;rw[zM zS,zM zS,zM zS,zM zS,zM zS,zM zS,zP rfl] at hp;simp only at hp;have spS:=PW s v hs;have spV:=Pm s v hs hm;have spP:=Pm s s.sR[i].pin hs hm;have spM:=cT (Cf s v) (Cf s s.sR[i].pin) (D4 s v) (D4 s s.sR[i].pin);have hml:(Fs (Cf s s.sR[i].pin) (Cf s v)).length<=120:=by
  have h:=(D4 s s.sR[i].pin).2.2.2.2;have h2:=GA (Cf s s.sR[i].pin).n (Cf s s.sR[i].pin).out;unfold Fs;have h3:=vY (λp=> ! decide (DC (Cf s v) p.1/\(AF (Cf s v) p.1).contains p.2=true)) (Cm (Cf s s.sR[i].pin));have h4:(Cm (Cf s s.sR[i].pin)).length=Br (Cf s s.sR[i].pin).out:=h2;omega
 obtain⟨b0,hb⟩:∃b0,b0=(Bf s.sQ).contains v:=zX;rw[<-hb] at spS hp;refine zE (fn:=Tryz.f135) [.cell 4 45,.tmp 5] ?_;rw[Aq];refine Cx ?_;refine W.weak (sX 1 2) ?_;refine Hw ?_;intro K hK;simp -implicitDefEqProofs (disch:=omega) [hi];refine zk ?_;refine zb ?_;by_cases c1:s.sR[i].pin=0
 .rw[zP c1] at hp;refine xS c1 ?_;simp[hp,AE]
 rw[zM c1] at hp;refine xO c1 ?_;cases b0
 .rw[zP rfl] at hp;refine AL spS ?_;refine AJ ?_;simp[hp,AE]
 rw[zM zS] at hp;refine ym spS ?_;simp only[CB,CC,BN];refine Wz spV spP spM ?_;obtain⟨L,hL⟩:∃L,L=Fs (Cf s s.sR[i].pin) (Cf s v):=zX;have hp' :p=(s,⟨0,0,HB L⟩):=by rw[hp,hL];rfl
 rw[<-hL] at hml;rw[<-hL];obtain⟨u,hu⟩:∃u,u=s.sR[i]:=zX;rw[<-hu];refine zb ?_;refine sV (λq:Nat=> [(3,pt 0),(4,pt 1),(5,iN 0),(44,.tok 6 0 2 0 L.length),(45,iN L.length),(46,iN q)]) (λq=> [lv (AZ ⟨k,i,v,a,b,n⟩),lv [iN 0,iN 0,.tok 2 q 1 0 (2*q)],.live q (Ab (HB (L.take q))),lv (Af false u),lv (Ak true (Cf s v).out),lv (Ak true (Cf s u.pin).out),lv (Aa Al L)]) (λq=>L.length-q) (λq=>q<=L.length) 0 (sU (k:=7) zK (by simp[HB]) zS zS zS zS) zO ?_;intro q hq;by_cases c3:q<L.length;rotate_left
 .have hqe:q=L.length:=zO;subst hqe;refine x3 c3 ?_;have hl2:=IY L;have ht2:(HB L).take (2*L.length)=HB L:=uM zO;rw[zP zO,ht2];simp[hp',hl2]
 have htk:=Ti c3;have hpl:=IY (L.take q);rw[wy,wO zO] at hpl;refine th c3 ?_;have g0:(Aa Al L)[q*2]?=some (iN L[q].1):=Au (f:=Al) (s:=2) zL c3 (i:=0) zO;have g1:(Aa Al L)[q*2+1]?=some (iN L[q].2):=Au (f:=Al) (s:=2) zL c3 (i:=1) zO;have hpl2:(Ab (HB (L.take q))).length=2*q:=by simp[Ab,hpl]
 refine zb ?_;refine GQ (an c3 (an g0 g1)) ?_;intro K hK;refine zk ?_;have r2:Bv 2 [AV.int .i64 0]=[iN 0,iN 0]:=rfl;refine GQ (an hpl (an hpl2 r2)) ?_;intro K hK;refine⟨zO,zO,?_⟩;refine xM ?_;refine⟨q+1,zO,zO,sU (k:=7) zK ?_ zS zS zS zS⟩;rw[htk];simp[Ab];omega
theorem Lu (s:An) (o:Cy) (u:B3) (hk:o.kind=2\/o.kind=3\/o.kind=4\/o.kind=5\/o.kind=6\/o.kind=7\/o.kind=8\/o.kind=10):(BM s o u).2.n=0/\(BM s o u).2.list=[]:=by
 unfold BM;rcases hk with h|h|h|h|h|h|h|h<;>simp only[h]<;>simp<;>(repeat' split)<;>simp[DE,AE]
theorem VS (s:An) (o:Cy):(Ft s o).2.n=0/\(Ft s o).2.list=[]:=by
 unfold Ft;(repeat' split)<;>simp[DE,AE]
def JY:Tr:= .a 1 (.a 0 (.a 2 (.a 3 (.a 4 (.a 5 (.l []) .s) .s) .s) .s) (.a 2 (.a 0 (.a 3 (.a 4 (.a 5 (.l []) .s) .s) .s) (.a 3 (.a 0 (.a 4 (.a 5 (.l []) .s) .s) .s) .s)) .s)) .s
theorem da (hR:BK) (s:An) (o:Cy) (hs:A0 s) (hx:BO s) (h:A2 s) (hO:DV o):Ac pg 98 [pt 0,.agg (AZ o)] [lv (Aj true s)] (Fu (D6 s o).1 (D6 s o).2):=by
 have h1:=hs.1;have h2:=hs.2.1;have hl3:s.sR.length=3:=h.1.2.1;have hm:BJ (Ae s):=h.1.1.2.2.2.2.2.2;obtain⟨p,hp⟩:∃p,p=D6 s o:=zX;rw[<-hp];obtain⟨kd,os,ov,oa,ob,on⟩:=o;have hO' :=hO;obtain⟨hk,hN,hS,hV,hA⟩:=hO;simp only at hk hN hS hV hA;have spN:=UK kd;obtain⟨bs,hbs⟩:∃bs,bs=decide (EL kd):=zX;rw[<-hbs] at spN;unfold Fu;refine zE (fn:=Tryz.f98) [.cell 4 45,.tmp 5] ?_;rw[Aq];refine Cx ?_;refine W.weak (sX 2 2) ?_;refine AL spN ?_;refine zw ?_;refine s5 (λq:Bool=> [(0,pt 0),(3,pt 1),(4,pt 2),(5,iN 0),(30,.bool q)]) (λ_=> [lv (Aj true s),lv (AZ ⟨kd,os,ov,oa,ob,on⟩),lv [iN 0,iN 0,.tok 3 0 1 0 0],lv []]) (λq=>q=(bs&&!(CG s os).opn)) ?_ ?_
 .cases bs
  .refine CN ?_;intro K hK;refine zk ?_;exact⟨_,rfl,Wk.fr zK⟩
  .have hop:EL kd:=of_decide_eq_true hbs.symm;rw[zP hop] at hS;obtain⟨i,rfl⟩:∃i:Nat,os=i:=⟨os.toNat,by have:=hS.1;omega⟩;have hi:i<s.sR.length:=by have:=hS.2;omega
   have k0:(Aa (Af true) s.sR)[i*12]?=some (.bool s.sR[i].opn):=Au (f:=Af true) (s:=12) zL hi (i:=0) zO;have es:(CG s i).opn=s.sR[i].opn:=by simp[CG,hi]
   rw[es];refine W.weak (sX 0 3) ?_;refine zh (an hi k0) ?_;refine⟨_,rfl,(Wk.inn 0 3).trans (sU (k:=4) zK (by simp[Aj,KV,GF]) zS zS zS zS)⟩
 rintro q hq;cases q;rotate_left
 .have hb1:bs=true/\(CG s os).opn=false:=by cases bs<;>simp at hq<;>simp[hq]
  have hop:EL kd:=of_decide_eq_true (by rw[<-hbs];exact hb1.1);have hpe:p=AE s 3:=by
   rw[hp];unfold D6;rw[zM (by simp only;have:=hop.1;omega),zP hop,zP hb1.2]
  refine AJ ?_;simp[hpe,AE]
 have hus:EL kd->∃i:Nat,os=i/\∃hi:i<s.sR.length,s.sR[i].opn=true/\AQ s (Ae s) s.sR[i]/\p=BM s ⟨kd,os,ov,oa,ob,on⟩ s.sR[i]:=λhop=>by
  have hb:bs=true:=by rw[hbs];exact zT hop
  rw[zP hop] at hS;obtain⟨hk2,e2,e3⟩:=Is h hS;have hoo:(CG s os).opn=true:=by rw[hb] at hq;simpa using hq.symm
  refine⟨os.toNat,by have:=hS.1;omega,hk2,by rw[<-e2];exact hoo,by rw[<-e2];exact e3,?_⟩;rw[hp];unfold D6;rw[zM (by simp only;have:=hop.1;omega),zP hop,zM (by simp[hoo]),e2]
 refine y4 ?_;by_cases k1:kd=1
 .subst k1;have hp1:p=Gg s:=by rw[hp];rfl
  have sp:=cL s hs;rw[<-hp1] at sp;unfold Fu at sp;refine xY ?_;intro K hK;refine sZ [0] sp zS zS zS zS ?_;rintro _ _ ⟨rfl,rfl⟩ _;refine Am ?_;exact zR
 refine xO k1 ?_;by_cases k2:kd=2
 .subst k2;obtain⟨i,rfl,hi,ho,hso,hpu⟩:=hus zD;have hpe:p=DE (Ch s i BU):=by rw[hpu];rfl
  refine y2 ?_;refine W.weak (sX 0 3) ?_;refine zh hi ?_;have e1:Bt (Aa (Af true) s.sR) (i*12+0) (Af true BU)=Aa (Af true) (s.sR.set i BU):=FG (f:=Af true) (s:=12) (j:=0) zL zS hi zF;refine W.weak (sY (B:=0) (v:=0) (j:=3) (T:=4) (u:=0) (s:=12) (off:=0) (n:=s.sR.length) (xs:=Bt (Aa (Af true) s.sR) (i*12+0) (Af true BU)) zF zF zF zS (by rw[e1];simp) (by rw[e1];simp)) ?_;rw[e1];refine Bd ?_;rw[uM zS];simp[hpe,DE,Ch]
 refine th k2 ?_;refine zw ?_;refine s5 (λq:Bool=> [(0,pt 0),(3,pt 1),(4,pt 2),(5,iN 0),(33,iN kd),(51,.bool q)]) (λ_=> [lv (Aj true s),lv (AZ ⟨kd,os,ov,oa,ob,on⟩),lv [iN 0,iN 0,.tok 3 0 1 0 0],lv []]) (λq=>q=decide (kd=3\/kd=4)) ?_ ?_
 .refine zc ?_ ?_<;>intro h
  .have e:=h;refine W.skip ?_;exact⟨decide (kd=3),by simp[e],Wk.fr zK⟩
  .have e0:=h;refine zs ?_;exact⟨decide (kd=4),by simp[e0],Wk.fr zK⟩
 rintro q rfl;by_cases k3:kd=3\/kd=4
 .rw[zT k3];rcases k3 with k3|k3
  .subst k3;obtain⟨i,rfl,hi,ho,hso,hpu⟩:=hus zD;rw[CK ho] at hso;have ea:oa=0/\ob=0:=by rw[zM zD] at hA;exact hA
   have en:on=0:=by simpa[Gf] using hN
   obtain⟨rfl,rfl⟩:=ea;subst en;have sp:=fz s i ov hs hi (λe=>(hso.2.2).resolve_right λh=>h.1 e);rw[<-hpu] at sp;unfold G1 at sp;have hpl:=Lu s ⟨3,i,ov,0,0,0⟩ s.sR[i] zS;rw[<-hpu] at hpl;refine zt ?_;refine zw ?_;refine s5 (λ_:Unit=> [(4,pt 2),(5,iN p.2.err)]) (λ_=> [lv (Aj true p.1),lv (AZ ⟨3,i,ov,0,0,0⟩),lv [iN 0,iN 0,.tok 3 0 1 0 0],lv []]) (λ_=>True) ?_ ?_
   .refine tv 0 JY rfl Df AK (λK hK=>?_);unfold JY;refine Cb rfl ?_ Bp;simp -implicitDefEqProofs (maxSteps:=999999) (disch:=omega)
    repeat' (first|exact Bp|refine Eo ?_| (refine sZ [0] sp zS zS zS zS ?_;rintro _ _ ⟨rfl,rfl⟩ _;refine⟨zS,zS,?_⟩;simp -implicitDefEqProofs (maxSteps:=999999) (disch:=omega)) | (refine Cb rfl ?_ ?_<;>try exact Bp)<;>try (simp -implicitDefEqProofs (maxSteps:=999999) (disch:=omega)))
    all_goals exact hK _ _ ⟨(),trivial,Wk.fr zK⟩
   rintro _ _;refine zr ?_;simp[hpl.1,hpl.2]
  .subst k3;obtain⟨i,rfl,hi,ho,hso,hpu⟩:=hus zD;have ea:oa=0/\ob=0:=by rw[zM zD] at hA;exact hA
   have en:on=0:=by simpa[Gf] using hN
   obtain⟨rfl,rfl⟩:=ea;subst en;have ev:ov=0:=by rw[zM zD] at hV;exact hV
   subst ev;have sp:=Zo s i hs hi;rw[<-hpu] at sp;unfold G1 at sp;have hpl:=Lu s ⟨4,i,0,0,0,0⟩ s.sR[i] zS;rw[<-hpu] at hpl;refine zt ?_;refine zw ?_;refine s5 (λ_:Unit=> [(4,pt 2),(5,iN p.2.err)]) (λ_=> [lv (Aj true p.1),lv (AZ ⟨4,i,0,0,0,0⟩),lv [iN 0,iN 0,.tok 3 0 1 0 0],lv []]) (λ_=>True) ?_ ?_
   .refine tv 0 JY rfl Df AK (λK hK=>?_);unfold JY;refine Cb rfl ?_ Bp;simp -implicitDefEqProofs (maxSteps:=999999) (disch:=omega)
    repeat' (first|exact Bp|refine Eo ?_| (refine sZ [0] sp zS zS zS zS ?_;rintro _ _ ⟨rfl,rfl⟩ _;refine⟨zS,zS,?_⟩;simp -implicitDefEqProofs (maxSteps:=999999) (disch:=omega)) | (refine Cb rfl ?_ ?_<;>try exact Bp)<;>try (simp -implicitDefEqProofs (maxSteps:=999999) (disch:=omega)))
    all_goals exact hK _ _ ⟨(),trivial,Wk.fr zK⟩
   rintro _ _;refine zr ?_;simp[hpl.1,hpl.2]
 rw[zV k3];refine zn ?_;by_cases k9:kd=9
 .subst k9;obtain⟨i,rfl,hi,ho,hso,hpu⟩:=hus zD;have ea:oa=0/\ob=0:=by rw[zM zD] at hA;exact hA
  have en:on=0:=by simpa[Gf] using hN
  obtain⟨rfl,rfl⟩:=ea;subst en;have ev:ov=0:=by rw[zM zD] at hV;exact hV
  subst ev;have sp:=XP hR s i hs hx h hi ho;rw[<-hpu] at sp;unfold Fu at sp;refine xY ?_;intro K hK;refine sZ [0] sp zS zS zS zS ?_;rintro _ _ ⟨rfl,rfl⟩ _;refine Am ?_;exact zR
 refine th k9 ?_;refine zw ?_;refine s5 (λq:Bool=> [(0,pt 0),(3,pt 1),(4,pt 2),(5,iN 0),(33,iN kd),(66,.bool q)]) (λ_=> [lv (Aj true s),lv (AZ ⟨kd,os,ov,oa,ob,on⟩),lv [iN 0,iN 0,.tok 3 0 1 0 0],lv []]) (λq=>q=decide (kd=5\/kd=6\/kd=7\/kd=8\/kd=10)) ?_ ?_
 .refine zc ?_ ?_<;>intro h
  .have e:=h;refine W.skip ?_;exact⟨decide (kd=5),by simp[e],Wk.fr zK⟩
  .have e0:=h;refine zs ?_;refine zc ?_ ?_<;>intro h
   .have e:=h;refine W.skip ?_;exact⟨decide (kd=6),by simp[e,e0],Wk.fr zK⟩
   .have e1:=h;refine zs ?_;refine zc ?_ ?_<;>intro h
    .have e:=h;refine W.skip ?_;exact⟨decide (kd=7),by simp[e,e0,e1],Wk.fr zK⟩
    .have e2:=h;refine zs ?_;refine zc ?_ ?_<;>intro h
     .have e:=h;refine W.skip ?_;exact⟨decide (kd=8),by simp[e,e0,e1,e2],Wk.fr zK⟩
     .have e3:=h;refine zs ?_;exact⟨decide (kd=10),by simp[e0,e1,e2,e3],Wk.fr zK⟩
 rintro q rfl;by_cases k5:kd=5\/kd=6\/kd=7\/kd=8\/kd=10
 .rw[zT k5];obtain⟨i,rfl,hi,ho,hso,hpu⟩:=hus (by rcases k5 with e|e|e|e|e<;>(rw[e];decide));rw[CK ho] at hso;have ev:ov=0:=by
   rw[zM (by rcases k5 with e|e|e|e|e<;>(rw[e];decide))] at hV;exact hV
  subst ev;obtain⟨n,rfl,hn⟩:∃n:Nat,on=n/\n<=16:=by
   unfold Gf at hN;rcases k5 with e|e|e|e|e<;>simp[e,B8] at hN<;>exact⟨on.toNat,zO,zO⟩
  have sp:=Zv s i n kd oa ob k5 hs hm hi hn (λe=>by have:=hso.2.1;rw[zP e] at this;exact this.2.2);rw[<-hpu] at sp;unfold G1 at sp;have hpl:=Lu s ⟨kd,i,0,oa,ob,n⟩ s.sR[i] (by rcases k5 with e|e|e|e|e<;>simp[e]);rw[<-hpu] at hpl;refine zt ?_;refine zw ?_;refine s5 (λ_:Unit=> [(4,pt 2),(5,iN p.2.err)]) (λ_=> [lv (Aj true p.1),lv (AZ ⟨kd,i,0,oa,ob,n⟩),lv [iN 0,iN 0,.tok 3 0 1 0 0],lv []]) (λ_=>True) ?_ ?_
  .refine tv 0 JY rfl Df AK (λK hK=>?_);unfold JY;refine Cb rfl ?_ Bp;simp -implicitDefEqProofs (maxSteps:=999999) (disch:=omega)
   repeat' (first|exact Bp|refine Eo ?_| (refine sZ [0] sp zS zS zS zS ?_;rintro _ _ ⟨rfl,rfl⟩ _;refine⟨zS,zS,?_⟩;simp -implicitDefEqProofs (maxSteps:=999999) (disch:=omega)) | (refine Cb rfl ?_ ?_<;>try exact Bp)<;>try (simp -implicitDefEqProofs (maxSteps:=999999) (disch:=omega)))
   all_goals exact hK _ _ ⟨(),trivial,Wk.fr zK⟩
  rintro _ _;refine zr ?_;simp[hpl.1,hpl.2]
 rw[zV k5];refine zn ?_;by_cases k11:kd=11
 .subst k11;obtain⟨i,rfl,hi,ho,hso,hpu⟩:=hus zD;have ev:ov=0:=by rw[zM zD] at hV;exact hV
  subst ev;obtain⟨n,rfl,hn⟩:∃n:Nat,on=n/\n<1000000:=by
   simp[Gf,B8] at hN;exact⟨on.toNat,zO,zO⟩
  have sp:=fA hR s i n oa ob hs hm hi hn;rw[<-hpu] at sp;unfold Fu at sp;refine xY ?_;intro K hK;refine sZ [0] sp zS zS zS zS ?_;rintro _ _ ⟨rfl,rfl⟩ _;refine Am ?_;exact zR
 refine xO k11 ?_;by_cases k12:kd=12
 .subst k12;obtain⟨i,rfl,hi,ho,hso,hpu⟩:=hus zD;rw[CK ho] at hso;have ev:ov=0:=by rw[zM zD] at hV;exact hV
  have ea:oa=0/\ob=0:=by rw[zM zD] at hA;exact hA
  obtain⟨rfl,rfl⟩:=ea;subst ev;obtain⟨n,rfl,hn⟩:∃n:Nat,on=n/\n<1000000:=by
   simp[Gf,B8] at hN;exact⟨on.toNat,zO,zO⟩
  have hjb:s.sR[i].job=A3\/Ct (Cf s s.sR[i].pin) s.sR[i].job=true:=by
   rcases hso.2.2 with e| ⟨e1,e2,_⟩
   .exact .inl e
   .right;unfold Cf;rw[zM e1];exact e2
  have sp:=UN s i n 12 0 0 hs hm hi hn hjb;have hpe:p=if s.sR[i].job=A3 then AE s 6 else DK s ⟨12,i,0,0,0,n⟩ s.sR[i] s.sR[i].job:=by rw[hpu];rfl
  rw[<-hpe] at sp;unfold Fu at sp;refine xY ?_;intro K hK;refine sZ [0] sp zS zS zS zS ?_;rintro _ _ ⟨rfl,rfl⟩ _;refine Am ?_;exact zR
 refine xO k12 ?_;by_cases k13:kd=13
 .subst k13;obtain⟨i,rfl,hi,ho,hso,hpu⟩:=hus zD;have sp:=cZ s i ov 13 oa ob on hs hm hi;rw[<-hpu] at sp;have hps:p.1=s:=by
   rw[hpu];unfold BM;rw[zM zS,zM zS,zM zS,zM zS,zM zS,zM zS,zP rfl];(repeat' split)<;>rfl
  refine y2 ?_;refine yj sp ?_;simp[hps]
 refine th k13 ?_;refine zw ?_;refine s5 (λq:Bool=> [(0,pt 0),(3,pt 1),(4,pt 2),(5,iN 0),(33,iN kd),(97,.bool q)]) (λ_=> [lv (Aj true s),lv (AZ ⟨kd,os,ov,oa,ob,on⟩),lv [iN 0,iN 0,.tok 3 0 1 0 0],lv []]) (λq=>q=decide (kd=14\/kd=15\/kd=16)) ?_ ?_
 .refine zc ?_ ?_<;>intro h
  .have e:=h;refine W.skip ?_;exact⟨decide (kd=14),by simp[e],Wk.fr zK⟩
  .have e0:=h;refine zs ?_;refine zc ?_ ?_<;>intro h
   .have e:=h;refine W.skip ?_;exact⟨decide (kd=15),by simp[e,e0],Wk.fr zK⟩
   .have e1:=h;refine zs ?_;exact⟨decide (kd=16),by simp[e0,e1],Wk.fr zK⟩
 rintro q rfl;by_cases k14:kd=14\/kd=15\/kd=16
 .rw[zT k14];have hnS:¬EL kd:=by rcases k14 with e|e|e<;>(rw[e];decide)
  have es0:os=0:=by rw[zM hnS] at hS;exact hS
  have ea:oa=0/\ob=0:=by rw[zM (by rcases k14 with e|e|e<;>(rw[e];decide))] at hA;exact hA
  obtain⟨rfl,rfl⟩:=ea;have en:on=0:=by unfold Gf at hN;rcases k14 with e|e|e<;>simpa[e] using hN
  subst es0 en;have hpe:p=Ft s ⟨kd,0,ov,0,0,0⟩:=by
   rw[hp];unfold D6;rw[zM (by simp only;omega),zM hnS,zM (by simp only;omega),zM (by simp only;omega)]
  have sp:=cN s kd ov k14 hs h;rw[<-hpe] at sp;unfold G1 at sp;have hpl:=VS s ⟨kd,0,ov,0,0,0⟩;rw[<-hpe] at hpl;refine zt ?_;refine zw ?_;refine s5 (λ_:Unit=> [(4,pt 2),(5,iN p.2.err)]) (λ_=> [lv (Aj true p.1),lv (AZ ⟨kd,0,ov,0,0,0⟩),lv [iN 0,iN 0,.tok 3 0 1 0 0],lv []]) (λ_=>True) ?_ ?_
  .refine tv 0 JY rfl Df AK (λK hK=>?_);unfold JY;refine Cb rfl ?_ Bp;simp -implicitDefEqProofs (maxSteps:=999999) (disch:=omega)
   repeat' (first|exact Bp|refine Eo ?_| (refine sZ [0] sp zS zS zS zS ?_;rintro _ _ ⟨rfl,rfl⟩ _;refine⟨zS,zS,?_⟩;simp -implicitDefEqProofs (maxSteps:=999999) (disch:=omega)) | (refine Cb rfl ?_ ?_<;>try exact Bp)<;>try (simp -implicitDefEqProofs (maxSteps:=999999) (disch:=omega)))
   all_goals exact hK _ _ ⟨(),trivial,Wk.fr zK⟩
  rintro _ _;refine zr ?_;simp[hpl.1,hpl.2]
 rw[zV k14];refine zn ?_;by_cases k17:kd=17
 .subst k17;have hpe:p=DE {s with keep:=on}:=by rw[hp];rfl
  refine Ue ?_;simp[hpe,DE]
 refine xO k17 ?_;have k18:kd=18:=by have:=hk.1;have:=hk.2;omega
 subst k18;obtain⟨n,rfl,hn⟩:∃n:Nat,on=n/\n<=1000:=by
  simp[Gf,B8] at hN;exact⟨on.toNat,zO,zO⟩
 have hpe:p=(MK s n,⟨0,(CJ s n).length,[]⟩):=by rw[hp];rfl
 have sp:=gR hR s n hs hx h hn;obtain⟨R,hRr⟩:∃R,R=CJ s n:=zX;have hbe:MK s n=R.getLast?.getD s:=by rw[hRr];rfl
 have hRn:R.length<=n:=by rw[hRr];exact UF n s
 rw[<-hRr] at sp hpe;refine y2 ?_;refine W.weak (sX 0 2) ?_;refine W.weak (sX 0 3) ?_;refine Ud sp ?_;have hst:p.1=R.getLast?.getD s:=by rw[hpe];exact hbe
 rcases wm R.length with r0|r0
 .have hR0:R=[]:=List.eq_nil_of_length_eq_zero r0;subst hR0;refine y3 ?_;simp only[CB,CC,BN];refine zs ?_;refine W.weak (Wk.inn 0 2) ?_;refine W.weak (Wk.inn 0 3) ?_;refine zr ?_;simp[hpe,hbe]
 obtain⟨m,hml⟩:∃m,R.length=m+1:=⟨R.length-1,zO⟩;have hmR:m<R.length:=zO;have hlast:R.getLast?=some R[m]:=by rw[List.getLast?_eq_getElem?,hml];simp[hmR]
 obtain⟨y,hy⟩:∃y,y=R[m]:=zX;have hpy:p=(y,⟨0,(m+1:Nat),[]⟩):=by rw[hpe,hbe,hlast,<-hy,hml];rfl
 have hRf:(Aa (Aj true) R).length=R.length*4:=Bk (f:=Aj true) zL _;have rat:∀q:Nat,q<4->(Aa (Aj true) R)[m*4+q]?=(Aj true y)[q]?:=λq hq=>by rw[hy];exact Au (f:=Aj true) (s:=4) zL hmR hq
 refine W.weak (te (B:=6) (v:=0) (j:=m*4+2) (s:=8) (n:=y.sQ.length) (cs:=Aa (Aj true) R) (xs:=Aa As y.sQ) zF (rat 2 zO)) ?_;refine W.weak (te (B:=6) (v:=0) (j:=m*4+3) (s:=12) (n:=y.sR.length) (cs:=(Aa (Aj true) R).set (m*4+2) (.tok 7 0 8 0 y.sQ.length)) (xs:=Aa (Af true) y.sR) zF (by rw[uN zO];exact rat 3 zO)) ?_;obtain⟨L,hL⟩:∃L,L=((Aa (Aj true) R).set (m*4+2) (.tok 7 0 8 0 y.sQ.length)).set (m*4+3) (.tok 8 0 12 0 y.sR.length):=zX;have hLl:True->L.length=R.length*4:=λ_=>by rw[hL];simp[hRf]
 have n0:L[m*4]?=some (iN y.keep):=by rw[hL,uN zO,uN zO];exact rat 0 zO
 have n1:L[m*4+1]?=some (iN y.sS):=by rw[hL,uN zO,uN zO];exact rat 1 zO
 have n2:L[m*4+1+1]?=some (.tok 7 0 8 0 y.sQ.length):=by
  show L[m*4+2]?=_;rw[hL,uN zO,uO (by rw[hRf];omega)]
 have n3:L[m*4+1+1+1]?=some (.tok 8 0 12 0 y.sR.length):=by
  show L[m*4+3]?=_;rw[hL,uO (by rw[vS,hRf];omega)]
 show W _ _ _ _ _ [_,_,_,_,_,_,lv (((Aa (Aj true) R).set (m*4+2) (.tok 7 0 8 0 y.sQ.length)).set (m*4+3) (.tok 8 0 12 0 y.sR.length)),_,_] _;rw[<-hL];have r1:(0:Int)<(R.length:Int):=zO;have e1:(R.length:Int)-1=(m:Int):=zO;refine xP r0 ?_;refine zg (an e1 (an n0 (an n1 (an n2 (an n3 hmR))))) ?_;simp only[CB,CC,BN];refine zs ?_;refine W.weak (Wk.inn 0 2) ?_;refine W.weak (Wk.inn 0 3) ?_;refine zr ?_;simp[hpy,hml]
theorem CP {c:Prop} [Decidable c] {a b:An×HA} {s:An} (ha:a.2.err=0\/a.2.err=8\/a=(s,⟨a.2.err,0,[]⟩)) (hb:b.2.err=0\/b.2.err=8\/b=(s,⟨b.2.err,0,[]⟩)):(if c then a else b).2.err=0\/(if c then a else b).2.err=8\/(if c then a else b)=(s,⟨(if c then a else b).2.err,0,[]⟩):=by
 split<;>assumption
theorem fG (s:An) (o:Cy):(D6 s o).2.err=0\/(D6 s o).2.err=8\/D6 s o=(s,⟨(D6 s o).2.err,0,[]⟩):=by
 have hb:∀e,(AE s e).2.err=0\/(AE s e).2.err=8\/AE s e=(s,⟨(AE s e).2.err,0,[]⟩):=λe=> .inr (.inr rfl);have hk:∀y:An,(DE y).2.err=0\/(DE y).2.err=8\/DE y=(s,⟨(DE y).2.err,0,[]⟩):=λy=> .inl rfl;have ha:∀(u:B3) (j:B7),(DK s o u j).2.err=0\/(DK s o u j).2.err=8\/DK s o u j=(s,⟨(DK s o u j).2.err,0,[]⟩):=λu j=>by
  unfold DK;exact CP (.inl rfl) (.inr (.inl rfl))
 have hc:∀(u:B3),(E3 s o u).2.err=0\/(E3 s o u).2.err=8\/E3 s o u=(s,⟨(E3 s o u).2.err,0,[]⟩):=λu=>by
  unfold E3;exact CP (hb _) (CP (hb _) (CP (hb _) (.inl rfl)))
 have hu:∀(u:B3),(BM s o u).2.err=0\/(BM s o u).2.err=8\/BM s o u=(s,⟨(BM s o u).2.err,0,[]⟩):=λu=>by
  unfold BM;exact CP (hk _) (CP (CP (hb _) (CP (hb _) (hk _))) (CP (CP (hb _) (hk _)) (CP (CP (hb _) (hk _)) (CP (CP (hb _) (CP (hb _) (ha _ _))) (CP (CP (hb _) (ha _ _)) (CP (CP (hb _) (CP (hb _) (.inl rfl))) (CP (hb _) (CP (hk _) (CP (hc _) (CP (hb _) (hk _)))))))))))
 have ho:(Gg s).2.err=0\/(Gg s).2.err=8\/Gg s=(s,⟨(Gg s).2.err,0,[]⟩):=by
  unfold Gg;split
  .exact .inl rfl
  .exact hb _
 have hm:(Ft s o).2.err=0\/(Ft s o).2.err=8\/Ft s o=(s,⟨(Ft s o).2.err,0,[]⟩):=by
  unfold Ft;refine CP (hb _) ?_;split
  .exact hb _
  .exact CP (hb _) (CP (hb _) (CP (hb _) (hk _)))
 unfold D6;exact CP ho (CP (CP (hb _) (hu _)) (CP (hk _) (CP (.inl rfl) hm)))
def jp:Tr:= .a 0 (.a 1 (.a 2 (.a 3 (.a 4 (.a 5 (.a 6 (.l []) .s) .s) (.a 5 (.a 4 (.a 6 (.l []) .s) .s) .s)) (.a 4 (.a 3 (.a 5 (.a 6 (.l []) .s) .s) .s) .s)) .s) (.a 4 (.a 1 (.a 2 (.a 3 (.a 5 (.a 6 (.l []) .s) .s) .s) .s) .s) .s)) .s
theorem gY (hR:BK) (s:An) (o:Cy) (hs:A0 s) (hx:BO s) (h:A2 s) (hO:DV o):Ac pg 51 [.agg (Aj false s),.agg (AZ o)] [] (λr _=>r= .tup [.agg (Aj true (D6 s o).1),.agg (Fm true (D6 s o).2)]):=by
 have h1:=hs.1;have h2:=hs.2.1;have spO:=SW s hs hx;have spD:=da hR s o hs hx h hO;have hbad:=fG s o;obtain⟨p,hp⟩:∃p,p=D6 s o:=zX;rw[<-hp] at spD hbad |-;unfold Fu at spD;refine zE (fn:=Tryz.f51) [.cell 4 25,.cell 5 45] ?_;rw[Aq];refine ed ?_;intro K hK;simp -implicitDefEqProofs (disch:=omega);refine zk ?_;refine z1 ?_;intro K hK;refine tg spO zS ?_;refine Am ?_;refine W.weak (Wk.inn 4 2) ?_;refine W.weak (Wk.inn 4 3) ?_;refine W.weak (sU (k:=5) (S:=[(2,pt 0),(3,pt 1),(4,pt 2),(5,pt 3),(6,pt 4)]) (M:=[lv (Aj false s),lv (AZ o),lv (Aj true Av),lv [iN 0,iN 0,.own 1 0 []],lv (Aj true s)]) zK (by simp[Aj,KV,GF,Av]) zS zS zS zS) ?_;refine z1 ?_;intro K hK;refine sZ [4] spD zS zS zS zS ?_;rintro _ _ ⟨rfl,rfl⟩ _;refine Am ?_;refine zw ?_;refine s5 (λq:Bool=> [(2,pt 0),(3,pt 1),(4,pt 2),(5,pt 3),(6,pt 4),(7,pt 5),(8,iN p.2.err),(24,.bool q)]) (λ_=> [lv (Aj false s),lv (AZ o),lv (Aj true Av),lv [iN 0,iN 0,.own 1 0 []],lv (Aj true p.1),lv [iN 0,iN p.2.n,.tok 6 0 1 0 p.2.list.length],lv (Ab p.2.list)]) (λq=>q=decide (p.2.err=0\/p.2.err=8)) ?_ ?_
 .by_cases c0:p.2.err=0
  .refine zg c0 ?_;exact⟨true,by simp[c0],Wk.fr (by simp[AA,c0])⟩
  .by_cases c8:p.2.err=8
   .refine zg (an c0 c8) ?_;exact⟨true,by simp[c8],Wk.fr (by simp[AA,c8])⟩
   .refine zg (an c0 c8) ?_;exact⟨false,by simp[c0,c8],Wk.fr zK⟩
 rintro q rfl;by_cases c:p.2.err=0\/p.2.err=8
 .rw[zT c];refine W.weak (sX 4 2) ?_;refine W.weak (sX 4 3) ?_;refine yt ?_;refine s5 (λ_:Unit=> [(4,pt 2),(5,pt 3)]) (λ_=> [lv (Aj false s),lv (AZ o),lv [iN p.1.keep,iN p.1.sS,.tok 7 0 8 0 p.1.sQ.length,.tok 8 0 12 0 p.1.sR.length],lv [iN p.2.err,iN p.2.n,.tok 6 0 1 0 p.2.list.length],lv [iN p.1.keep,iN p.1.sS,.tok 7 0 8 0 p.1.sQ.length,.tok 8 0 12 0 p.1.sR.length],lv [iN p.2.err,iN p.2.n,.tok 6 0 1 0 p.2.list.length],lv (Ab p.2.list),lv (Aa As p.1.sQ),lv (Aa (Af true) p.1.sR)]) (λ_=>True) ?_ ?_
  .refine tv 0 jp rfl Df AK (λK hK=>?_);unfold jp
   repeat' (first|exact Bp|refine Eo ?_| (refine Cb rfl ?_ ?_<;>try exact Bp)<;>try (simp -implicitDefEqProofs (maxSteps:=999999) (disch:=omega)))
   all_goals exact hK _ _ ⟨(),trivial,Wk.fr zK⟩
  rintro _ _;exact zR
 rw[zV c];have hpb:p=(s,⟨p.2.err,0,[]⟩):=by
  rcases hbad with e|e|e
  .exact absurd (.inl e) c
  .exact absurd (.inr e) c
  .exact e
 refine xY ?_;intro K hK;refine tg spO zS ?_;refine Am ?_;refine W.weak (sX 3 2) ?_;refine zr ?_;simp[show p.1=s by rw[hpb],show p.2.n=0 by rw[hpb],show p.2.list=[] by rw[hpb]]
def ZW:Tr:= .a 0 (.a 1 (.a 2 (.a 3 (.a 4 (.l []) .s) .s) .s) (.a 2 (.a 1 (.a 3 (.a 4 (.l []) .s) .s) .s) .s)) (.a 1 (.a 0 (.a 2 (.a 3 (.a 4 (.l []) .s) .s) .s) .s) .s)
theorem Rf (hR:BK) (s:An) (o:Cy) (hs:A0 s) (hx:BO s):Ac pg 17 [.agg (Aj false s),.agg (AZ o)] [] (λr _=>r= .tup (if A2 s/\DV o then [.agg (Aj true (D6 s o).1),.agg (Fm true (D6 s o).2),iN 0] else [.agg (Aj true Av),.agg (Fm true ⟨0,0,[]⟩),iN 1])):=by
 have spC:=YM hR s hs hx;have spM:=cC o;refine zE (fn:=Tryz.f17) [.cell 4 25,.cell 5 45,.tmp 6] ?_;rw[Aq];refine ed ?_;intro K hK;simp -implicitDefEqProofs (disch:=omega);refine zk ?_;refine zw ?_;refine s5 (λq:Bool=> [(2,pt 0),(3,pt 1),(4,pt 2),(5,pt 3),(6,iN 0),(14,.bool q)]) (λ_=> [lv (Aj false s),lv (AZ o),lv (Aj true Av),lv [iN 0,iN 0,.own 1 0 []]]) (λq=>q=decide (¬(A2 s/\DV o))) ?_ ?_
 .by_cases c1:A2 s
  .rw[zT c1] at spC;by_cases c2:DV o
   .rw[zT c2] at spM;refine Hm spC spM ?_;exact⟨false,by simp[c1,c2],Wk.fr zK⟩
   .rw[zV c2] at spM;refine Hm spC spM ?_;exact⟨true,by simp[c2],Wk.fr zK⟩
  .rw[zV c1] at spC;refine AL spC ?_;exact⟨true,by simp[c1],Wk.fr zK⟩
 rintro q rfl;refine W.weak (sX 2 2) ?_;refine W.weak (sX 2 3) ?_;refine W.weak (sX 3 2) ?_;by_cases c:A2 s/\DV o
 .rw[zV (λh=>h c),zP c];have spG:=gY hR s o hs hx c.1 c.2;obtain⟨x,hxd⟩:∃x,x=D6 s o:=zX;rw[<-hxd] at spG |-;refine y2 ?_;refine AL spG ?_;refine zw ?_;refine s5 (λ_:Unit=> [(4,pt 2),(5,pt 3),(6,iN 0)]) (λ_=> [lv (Aj false s),lv (AZ o),lv [iN x.1.keep,iN x.1.sS,.tok 7 0 8 0 x.1.sQ.length,.tok 8 0 12 0 x.1.sR.length],lv [iN x.2.err,iN x.2.n,.tok 9 0 1 0 x.2.list.length],lv [],lv [],lv [],lv (Aa As x.1.sQ),lv (Aa (Af true) x.1.sR),lv (Ab x.2.list)]) (λ_=>True) ?_ ?_
  .refine tv 0 ZW rfl Df AK (λK hK=>?_);unfold ZW
   repeat' (first|exact Bp|refine Eo ?_| (refine Cb rfl ?_ ?_<;>try exact Bp)<;>try (simp -implicitDefEqProofs (maxSteps:=999999) (disch:=omega)))
   all_goals exact hK _ _ ⟨(),trivial,Wk.fr zK⟩
  rintro _ _;exact zR
 rw[zT c,zM c];refine zt ?_;refine zw ?_;refine s5 (λ_:Unit=> [(4,pt 2),(5,pt 3),(6,iN 1)]) (λ_=> [lv (Aj false s),lv (AZ o),lv [iN 0,iN 0,.tok 4 0 8 0 0,.tok 5 0 12 0 0],lv [iN 0,iN 0,.tok 6 0 1 0 0],lv [],lv [],lv []]) (λ_=>True) ?_ ?_
 .refine tv 0 ZW rfl Df AK (λK hK=>?_);unfold ZW
  repeat' (first|exact Bp|refine Eo ?_| (refine Cb rfl ?_ ?_<;>try exact Bp)<;>try (simp -implicitDefEqProofs (maxSteps:=999999) (disch:=omega)))
  all_goals exact hK _ _ ⟨(),trivial,Wk.fr zK⟩
 rintro _ _;refine zr ?_;simp[Av]
theorem Zw (xs ys:List Bn) (hx:xs.length<4611686018427387904):Ac pg 73 [.ro xs.length (Aa As xs),.ro ys.length (Aa As ys)] [] (λr _=>r= .bool (decide (xs=ys))):=by
 refine zE (fn:=Tryz.f73) [.tmp 4] ?_;rw[Aq];refine zs ?_;refine zs ?_;refine zc ?_ ?_<;>intro h
 .refine zs ?_;refine zr ?_;intro e;exact h (by rw[e])
 .refine W.skip ?_;have hl:xs.length=ys.length:=zO;refine xR ?_;refine sV (λk:Nat=> [(0,.ro xs.length (Aa As xs)),(1,.ro ys.length (Aa As ys)),(12,iN xs.length),(13,iN k)]) (λ_=> []) (λk=>xs.length-k) (λk=>k<=xs.length/\xs.take k=ys.take k) 0 (Wk.fr ?_) zS ?_
  .simp[AA]
  .rintro k ⟨hk,ht⟩;refine zs ?_;refine zc ?_ ?_<;>intro h
   .refine W.skip ?_;have hlt:k<xs.length:=zO;have hlt' :k<ys.length:=zO;refine zb ?_;refine zs ?_;refine E1 ?_;intro K hK;simp -implicitDefEqProofs (disch:=omega) [hlt,hlt',As];refine zk ?_;refine zc ?_ ?_<;>intro h
    .refine Bd ?_;intro e;subst e;simp at h
    .refine W.skip ?_;have he:xs[k]=ys[k]:=by
      generalize xs[k]=x at h;generalize ys[k]=y at h;obtain⟨a1,a2,a3,⟨a4,a5⟩,a6,a7,a8⟩:=x;obtain⟨b1,b2,b3,⟨b4,b5⟩,b6,b7,b8⟩:=y;simp at h;simp[h]
     refine zs ?_;refine⟨k+1,zO,⟨zO,?_⟩,Wk.fr ?_⟩
     .rw[uV,uV,ht];simp[hlt,hlt',he]
     .simp[AA]
   .refine s7 ?_;have hk' :k=xs.length:=zO;subst hk';refine Bd ?_;rw[uW,hl,uW] at ht;simp[ht]
theorem Zx (a b:An) (ha:A0 a):Ac pg 33 [.agg (Aj false a),.agg (Aj false b)] [] (λr _=>r= .bool (ML a b)):=by
 have h1:=ha.1;have spE:=Zw a.sQ b.sQ zO;unfold ML;refine zE (fn:=Tryz.f33) [.tmp 4] ?_;rw[Aq];refine Cx ?_;by_cases c1:a.keep=b.keep
 .by_cases c2:a.sS=b.sS
  .refine GL (an c1 c2) spE ?_;refine zr ?_;simp[c1,c2]
  .refine zg (an c1 c2) ?_;exact zR
 .refine zg c1 ?_;exact zR
theorem gZ {xs:List Cy} {k:Nat} (h:k<xs.length):(Aa AZ xs)[k*6]?=some (iN xs[k].kind)/\(Aa AZ xs)[k*6+1]?=some (iN xs[k].s)/\(Aa AZ xs)[k*6+1+1]?=some (iN xs[k].v)/\
 (Aa AZ xs)[k*6+1+1+1]?=some (iN xs[k].a)/\(Aa AZ xs)[k*6+1+1+1+1]?=some (iN xs[k].b)/\(Aa AZ xs)[k*6+1+1+1+1+1]?=some (iN xs[k].n):=
 ⟨Au (f:=AZ) (s:=6) zL h (i:=0) zO,Au (f:=AZ) (s:=6) zL h (i:=1) zO,Au (f:=AZ) (s:=6) zL h (i:=2) zO,
  Au (f:=AZ) (s:=6) zL h (i:=3) zO,Au (f:=AZ) (s:=6) zL h (i:=4) zO,Au (f:=AZ) (s:=6) zL h (i:=5) zO⟩
theorem Zy {s:An} (h:HP 1500 s):A0 s/\BO s:=by
 obtain⟨h1,h2,h3,h4⟩:=h;refine⟨⟨zO,zO,λv hv=>by have:=h3 v hv;omega⟩,λx hx=>?_⟩;obtain⟨k1,k2,k3,k4⟩:=h4 x hx;exact⟨⟨zO,λl hl=>by have:=k2 l hl;omega⟩,zO,zO⟩
def su (b k:Int):An×Int:=if (1<=b/\b<=100)/\(1<=k/\k<=8) then(EX b k,0) else(Av,1)
def sw (s x:An) (g:Gr):Prop:=∃b,Ae x=Ae s++[b]/\b.id=At s.sQ+1/\AT (Ae s++[b]) b.id=(g,0)
theorem Rg {s:An} (h:A2 s):A0 s/\BO s:=by
 have hm:BJ (Ae s):=h.1.1.2.2.2.2.2.2;have hl:=(K7 (Ae s)).1 hm;have hl1:s.sQ.length<=12:=by have:=hl.1;simpa[Ae] using this
 refine⟨⟨zO,by have:=h.1.2.1;omega,λv hv=>?_⟩,λx hx=>?_⟩
 .obtain⟨k,hk,rfl⟩:=List.mem_iff_getElem.1 hv;have:=(hl.2 k (by simpa[Ae] using hk)).1.2.2.1;simp only[Ae,List.getElem_map,B2] at this;have h2:=this.2.1;have h3:=this.2.2.1;omega
 .have hs:=h.1.2.2.2 x hx;by_cases ho:x.opn=true
  .rw[CK ho] at hs;obtain⟨_,hst,hj⟩:=hs;have hg:AP x.sT:=by
    by_cases hon:x.on=true
    .rw[zP hon] at hst;exact hst.2.2
    .rw[zM hon] at hst;rw[hst.2];exact⟨by simp[Az],by simp[Az],by simp[Az],by simp[Az],by simp[Az,Br]⟩
   refine⟨hg.inn,?_⟩;rcases hj with e| ⟨_,hj,_⟩
   .rw[e];exact⟨by simp[A3],by simp[A3]⟩
   .have hg2:=Da (Ae s) x.pin;have:=((Ir hg2 hj).1).small hg2;exact⟨zO,zO⟩
  .have hz:x=BU:=by
    unfold AQ at hs
    rwa [zP (by simpa using ho)] at hs
   rw[hz];exact⟨⟨by simp[BU,Az],by simp[BU,Az]⟩,by simp[BU,A3],by simp[BU,A3]⟩
theorem Nl (e:Int):Ac pg 18 [iN e] [] (λr _=>r=iN e):=by
 refine zE (fn:=Tryz.f18) [.tmp 2] ?_;rw[AC];exact Ny
theorem XS (S:An) (O:List Cy) (hS:Ji S) (hO:O.length<Gw):Ac pg 13 [.agg (Bo S O)] [] (λr _=>∃b,r= .bool b/\(b=false->HP 700 S/\O.length<=400)):=by
 have spW:=Q6 S hS;simp only[Gw] at hO;simp only[Bo,Aj,List.cons_append,List.nil_append];refine zE (fn:=Tryz.f13) [.tmp 2] ?_;rw[AC];refine AX ?_;by_cases c2:O.length<=400
 .have c2' :¬(400:Int)<O.length:=zO;refine z0 ?_;intro K hK;refine tr spW zS ?_;rintro r ⟨n,rfl,hn1,hn2⟩;refine⟨zS,?_⟩;by_cases c1:n<=700
  .have c1' :¬(700:Int)<n:=zO;refine xK (an c1' c2') ?_;refine zr ?_;exact⟨(hn2 zO).mono c1,c2⟩
  .have c1' :(700:Int)<n:=zO;refine xK c1' ?_;exact zR
 .have c2' :(400:Int)<O.length:=zO;refine z0 ?_;intro K hK;refine tr spW zS ?_;rintro r ⟨n,rfl,hn1,hn2⟩;refine⟨zS,?_⟩;by_cases c1:n<=700
  .have c1' :¬(700:Int)<n:=zO;refine xK (an c1' c2') ?_;exact zR
  .have c1' :(700:Int)<n:=zO;refine xK c1' ?_;exact zR
def Oh:An:=(D6 (EX 9 2) ⟨1,0,0,0,0,0⟩).1
def PX:An:=(D6 Oh ⟨5,0,0,0,0,0⟩).1
def VT:An×HA:=D6 PX ⟨9,0,0,0,0,0⟩
theorem fH:VT.2.n=1:=AK
theorem fI:VT.1.sQ.length=1:=AK
theorem XT (hR:BK):Ac pg 25 [] [] (λr _=>r= .bool true):=by
 have spN:=ff 9 2;have i0:=Rg VD;have k1:A2 Oh:=Tf VD zD;have i1:=Rg k1;have k2:A2 PX:=Tf k1 zD;have i2:=Rg k2;have sp1:=Rf hR (EX 9 2) ⟨1,0,0,0,0,0⟩ i0.1 i0.2;rw[zP ⟨VD,zD⟩] at sp1;have sp2:=Rf hR Oh ⟨5,0,0,0,0,0⟩ i1.1 i1.2;rw[zP ⟨k1,zD⟩] at sp2;have sp3:=Rf hR PX ⟨9,0,0,0,0,0⟩ i2.1 i2.2;rw[zP ⟨k2,zD⟩] at sp3;have hn:=fH;have hv:=fI;have e1:(D6 (EX 9 2) ⟨1,0,0,0,0,0⟩).1=Oh:=rfl;have e2:(D6 Oh ⟨5,0,0,0,0,0⟩).1=PX:=rfl;have e3:D6 PX ⟨9,0,0,0,0,0⟩=VT:=rfl;rw[e1] at sp1;rw[e2] at sp2;rw[e3] at sp3;clear e1 e2 e3 k1 k2 i0 i1 i2;generalize (D6 (EX 9 2) ⟨1,0,0,0,0,0⟩).2=r1 at sp1;generalize (D6 Oh ⟨5,0,0,0,0,0⟩).2=r2 at sp2;generalize VT=z3 at*;generalize Oh=s1 at*;generalize PX=s2 at*;obtain⟨s,hsd⟩:∃s,s=EX 9 2:=zX;rw[<-hsd] at spN sp1;refine zE (fn:=Tryz.f25) [.tmp 0] ?_;rw[eW];refine zs ?_;refine EU spN ?_;refine EU sp1 ?_;refine EU sp2 ?_;refine EU sp3 ?_;refine z0 ?_;intro K hK;refine zj (Nl 0) ?_;refine zj (Nl 0) ?_;refine sW (Nl 0) (by simp) (by simp) ?_;refine xK (an hn hv) ?_;exact zR
theorem Po {s:An} {o:Cy} {u:B3} {j:B7} (hj:Ct (Cf s u.pin) j=true):(DK s o u j).2.list.length<1000000:=by
 have h1:=KD (D4 s u.pin) o.n.toNat j hj;have h2:=((Ir (D4 s u.pin) h1).1).small (D4 s u.pin);unfold DK;split<;>simp only[List.length_nil]<;>omega
theorem TL (s:An) (o:Cy) (u:B3):(E3 s o u).2.list.length=0:=by
 unfold E3
 repeat' split
 all_goals rfl
theorem XU {s:An} {o:Cy} (h:A2 s) (hO:DV o) (hi:B8 o.s 0 2) (ho:(CG s o.s).opn=true):(BM s o (CG s o.s)).2.list.length<1000000:=by
 obtain⟨hk,e,hs⟩:=Is h hi;rw[CK ho] at hs;unfold BM;by_cases k2:o.kind=2
 .rw[zP k2];simp[DE]
 rw[zM k2];by_cases k3:o.kind=3
 .rw[zP k3];repeat' split
  all_goals simp[DE,AE]
 rw[zM k3];by_cases k4:o.kind=4
 .rw[zP k4];repeat' split
  all_goals simp[DE,AE]
 rw[zM k4];by_cases k5:o.kind=5
 .rw[zP k5];repeat' split
  all_goals simp[DE,AE]
 rw[zM k5];by_cases k11:o.kind=11
 .rw[zP k11];split
  .simp[AE]
  rename_i c1;split
  .simp[AE]
  rename_i c2;exact Po (Lt (D4 s _) (Classical.not_not.1 c2))
 rw[zM k11];by_cases k12:o.kind=12
 .rw[zP k12];split
  .simp[AE]
  rename_i c1;have:=hs.2.2.resolve_left c1;refine Po ?_;unfold Cf;rw[zM this.1];exact this.2.1
 rw[zM k12];by_cases k13:o.kind=13
 .rw[zP k13];split
  .simp[AE]
  split
  .simp[AE]
  have hg:=D4 s (CG s o.s).pin;have hl:(Fs (Cf s (CG s o.s).pin) (Cf s o.v)).length<=120:=by
   have h1:=hg.2.2.2.2;have h2:=GA (Cf s (CG s o.s).pin).n (Cf s (CG s o.s).pin).out;have h3:=vY (λp=> ! decide (DC (Cf s o.v) p.1/\(AF (Cf s o.v) p.1).contains p.2=true)) (Cm (Cf s (CG s o.s).pin));have h4:(Cm (Cf s (CG s o.s).pin)).length=Br (Cf s (CG s o.s).pin).out:=h2;unfold Fs;omega
  have:=IY (Fs (Cf s (CG s o.s).pin) (Cf s o.v));show(HB _).length<_;omega
 rw[zM k13];split
 .simp[AE]
 split
 .simp[DE]
 split
 .rw[TL];omega
 split
 .simp[AE]
 .simp[DE]
theorem dc {s:An} {o:Cy} (h:A2 s) (hO:DV o):(D6 s o).2.list.length<1000000:=by
 unfold D6;split
 .unfold Gg;split<;>simp[AE]
 split
 .rename_i c;have hi:=hO.2.2.1;rw[zP c] at hi;split
  .simp[AE]
  .rename_i c2;exact XU h hO hi (by simpa using c2)
 split
 .simp[DE]
 split
 .simp
 .unfold Ft;split
  .simp[AE]
  split
  .simp[AE]
  repeat' split
  all_goals simp[DE,AE]
theorem Lv (l:List Int) (b:Int):(0<=AN (λy=>decide (y=b)) l)↔l.contains b=true:=by
 rw[C9,xx];constructor
 .rintro⟨x,hx,h⟩;have:x=b:=by simpa using h
  exact this ▸ hx
 .intro h;exact⟨b,h,zS⟩
theorem Tj (g:Gr) (a b:Int) (hg:AP g):Ac pg 191 [.agg (A1 false g),iN a,iN b] [] (λr _=>r= .bool (decide (DC g a/\(AF g a).contains b=true))):=by
 have h1:=hg.1;have h2:=hg.2.1;have spN:=FS a (g.n-1);refine zE (fn:=Tryz.f191) [.tmp 6] ?_;rw[A6];refine AX ?_;by_cases c:DC g a
 .have c' :0<=a/\a<=g.n-1:=⟨c.1,by have:=c.2;omega⟩;rw[zT c'] at spN;obtain⟨k,rfl⟩:∃k:Nat,a=k:=⟨a.toNat,by have:=c.1;omega⟩;have hk:k<g.out.length:=by have:=c.2;have:=hg.2.2.1;omega
  obtain⟨l,hl⟩:∃l,l=g.out[k]:=zX;have hml:AU l:=by rw[hl];exact(hg.2.2.2.1 _ (uQ hk)).1
  have hll:=Bw hml;have eb:AF g k=l:=by simp[AF,hk,hl]
  have hl2:g.out[k]?=some l:=by rw[hl];simp[hk]
  have spI:=Lb l b zO;obtain⟨q,hq⟩:∃q,q=AN (λy=>decide (y=b)) l:=zX;have hqc:=Lv l b;rw[<-hq] at spI hqc;refine z0 ?_;intro K hK;refine sW spN (by simp) (by simp) ?_;simp only[Et];simp -implicitDefEqProofs (disch:=omega) [hk,<-hl];refine xN spI ?_;refine zr ?_;rw[eb];simp[c,hqc]
 .have c' :¬(0<=a/\a<=g.n-1):=λe=>c ⟨e.1,zO⟩;rw[zV c'] at spN;refine yj spN ?_;simp[c]
theorem Zz (g:Gr) (hg:AP g):Ac pg 60 [.agg (A1 false g)] [] (λr _=>r= .own 2 (Cm g).length (Aa Al (Cm g))):=by
 have h1:=hg.2.1;have h2:=hg.2.2.1;have h3:=hg.2.2.2.2;have ep:Cm g=Cm ⟨0,g.out⟩:=rfl;rw[ep];have hel:=GA 0;refine zE (fn:=Tryz.f60) [.tmp 2] ?_;rw[AC];refine AX ?_;refine xV ?_;refine sV (λs:Nat×List (Int×Int)=> [(1,pt 0),(3,.tok 1 s.2.length 2 0 s.2.length),(4,iN s.1)]) (λs=> [lv (A1 false g),.live s.2.length (Aa Al s.2)]) (λs=>g.out.length-s.1) (λs=>s.1<=g.out.length/\s.2=Cm ⟨0,g.out.take s.1⟩) (0,[]) ((Wk.nil (t:=3) (s:=2) ?_).trans (Wk.fr ?_)) (by simp[Cm]) ?_
 .simp
 .simp[AA]
 rintro⟨k,acc⟩ ⟨hk,hacc⟩;simp only at hk hacc;have hal:acc.length=Br (g.out.take k):=by rw[hacc];exact hel _
 by_cases c1:k<g.out.length;rotate_left
 .have hke:k=g.out.length:=zO;have c1' :¬(k:Int)<g.n:=zO;refine x3 c1' ?_;subst hke;rw[uW] at hacc;rw[<-hacc];simp[uM]
 have c1' :(k:Int)<g.n:=zO;have hst:=Pn c1;have hs:=IK c1;have ht:=IJ g.out (k+1);obtain⟨l,hl⟩:∃l,l=g.out[k]:=zX;have hl2:g.out[k]?=some l:=by rw[hl];simp[c1]
 rw[<-hl] at hst hs;refine yr c1' ?_;refine W.block (sV (λj:Nat=> [(1,pt 0),(3,.tok 1 (acc.length+j) 2 0 (acc.length+j)),(4,iN k),(5,iN j)]) (λj=> [lv (A1 false g),.live (acc.length+j) (Aa Al (acc++(l.take j).map λb=>((k:Int),b)))]) (λj=>l.length-j) (λj=>j<=l.length) 0 (sU (k:=2) zK zS zS zS zS zS) zS ?_);intro j hj;by_cases c2:j<l.length;rotate_left
 .have hje:j=l.length:=zO;subst hje;refine Dx ?_;intro K hK;simp -implicitDefEqProofs (disch:=omega) [c1,c2,<-hl];refine zk ?_;refine y3 ?_;refine⟨(k+1,Cm ⟨0,g.out.take (k+1)⟩),by simp only;omega,⟨by simp only;omega,rfl⟩,?_⟩;have hlen:(Cm ⟨0,g.out.take (k+1)⟩).length=acc.length+l.length:=by rw[hel];omega
  simp only[hlen];rw[hst,<-hacc];exact sU (k:=2) zK zS zS zS zS zS
 have etk:(l.take (j+1)).map (λb=>((k:Int),b))=(l.take j).map (λb=>((k:Int),b))++[((k:Int),l[j])]:=by
  rw[uV,uT c2,wo];rfl
 have htl:(l.take j).length=j:=Ao;have hfl:(Aa Al (acc++(l.take j).map λb=>((k:Int),b))).length=(acc.length+j)*2:=by rw[Bk (f:=Al) (s:=2) zL];simp;omega
 refine Dx ?_;intro K hK;simp -implicitDefEqProofs (disch:=omega) [c1,c2,<-hl];refine zk ?_;refine y3 ?_;have r2:Bv 1 [AV.int .i64 0,AV.int .i64 0]=[iN 0,iN 0]:=rfl;refine GK ?_;intro K hK;simp -implicitDefEqProofs (disch:=omega) [c1,c2,<-hl,r2,hfl];refine⟨zO,zO,?_⟩;refine xM ?_;refine⟨j+1,zO,zO,sU (k:=2) (by simp[AA,wx]) ?_ zS zS zS zS⟩;have e3:Aa Al (acc++(l.take (j+1)).map λb=>((k:Int),b))=Aa Al (acc++(l.take j).map λb=>((k:Int),b))++[iN k,iN l[j]]:=by rw[etk,<-uZ,BI];rfl
 rw[e3];simp[wx]
theorem dg (a b:Gr) (ha:AP a) (hb:AP b):Ac pg 141 [.agg (A1 false a),.agg (A1 false b)] [] (λr _=>r= .own 2 (Fs a b).length (Aa Al (Fs a b))):=by
 have spP:=Zz a ha;have hpl:(Cm a).length<=120:=by
  have h3:=ha.2.2.2.2;have:=GA a.n a.out;have e:(Cm a).length=Br a.out:=this;omega
 obtain⟨L,hL⟩:∃L,L=Cm a:=zX;have hle:Fs a b=L.filter λp=> ! decide (DC b p.1/\(AF b p.1).contains p.2=true):=by rw[hL];rfl
 rw[<-hL] at spP hpl;obtain⟨Z,hZ⟩:∃Z,Z=Fs a b:=zX;rw[<-hZ] at hle |-;refine zE (fn:=Tryz.f141) [.tmp 4] ?_;rw[Aq];refine Cx ?_;refine zs ?_;refine AL spP ?_;refine xR ?_;refine sV (λs:Nat×List (Int×Int)=> [(2,pt 0),(3,pt 1),(5,.tok 3 s.2.length 2 0 s.2.length),(6,.tok 2 0 2 0 L.length),(7,iN s.1)]) (λs=> [lv (A1 false a),lv (A1 false b),lv (Aa Al L),.live s.2.length (Aa Al s.2)]) (λs=>L.length-s.1) (λs=>s.1<=L.length/\s.2=(L.take s.1).filter λp=> ! decide (DC b p.1/\(AF b p.1).contains p.2=true)) (0,[]) ((Wk.nil (t:=5) (s:=2) ?_).trans (Wk.fr ?_)) zS ?_
 .simp
 .simp[AA]
 rintro⟨k,acc⟩ ⟨hk,hacc⟩;simp only at hk hacc;have hal:acc.length<=k:=by
  rw[hacc];refine Nat.le_trans (vY _ _) ?_;rw[wy];omega
 by_cases c1:k<L.length;rotate_left
 .have hke:k=L.length:=zO;subst hke;refine x3 c1 ?_;rw[uW] at hacc;have e:acc=Z:=by rw[hle,hacc]
  rw[e];simp[uM]
 have g0:(Aa Al L)[k*2]?=some (iN L[k].1):=Au (f:=Al) (s:=2) zL c1 (i:=0) zO;have g1:(Aa Al L)[k*2+1]?=some (iN L[k].2):=Au (f:=Al) (s:=2) zL c1 (i:=1) zO;obtain⟨x,hx⟩:∃x,x=L[k]:=zX;rw[<-hx] at g0 g1;have spH:=Tj b x.1 x.2 hb;obtain⟨q,hq⟩:∃q,q=decide (DC b x.1/\(AF b x.1).contains x.2=true):=zX;rw[<-hq] at spH;have etk:(L.take (k+1)).filter (λp=> ! decide (DC b p.1/\(AF b p.1).contains p.2=true))=acc++if q then [] else [x]:=by
  rw[uV,uT c1,List.filter_append,<-hacc,<-hx];congr 1;cases hqq:q
  .rw[hqq] at hq;simp only[Option.toList];rw[List.filter_cons_of_pos (by rw[<-hq];rfl)];rfl
  .rw[hqq] at hq;simp only[Option.toList];rw[List.filter_cons_of_neg (by rw[<-hq];simp)];rfl
 refine xL c1 ?_;refine OC (an c1 (an g0 g1)) spH ?_;cases q
 .have hfl:(Aa Al acc).length=acc.length*2:=Bk (f:=Al) (s:=2) zL _;have r2:Bv 1 [AV.int .i64 0,AV.int .i64 0]=[iN 0,iN 0]:=rfl;refine zt ?_;refine GQ (an c1 (an g0 (an g1 (an hfl r2)))) ?_;intro K hK;refine⟨zO,zO,?_⟩;refine xM ?_;refine⟨(k+1,acc++[x]),by simp only;omega,⟨by simp only;omega,by rw[etk];rfl⟩,sU (k:=4) zK ?_ zS zS zS zS⟩;have e3:Aa Al (acc++[x])=Aa Al acc++[iN x.1,iN x.2]:=by rw[BI];rfl
  rw[e3];simp
 .refine y3 ?_;refine⟨(k+1,acc),by simp only;omega,⟨by simp only;omega,by rw[etk];simp⟩,sU (k:=4) zK zS zS zS zS zS⟩
theorem dh (g:Gr) (n:Nat) (hg:AP g) (hn:n<=16):Ac pg 143 [.agg (A1 false g),iN n] [] (λr _=>r= .tup [.agg (A1 true (GI g n).1),iN (GI g n).2]):=by
 have spC:=GS g hg.inn;obtain⟨q,hq⟩:∃q,q=GI g n:=zX;rw[<-hq];unfold GI at hq;have hn1:=hg.1;have hn2:=hg.2.1;have hn3:=hg.2.2.1;refine zE (fn:=Tryz.f143) [.cell 4 34,.tmp 5] ?_;rw[Aq];refine Cx ?_;by_cases c1:16-g.n<n
 .rw[zP c1] at hq;refine th c1 ?_;refine W.weak (sX 1 1) ?_;refine zr ?_;simp[hq,Az]
 rw[zM c1] at hq;refine th c1 ?_;refine AL spC ?_;refine xV ?_;refine sV (λk:Nat=> [(1,iN n),(2,pt 0),(4,pt 1),(5,iN 0),(6,iN k)]) (λk=> [lv [iN (g.n+n),.tok 2 k 1 0 (g.out.length+k)],lv [iN 0,.own 1 0 []],.live k (Ak true (g.out++uP k []))]) (λk=>n-k) (λk=>k<=n) 0 (sU (k:=3) zK zS zS zS zS zS) zS ?_;intro k hk;by_cases c2:k<n;rotate_left
 .have hke:k=n:=zO;subst hke;refine x3 c2 ?_;rw[hq];simp[A1,DH,sl,uM]
 have ll:(Ak true (g.out++uP k [])).length=g.out.length+k:=by simp[Ak]
 have r1:Bv 1 [AV.own 1 0 []]=[.own 1 0 []]:=rfl;refine xL c2 ?_;(repeat refine ta ?_);refine uI 1 3 rfl λK hK=>?_;simp -implicitDefEqProofs (maxSteps:=999999) (disch:=omega) [r1];refine⟨_,_,sX 3 0,?_⟩;simp -implicitDefEqProofs (maxSteps:=999999) (disch:=omega) [ll];refine⟨zO,zO,?_⟩;refine xM ?_;have hn0:(Ak true (g.out++uP k [])++[AV.tok 4 0 1 0 0])[g.out.length+k]?=some (.tok 4 0 1 0 0):=by
  rw[vj zO,ll];simp
 refine⟨k+1,zO,zO,(sY (B:=2) (v:=k+1) (j:=g.out.length+k) (T:=4) (u:=0) (s:=1) (off:=0) (n:=0) (cs:=Ak true (g.out++uP k [])++[AV.tok 4 0 1 0 0]) (xs:=[]) (by simp[Ah]) hn0 zF zS zS zS).trans (sU (k:=3) (by simp[AA,wx]) ?_ zS zS zS zS)⟩;have e3:(Ak true (g.out++uP k [])++[AV.tok 4 0 1 0 0]).set (g.out.length+k) (.own 1 0 [])=Ak true (g.out++uP (k+1) []):=by
  rw[List.set_append_right _ _ zO,ll,List.replicate_succ',<-uZ];simp[Ak,DB,sl]
 simp[wx] at e3 |-;exact e3
theorem fJ (g:Gr) (a b:Int) (hg:AP g) (c1:DC g a/\DC g b):Ac pg 145 [.agg (A1 false g),iN a,iN b] [] (λr _=>r= .tup [.agg (A1 true (Hu g a b).1),iN (Hu g a b).2]):=by
 have hin:=hg.inn;have spC:=GS g hin;have spH:=Tj g a b hg;obtain⟨q,hq⟩:∃q,q=Hu g a b:=zX;rw[<-hq];unfold Hu at hq;rw[zM (λh=>h c1)] at hq;obtain⟨k,rfl⟩:∃k:Nat,a=k:=⟨a.toNat,by have:=c1.1.1;omega⟩;have hn3:=hg.2.2.1;have hk:k<g.out.length:=by have:=c1.1.2;omega
 obtain⟨l,hl⟩:∃l,l=g.out[k]:=zX;have hml:AU l:=by rw[hl];exact(hg.2.2.2.1 _ (uQ hk)).1
 have hll:=Bw hml;have eb:AF g k=l:=by simp[AF,hk,hl]
 have hl2:g.out[k]?=some l:=by rw[hl];simp[hk]
 rw[eb] at hq spH;simp only[c1.1,true_and] at spH;refine zE (fn:=Tryz.f145) [.cell 6 34,.tmp 7] ?_;rw[A6];refine Cx ?_;cases hbb:l.contains b
 .rw[zP hbb] at hq;have hbm:(l.contains b=true)=False:=by rw[hbb];simp
  simp only[hbm,decide_false] at spH;refine ym spH ?_;refine W.weak (sX 1 1) ?_;refine zr ?_;simp[hq,Az]
 rw[zM (by rw[hbb];simp)] at hq;have hbm:(l.contains b=true)=True:=by rw[hbb];simp
 simp only[hbm,decide_true] at spH;obtain⟨hpk,hpv⟩:=XI hml.2 (xx.1 hbb);obtain⟨i,hi⟩:∃i,i=D2 l b:=zX;rw[<-hi] at hpk;have hix:AN (λy=>decide (y=b)) l=(i:Int):=by
  refine DY (k:=i) hpk ?_ ?_
  .subst hi;simpa using hpv
  .intro j hj hji;have h1:=(Jo l b hml.2).2.1 l[j] (by rw[<-hi,xA];exact⟨j,zO,rfl⟩);simp;omega
 have spI:=Lb l b zO;rw[hix] at spI;refine ym spH ?_;refine AL spC ?_;have hgl:(Ak true g.out)[k]?=some (.own 1 l.length (Ab l)):=by simp[Ak,hl2,DB,sl]
 refine W.weak (te (B:=2) (v:=0) (j:=k) (s:=1) (n:=l.length) (cs:=Ak true g.out) (xs:=Ab l) zF hgl) ?_;obtain⟨L,hL⟩:∃L,L=(Ak true g.out).set k (.tok 3 0 1 0 l.length):=zX;have hLk:L[k]?=some (.tok 3 0 1 0 l.length):=by rw[hL];simp[hk]
 have hLl:True->L.length=g.out.length:=λ_=>by rw[hL];simp
 refine W.weak (Wk.fr (S:=[(1,iN k),(2,iN b),(3,pt 0),(6,pt 1)]) zK) ?_;show W _ _ _ _ _ [lv [iN g.n,.tok 2 0 1 0 g.out.length],lv [iN 0,.own 1 0 []],lv ((Ak true g.out).set k (.tok 3 0 1 0 l.length)),lv (Ab l)] _;rw[<-hL];refine GL (an hk hLk) spI ?_;have spN:=Ee (l.take i) Ao;have hti:(l.take i).length=i:=Ao;rw[hti] at spN;obtain⟨c,hc⟩:∃c:Nat,c=i+1:=zX;have e1:(i:Int)+1=(c:Int):=zO;have e2:(Ab l).take i=Ab (l.take i):=by simp[Ab]
 (repeat refine ta ?_);refine tj 0 [(3,34),(3,42),(24,34),(24,42)] rfl true Df AK λK hK=>?_;simp -implicitDefEqProofs (disch:=omega) [hk,hLk,e1];refine s6 spN (by simp[e2];omega) zS ?_;refine AO (an hk (an hLk (an e1 hti))) ?_;refine⟨zO,zO,by have:=hLl trivial;omega,?_⟩;(repeat refine⟨by first|assumption|omega,?_⟩);refine hK _ _ (by simp(disch:=omega)) ?_;clear hK K;have hm:i+(l.length-c)=(DQ l b).length:=by rw[DQ,<-hi];simp;omega
 have ecut:Ab (l.take i)++Ab ((l.drop c).take (l.length-c))=Ab (DQ l b):=by
  rw[DQ,<-hi,<-hc,uM (l:=l.drop c) zS,B5]
 rw[ecut,hm];have eL:(L.set k (.tok 4 1 1 0 (DQ l b).length)).set k (.own 1 (DQ l b).length (((Ab (DQ l b)).drop 0).take ((DQ l b).length*1)))=Ak true (g.out.set k (DQ l b)):=by
  rw[hL,wF,wF];simp[Ak,wi,DB,sl,uM]
 refine W.weak (sY (B:=2) (v:=0) (j:=k) (T:=4) (u:=1) (s:=1) (off:=0) (n:=(DQ l b).length) (xs:=Ab (DQ l b)) zF (by rw[uO (by have:=hLl trivial;omega)]) zF zS zS zS) ?_;show W _ _ _ _ _ [lv [iN g.n,.tok 2 0 1 0 g.out.length],lv [iN 0,.own 1 0 []],lv ((L.set k (.tok 4 1 1 0 (DQ l b).length)).set k (.own 1 (DQ l b).length (((Ab (DQ l b)).drop 0).take ((DQ l b).length*1)))),lv (Ab l),.dead] _;rw[eL];refine Bd ?_;rw[hq];simp[A1,DH,sl,uM]
theorem VU {g:Gr} {j:B7} (h:BX g j=true):∀n,DU g n j=j
 |0=>rfl
 |n+1=>by rw[DU,zP h]
theorem di (g:Gr) (j:B7) (n:Nat) (hg:AP g) (hj:Ct g j=true) (hn:n<1000000):Ac pg 142 [.agg (A1 false g),.agg [iN j.kind,iN j.a,iN j.at_,.bool j.move,.tok 0 0 1 0 j.list.length,.tok 1 0 1 0 j.out.length],iN n] [lv (Ab j.list),lv (Ab j.out)] (λr M=>r= .agg (BY true (DU g n j))/\M=[.dead,.dead]):=by
 obtain⟨z,hz⟩:∃z,z=DU g n j:=zX;rw[<-hz];refine zE (fn:=Tryz.f142) [.cell 6 38] ?_;rw[A6];refine Ig ?_;refine W.weak (Wk.inn 3 4) ?_;refine W.weak (Wk.inn 3 5) ?_;refine xR ?_;refine sV (λq:Nat×B7=> [(2,iN n),(3,pt 2),(4,pt 3),(6,pt 4),(7,iN q.1)]) (λq=> [.dead,.dead,lv (A1 false g),lv (BY true q.2),lv (BY true A3)]) (λq=>n-q.1) (λq=>q.1<=n/\Ct g q.2=true/\DU g (n-q.1) q.2=z) (0,j) (sU (k:=5) zK (by simp[BY,DB,sl,A3]) zS zS zS zS) ⟨zO,hj,hz.symm⟩ ?_;rintro⟨k,c⟩ ⟨hk,hc,hzk⟩;simp only at hk hc hzk;have hin:=Ir hg hc;have hsm:=hin.1.small hg;refine W.weak (sX 3 4) ?_;refine W.weak (sX 3 5) ?_;have spE:=Ku g c (by have:=hsm.1;omega);have fin:∀(P:Prop),P->P:=λ_ h=>h;by_cases c1:k<n;rotate_left
 .have hke:k=n:=zO;subst hke;rw[Nat.sub_self] at hzk;simp only[DU] at hzk;subst hzk;refine zg c1 ?_;exact Kp
 cases ho:BX g c;rotate_left
 .rw[VU ho] at hzk;subst hzk;rw[ho] at spE;refine GL c1 spE ?_;exact Kp
 rw[ho] at spE;have spV:=SU g c hg hin.1 ho;have hst:DU g (n-k) c=DU g (n-(k+1)) (A8 g c):=by
  rw[show n-k=(n-(k+1))+1 by omega,DU,zM (by rw[ho];simp)]
 obtain⟨y,hy⟩:∃y,y=A8 g c:=zX;have hyo:=hin.2 ho;rw[<-hy] at spV hst hyo;refine GL c1 spE ?_;refine y3 ?_;refine AL spV ?_;refine zs ?_;refine⟨(k+1,y),by simp only;omega,⟨by simp only;omega,hyo,by simp only;rw[<-hst];exact hzk⟩,?_⟩;refine(Wk.inn 3 4).trans ?_;refine(Wk.inn 3 5).trans ?_;exact sU (k:=5) zK (by simp[BY,DB,sl,A3]) zS zS zS zS
theorem XV (a b:HA) (ha:a.list.length<1000000000000):Ac pg 32 [.agg (Fm false a),.agg (Fm false b)] [] (λr _=>r= .bool (decide (a=b))):=by
 have spE:=EM a.list b.list zO;refine zE (fn:=Tryz.f32) [.tmp 4] ?_;rw[Aq];refine Cx ?_;by_cases c1:a.err=b.err
 .by_cases c2:a.n=b.n
  .refine GL (an c1 c2) spE ?_;refine zr ?_;simp[HA.ext_iff,c1,c2]
  .refine xQ (an c1 c2) ?_;intro e;exact c2 (by rw[e])
 .refine xQ c1 ?_;intro e;exact c1 (by rw[e])
theorem ZA (a b:An) (ha:A0 a):Ac pg 34 [.agg (Aj false a),.agg (Aj false b)] [] (λr _=>r= .bool (ML a b)):=by
 have h1:=ha.1;have spE:=JN a.sQ b.sQ zO;unfold ML;refine zE (fn:=Tryz.f34) [.tmp 4] ?_;rw[Aq];refine Cx ?_;by_cases c1:a.keep=b.keep
 .by_cases c2:a.sS=b.sS
  .refine GL (an c1 c2) spE ?_;refine zr ?_;simp[c1,c2]
  .refine zg (an c1 c2) ?_;exact zR
 .refine zg c1 ?_;exact zR
theorem Ei (s:An) (e:Int):Ac pg 68 [.agg (Aj false s),iN e] [] (λr _=>r= .tup [.agg (Aj false s),.agg (Fm true ⟨e,0,[]⟩)]):=by
 refine zE (fn:=Tryz.f68) [.cell 4 25,.cell 5 45] ?_;rw[Aq];refine Ig ?_;refine zs ?_;refine W.weak (sX 2 2) ?_;exact zR
def Nm (p:An×HA):AV->List Ag->Prop:=λr M=>(r= .tup [.agg (Aj false p.1),.agg (Fm true p.2)]\/r= .tup [.agg (Aj true p.1),.agg (Fm true p.2)])/\M=[.dead,.dead]
def xT (s:An):AV:= .agg [iN s.keep,iN s.sS,.tok 0 0 8 0 s.sQ.length,.tok 1 0 12 0 s.sR.length]
theorem VV (s:An) (id:Int) (hs:A0 s) (hm:BJ (Ae s)):Ac pg 15 [.agg (Aj false s),iN id] [] (λr _=>r= .agg (A1 true (Cf s id))):=YY s id hs hm
def ZX:Tr:= .a 0 (.a 2 (.a 6 (.a 1 (.a 3 (.a 4 (.a 5 (.a 7 (.a 8 (.a 9 (.a 10 (.a 11 (.l []) .s) .s) .s) .s) .s) (.a 7 (.a 5 (.a 8 (.a 9 (.a 10 (.a 11 (.l []) .s) .s) .s) .s) .s) .s)) .s) (.a 7 (.a 3 (.a 4 (.a 5 (.a 8 (.a 9 (.a 10 (.a 11 (.l []) .s) .s) .s) .s) .s) .s) .s) .s)) (.a 3 (.a 4 (.a 1 (.a 5 (.a 7 (.a 8 (.a 9 (.a 10 (.a 11 (.l []) .s) .s) .s) .s) .s) (.a 7 (.a 5 (.a 8 (.a 9 (.a 10 (.a 11 (.l []) .s) .s) .s) .s) .s) .s)) (.a 5 (.a 1 (.a 7 (.a 8 (.a 9 (.a 10 (.a 11 (.l []) .s) .s) .s) .s) .s) (.a 7 (.a 1 (.a 8 (.a 9 (.a 10 (.a 11 (.l []) .s) .s) .s) .s) .s) .s)) (.a 7 (.a 1 (.a 5 (.a 8 (.a 9 (.a 10 (.a 11 (.l []) .s) .s) .s) .s) .s) (.a 5 (.a 1 (.a 8 (.a 9 (.a 10 (.a 11 (.l []) .s) .s) .s) .s) .s) .s)) .s))) .s) (.a 7 (.a 1 (.a 3 (.a 4 (.a 5 (.a 8 (.a 9 (.a 10 (.a 11 (.l []) .s) .s) .s) .s) .s) .s) .s) (.a 3 (.a 4 (.a 1 (.a 5 (.a 8 (.a 9 (.a 10 (.a 11 (.l []) .s) .s) .s) .s) .s) (.a 5 (.a 1 (.a 8 (.a 9 (.a 10 (.a 11 (.l []) .s) .s) .s) .s) .s) .s)) .s) .s)) .s))) .s) .s) .s
theorem dj (s:An) (i n:Nat) (k v a b:Int) (hk:k=11\/k=12\/k=13) (hs:A0 s) (hm:BJ (Ae s)) (hi:i<s.sR.length) (hn:n<1000000) (hj:s.sR[i].job=A3\/Ct (Cf s s.sR[i].pin) s.sR[i].job=true) (hz:s.sR[i].pin=0->s.sR[i].job=A3):Ac pg 105 [.agg (Aj false s),xT s,.agg (AZ ⟨k,i,v,a,b,n⟩)] [lv (Aa As s.sQ),lv (Aa (Af true) s.sR)]
 (Nm (BM s ⟨k,i,v,a,b,n⟩ s.sR[i])):=by
 have h1:=hs.1;have h2:=hs.2.1;obtain⟨u,hu⟩:∃u,u=s.sR[i]:=zX;obtain⟨p,hp⟩:∃p,p=BM s ⟨k,i,v,a,b,n⟩ s.sR[i]:=zX;rw[<-hp];rw[<-hu] at hp hj hz;have fat:∀(q:Nat),q<12->(Aa (Af true) s.sR)[i*12+q]?=(Af true u)[q]?:=λq hq=>by rw[hu];exact Au (f:=Af true) (s:=12) zL hi hq
 have hfl:True->(Aa (Af true) s.sR).length=s.sR.length*12:=λ_=>Bk (f:=Af true) zL _;have k1:(Aa (Af true) s.sR)[i*12+1]?=some (iN u.pin):=fat 1 zO;have spG:=VV s u.pin hs hm;have hg:=D4 s u.pin;obtain⟨g,hgd⟩:∃g,g=Cf s u.pin:=zX;unfold BM at hp;rw[zM (by simp only;omega),zM (by simp only;omega),zM (by simp only;omega),zM (by simp only;omega)] at hp;simp only at hp;rw[<-hgd] at spG hg hj hp;unfold Nm xT;refine zE (fn:=Tryz.f105) [.cell 6 25,.cell 7 45] ?_;rw[A6];refine ej ?_;intro K hK;simp -implicitDefEqProofs (disch:=omega);refine zk ?_;refine zg hi ?_;refine zw ?_;refine s5 (λq:Bool=> [(3,pt 2),(4,pt 3),(5,pt 4),(6,pt 5),(7,pt 6),(8,.ptr 1 0 (i*12)),(29,.bool q)]) (λ_=> [lv (Aa As s.sQ),lv (Aa (Af true) s.sR),lv (Aj false s),lv [iN s.keep,iN s.sS,.tok 0 0 8 0 s.sQ.length,.tok 1 0 12 0 s.sR.length],lv (AZ ⟨k,i,v,a,b,n⟩),lv (Aj true Av),lv [iN 0,iN 0,.own 1 0 []]]) (λq=>q=decide (k≠12/\u.pin=0)) ?_ ?_
 .by_cases c1:k=12
  .refine zg c1 ?_;exact⟨false,by simp[c1],sU (k:=7) zK (by simp[c1,Av]) zS zS zS zS⟩
  .by_cases c2:u.pin=0
   .refine zg (an c1 (an hi (an k1 c2))) ?_;exact⟨true,by simp[c1,c2],Wk.fr zK⟩
   .refine zg (an c1 (an hi (an k1 c2))) ?_;exact⟨false,by simp[c2],Wk.fr zK⟩
 rintro q rfl;by_cases c1:k≠12/\u.pin=0
 .rw[zT c1];have hpe:p=AE s 6:=by
   rw[hp];rcases hk with e|e|e
   .rw[zP e,zP c1.2]
   .exact absurd e c1.1
   .rw[zM zO,zM zO,zP e,zP c1.2]
  refine yy ?_;intro K hK;refine tg (Ei s 6) zS ?_;refine Am ?_;refine W.weak ((tb 0).trans (tb 1)) ?_;refine zr ?_;simp[hpe,AE]
 rw[zV c1];refine y2 ?_;refine Hw ?_;intro K hK;simp -implicitDefEqProofs (disch:=omega) [hi,k1];refine CQ spG ?_;refine xM ?_;refine zw ?_;refine s5 (λ_:B7=> [(3,pt 2),(4,pt 3),(5,pt 4),(6,pt 5),(7,pt 6),(8,.ptr 1 0 (i*12)),(9,pt 7)]) (λj=> [lv (Aa As s.sQ),lv (Aa (Af true) (s.sR.set i {u with job:=j})),lv (Aj false s),lv [iN s.keep,iN s.sS,.tok 0 0 8 0 s.sQ.length,.tok 1 0 12 0 s.sR.length],lv (AZ ⟨k,i,v,a,b,n⟩),lv (Aj true Av),lv [iN 0,iN 0,.own 1 0 []],lv [iN g.n,.tok 8 0 1 0 g.out.length],lv (Ak true g.out)]) (λj=>Ct g j=true/\p=DK s ⟨k,i,v,a,b,n⟩ u j) ?_ ?_
 .refine zb ?_;by_cases k13:k=13
  .subst k13;have hpin:¬u.pin=0:=λe=>c1 ⟨zD,e⟩;rw[zM zD,zM zD,zP rfl,zM hpin] at hp;have spS:=Pd s hs;have hsl:(Bf s.sQ).length<=s.sQ.length:=by unfold Bf;rw[wB];exact vY _ _
   have spI:=Lb (Bf s.sQ) v zO;have hqc:=Lv (Bf s.sQ) v;obtain⟨x,hx⟩:∃x,x=AN (λy=>decide (y=v)) (Bf s.sQ):=zX;rw[<-hx] at spI hqc;refine y2 ?_;refine CN ?_;intro K hK;refine CQ spS ?_;refine s6 spI (by simp) (by simp) ?_;by_cases cq:x<0
   .have hcf:(Bf s.sQ).contains v=false:=by
     cases e:(Bf s.sQ).contains v
     .rfl
     .have:=hqc.2 e;omega
    have hpe:p=AE s 3:=by rw[hp,zP hcf]
    refine xK cq ?_;refine yy ?_;intro K hK;refine tg (Ei s 3) zS ?_;refine Am ?_;refine W.weak ((tb 0).trans (tb 1)) ?_;refine zr ?_;simp[hpe,AE]
   have hcf:¬(Bf s.sQ).contains v=false:=λe=>by
    have:=hqc.1 zO;rw[e] at this;cases this
   rw[zM hcf] at hp;have spV:=VV s v hs hm;have hgv:=D4 s v;obtain⟨gv,hgvd⟩:∃gv,gv=Cf s v:=zX;rw[<-hgvd] at spV hgv hp;have spL:=dg g gv hg hgv;obtain⟨L,hL⟩:∃L,L=Fs g gv:=zX;have hml:L.length<=120:=by
    have h:=hg.2.2.2.2;have h2:=GA g.n g.out;have h3:=vY (λp=> ! decide (DC gv p.1/\(AF gv p.1).contains p.2=true)) (Cm g);have h4:(Cm g).length=Br g.out:=h2;rw[hL];unfold Fs;omega
   rw[<-hL] at spL hp;have hp' :p=(s,⟨0,0,HB L⟩):=hp;refine xK cq ?_;refine y3 ?_;refine jd spV spL ?_;refine xR ?_;refine sV (λq:Nat=> [(3,pt 2),(4,pt 3),(5,pt 4),(6,pt 5),(7,pt 6),(10,.tok 12 q 1 0 (2*q)),(11,.tok 11 0 2 0 L.length),(12,iN q)]) (λq=> [lv (Aa As s.sQ),lv (Aa (Af true) s.sR),lv (Aj false s),lv [iN s.keep,iN s.sS,.tok 0 0 8 0 s.sQ.length,.tok 1 0 12 0 s.sR.length],lv (AZ ⟨13,i,v,a,b,n⟩),lv (Aj true Av),lv [iN 0,iN 0,.own 1 0 []],lv [iN g.n,.tok 8 0 1 0 g.out.length],lv (Ak true g.out),lv (Ab (Bf s.sQ)),lv (Ak true gv.out),lv (Aa Al L),.live q (Ab (HB (L.take q)))]) (λq=>L.length-q) (λq=>q<=L.length) 0 ((Wk.nil (t:=10) (s:=1) zS).trans (sU (k:=13) zK (by simp[HB]) zS zS zS zS)) zO ?_;intro q hq;by_cases c3:q<L.length;rotate_left
   .have hqe:q=L.length:=zO;subst hqe;refine x3 c3 ?_;have hl2:=IY L;have ht2:(HB L).take (2*L.length)=HB L:=uM zO;rw[zP zO,ht2];simp[hp',hl2]
   have htk:=Ti c3;have hpl:=IY (L.take q);rw[wy,wO zO] at hpl;have g0:(Aa Al L)[q*2]?=some (iN L[q].1):=Au (f:=Al) (s:=2) zL c3 (i:=0) zO;have g1:(Aa Al L)[q*2+1]?=some (iN L[q].2):=Au (f:=Al) (s:=2) zL c3 (i:=1) zO;have hpl2:(Ab (HB (L.take q))).length=2*q:=by simp[Ab,hpl]
   have r2:Bv 2 [AV.int .i64 0]=[iN 0,iN 0]:=rfl;refine xL c3 ?_;refine Hw ?_;intro K hK;simp -implicitDefEqProofs (disch:=omega) [c3,g0,g1,hpl,hpl2,r2];refine⟨zO,zO,?_⟩;refine xM ?_;refine⟨q+1,zO,zO,sU (k:=13) (by simp[AA,show 2*(q+1)=2*q+2 by omega]) ?_ zS zS zS zS⟩;rw[htk];simp[Ab,show 2*(q+1)=2*q+2 by omega]
  refine xO k13 ?_;by_cases k11:k=11
  .subst k11;have hpin:¬u.pin=0:=λe=>c1 ⟨zD,e⟩;rw[zP rfl,zM hpin] at hp;have spM:=Xb g a b (by have:=hg.1;have:=hg.2.1;omega);obtain⟨e,he⟩:∃e,e=DO g a b:=zX;rw[<-he] at spM hp;refine y2 ?_;refine AL spM ?_;by_cases ce:e=0;rotate_left
   .rw[zP ce] at hp;have hpe:p=AE s e:=hp;refine yl ce ?_;intro K hK;refine tg (Ei s e) zS ?_;refine Am ?_;refine W.weak ((tb 0).trans (tb 1)) ?_;refine zr ?_;simp[hpe,AE]
   rw[zM (λh=>h ce)] at hp;have hbk:=Lt hg (k:=a) (a:=b) (by rw[<-he];exact ce);have spB:=ST g a b hg (by rw[<-he];exact ce);obtain⟨j,hjd⟩:∃j,j=B9 g a b:=zX;rw[<-hjd] at spB hbk hp;refine th ce ?_;refine BS hi ?_;intro K hK;refine sW spB (by simp) (by simp) ?_;refine AO hi ?_;refine⟨zO,?_⟩;refine zk ?_;have e6:=BA (f:=Af true) (s:=12) zL (ps:=[(6,iN j.kind),(7,iN j.a),(8,iN j.at_),(9,.bool j.move),(10,.tok 9 0 1 0 j.list.length),(11,.tok 10 0 1 0 j.out.length),(10,.own 1 j.list.length (((Ab j.list).drop 0).take (j.list.length*1))),(11,.own 1 j.out.length (((Ab j.out).drop 0).take (j.out.length*1)))]) (y:={u with job:=j}) zS hi (by rw[<-hu];simp[Be,Af]);refine⟨j,⟨hbk,hp⟩,?_⟩;refine(sY (B:=1) (v:=0) (j:=i*12+10) (T:=9) (u:=0) (s:=1) (off:=0) (n:=j.list.length) (xs:=Ab j.list) zF (by rw[uN zO,uO (by simp[hfl trivial];omega)]) zF zS zS zS).trans ?_;refine(sY (B:=1) (v:=0) (j:=i*12+11) (T:=10) (u:=0) (s:=1) (off:=0) (n:=j.out.length) (xs:=Ab j.out) zF (by rw[uN zO,uO (by simp[hfl trivial];omega)]) zF zS zS zS).trans ?_;exact sU (k:=9) zK (by rw[<-e6];rfl) zS zS zS zS
  have k12:k=12:=zO;subst k12;rw[zM zD,zP rfl] at hp;have hJin:OR u.job:=by
   rcases hj with e|e
   .rw[e];exact⟨by simp[A3],by simp[A3]⟩
   .have:=((Ir hg e).1).small hg;exact⟨zO,zO⟩
  have spE:=HK u.job A3 hJin;refine y2 ?_;refine W.weak (te (B:=1) (v:=0) (j:=i*12+10) (s:=1) (n:=u.job.list.length) (cs:=Aa (Af true) s.sR) (xs:=Ab u.job.list) zF (fat 10 zO)) ?_;refine W.weak (te (B:=1) (v:=0) (j:=i*12+11) (s:=1) (n:=u.job.out.length) (cs:=(Aa (Af true) s.sR).set (i*12+10) (.tok 9 0 1 0 u.job.list.length)) (xs:=Ab u.job.out) zF (by rw[uN zO];exact fat 11 zO)) ?_;obtain⟨L,hL⟩:∃L,L=((Aa (Af true) s.sR).set (i*12+10) (.tok 9 0 1 0 u.job.list.length)).set (i*12+11) (.tok 10 0 1 0 u.job.out.length):=zX;have hLl:True->L.length=s.sR.length*12:=λ_=>by rw[hL];simp[hfl trivial]
  have lat:∀q:Nat,q<10->L[i*12+q]?=(Af true u)[q]?:=λq hq=>by
   rw[hL,uN zO,uN zO];exact fat q zO
  have m6:L[i*12+6]?=some (iN u.job.kind):=lat 6 zO;have m7:L[i*12+6+1]?=some (iN u.job.a):=lat 7 zO;have m8:L[i*12+6+1+1]?=some (iN u.job.at_):=lat 8 zO;have m9:L[i*12+6+1+1+1]?=some (.bool u.job.move):=lat 9 zO;have m10:L[i*12+6+1+1+1+1]?=some (.tok 9 0 1 0 u.job.list.length):=by
   show L[i*12+10]?=_;rw[hL,uN zO,uO (by rw[hfl trivial];omega)]
  have m11:L[i*12+6+1+1+1+1+1]?=some (.tok 10 0 1 0 u.job.out.length):=by
   show L[i*12+11]?=_;rw[hL,uO (by rw[vS,hfl trivial];omega)]
  show W _ _ _ _ _ [_,lv (((Aa (Af true) s.sR).set (i*12+10) (.tok 9 0 1 0 u.job.list.length)).set (i*12+11) (.tok 10 0 1 0 u.job.out.length)),_,_,_,_,_,_,_,_,_] _;rw[<-hL];by_cases cz:u.job=A3
  .rw[zP cz] at hp;rw[zT cz] at spE;have hpe:p=AE s 6:=hp;refine BS (an m6 (an m7 (an m8 (an m9 (an m10 (an m11 hi)))))) ?_;intro K hK;refine sW spE (by simp[A3]) zS ?_;refine Am ?_;refine yy ?_;intro K hK;refine tg (Ei s 6) zS ?_;refine Am ?_;refine W.weak ((tb 0).trans (tb 1)) ?_;refine zr ?_;simp[hpe,AE]
  rw[zM cz] at hp;rw[zV cz] at spE;refine BS (an m6 (an m7 (an m8 (an m9 (an m10 (an m11 hi)))))) ?_;intro K hK;refine sW spE (by simp[A3]) zS ?_;refine x4 ?_;subst hL;have e6:=BA (f:=Af true) (s:=12) zL (ps:=[(10,.tok 9 0 1 0 u.job.list.length),(11,.tok 10 0 1 0 u.job.out.length),(10,.own 1 u.job.list.length (((Ab u.job.list).drop 0).take (u.job.list.length*1))),(11,.own 1 u.job.out.length (((Ab u.job.out).drop 0).take (u.job.out.length*1)))]) (y:={u with job:=u.job}) zS hi (by rw[<-hu];simp[Be,Af]);refine⟨u.job,⟨hj.resolve_left cz,hp⟩,?_⟩;refine(sY (B:=1) (v:=0) (j:=i*12+10) (T:=9) (u:=0) (s:=1) (off:=0) (n:=u.job.list.length) (xs:=Ab u.job.list) zF (by rw[uN zO,uO (by rw[hfl trivial];omega)]) zF zS zS zS).trans ?_;refine(sY (B:=1) (v:=0) (j:=i*12+11) (T:=10) (u:=0) (s:=1) (off:=0) (n:=u.job.out.length) (xs:=Ab u.job.out) zF (by rw[uN zO,uO (by rw[vS,hfl trivial];omega)]) zF zS zS zS).trans ?_;exact sU (k:=9) zK (by rw[<-e6];rfl) zS zS zS zS
 rintro j ⟨hjo,hpe⟩;obtain⟨sl',hsl'⟩:∃sl',sl' =s.sR.set i {u with job:=j}:=zX;have hi' :i<sl'.length:=by rw[hsl'];simpa using hi
 have hu' :sl'[i]={u with job:=j}:=by simp[hsl']
 have fat' :∀(q:Nat),q<12->(Aa (Af true) sl')[i*12+q]?=(Af true {u with job:=j})[q]?:=λq hq=>by rw[<-hu'];exact Au (f:=Af true) (s:=12) zL hi' hq
 have hfl' :True->(Aa (Af true) sl').length=s.sR.length*12:=λ_=>by rw[Bk (f:=Af true) (s:=12) zL,hsl'];simp
 rw[<-hsl'];refine W.weak (te (B:=1) (v:=0) (j:=i*12+10) (s:=1) (n:=j.list.length) (cs:=Aa (Af true) sl') (xs:=Ab j.list) zF (fat' 10 zO)) ?_;refine W.weak (te (B:=1) (v:=0) (j:=i*12+11) (s:=1) (n:=j.out.length) (cs:=(Aa (Af true) sl').set (i*12+10) (.tok 9 0 1 0 j.list.length)) (xs:=Ab j.out) zF (by rw[uN zO];exact fat' 11 zO)) ?_;obtain⟨L,hL⟩:∃L,L=((Aa (Af true) sl').set (i*12+10) (.tok 9 0 1 0 j.list.length)).set (i*12+11) (.tok 10 0 1 0 j.out.length):=zX;have hLl:True->L.length=s.sR.length*12:=λ_=>by rw[hL];simp[hfl' trivial]
 have lat:∀q:Nat,q<10->L[i*12+q]?=(Af true {u with job:=j})[q]?:=λq hq=>by
  rw[hL,uN zO,uN zO];exact fat' q zO
 have m6:L[i*12+6]?=some (iN j.kind):=lat 6 zO;have m7:L[i*12+6+1]?=some (iN j.a):=lat 7 zO;have m8:L[i*12+6+1+1]?=some (iN j.at_):=lat 8 zO;have m9:L[i*12+6+1+1+1]?=some (.bool j.move):=lat 9 zO;have m10:L[i*12+6+1+1+1+1]?=some (.tok 9 0 1 0 j.list.length):=by
  show L[i*12+10]?=_;rw[hL,uN zO,uO (by rw[hfl' trivial];omega)]
 have m11:L[i*12+6+1+1+1+1+1]?=some (.tok 10 0 1 0 j.out.length):=by
  show L[i*12+11]?=_;rw[hL,uO (by rw[vS,hfl' trivial];omega)]
 show W _ _ _ _ _ [_,lv (((Aa (Af true) sl').set (i*12+10) (.tok 9 0 1 0 j.list.length)).set (i*12+11) (.tok 10 0 1 0 j.out.length)),_,_,_,_,_,_,_,_,_] _;rw[<-hL];have spS:=di g j n hg hjo hn;have hxo:=KD hg n _ hjo;obtain⟨x,hx⟩:∃x,x=DU g n j:=zX;rw[<-hx] at spS hxo;have hsx:=((Ir hg hxo).1).small hg;unfold DK at hpe;simp only[Int.toNat_natCast] at hpe;rw[<-hgd,<-hx] at hpe;have e7:=BA (f:=Af true) (s:=12) zL (ps:=[(10,.tok 9 0 1 0 j.list.length),(11,.tok 10 0 1 0 j.out.length),(6,iN x.kind),(7,iN x.a),(8,iN x.at_),(9,.bool x.move),(10,.tok 11 0 1 0 x.list.length),(11,.tok 12 0 1 0 x.out.length),(10,.own 1 x.list.length (((Ab x.list).drop 0).take (x.list.length*1))),(11,.own 1 x.out.length (((Ab x.out).drop 0).take (x.out.length*1)))]) (y:={u with job:=x}) zS hi' (by rw[hu'];simp[Be,Af]);have hss:sl'.set i {u with job:=x}=s.sR.set i {u with job:=x}:=by rw[hsl',wF]
 rw[hss] at e7;refine zw ?_;refine s5 (λ_:Unit=> [(4,pt 3),(6,pt 5),(7,pt 6),(8,.ptr 1 0 (i*12)),(9,pt 7)]) (λ_=> [lv (Aa As s.sQ),lv (Aa (Af true) (s.sR.set i {u with job:=x})),lv (Aj false s),lv [iN s.keep,iN s.sS,.tok 0 0 8 0 s.sQ.length,.tok 1 0 12 0 s.sR.length],lv (AZ ⟨k,i,v,a,b,n⟩),lv (Aj true Av),lv [iN 0,iN 0,.own 1 0 []],lv [iN g.n,.tok 8 0 1 0 g.out.length],lv (Ak true g.out)]) (λ_=>True) ?_ ?_
 .refine tv 0 ZX rfl Df AK (λK hK=>?_);unfold ZX
  repeat' (first|exact Bp|refine Eo ?_| (refine sZ [9,10] spS zS zS zS zS ?_;rintro _ _ ⟨rfl,rfl⟩ _;refine⟨zS,zS,?_⟩;simp -implicitDefEqProofs (maxSteps:=999999) (disch:=omega) [m6,m7,m8,m9,m10,m11,hi,hLl trivial]) | (refine Cb rfl ?_ ?_<;>try exact Bp)<;>try (simp -implicitDefEqProofs (maxSteps:=999999) (disch:=omega) [m6,m7,m8,m9,m10,m11,hi,hLl trivial]))
  all_goals refine⟨zO,Eo (hK _ _ ⟨(),trivial,?_⟩)⟩
  all_goals subst hL
  all_goals refine(sY (B:=1) (v:=0) (j:=i*12+10) (T:=11) (u:=0) (s:=1) (off:=0) (n:=x.list.length) (xs:=Ab x.list) zF (by rw[uN zO,uO (by simp[hfl' trivial];omega)]) zF zS zS zS).trans ?_
  all_goals refine(sY (B:=1) (v:=0) (j:=i*12+11) (T:=12) (u:=0) (s:=1) (off:=0) (n:=x.out.length) (xs:=Ab x.out) zF (by rw[uN zO,uO (by simp[hfl' trivial];omega)]) zF zS zS zS).trans ?_
  all_goals exact sU (k:=9) zK (by rw[<-e7];rfl) zS zS zS zS
 rintro _ _;clear m6 m7 m8 m9 m10 m11 lat hLl hL L;obtain⟨sl2,hsl2⟩:∃sl2,sl2=s.sR.set i {u with job:=x}:=zX;have hi2:i<sl2.length:=by rw[hsl2];simpa using hi
 have hu2:sl2[i]={u with job:=x}:=by simp[hsl2]
 have fat2:∀(q:Nat),q<12->(Aa (Af true) sl2)[i*12+q]?=(Af true {u with job:=x})[q]?:=λq hq=>by rw[<-hu2];exact Au (f:=Af true) (s:=12) zL hi2 hq
 have hfl2:True->(Aa (Af true) sl2).length=s.sR.length*12:=λ_=>by rw[Bk (f:=Af true) (s:=12) zL,hsl2];simp
 rw[<-hsl2];refine W.weak (te (B:=1) (v:=0) (j:=i*12+10) (s:=1) (n:=x.list.length) (cs:=Aa (Af true) sl2) (xs:=Ab x.list) zF (fat2 10 zO)) ?_;refine W.weak (te (B:=1) (v:=0) (j:=i*12+11) (s:=1) (n:=x.out.length) (cs:=(Aa (Af true) sl2).set (i*12+10) (.tok 9 0 1 0 x.list.length)) (xs:=Ab x.out) zF (by rw[uN zO];exact fat2 11 zO)) ?_;obtain⟨L,hL⟩:∃L,L=((Aa (Af true) sl2).set (i*12+10) (.tok 9 0 1 0 x.list.length)).set (i*12+11) (.tok 10 0 1 0 x.out.length):=zX;have hLl:True->L.length=s.sR.length*12:=λ_=>by rw[hL];simp[hfl2 trivial]
 have lat:∀q:Nat,q<10->L[i*12+q]?=(Af true {u with job:=x})[q]?:=λq hq=>by
  rw[hL,uN zO,uN zO];exact fat2 q zO
 have m6:L[i*12+6]?=some (iN x.kind):=lat 6 zO;have m7:L[i*12+6+1]?=some (iN x.a):=lat 7 zO;have m8:L[i*12+6+1+1]?=some (iN x.at_):=lat 8 zO;have m9:L[i*12+6+1+1+1]?=some (.bool x.move):=lat 9 zO;have m10:L[i*12+6+1+1+1+1]?=some (.tok 9 0 1 0 x.list.length):=by
  show L[i*12+10]?=_;rw[hL,uN zO,uO (by rw[hfl2 trivial];omega)]
 have m11:L[i*12+6+1+1+1+1+1]?=some (.tok 10 0 1 0 x.out.length):=by
  show L[i*12+11]?=_;rw[hL,uO (by rw[vS,hfl2 trivial];omega)]
 show W _ _ _ _ _ [_,lv (((Aa (Af true) sl2).set (i*12+10) (.tok 9 0 1 0 x.list.length)).set (i*12+11) (.tok 10 0 1 0 x.out.length)),_,_,_,_,_,_,_,_,_] _;rw[<-hL];have spE:=Ku g x zO;cases hov:BX g x
 .rw[hov] at spE;rw[zM (by rw[hov];simp)] at hpe;have e9:=BA (f:=Af true) (s:=12) zL (ps:=[(10,.tok 9 0 1 0 x.list.length),(11,.tok 10 0 1 0 x.out.length),(10,.own 1 x.list.length (((Ab x.list).drop 0).take (x.list.length*1))),(11,.own 1 x.out.length (((Ab x.out).drop 0).take (x.out.length*1)))]) (y:={u with job:=x}) zS hi2 (by rw[hu2];simp[Be,Af]);have hs9:sl2.set i {u with job:=x}=sl2:=by rw[hsl2,wF]
  rw[hs9] at e9;refine OC (an m6 (an m7 (an m8 (an m9 (an m10 (an m11 hi)))))) spE ?_;refine y3 ?_;subst hL;refine W.weak (sY (B:=1) (v:=0) (j:=i*12+10) (T:=9) (u:=0) (s:=1) (off:=0) (n:=x.list.length) (xs:=Ab x.list) zF (by rw[uN zO,uO (by rw[hfl2 trivial];omega)]) zF zS zS zS) ?_;refine W.weak (sY (B:=1) (v:=0) (j:=i*12+11) (T:=10) (u:=0) (s:=1) (off:=0) (n:=x.out.length) (xs:=Ab x.out) zF (by rw[uN zO,uO (by rw[vS,hfl2 trivial];omega)]) zF zS zS zS) ?_;refine W.weak (sX 6 2) ?_;show W _ _ _ _ _ [_,lv (Be (Aa (Af true) sl2) (i*12) [(10,.tok 9 0 1 0 x.list.length),(11,.tok 10 0 1 0 x.out.length),(10,.own 1 x.list.length (((Ab x.list).drop 0).take (x.list.length*1))),(11,.own 1 x.out.length (((Ab x.out).drop 0).take (x.out.length*1)))]),_,_,_,_,_,_,_,_,_,_] _;rw[e9];refine zr ?_;rw[uM (by rw[hsl2];simp)];simp[hpe,Ch,hsl2]
 rw[hov] at spE;rw[zP hov] at hpe;have e8:=BA (f:=Af true) (s:=12) zL (ps:=[(10,.tok 9 0 1 0 x.list.length),(11,.tok 10 0 1 0 x.out.length),(6,iN 0),(7,iN 0),(8,iN 0),(9,.bool false),(10,.own 1 0 []),(11,.own 1 0 [])]) (y:={u with job:=A3}) zS hi2 (by rw[hu2];simp[Be,Af,A3]);have hs8:sl2.set i {u with job:=A3}=s.sR.set i {u with job:=A3}:=by rw[hsl2,wF]
 rw[hs8] at e8;refine OC (an m6 (an m7 (an m8 (an m9 (an m10 (an m11 hi)))))) spE ?_;refine zt ?_;refine zg (an m11 hi) ?_;refine BS (an hi (hLl trivial)) ?_;intro K hK;refine⟨zO,?_⟩;refine xM ?_;subst hL;show W _ _ _ _ _ [_,lv (Be (Aa (Af true) sl2) (i*12) [(10,.tok 9 0 1 0 x.list.length),(11,.tok 10 0 1 0 x.out.length),(6,iN 0),(7,iN 0),(8,iN 0),(9,.bool false),(10,.own 1 0 []),(11,.own 1 0 [])]),_,_,_,_,_,_,_,_,_] _;rw[e8];refine zr ?_;rw[uM zS];simp[hpe,Ch]
theorem fK (g:Gr) (a b:Int) (hg:AP g):Ac pg 144 [.agg (A1 false g),iN a,iN b] [] (λr _=>r= .tup [.agg (A1 true (HT g a b).1),iN (HT g a b).2]):=by
 have hin:=hg.inn;have spC:=GS g hin;have spH:=Tj g a b hg;have spE:=Uv g (by have:=hg.2.1;have:=hg.2.2.1;omega) (by have:=hg.2.2.2.2;omega);have spA:=FS a (g.n-1);have spB:=FS b (g.n-1);obtain⟨q,hq⟩:∃q,q=HT g a b:=zX;rw[<-hq];unfold HT at hq;have hn1:=hg.1;have hn2:=hg.2.1;have hn3:=hg.2.2.1;refine zE (fn:=Tryz.f144) [.cell 6 34,.tmp 7] ?_;refine uL ?_;rw[A6];refine w2 ?_;intro K hK;refine zk ?_;refine ww ?_;refine tF (λz:Bool=> [(1,iN a),(2,iN b),(3,pt 0),(6,pt 1),(7,iN 0),(22,.bool z)]) (λ_=> [lv (A1 false g),lv [iN 0,.own 1 0 []]]) (λz=>z=decide (¬(DC g a/\DC g b))) ?_ ?_
 .by_cases ca:DC g a
  .rw[zT (show 0<=a/\a<=g.n-1 from ⟨ca.1,by have:=ca.2;omega⟩)] at spA;by_cases cb:DC g b
   .rw[zT (show 0<=b/\b<=g.n-1 from ⟨cb.1,by have:=cb.2;omega⟩)] at spB;refine w0 ?_;intro K hK;refine sW spA (by simp) (by simp) ?_;refine zx ?_;refine sW spB (by simp) (by simp) ?_;refine Am ?_;exact⟨false,by simp[ca,cb],Wk.fr zK⟩
   .rw[zV (show¬(0<=b/\b<=g.n-1) from λe=>cb ⟨e.1,zO⟩)] at spB;refine w0 ?_;intro K hK;refine sW spA (by simp) (by simp) ?_;refine zx ?_;refine sW spB (by simp) (by simp) ?_;refine Am ?_;exact⟨true,by simp[cb],Wk.fr zK⟩
  .rw[zV (show¬(0<=a/\a<=g.n-1) from λe=>ca ⟨e.1,zO⟩)] at spA;refine w0 ?_;intro K hK;refine sW spA (by simp) (by simp) ?_;refine Am ?_;exact⟨true,by simp[ca],Wk.fr zK⟩
 rintro z rfl;by_cases c1:DC g a/\DC g b;rotate_left
 .rw[zT c1];rw[zP c1] at hq;refine wt ?_;refine w0 ?_;intro K hK;refine zk ?_;refine WX.weak (sX 1 1) ?_;refine WX.weak ((Wk.fr (S:=[(6,pt 1),(7,iN 3)]) zK).trans (tb 0)) ?_;refine tE ?_;(try simp only[B6,C0]);refine⟨?_,Ma _ (by simp[EP,C6]),by simp[EP,C6]⟩;simp only[CM];refine CA (d:=0) ?_;simp -implicitDefEqProofs (disch:=omega);simp[hq,Az]
 rw[zV (λh=>h c1)];rw[zM (λh=>h c1)] at hq;obtain⟨k,rfl⟩:∃k:Nat,a=k:=⟨a.toNat,by have:=c1.1.1;omega⟩;have hk:k<g.out.length:=by have:=c1.1.2;omega
 obtain⟨l,hl⟩:∃l,l=g.out[k]:=zX;have hml:AU l:=by rw[hl];exact(hg.2.2.2.1 _ (uQ hk)).1
 have hll:=Bw hml;have eb:AF g k=l:=by simp[AF,hk,hl]
 have hl2:g.out[k]?=some l:=by rw[hl];simp[hk]
 rw[eb] at hq spH;simp only[c1.1,true_and] at spH;refine wn ?_;refine WX.skip ?_;cases hbb:l.contains b;rotate_left
 .rw[zP hbb] at hq;have hbm:(l.contains b=true)=True:=by rw[hbb];simp
  simp only[hbm,decide_true] at spH;refine w0 ?_;intro K hK;refine sW spH (by simp) (by simp) ?_;refine Am ?_;refine wt ?_;refine w0 ?_;intro K hK;refine zk ?_;refine WX.weak (sX 1 1) ?_;refine WX.weak ((Wk.fr (S:=[(6,pt 1),(7,iN 4)]) zK).trans (tb 0)) ?_;refine tE ?_;(try simp only[B6,C0]);refine⟨?_,Ma _ (by simp[EP,C6]),by simp[EP,C6]⟩;simp only[CM];refine CA (d:=0) ?_;simp -implicitDefEqProofs (disch:=omega);simp[hq,Az]
 rw[zM (by rw[hbb];simp)] at hq;have hbm:(l.contains b=true)=False:=by rw[hbb];simp
 simp only[hbm,decide_false] at spH;refine w0 ?_;intro K hK;refine sW spH (by simp) (by simp) ?_;refine Am ?_;refine wn ?_;refine WX.skip ?_;by_cases c2:120<=Br g.out
 .rw[zP c2] at hq;have c2' :(120:Int)<=(Br g.out:Int):=zO;refine w0 ?_;intro K hK;refine sW spE (by simp) (by simp) ?_;refine xK c2' ?_;refine wt ?_;refine w0 ?_;intro K hK;refine zk ?_;refine WX.weak (sX 1 1) ?_;refine WX.weak ((Wk.fr (S:=[(6,pt 1),(7,iN 2)]) zK).trans (tb 0)) ?_;refine tE ?_;(try simp only[B6,C0]);refine⟨?_,Ma _ (by simp[EP,C6]),by simp[EP,C6]⟩;simp only[CM];refine CA (d:=0) ?_;simp -implicitDefEqProofs (disch:=omega);simp[hq,Az]
 rw[zM c2] at hq;have c2' :¬(120:Int)<=(Br g.out:Int):=zO;refine w0 ?_;intro K hK;refine sW spE (by simp) (by simp) ?_;refine xK c2' ?_;refine wn ?_;refine WX.skip ?_;refine w0 ?_;intro K hK;refine sW spC (by simp) (by simp) ?_;refine Am ?_;refine ws ?_;have hgl:(Ak true g.out)[k]?=some (.own 1 l.length (Ab l)):=by simp[Ak,hl2,DB,sl]
 refine tH (B:=2) (v:=0) (j:=k) (cs:=Ak true g.out) (x:= .own 1 l.length (Ab l)) zF hgl ?_;have er:Gd (.own 1 l.length (Ab l))= .ro l.length (Ab l):=by
  have e:JB (Ab l)=Ab l:=by rw[MY];unfold Ab;rw[List.map_map];rfl
  rw[Gd,e]
 rw[er];obtain⟨L,hL⟩:∃L,L=(Ak true g.out).set k (.ro l.length (Ab l)):=zX;have hLk:L[k]?=some (.ro l.length (Ab l)):=by rw[hL];simp[hk]
 have hLl:True->L.length=g.out.length:=λ_=>by rw[hL];simp
 obtain⟨p0,p1,p2⟩:=Jo l b hml.2;obtain⟨i,hi⟩:∃i,i=D2 l b:=zX;rw[<-hi] at p0 p1 p2;refine WX.weak (Wk.fr (S:=[(1,iN k),(2,iN b),(3,pt 0),(6,pt 1),(8,iN 0)]) zK) ?_;show WX _ _ _ _ _ [lv [iN g.n,.tok 2 0 1 0 g.out.length],lv [iN 0,.own 1 0 []],lv ((Ak true g.out).set k (.ro l.length (Ab l)))] _;rw[<-hL];refine ww ?_;refine tF (λ_:Unit=> [(1,iN k),(2,iN b),(3,pt 0),(6,pt 1),(8,iN i)]) (λ_=> [lv [iN g.n,.tok 2 0 1 0 g.out.length],lv [iN 0,.own 1 0 []],.live 0 L]) (λ_=>True) ?_ ?_
 .refine WX.block (tZ (λj:Nat=> [(1,iN k),(2,iN b),(3,pt 0),(6,pt 1),(8,iN j)]) (λ_=> [lv [iN g.n,.tok 2 0 1 0 g.out.length],lv [iN 0,.own 1 0 []],.live 0 L]) (λj=>i-j) (λj=>j<=i) 0 (Wk.fr zK) zO ?_);intro j hj;by_cases d1:j<l.length;rotate_left
  .have hje:j=i:=zO;refine Qc (an hk (an hLk d1)) ?_;intro K hK;refine zk ?_;refine wn ?_;refine tR ?_;subst hje;exact⟨(),trivial,Wk.fr zK⟩
  have gj:(Ab l)[j]?=some (iN l[j]):=by simp[Ab,d1]
  by_cases d2:l[j]<b
  .have hji:j<i:=by
    rcases uY j i with h|h
    .exact h
    .have:=p2 l[j] (by rw[List.mem_drop_iff_getElem];exact⟨j-i,zO,by congr 1;omega⟩);omega
   refine Qc (an hk (an hLk (an d1 (an gj d2)))) ?_;intro K hK;refine zk ?_;refine wt ?_;refine WX.skip ?_;refine wb ?_;refine ws ?_;exact⟨j+1,zO,zO,Wk.fr zK⟩
  .have hje:j=i:=by
    rcases uY j i with h|h
    .have:=p1 l[j] (by rw[xA];exact⟨j,zO,rfl⟩);omega
    .omega
   refine Qc (an hk (an hLk (an d1 (an gj d2)))) ?_;intro K hK;refine zk ?_;refine wn ?_;refine tR ?_;subst hje;exact⟨(),trivial,Wk.fr zK⟩
 rintro _ _;have spN:=Ee (l.take i) Ao;have hti:(l.take i).length=i:=Ao;rw[hti] at spN;have e2:(Ab l).take i=Ab (l.take i):=by simp[Ab]
 have r1:Bv 1 [AV.int .i64 0]=[iN 0]:=rfl;(repeat refine tp ?_);refine ul 1 [(3,67),(3,69),(57,67),(57,69),(3,70),(3,77),(57,70),(57,77),(60,67),(60,69),(63,67),(63,69),(60,70),(63,70),(60,77),(63,77),(71,70),(71,77),(74,70),(74,77),(67,3),(69,3),(67,71),(69,71),(67,72),(67,73),(69,72),(69,73),(67,74),(69,74),(67,75),(67,76),(69,75),(69,76)] rfl false Df AK λK hK=>?_;simp -implicitDefEqProofs (maxSteps:=999999) (disch:=omega) [hk,hLk,r1];refine tu spN (by simp[e2]) ?_;refine AO (an hk (an hLk (an hti r1))) ?_;refine⟨zO,zO,zO,zO,by have:=hLl trivial;omega,?_⟩;(repeat refine⟨by first|assumption|omega,?_⟩);refine hK _ _ (by simp(disch:=omega)) ?_;clear hK K;have hal:(DA l b).length=i+1+(l.length-i):=by rw[DA,<-hi];simp;omega
 have eadd:Ab (l.take i)++AV.int .i64 b::Ab ((l.drop i).take (l.length-i))=Ab (DA l b):=by
  rw[DA,<-hi,uM (l:=l.drop i) zS,B5,P6]
 rw[eadd,<-hal];have eL:(L.set k (.tok 4 2 1 0 (DA l b).length)).set k (.own 1 (DA l b).length (((Ab (DA l b)).drop 0).take ((DA l b).length*1)))=Ak true (g.out.set k (DA l b)):=by
  rw[hL,wF,wF];simp[Ak,wi,DB,sl,uM]
 refine WX.weak (sY (B:=2) (v:=0) (j:=k) (T:=4) (u:=2) (s:=1) (off:=0) (n:=(DA l b).length) (xs:=Ab (DA l b)) zF (by rw[uO (by have:=hLl trivial;omega)]) zF zS zS zS) ?_;show WX _ _ _ _ _ [lv [iN g.n,.tok 2 0 1 0 g.out.length],lv [iN 0,.own 1 0 []],lv ((L.set k (.tok 4 2 1 0 (DA l b).length)).set k (.own 1 (DA l b).length (((Ab (DA l b)).drop 0).take ((DA l b).length*1)))),lv [iN b],.dead] _;rw[eL];refine w0 ?_;intro K hK;refine zk ?_;refine WX.weak (Wk.fr (S:=[(6,pt 1),(7,iN 0)]) zK) ?_;refine tE ?_;(try simp only[B6,C0]);refine⟨?_,Ma _ (by simp[EP,C6]),by simp[EP,C6]⟩;simp only[CM];refine CA (d:=0) ?_;simp -implicitDefEqProofs (disch:=omega);rw[hq];simp[A1,DH,sl,uM]
def fL:Tr:= .a 1 (.a 0 (.a 2 (.a 3 (.a 4 (.a 5 (.l []) .s) .s) (.a 4 (.a 3 (.a 5 (.l []) .s) .s) .s)) (.a 4 (.a 2 (.a 3 (.a 5 (.l []) .s) .s) .s) .s)) (.a 2 (.a 0 (.a 3 (.a 4 (.a 5 (.l []) .s) .s) (.a 4 (.a 3 (.a 5 (.l []) .s) .s) .s)) (.a 3 (.a 0 (.a 4 (.a 5 (.l []) .s) .s) .s) .s)) .s)) .s
theorem XW (s:An) (i n:Nat) (k a b:Int) (hk:k=6\/k=7\/k=8\/k=9\/k=10) (hs:A0 s) (hx:BO s) (h:A2 s) (hi:i<s.sR.length) (hn:n<=16) (ho:s.sR[i].opn=true) (hon:s.sR[i].on=true):Ac pg 106 [.agg (Aj false s),xT s,.agg (AZ ⟨k,i,0,a,b,n⟩)] [lv (Aa As s.sQ),lv (Aa (Af true) s.sR)]
 (Nm (BM s ⟨k,i,0,a,b,n⟩ s.sR[i])):=by
 have h1:=hs.1;have h2:=hs.2.1;have hm:BJ (Ae s):=h.1.1.2.2.2.2.2.2;obtain⟨u,hu⟩:∃u,u=s.sR[i]:=zX;obtain⟨p,hp⟩:∃p,p=BM s ⟨k,i,0,a,b,n⟩ s.sR[i]:=zX;rw[<-hp];have hso:=h.1.2.2.2 _ (uQ hi);rw[CK ho,zP hon] at hso;rw[<-hu] at hp hso hon ho;have hg:=hso.2.1.2.2;have fat:∀(q:Nat),q<12->(Aa (Af true) s.sR)[i*12+q]?=(Af true u)[q]?:=λq hq=>by rw[hu];exact Au (f:=Af true) (s:=12) zL hi hq
 have hfl:True->(Aa (Af true) s.sR).length=s.sR.length*12:=λ_=>Bk (f:=Af true) zL _;have k3:(Aa (Af true) s.sR)[i*12+3]?=some (iN u.frm):=fat 3 zO;have k4:(Aa (Af true) s.sR)[i*12+4]?=some (iN u.sT.n):=fat 4 zO;unfold BM at hp;rw[zM (by simp only;omega),zM (by simp only;omega),zM (by simp only;omega),zM (by simp only;omega),zM (by simp only;omega),zM (by simp only;omega),zM (by simp only;omega),zM (by rw[hon];simp)] at hp;simp only at hp;unfold Nm xT;refine zE (fn:=Tryz.f106) [.cell 6 25,.cell 7 45] ?_;rw[A6];refine ej ?_;intro K hK;simp -implicitDefEqProofs (disch:=omega);refine zk ?_;refine zg hi ?_;refine AX ?_;refine y2 ?_;by_cases k10:k=10
 .subst k10;rw[zP rfl] at hp;refine y9 ?_;have e8:=BA (f:=Af true) (s:=12) zL (ps:=[(2,.bool false),(3,iN 0),(4,iN 0),(5,.own 1 0 [])]) (y:={u with on:=false,frm:=0,sT:=Az}) zS hi (by rw[<-hu];simp[Be,Af,Az]);refine BS (an hi (hfl trivial)) ?_;intro K hK;refine⟨zO,?_⟩;refine zk ?_;show W _ _ _ _ _ [_,lv (Be (Aa (Af true) s.sR) (i*12) [(2,.bool false),(3,iN 0),(4,iN 0),(5,.own 1 0 [])]),_,_,_,_,_,_] _;rw[e8];refine zs ?_;refine W.weak (sX 6 2) ?_;refine zr ?_;simp[hp,DE,Ch];rw[uM zS]
 by_cases k9:k=9
 .subst k9;rw[zM zD,zP rfl] at hp;refine y9 ?_;unfold E3 at hp;simp only at hp;have spL:=HL s hs;have hob:DZ (Ae s):=hs.objs;have hol:(Ae s).length=s.sQ.length:=by simp[Ae]
  have spO:=Nc s hs;have spM:=fi (Ae s) u.frm u.sT hob zO hm hg;have hbd:=S5 (l:=Ae s) (p:=u.frm) (g:=u.sT) hm hg;have hml:=MH h hg;refine Dy (an hi k3) ?_;intro K hK;refine s6 spL (by simp) (by simp) ?_;by_cases c1' :u.frm=At s.sQ;rotate_left
  .rw[zP c1'] at hp;have hpe:p=AE s 7:=hp;refine xK c1' ?_;refine yy ?_;intro K hK;refine tg (Ei s 7) zS ?_;refine Am ?_;refine W.weak ((tb 0).trans (tb 1)) ?_;refine zr ?_;simp[hpe,AE]
  rw[zM (λh=>h c1')] at hp;refine x5 c1' ?_;rw[<-c1'] at hml;obtain⟨mk,hmk⟩:∃mk,mk=BP (Ae s) u.frm u.sT:=zX;rw[<-hmk] at spM hbd hml hp;refine W.weak (te (B:=1) (v:=0) (j:=i*12+5) (s:=1) (n:=u.sT.out.length) (cs:=Aa (Af true) s.sR) (xs:=Ak true u.sT.out) zF (fat 5 zO)) ?_;obtain⟨L,hL⟩:∃L,L=(Aa (Af true) s.sR).set (i*12+5) (.tok 8 0 1 0 u.sT.out.length):=zX;have hLl:True->L.length=s.sR.length*12:=λ_=>by rw[hL];simp[hfl trivial]
  have m3:L[i*12+3]?=some (iN u.frm):=by rw[hL,uN zO];exact k3
  have m4:L[i*12+4]?=some (iN u.sT.n):=by rw[hL,uN zO];exact k4
  have m5:L[i*12+4+1]?=some (.tok 8 0 1 0 u.sT.out.length):=by
   show L[i*12+5]?=_;rw[hL,uO (by rw[hfl trivial];omega)]
  show W _ _ _ _ _ [_,lv ((Aa (Af true) s.sR).set (i*12+5) (.tok 8 0 1 0 u.sT.out.length)),_,_,_,_,_,_,_] _;rw[<-hL];refine Hw ?_;intro K hK;simp -implicitDefEqProofs (disch:=omega) [hi,m3,m4,m5];refine s6 spO (by simp) (by simp) ?_;refine AO (an m3 (an m4 (an m5 hi))) ?_;refine xW spM ?_;by_cases ce:mk.2=0;rotate_left
  .rw[zP ce] at hp;have hpe:p=AE s mk.2:=hp;refine yl ce ?_;intro K hK;refine tg (Ei s mk.2) zS ?_;refine Am ?_;refine W.weak ((tb 0).trans (tb 1)) ?_;refine zr ?_;simp[hpe,AE]
  rw[zM (λh=>h ce)] at hp;refine th ce ?_;subst hL;refine W.weak (sY (B:=1) (v:=0) (j:=i*12+5) (T:=8) (u:=0) (s:=1) (off:=0) (n:=u.sT.out.length) (xs:=Ak true u.sT.out) zF (by rw[uO (by rw[hfl trivial];omega)]) zF zS zS zS) ?_;have e5:=BA (f:=Af true) (s:=12) zL (ps:=[(5,.tok 8 0 1 0 u.sT.out.length),(5,.own 1 u.sT.out.length (((Ak true u.sT.out).drop 0).take (u.sT.out.length*1)))]) (y:=u) zS hi (by rw[<-hu];simp[Be,Af]);have hss:s.sR.set i u=s.sR:=by rw[hu,List.set_getElem_self]
  rw[hss] at e5;show W _ _ _ _ _ [_,lv (Be (Aa (Af true) s.sR) (i*12) [(5,.tok 8 0 1 0 u.sT.out.length),(5,.own 1 u.sT.out.length (((Ak true u.sT.out).drop 0).take (u.sT.out.length*1)))]),_,_,_,_,_,_,_,_,_] _;rw[e5];have spY:=Xo s mk.1 u.frm hs hx (by have:=(hbd ce).1;omega) (by have:=((Mv s).1 h).2.2.1;omega) h.2;have hlay:(Du s mk.1 u.frm).2≠1:=by rcases hml ce with m| ⟨y,m,_⟩<;>rw[m]<;>simp
  have hls:=XJ h hlay;rw[hls] at hp hml;rcases hml ce with m| ⟨ya,m,_⟩
  .rw[m] at spY hp;rw[zP zD] at hp;have hpe:p=AE s 5:=hp;refine Hw ?_;intro K hK;simp -implicitDefEqProofs (disch:=omega) [hi,k3];refine xW spY ?_;refine xY ?_;intro K hK;refine tg (Ei s 5) zS ?_;refine Am ?_;refine W.weak ((tb 0).trans (tb 1)) ?_;refine zr ?_;simp[hpe,AE]
  obtain⟨y,hy⟩:∃y,y=HS s mk.1 u.frm ya:=zX;have hys:y.sR=s.sR:=by rw[hy];rfl
  rw[<-hy] at m;rw[m] at spY hp;rw[zM zS] at hp;refine Hw ?_;intro K hK;simp -implicitDefEqProofs (disch:=omega) [hi,k3];refine xW spY ?_;refine y3 ?_;rw[hys];have e8:=BA (f:=Af true) (s:=12) zL (ps:=[(2,.bool false),(3,iN 0),(4,iN 0),(5,.own 1 0 [])]) (y:={u with on:=false,frm:=0,sT:=Az}) zS hi (by rw[<-hu];simp[Be,Af,Az]);refine zg hi ?_;refine BS (an hi (hfl trivial)) ?_;intro K hK;refine⟨zO,?_⟩;refine zk ?_;show W _ _ _ _ _ [_,_,_,_,_,_,_,_,_,_,_,_,_,lv (Be (Aa (Af true) s.sR) (i*12) [(2,.bool false),(3,iN 0),(4,iN 0),(5,.own 1 0 [])])] _;rw[e8];refine zw ?_;refine s5 (λ_:Unit=> [(6,pt 5),(7,pt 6)]) (λ_=> [.dead,.dead,lv (Aj false s),lv [iN s.keep,iN s.sS,.tok 0 0 8 0 s.sQ.length,.tok 1 0 12 0 s.sR.length],lv (AZ ⟨9,i,0,a,b,n⟩),lv [iN y.keep,iN y.sS,.tok 12 0 8 0 y.sQ.length,.tok 13 0 12 0 s.sR.length],lv [iN 0,iN mk.1.id,.tok 14 0 1 0 0],lv [iN 0,.own 1 0 []],.dead,lv (Ar mk.1),lv (Aa Ar (Ae s)),lv [iN y.keep,iN y.sS,.tok 12 0 8 0 y.sQ.length,.tok 13 0 12 0 s.sR.length],lv (Aa As y.sQ),lv (Aa (Af true) (s.sR.set i {u with on:=false,frm:=0,sT:=Az})),lv []]) (λ_=>True) ?_ ?_
  .refine tv 0 fL rfl Df AK (λK hK=>?_);unfold fL
   repeat' (first|exact Bp|refine Eo ?_| (refine Cb rfl ?_ ?_<;>try exact Bp)<;>try (simp -implicitDefEqProofs (maxSteps:=999999) (disch:=omega)))
   all_goals refine hK _ _ ⟨(),trivial,?_⟩
   all_goals refine((sX 6 2).trans ((tb 0).trans (tb 1))).trans ?_
   all_goals exact Wk.fr zK
  rintro _ _;refine zr ?_;simp[hp,Ch,hys];rw[uM zS]
 rw[zM k10,zM k9] at hp;have e5:=BA (f:=Af true) (s:=12) zL (ps:=[(5,.tok 8 0 1 0 u.sT.out.length),(5,.own 1 u.sT.out.length (((Ak true u.sT.out).drop 0).take (u.sT.out.length*1)))]) (y:=u) zS hi (by rw[<-hu];simp[Be,Af]);have hss:s.sR.set i u=s.sR:=by rw[hu,List.set_getElem_self]
 rw[hss] at e5;obtain⟨q,hq⟩:∃q,q=Jn s ⟨k,i,0,a,b,n⟩ u:=zX;rw[<-hq] at hp;unfold Jn at hq;simp only at hq;refine zw ?_;refine s5 (λ_:Unit=> [(3,pt 2),(4,pt 3),(5,pt 4),(6,pt 5),(7,pt 6),(8,.ptr 1 0 (i*12)),(9,pt 7),(10,iN q.2)]) (λ_=> [lv (Aa As s.sQ),lv (Aa (Af true) s.sR),lv (Aj false s),lv [iN s.keep,iN s.sS,.tok 0 0 8 0 s.sQ.length,.tok 1 0 12 0 s.sR.length],lv (AZ ⟨k,i,0,a,b,n⟩),lv (Aj true Av),lv [iN 0,iN 0,.own 1 0 []],lv [iN q.1.n,.tok 9 0 1 0 q.1.out.length],.dead,lv (Ak true q.1.out)]) (λ_=>True) ?_ ?_
 .refine zb ?_;by_cases k6:k=6
  .rw[zP k6] at hq;have spG:=dh u.sT n hg hn;rw[<-hq] at spG;subst k6;refine W.weak (te (B:=1) (v:=0) (j:=i*12+5) (s:=1) (n:=u.sT.out.length) (cs:=Aa (Af true) s.sR) (xs:=Ak true u.sT.out) zF (fat 5 zO)) ?_;obtain⟨L,hL⟩:∃L,L=(Aa (Af true) s.sR).set (i*12+5) (.tok 8 0 1 0 u.sT.out.length):=zX;have hLl:True->L.length=s.sR.length*12:=λ_=>by rw[hL];simp[hfl trivial]
   have m4:L[i*12+4]?=some (iN u.sT.n):=by rw[hL,uN zO];exact k4
   have m5:L[i*12+4+1]?=some (.tok 8 0 1 0 u.sT.out.length):=by
    show L[i*12+5]?=_;rw[hL,uO (by rw[hfl trivial];omega)]
   show W _ _ _ _ _ [_,lv ((Aa (Af true) s.sR).set (i*12+5) (.tok 8 0 1 0 u.sT.out.length)),_,_,_,_,_,_,_] _;rw[<-hL];refine y2 ?_;refine OC (an hi (an m4 m5)) spG ?_;refine⟨(),trivial,?_⟩;subst hL;refine(sY (B:=1) (v:=0) (j:=i*12+5) (T:=8) (u:=0) (s:=1) (off:=0) (n:=u.sT.out.length) (xs:=Ak true u.sT.out) zF (by rw[uO (by rw[hfl trivial];omega)]) zF zS zS zS).trans ?_;refine sU (k:=10) zK ?_ zS zS zS zS;show([_,lv (Be (Aa (Af true) s.sR) (i*12) [(5,.tok 8 0 1 0 u.sT.out.length),(5,.own 1 u.sT.out.length (((Ak true u.sT.out).drop 0).take (u.sT.out.length*1)))]),_,_,_,_,_,_,_,_]:List Ag)=_;rw[e5];rfl
  rw[zM k6] at hq;refine xO k6 ?_;by_cases k7:k=7
  .rw[zP k7] at hq;have spG:=fK u.sT a b hg;rw[<-hq] at spG;subst k7;refine W.weak (te (B:=1) (v:=0) (j:=i*12+5) (s:=1) (n:=u.sT.out.length) (cs:=Aa (Af true) s.sR) (xs:=Ak true u.sT.out) zF (fat 5 zO)) ?_;obtain⟨L,hL⟩:∃L,L=(Aa (Af true) s.sR).set (i*12+5) (.tok 8 0 1 0 u.sT.out.length):=zX;have hLl:True->L.length=s.sR.length*12:=λ_=>by rw[hL];simp[hfl trivial]
   have m4:L[i*12+4]?=some (iN u.sT.n):=by rw[hL,uN zO];exact k4
   have m5:L[i*12+4+1]?=some (.tok 8 0 1 0 u.sT.out.length):=by
    show L[i*12+5]?=_;rw[hL,uO (by rw[hfl trivial];omega)]
   show W _ _ _ _ _ [_,lv ((Aa (Af true) s.sR).set (i*12+5) (.tok 8 0 1 0 u.sT.out.length)),_,_,_,_,_,_,_] _;rw[<-hL];refine y2 ?_;refine OC (an hi (an m4 m5)) spG ?_;refine⟨(),trivial,?_⟩;subst hL;refine(sY (B:=1) (v:=0) (j:=i*12+5) (T:=8) (u:=0) (s:=1) (off:=0) (n:=u.sT.out.length) (xs:=Ak true u.sT.out) zF (by rw[uO (by rw[hfl trivial];omega)]) zF zS zS zS).trans ?_;refine sU (k:=10) zK ?_ zS zS zS zS;show([_,lv (Be (Aa (Af true) s.sR) (i*12) [(5,.tok 8 0 1 0 u.sT.out.length),(5,.own 1 u.sT.out.length (((Ak true u.sT.out).drop 0).take (u.sT.out.length*1)))]),_,_,_,_,_,_,_,_]:List Ag)=_;rw[e5];rfl
  rw[zM k7] at hq;have k8:k=8:=by
   rcases hk with e|e|e|e|e
   .exact absurd e k6
   .exact absurd e k7
   .exact e
   .exact absurd e k9
   .exact absurd e k10
  refine xO k7 ?_;subst k8;refine y2 ?_;refine W.weak (Wk.fr (S:=[(3,pt 2),(4,pt 3),(5,pt 4),(6,pt 5),(7,pt 6),(8,.ptr 1 0 (i*12)),(9,pt 7),(10,iN 0)]) zK) ?_;have spA:=FS a (u.sT.n-1);have spB:=FS b (u.sT.n-1);have hn1:=hg.1;have hn2:=hg.2.1;refine zw ?_;refine s5 (λz:Bool=> [(3,pt 2),(4,pt 3),(5,pt 4),(6,pt 5),(7,pt 6),(8,.ptr 1 0 (i*12)),(9,pt 7),(10,iN 0),(139,.bool z)]) (λ_=> [lv (Aa As s.sQ),lv (Aa (Af true) s.sR),lv (Aj false s),lv [iN s.keep,iN s.sS,.tok 0 0 8 0 s.sQ.length,.tok 1 0 12 0 s.sR.length],lv (AZ ⟨8,i,0,a,b,n⟩),lv (Aj true Av),lv [iN 0,iN 0,.own 1 0 []],lv [iN 0,.own 1 0 []]]) (λz=>z=decide (¬(DC u.sT a/\DC u.sT b))) ?_ ?_
  .by_cases ca:DC u.sT a
   .rw[zT (show 0<=a/\a<=u.sT.n-1 from ⟨ca.1,by have:=ca.2;omega⟩)] at spA;by_cases cb:DC u.sT b
    .rw[zT (show 0<=b/\b<=u.sT.n-1 from ⟨cb.1,by have:=cb.2;omega⟩)] at spB;refine Dy (an hi k4) ?_;intro K hK;refine s6 spA (by simp) (by simp) ?_;refine AO (an hi k4) ?_;refine xW spB ?_;exact⟨false,by simp[ca,cb],Wk.fr zK⟩
    .rw[zV (show¬(0<=b/\b<=u.sT.n-1) from λe=>cb ⟨e.1,zO⟩)] at spB;refine Dy (an hi k4) ?_;intro K hK;refine s6 spA (by simp) (by simp) ?_;refine AO (an hi k4) ?_;refine xW spB ?_;exact⟨true,by simp[cb],Wk.fr zK⟩
   .rw[zV (show¬(0<=a/\a<=u.sT.n-1) from λe=>ca ⟨e.1,zO⟩)] at spA;refine Dy (an hi k4) ?_;intro K hK;refine s6 spA (by simp) (by simp) ?_;refine xK (an hi k4) ?_;exact⟨true,by simp[ca],Wk.fr zK⟩
  rintro z rfl;by_cases c1:DC u.sT a/\DC u.sT b;rotate_left
  .rw[zT c1];have hpe:p=AE s 3:=by
    have:q=(Az,3):=by rw[hq];unfold Hu;rw[zP c1]
    rw[hp,this];rfl
   refine yy ?_;intro K hK;refine tg (Ei s 3) zS ?_;refine Am ?_;refine W.weak ((tb 0).trans (tb 1)) ?_;refine zr ?_;simp[hpe,AE]
  rw[zV (not_not_intro c1)];refine y2 ?_;have spG:=fJ u.sT a b hg c1;rw[<-hq] at spG;refine W.weak (te (B:=1) (v:=0) (j:=i*12+5) (s:=1) (n:=u.sT.out.length) (cs:=Aa (Af true) s.sR) (xs:=Ak true u.sT.out) zF (fat 5 zO)) ?_;obtain⟨L,hL⟩:∃L,L=(Aa (Af true) s.sR).set (i*12+5) (.tok 8 0 1 0 u.sT.out.length):=zX;have hLl:True->L.length=s.sR.length*12:=λ_=>by rw[hL];simp[hfl trivial]
  have m4:L[i*12+4]?=some (iN u.sT.n):=by rw[hL,uN zO];exact k4
  have m5:L[i*12+4+1]?=some (.tok 8 0 1 0 u.sT.out.length):=by
   show L[i*12+5]?=_;rw[hL,uO (by rw[hfl trivial];omega)]
  show W _ _ _ _ _ [_,lv ((Aa (Af true) s.sR).set (i*12+5) (.tok 8 0 1 0 u.sT.out.length)),_,_,_,_,_,_,_] _;rw[<-hL];refine OC (an hi (an m4 m5)) spG ?_;refine⟨(),trivial,?_⟩;subst hL;refine(sY (B:=1) (v:=0) (j:=i*12+5) (T:=8) (u:=0) (s:=1) (off:=0) (n:=u.sT.out.length) (xs:=Ak true u.sT.out) zF (by rw[uO (by rw[hfl trivial];omega)]) zF zS zS zS).trans ?_;refine sU (k:=10) zK ?_ zS zS zS zS;show([_,lv (Be (Aa (Af true) s.sR) (i*12) [(5,.tok 8 0 1 0 u.sT.out.length),(5,.own 1 u.sT.out.length (((Ak true u.sT.out).drop 0).take (u.sT.out.length*1)))]),_,_,_,_,_,_,_,_]:List Ag)=_;rw[e5];rfl
 rintro _ _;by_cases ce:q.2=0;rotate_left
 .rw[zP ce] at hp;have hpe:p=AE s q.2:=hp;refine yl ce ?_;intro K hK;refine tg (Ei s q.2) zS ?_;refine Am ?_;refine W.weak ((tb 0).trans (tb 1)) ?_;refine zr ?_;simp[hpe,AE]
 rw[zM (λh=>h ce)] at hp;have e8:=BA (f:=Af true) (s:=12) zL (ps:=[(4,iN q.1.n),(5,.tok 9 0 1 0 q.1.out.length),(5,.own 1 q.1.out.length (((Ak true q.1.out).drop 0).take (q.1.out.length*1)))]) (y:={u with sT:=q.1}) zS hi (by rw[<-hu];simp[Be,Af]);refine th ce ?_;refine BS (an hi (hfl trivial)) ?_;intro K hK;refine⟨zO,?_⟩;refine zk ?_;refine W.weak (sY (B:=1) (v:=0) (j:=i*12+5) (T:=9) (u:=0) (s:=1) (off:=0) (n:=q.1.out.length) (xs:=Ak true q.1.out) zF (by rw[uO (by rw[vS,hfl trivial];omega)]) zF zS zS zS) ?_;show W _ _ _ _ _ [_,lv (Be (Aa (Af true) s.sR) (i*12) [(4,iN q.1.n),(5,.tok 9 0 1 0 q.1.out.length),(5,.own 1 q.1.out.length (((Ak true q.1.out).drop 0).take (q.1.out.length*1)))]),_,_,_,_,_,_,_,_] _;rw[e8];refine zs ?_;refine W.weak (sX 6 2) ?_;refine zr ?_;rw[uM zS];simp[hp,DE,Ch]
theorem dl (s:An) (i n:Nat) (k v a b:Int) (hk:2<=k/\k<=13) (hs:A0 s) (hx:BO s) (h:A2 s) (hi:i<s.sR.length) (hn:n<=1000) (hn6:k=6->n<=16) (hn0:k=7\/k=8\/k=9\/k=10->n=0) (hv:6<=k/\k<=10->v=0) (ho:s.sR[i].opn=true):Ac pg 69 [.agg (Aj false s),xT s,.agg (AZ ⟨k,i,v,a,b,n⟩)] [lv (Aa As s.sQ),lv (Aa (Af true) s.sR)]
 (Nm (BM s ⟨k,i,v,a,b,n⟩ s.sR[i])):=by
 have h1:=hs.1;have h2:=hs.2.1;have hm:BJ (Ae s):=h.1.1.2.2.2.2.2.2;have spT:=λe1 e2=>XW s i n k a b e1 hs hx h hi e2 ho;have hso:=h.1.2.2.2 _ (uQ hi);rw[CK ho] at hso;have hj:s.sR[i].job=A3\/Ct (Cf s s.sR[i].pin) s.sR[i].job=true:=by
  rcases hso.2.2 with e| ⟨e0,e,_⟩
  .exact .inl e
  .exact .inr (by simpa[Cf,e0] using e)
 have hz:s.sR[i].pin=0->s.sR[i].job=A3:=λe0=>by
  rcases hso.2.2 with e| ⟨e1,_⟩
  .exact e
  .exact absurd e0 e1
 have spA:=λe1=>dj s i n k v a b e1 hs hm hi zO hj hz;obtain⟨u,hu⟩:∃u,u=s.sR[i]:=zX;obtain⟨p,hp⟩:∃p,p=BM s ⟨k,i,v,a,b,n⟩ s.sR[i]:=zX;rw[<-hp];have hpp:=hp;rw[<-hu] at hp ho;have fat:∀(q:Nat),q<12->(Aa (Af true) s.sR)[i*12+q]?=(Af true u)[q]?:=λq hq=>by rw[hu];exact Au (f:=Af true) (s:=12) zL hi hq
 have hfl:True->(Aa (Af true) s.sR).length=s.sR.length*12:=λ_=>Bk (f:=Af true) zL _;have k1:(Aa (Af true) s.sR)[i*12+1]?=some (iN u.pin):=fat 1 zO;have k2' :(Aa (Af true) s.sR)[i*12+2]?=some (.bool u.on):=fat 2 zO;unfold BM at hp;simp only at hp;unfold Nm xT;unfold xT at spA spT;refine zE (fn:=Tryz.f69) [.cell 6 25,.cell 7 45] ?_;rw[A6];refine ej ?_;intro K hK;simp -implicitDefEqProofs (disch:=omega);refine zk ?_;refine zg hi ?_;refine yo ?_;refine s5 (λ_:B3=> [(4,pt 3),(6,pt 5),(7,pt 6)]) (λy=> [lv (Aa As s.sQ),lv (Aa (Af true) (s.sR.set i y)),lv (Aj false s),lv [iN s.keep,iN s.sS,.tok 0 0 8 0 s.sQ.length,.tok 1 0 12 0 s.sR.length],lv (AZ ⟨k,i,v,a,b,n⟩),lv (Aj true Av),lv [iN 0,iN 0,.own 1 0 []]]) (λy=>p=DE (Ch s i y)) ?_ ?_
 .refine zb ?_;by_cases k2:k=2
  .rw[zP k2] at hp;have e8:=BA (f:=Af true) (s:=12) zL (ps:=[(0,.bool false),(1,iN 0),(2,.bool false),(3,iN 0),(4,iN 0),(5,.own 1 0 []),(6,iN 0),(7,iN 0),(8,iN 0),(9,.bool false),(10,.own 1 0 []),(11,.own 1 0 [])]) (y:=BU) zS hi (by rw[<-hu];simp[Be,Af,Az,A3,BU]);refine xP k2 ?_;refine BS (an hi (an (hfl trivial) k2)) ?_;intro K hK;refine⟨zO,?_⟩;refine zk ?_;refine⟨BU,hp,?_⟩;refine sU (k:=7) zK ?_ zS zS zS zS;show([_,Ag.live 0 (Be (Aa (Af true) s.sR) (i*12) [(0,.bool false),(1,iN 0),(2,.bool false),(3,iN 0),(4,iN 0),(5,.own 1 0 []),(6,iN 0),(7,iN 0),(8,iN 0),(9,.bool false),(10,.own 1 0 []),(11,.own 1 0 [])]),_,_,_,_,_]:List Ag)=_;rw[e8];simp[k2,Av]
  rw[zM k2] at hp;refine xO k2 ?_;by_cases k3:k=3
  .rw[zP k3] at hp;refine xP k3 ?_;by_cases c1:u.pin=0;rotate_left
   .rw[zP c1] at hp;have hpe:p=AE s 6:=hp;refine yl (an hi (an k1 c1)) ?_;intro K hK;refine tg (Ei s 6) zS ?_;refine Am ?_;refine W.weak ((tb 0).trans (tb 1)) ?_;refine zr ?_;simp[hpe,AE]
   rw[zM (λh=>h c1)] at hp;refine th (an hi (an k1 c1)) ?_;have spS:=Pd s hs;have hsl:(Bf s.sQ).length<=s.sQ.length:=by unfold Bf;rw[wB];exact vY _ _
   have spI:=Lb (Bf s.sQ) v zO;have hqc:=Lv (Bf s.sQ) v;obtain⟨x,hx'⟩:∃x,x=AN (λy=>decide (y=v)) (Bf s.sQ):=zX;rw[<-hx'] at spI hqc;refine CN ?_;intro K hK;refine CQ spS ?_;refine s6 spI (by simp) (by simp) ?_;by_cases cq:x<0
   .have hcf:(Bf s.sQ).contains v=false:=by
     cases e:(Bf s.sQ).contains v
     .rfl
     .have:=hqc.2 e;omega
    have hpe:p=AE s 3:=by rw[hp,zP hcf]
    refine xK cq ?_;refine yy ?_;intro K hK;refine tg (Ei s 3) zS ?_;refine Am ?_;refine W.weak ((tb 0).trans (tb 1)) ?_;refine zr ?_;simp[hpe,AE]
   have hcf:¬(Bf s.sQ).contains v=false:=λe=>by
    have:=hqc.1 zO;rw[e] at this;cases this
   rw[zM hcf] at hp;refine x5 cq ?_;have e8:=BA (f:=Af true) (s:=12) zL (ps:=[(1,iN v)]) (y:={u with pin:=v}) zS hi (by rw[<-hu];simp[Be,Af,Az,A3,BU]);refine zg (an hi (hfl trivial)) ?_;refine⟨_,hp,?_⟩;refine sU (k:=7) zK ?_ zS zS zS zS;show([_,Ag.live 0 (Be (Aa (Af true) s.sR) (i*12) [(1,iN v)]),_,_,_,_,_]:List Ag)=_;rw[e8];simp[k3,Av]
  rw[zM k3] at hp;refine xO k3 ?_;by_cases k4:k=4
  .rw[zP k4] at hp;refine xP k4 ?_;by_cases c1:u.pin=0
   .rw[zP c1] at hp;have hpe:p=AE s 6:=hp;refine yl (an hi (an k1 c1)) ?_;intro K hK;refine tg (Ei s 6) zS ?_;refine Am ?_;refine W.weak ((tb 0).trans (tb 1)) ?_;refine zr ?_;simp[hpe,AE]
   rw[zM c1] at hp;refine th (an hi (an k1 c1)) ?_;have e8:=BA (f:=Af true) (s:=12) zL (ps:=[(1,iN 0),(6,iN 0),(7,iN 0),(8,iN 0),(9,.bool false),(10,.own 1 0 []),(11,.own 1 0 [])]) (y:={u with pin:=0,job:=A3}) zS hi (by rw[<-hu];simp[Be,Af,Az,A3,BU]);refine BS (an hi (hfl trivial)) ?_;intro K hK;refine⟨zO,?_⟩;refine zk ?_;refine⟨_,hp,?_⟩;refine sU (k:=7) zK ?_ zS zS zS zS;show([_,Ag.live 0 (Be (Aa (Af true) s.sR) (i*12) [(1,iN 0),(6,iN 0),(7,iN 0),(8,iN 0),(9,.bool false),(10,.own 1 0 []),(11,.own 1 0 [])]),_,_,_,_,_]:List Ag)=_;rw[e8];simp[k4,Av]
  rw[zM k4] at hp;refine xO k4 ?_;by_cases k5:k=5
  .rw[zP k5] at hp;refine xP k5 ?_;by_cases c1:u.on=true
   .rw[zP c1] at hp;have hpe:p=AE s 6:=hp;refine yl (an hi (an k2' c1)) ?_;intro K hK;refine tg (Ei s 6) zS ?_;refine Am ?_;refine W.weak ((tb 0).trans (tb 1)) ?_;refine zr ?_;simp[hpe,AE]
   rw[zM c1] at hp;refine th (an hi (an k2' c1)) ?_;have spL:=HL s hs;have spG:=VV s (At s.sQ) hs hm;have hg:=D4 s (At s.sQ);obtain⟨g,hgd⟩:∃g,g=Cf s (At s.sQ):=zX;rw[<-hgd] at spG hg hp;have spC:=GS g hg.inn;have e8:=BA (f:=Af true) (s:=12) zL (ps:=[(2,.bool true),(3,iN (At s.sQ)),(4,iN g.n),(5,.tok 8 0 1 0 g.out.length),(5,.own 1 g.out.length (((Ak true g.out).drop 0).take (g.out.length*1)))]) (y:={u with on:=true,frm:=At s.sQ,sT:=g}) zS hi (by rw[<-hu];simp[Be,Af,Az,A3,BU]);refine BS (an hi (hfl trivial)) ?_;intro K hK;refine sW spL (by simp) (by simp) ?_;refine xK (an hi (hfl trivial)) ?_;refine Dy (an hi (hfl trivial)) ?_;intro K hK;refine CQ spL ?_;refine CQ spG ?_;refine s6 spC (by simp) (by simp) ?_;refine AO (an hi (hfl trivial)) ?_;refine⟨zO,?_⟩;refine zk ?_;refine⟨_,hp,?_⟩;refine(sY (B:=1) (v:=0) (j:=i*12+5) (T:=8) (u:=0) (s:=1) (off:=0) (n:=g.out.length) (xs:=Ak true g.out) zF (by rw[uO (by simp[hfl trivial];omega)]) zF zS zS zS).trans ?_;refine sU (k:=7) zK ?_ zS zS zS zS;show([_,Ag.live 0 (Be (Aa (Af true) s.sR) (i*12) [(2,.bool true),(3,iN (At s.sQ)),(4,iN g.n),(5,.tok 8 0 1 0 g.out.length),(5,.own 1 g.out.length (((Ak true g.out).drop 0).take (g.out.length*1)))]),_,_,_,_,_]:List Ag)=_;rw[e8];simp[k5,Av]
  rw[zM k5] at hp;refine th k5 ?_;refine zw ?_;refine s5 (λz:Bool=> [(3,pt 2),(4,pt 3),(5,pt 4),(6,pt 5),(7,pt 6),(8,.ptr 1 0 (i*12)),(106,.bool z)]) (λ_=> [lv (Aa As s.sQ),lv (Aa (Af true) s.sR),lv (Aj false s),lv [iN s.keep,iN s.sS,.tok 0 0 8 0 s.sQ.length,.tok 1 0 12 0 s.sR.length],lv (AZ ⟨k,i,v,a,b,n⟩),lv (Aj true Av),lv [iN 0,iN 0,.own 1 0 []]]) (λz=>z=decide (k=11\/k=12\/k=13)) ?_ ?_
  .by_cases k11:k=11
   .rw[zT k11];refine y2 ?_;exact⟨true,by simp[k11],sU (k:=7) zK (by simp[Av]) zS zS zS zS⟩
   rw[zV k11];refine y2 ?_;by_cases k12:k=12
   .rw[zT k12];refine y2 ?_;exact⟨true,by simp[k12],sU (k:=7) zK (by simp[Av]) zS zS zS zS⟩
   rw[zV k12];refine y2 ?_;exact⟨decide (k=13),by simp[k11,k12],sU (k:=7) zK (by simp[Av]) zS zS zS zS⟩
  rintro z rfl;by_cases ka:k=11\/k=12\/k=13
  .rw[zT ka];refine yy ?_;intro K hK;refine tP [0,1] (spA ka) zS zS zS zS ?_;rw[<-hpp];rintro r M' ⟨hr|hr,rfl⟩ _<;>refine⟨zS,?_⟩
   .subst hr;refine Am ?_;exact zR
   .subst hr;refine Am ?_;exact zR
  rw[zV ka];rw[zM (λe=>ka (.inl e)),zM (λe=>ka (.inr (.inl e))),zM (λe=>ka (.inr (.inr e)))] at hp;refine zn ?_;by_cases c1:u.on=false
  .rw[zP c1] at hp;have hpe:p=AE s 6:=hp;refine yl (an hi (an k2' c1)) ?_;intro K hK;refine tg (Ei s 6) zS ?_;refine Am ?_;refine W.weak ((tb 0).trans (tb 1)) ?_;refine zr ?_;simp[hpe,AE]
  have c1' :u.on=true:=by simpa using c1
  refine th (an hi (an k2' c1')) ?_;have hkk:k=6\/k=7\/k=8\/k=9\/k=10:=zO;have hv0:v=0:=hv zO;subst hv0;have hn' :n<=16:=by
   rcases hkk with e|e|e|e|e
   .exact hn6 e
   .have:=hn0 zO;omega
   .have:=hn0 zO;omega
   .have:=hn0 zO;omega
   .have:=hn0 zO;omega
  refine z0 ?_;intro K hK;refine tP [0,1] (spT hkk hn' (by rw[<-hu];exact c1')) zS zS zS zS ?_;rw[<-hpp];rintro r M' ⟨hr|hr,rfl⟩ _<;>refine⟨zS,?_⟩
  .subst hr;refine Am ?_;exact zR
  .subst hr;refine Am ?_;exact zR
 rintro y hy;refine zs ?_;refine W.weak (sX 6 2) ?_;refine zr ?_;rw[uM zS];simp[hy,DE,Ch]
def Nn (xs ys:List Obj):Prop:=xs.map (λo=>(o.id,o.base))=ys.map λo=>(o.id,o.base)
theorem Pp {xs ys:List Obj} (h:Nn xs ys) (j:Int):(A5 xs j).map (λo=>(o.id,o.base))=(A5 ys j).map λo=>(o.id,o.base):=by
 have e:∀l:List Obj,(A5 l j).map (λo=>(o.id,o.base))=(l.map λo=>(o.id,o.base)).find? λq=>decide (q.1=j):=λl=>by
  unfold A5;rw[List.find?_map];rfl
 rw[e,e,h]
theorem Q0 {xs ys:List Obj} (h:Nn xs ys):∀(k:Nat) (j:Int),(A4 xs k j).length=(A4 ys k j).length
 |0,_=>rfl
 |k+1,j=>by
  rw[A4,A4];by_cases h0:j=0
  .simp[h0]
  .rw[zM h0,zM h0];have hf:=Pp h j;cases e1:A5 xs j with
   |none=>rw[e1] at hf;cases e2:A5 ys j with
    |none=>rfl
    |some b=>rw[e2] at hf;simp at hf
   |some a=>
    rw[e1] at hf;cases e2:A5 ys j with
    |none=>rw[e2] at hf;simp at hf
    |some b=>
     rw[e2] at hf;simp at hf;simp only[vA];rw[hf.2,Q0 h k b.base]
theorem VW {xs ys:List Obj} (h:Nn xs ys) (j:Int):AY xs j=AY ys j:=by
 have hf:=Pp h j;unfold AY;rw[Q0 h 4 j];cases e1:A5 xs j<;>cases e2:A5 ys j<;>rw[e1,e2] at hf<;>simp at hf<;>rfl
section
variable {l:List Obj} {i:Nat} {q:Obj}
theorem TM (hl:BJ l) (hall:∀o∈l,(AT l o.id).2=0) (hi:i<l.length) (hb:l[i].base≠0) (hq:A5 l l[i].base=some q):BJ (l.set i ⟨l[i].id,q.base,l[i].data⟩)/\∀o∈l,(AY (l.set i ⟨l[i].id,q.base,l[i].data⟩) o.id).2=0:=by
 obtain⟨r1,r2⟩:=NL hl hall hi hb hq;have hs:Nn (l.set i ⟨l[i].id,q.base,l[i].data⟩) (l.set i (Ex l l[i] q.base)):=by unfold Nn;simp[wi,Ex]
 have hsb:=hs;unfold Nn at hs;have hids:∀b,(∃r∈l.set i (Ex l l[i] q.base),r.id=b)->∃r∈l.set i ⟨l[i].id,q.base,l[i].data⟩,r.id=b:=λb ⟨r,hr,e⟩=>by
  have:(r.id,r.base)∈(l.set i (Ex l l[i] q.base)).map λo=>(o.id,o.base):=vH.2 ⟨r,hr,rfl⟩;rw[<-hs] at this;obtain⟨r',hr',e'⟩:=vH.1 this;simp at e';exact⟨r',hr',by rw[e'.1];exact e⟩
 refine⟨⟨by simp;exact hl.1,λo ho=>?_,?_⟩,λo ho=>?_⟩
 .have h2:(o.id,o.base)∈(l.set i (Ex l l[i] q.base)).map λo=>(o.id,o.base):=by rw[<-hs];exact vH.2 ⟨o,ho,rfl⟩
  obtain⟨r,hr,e⟩:=vH.1 h2;simp at e;obtain⟨k1,k2,k3,k4,k5⟩:=r1.2.1 r hr;rw[e.1] at k1 k2 k4;rw[e.2] at k4 k5;refine⟨k1,k2,?_,k4,k5.imp id (hids _)⟩;rcases vX ho with h|h
  .exact(hl.2.1 o h).2.2.1
  .subst h;exact(hl.2.1 _ (uQ hi)).2.2.1
 .have h1:((l.set i (Ex l l[i] q.base)).map λo=>(o.id,o.base)).Pairwise λa b=>a.1<b.1:=wZ.2 r1.2.2;rw[<-hs] at h1;rw[wZ] at h1;exact h1
 .rw[VW hsb];exact FW (by rw[r2 _ ⟨o,ho,rfl⟩];exact hall o ho)
end
theorem Q7 (xs:List Obj) (hx:xs.length<1000000000):Ac pg 195 [.ro xs.length (Aa Ar xs)] [] (λr _=>r= .own 4 xs.length (Aa Ar xs)):=by
 refine zE (fn:=Tryz.f195) [.tmp 2] ?_;rw[AC];refine xZ ?_;refine sV (λk:Nat=> [(0,.ro xs.length (Aa Ar xs)),(3,.tok 0 k 4 0 k),(4,iN k)]) (λk=> [.live k (Aa Ar (xs.take k))]) (λk=>xs.length-k) (λk=>k<=xs.length) 0 ((Wk.nil (t:=3) (s:=4) zS).trans (Wk.fr zK)) zS ?_;intro k hk;refine zs ?_;refine zc ?_ ?_<;>intro h
 .refine W.skip ?_;have hlt:k<xs.length:=zO;refine x9 ?_;intro K hK;simp -implicitDefEqProofs (disch:=omega) [hlt];refine⟨zO,zO,?_⟩;refine xM ?_;refine⟨k+1,zO,zO,sU (k:=1) zK ?_ zS zS zS zS⟩;have hto:xs.take (k+1)=xs.take k++[xs[k]]:=by rw[uV];simp[hlt]
  rw[hto,BI];simp[AG]
 .refine s7 ?_;have hk' :k=xs.length:=zO;subst hk';rw[uW];exact DM
theorem Tk {l:List Obj} {i:Nat} (hi:i<l.length) (b:Int) (d:DX):(((Aa Ar l).set (i*4+1) (iN b)).set (i*4+1+1) (.str d.data)).set (i*4+1+1+1) (iN d.n)=Aa Ar (l.set i ⟨l[i].id,b,d⟩):=by
 have oc0:(Aa Ar l)[i*4]?=some (iN l[i].id):=Au (f:=Ar) (s:=4) zL hi (i:=0) zO;rw[<-PS ⟨l[i].id,b,d⟩ l i hi];congr 3;refine(wk λj=>?_);rw[wl];split
 .rename_i h;subst h;rw[oc0];simp;omega
 .rfl
theorem Tl {l:List AV} {k:Nat} {y:AV} (h:l[k]?=some y):l.set k y=l:=by
 refine wk λj=>?_;rw[wl];split
 .rename_i e;subst e;rw[h,zP (wv.1 h).1]
 .rfl
theorem ZB {l:List Obj} {i:Nat} (hi:i<l.length) (b:Int):(Aa Ar l).set (i*4+1) (iN b)=Aa Ar (l.set i ⟨l[i].id,b,l[i].data⟩):=by
 rw[<-Tk hi b l[i].data];have oc2:(Aa Ar l)[i*4+1+1]?=some (.str l[i].data.data):=Au (f:=Ar) (s:=4) zL hi (i:=2) zO;have oc3:(Aa Ar l)[i*4+1+1+1]?=some (iN l[i].data.n):=Au (f:=Ar) (s:=4) zL hi (i:=3) zO;rw[Tl (y:= .str l[i].data.data) (by rw[uN zO];exact oc2),Tl (y:=iN l[i].data.n) (by rw[uN zO];exact oc3)]
theorem XX (l:List Obj) (i:Nat) (q:Obj) (hx:DZ l) (hl:BJ l) (hall:∀o∈l,(AT l o.id).2=0) (hi:i<l.length) (hb:l[i].base≠0) (hq:A5 l l[i].base=some q):Ac pg 150 [.ro l.length (Aa Ar l),iN l[i].id,iN q.base] [] (λr _=>r= .tup [.own 4 l.length (Aa Ar (l.set i (Ex l l[i] q.base))),iN 0]):=by
 have hlen:l.length<=12:=hl.1;have hm:=uQ hi;obtain⟨d1,d2,d3,d4⟩:=JV hl hall hi hb hq;obtain⟨r1,r2⟩:=TM hl hall hi hb hq;have hidx:AN (λo=>decide (o.id=l[i].id)) l=(i:Int):=by
  refine DY hi zS λj hj hlt=>?_;have:=vB.1 hl.2.2 j i hj hi hlt;simp;omega
 have spO:=FE l l[i].id hx hl;have hOg:AT l l[i].id=((AT l l[i].id).1,0):=Prod.ext rfl (hall _ hm);have hgm:=Da l l[i].id;have spB:=FE l q.base hx hl;have hbok:q.base≠0->(AT l q.base).2=0:=λh=>by
  obtain⟨r,rm,ri⟩:=(d4 h).1;rw[<-ri];exact hall r rm
 have spC:=Q7 l zO;have spF:=Nb l l[i].id zO;rw[hidx] at spF;obtain⟨x,hxd⟩:∃x,x=l.set i ⟨l[i].id,q.base,l[i].data⟩:=zX;have hset:=ZB hi q.base;rw[<-hxd] at r1 r2 hset;have hxl:x.length=l.length:=by rw[hxd];simp
 have hix:i<x.length:=zO;have hxi:x[i].id=l[i].id:=by simp[hxd]
 have hxin:DZ x:=⟨zO,λo ho=>by
  rw[hxd] at ho;rcases vX ho with h|h
  .exact hx.2 o h
  .subst h;show l[i].data.data.size<_;exact hx.2 _ hm⟩
 have spA:=λj=>Nb x j zO;have spD:=λj=>PN x j hxin r1;have hxidx:AN (λo=>decide (o.id=l[i].id)) x=(i:Int):=by
  refine DY hix (by simp[hxi]) λj hj hlt=>?_;have:=vB.1 r1.2.2 j i hj hix hlt;simp;omega
 have hxall:∀k (h:k<x.length),(AY x x[k].id).2=0:=λk h=>by
  have hk:x[k].id=l[k].id:=by
   have:x.map (λo=>o.id)=l.map λo=>o.id:=by
    rw[hxd,wi];refine wk λj=>?_;rw[wl];split
    .rename_i h;subst h;simp[hi]
    .rfl
   have h2:=congrArg (λm=>m[k]?) this;simp[h,show k<l.length by omega] at h2;exact h2
  rw[hk];exact r2 _ (uQ zO)
 have hset2:((Aa Ar x).set (i*4+2) (.str (Ed l q.base (AT l l[i].id).1).data)).set (i*4+2+1) (iN (Ed l q.base (AT l l[i].id).1).n)=Aa Ar (l.set i (Ex l l[i] q.base)):=by
  rw[<-hset];exact Tk hi q.base _
 obtain⟨g,hg⟩:∃g,g=(AT l l[i].id).1:=zX;have spY:=VL l q.base g hx hl (by rw[hg];exact hgm);rw[<-hg] at hOg hset2;rw[hOg] at spO;obtain⟨id,By⟩:∃id,id=l[i].id:=zX;obtain⟨b,hbd⟩:∃b,b=q.base:=zX;obtain⟨z,hz⟩:∃z,z=l.set i (Ex l l[i] q.base):=zX;have hzl:z.length=l.length:=by rw[hz];simp
 rw[<-hz] at hset2 |-;rw[<-By] at spO spF hxidx hidx |-;rw[<-hbd] at spB hbok spY hset hset2 |-;obtain⟨d,hd⟩:∃d,d=Ed l b g:=zX;rw[<-hd] at spY hset2;obtain⟨n,hn⟩:∃n,n=l.length:=zX;refine zE (fn:=Tryz.f150) [.tmp 6,.tmp 7] ?_;rw[A6];refine zs ?_;refine EU spO ?_;refine y4 ?_;refine s5 (λ_:Unit=> [(0,.ro l.length (Aa Ar l)),(1,iN id),(2,iN b),(8,pt 0)]) (λ_=> [lv [iN g.n,.tok 1 0 1 0 g.out.length],lv (Ak true g.out)]) (λ_=>True) ?_ ?_
 .refine zc ?_ ?_<;>intro h
  .have hOb:AT l b=((AT l b).1,0):=Prod.ext rfl (hbok h);rw[hOb] at spB;refine EU spB ?_;refine y3 ?_;exact⟨(),trivial,sU (k:=2) zK zS zS zS zS zS⟩
  .refine W.skip ?_;exact⟨(),trivial,sU (k:=2) zK zS zS zS zS zS⟩
 rintro _ _;refine AL spC ?_;refine z0 ?_;intro K hK;refine sW spF (by simp) (by simp) ?_;refine AO hi ?_;refine⟨zO,?_⟩;refine zk ?_;rw[hset];refine xR ?_;refine sV (λk:Nat=> [(0,.ro l.length (Aa Ar l)),(1,iN id),(2,iN b),(8,pt 0),(12,.tok 2 0 4 0 x.length),(13,iN k)]) (λ_=> [lv [iN g.n,.tok 1 0 1 0 g.out.length],lv (Ak true g.out),lv (Aa Ar x)]) (λk=>x.length-k) (λk=>k<=x.length) 0 (Wk.fr (by simp[AA,hxl])) zS ?_;intro k hk;by_cases c1:k<x.length;rotate_left
 .refine th c1 ?_;refine CN ?_;intro K hK;refine s6 (spA id) (by simp) (by simp) ?_;refine AO (an hxidx hix) ?_;refine s6 spY (by simp) (by simp) ?_;refine xK (an hxidx hix) ?_;rw[hset2];refine Bd ?_;rw[uM zO];exact⟨zO,rfl⟩
 have x0:(Aa Ar x)[k*4]?=some (iN x[k].id):=Au (f:=Ar) (s:=4) zL c1 (i:=0) zO;have hxk:=hxall k c1;have spDk:=spD x[k].id;rw[show AY x x[k].id=((AY x x[k].id).1,0) from Prod.ext rfl hxk] at spDk;obtain⟨dk,hdk⟩:∃dk,dk=(AY x x[k].id).1:=zX;rw[<-hdk] at spDk;refine xL c1 ?_;refine zg (an c1 x0) ?_;refine yo ?_;refine s5 (λon:Int=> [(0,.ro l.length (Aa Ar l)),(1,iN id),(2,iN b),(8,pt 0),(12,.tok 2 0 4 0 x.length),(13,iN k),(14,iN on)]) (λ_=> [lv [iN g.n,.tok 1 0 1 0 g.out.length],lv (Ak true g.out),lv (Aa Ar x)]) (λ_=>True) ?_ ?_
 .refine zb ?_;refine sV (λy:Nat×Int=> [(0,.ro l.length (Aa Ar l)),(1,iN id),(2,iN b),(8,pt 0),(12,.tok 2 0 4 0 x.length),(13,iN k),(14,iN y.2),(15,iN y.1)]) (λ_=> [lv [iN g.n,.tok 1 0 1 0 g.out.length],lv (Ak true g.out),lv (Aa Ar x)]) (λy=>x.length+2-y.1) (λy=>y.1<=x.length+1/\(y.2=0\/BL x y.2)) (0,x[k].id) (Wk.fr zK) ⟨zO,.inr ⟨_,uQ c1,rfl⟩⟩ ?_;rintro⟨m,on⟩ ⟨hmm,hon⟩;simp only at hmm hon |-;by_cases e1:on=0
  .refine th e1 ?_;exact⟨on,trivial,Wk.fr (by simp[AA,e1])⟩
  by_cases e2:on=id
  .refine th (an e1 e2) ?_;exact⟨on,trivial,Wk.fr (by simp[AA,e2])⟩
  by_cases e3:m<=x.length;rotate_left
  .refine th (an e1 (an e2 e3)) ?_;exact⟨on,trivial,Wk.fr zK⟩
  obtain⟨r,hr⟩:=C3.1 (hon.resolve_left e1);obtain⟨j,hj,j1,j2,j3⟩:=EI hr;have hrm:=(EK hr).1;have w1:(Aa Ar x)[j*4+1]?=some (iN r.base):=by
   have:=Au (f:=Ar) (s:=4) zL hj (i:=1) zO;rw[this,j2];rfl
  have spAj:=spA on;rw[j1] at spAj;refine xL (an e1 (an e2 e3)) ?_;refine z0 ?_;intro K hK;refine sW spAj (by simp) (by simp) ?_;refine xK (an hj w1) ?_;refine zs ?_;exact⟨(m+1,r.base),by simp only;omega,⟨by simp only;omega,r1.closed r hrm⟩,Wk.fr zK⟩
 rintro on _;refine zs ?_;refine zc ?_ ?_<;>intro h
 .refine y2 ?_;exact⟨k+1,zO,zO,Wk.fr zK⟩
 .refine W.skip ?_;refine GL (an c1 x0) spDk ?_;refine y4 ?_;exact⟨k+1,zO,zO,Wk.fr zK⟩
theorem ZY (s:An) (k id:Int) (hs:A0 s) (hx:BO s) (hok:A2 s):Ac pg 108 [.agg (Aj false s),.agg [iN k,iN id]] [] (λr _=>r= .tup [.agg (Aj true (Di s k id).1),iN (Di s k id).2]):=by
 have h1:=hs.1;have hmy:=hok.1.1.2.2.2.2.2.2;have hall:=hok.1.2.2.1;have spP:=N3 s id hs;have spT:=cr s id hs hx;obtain⟨z,hz⟩:∃z,z=AN (λv=>decide (v.id=id)) s.sQ:=zX;have hz2:=hz;rw[<-hz] at spP;have spB:=Dn k 1 2;have hk12:(1<=k/\k<=2)↔(k=1\/k=2):=zO;refine zE (fn:=Tryz.f108) [.cell 4 25,.tmp 5] ?_;rw[Aq];refine Ig ?_;unfold Di;rw[<-hz];by_cases c1:k=1\/k=2;rotate_left
 .rw[zV (λh=>c1 (hk12.1 h))] at spB;rw[zP c1];refine ym spB ?_;refine W.weak ((sX 2 2).trans (sX 2 3)) ?_;refine zr ?_;simp[Av]
 rw[zM (λh=>h c1)];rw[zT (hk12.2 c1)] at spB;refine ym spB ?_;refine AL spP ?_;by_cases c2:z<0
 .rw[zP c2];refine th c2 ?_;refine W.weak ((sX 2 2).trans (sX 2 3)) ?_;refine zr ?_;simp[Av]
 rw[zM c2];refine th c2 ?_;by_cases c3:k=1
 .rw[zP c3];refine xP c3 ?_;refine AL spT ?_;exact zR
 rw[zM c3];obtain⟨i,hi⟩:∃i:Nat,z=(i:Int):=⟨z.toNat,zO⟩;have hzt:z.toNat=i:=zO;obtain⟨hk,By⟩:∃hk:i<s.sQ.length,s.sQ[i].id=id:=by
  obtain⟨hk,By⟩:=Nh (s:=s) (id:=id) (by rw[<-hz];exact c2);have e:(AN (λv=>decide (v.id=id)) s.sQ).toNat=i:=by rw[<-hz];exact hzt
  simp only[e] at hk By;exact⟨hk,By⟩
 have hgv:s.sQ[z.toNat]?=some s.sQ[i]:=by rw[hzt];exact uT hk
 simp only[hgv];clear hgv hzt hz2 hz;subst hi;have v2:(Aa As s.sQ)[i*8+2]?=some (iN s.sQ[i].base):=Au (f:=As) (s:=8) zL hk (i:=2) zO;by_cases c4:s.sQ[i].base=0
 .rw[zP c4];refine th c3 ?_;refine xL (an hk (an v2 c4)) ?_;refine W.weak ((sX 2 2).trans (sX 2 3)) ?_;refine zr ?_;simp[Av]
 rw[zM c4];have hio:i<(Ae s).length:=by simpa[Ae] using hk
 have eo:(Ae s)[i]=B2 s.sQ[i]:=by simp[Ae]
 obtain⟨q,hq⟩:=C3.1 ((hmy.closed _ (uQ hio)).resolve_left (by rw[eo];exact c4));have hq2:A5 (Ae s) s.sQ[i].base=some q:=by rw[eo] at hq;exact hq
 have hqb:FA (Ae s) s.sQ[i].base=q.base:=by unfold FA;rw[hq2]
 obtain⟨j,hj,j1,j2,j3⟩:=EI hq2;rw[Tb] at j1;have hjv:j<s.sQ.length:=by simpa[Ae] using hj
 have j4:(Aa As s.sQ)[j*8+2]?=some (iN q.base):=by
  rw[<-j2];have:=Au (f:=As) (s:=8) zL hjv (i:=2) zO;rw[this];simp[Ae,B2,As]
 have hjb:s.sQ[j].base=q.base:=by rw[<-j2];simp[Ae,B2]
 have spP2:=N3 s s.sQ[i].base hs;rw[j1] at spP2;have spL:=Nc s hs;have spR:=XX (Ae s) i q hs.objs hmy hall hio (by rw[eo];exact c4) hq;rw[eo] at spR;have hoid:(B2 s.sQ[i]).id=id:=By;rw[hoid] at spR;rw[hqb];obtain⟨o,ho⟩:∃o,o=Ex (Ae s) (B2 s.sQ[i]) q.base:=zX;have hos:o.data.data.size<1000000000:=by rw[ho];exact Tc _
 rw[<-ho] at spR |-;have spY:=Xo s o 0 hs hx hos (by have:=hmy.1;simp[Ae] at this;omega) hok.2;obtain⟨l,hl⟩:∃l,l=Ae s:=zX;rw[<-hl] at spL spR hio;have o0:(Aa Ar (l.set i o))[i*4]?=some (iN o.id):=by
  have:=Au (f:=Ar) (s:=4) (xs:=l.set i o) zL (show i<(l.set i o).length by simpa using hio) (i:=0) zO;rw[vZ] at this;exact this
 have o1:(Aa Ar (l.set i o))[i*4+1]?=some (iN o.base):=by
  have:=Au (f:=Ar) (s:=4) (xs:=l.set i o) zL (show i<(l.set i o).length by simpa using hio) (i:=1) zO;rw[vZ] at this;exact this
 have o2:(Aa Ar (l.set i o))[i*4+1+1]?=some (.str o.data.data):=by
  have:=Au (f:=Ar) (s:=4) (xs:=l.set i o) zL (show i<(l.set i o).length by simpa using hio) (i:=2) zO;rw[vZ] at this;exact this
 have o3:(Aa Ar (l.set i o))[i*4+1+1+1]?=some (iN o.data.n):=by
  have:=Au (f:=Ar) (s:=4) (xs:=l.set i o) zL (show i<(l.set i o).length by simpa using hio) (i:=3) zO;rw[vZ] at this;exact this
 refine th c3 ?_;refine zg (an hk v2) ?_;refine th c4 ?_;refine Dy (an hk v2) ?_;intro K hK;refine CQ spL ?_;refine s6 spP2 (by simp) (by simp) ?_;refine AO (an hjv (an j4 hjb)) ?_;refine xW spR ?_;refine y3 ?_;refine OC (an hio (an o0 (an o1 (an o2 o3)))) spY ?_;exact zR
end Go.Abs
