/- Regions whose order is open: what comes is fetched from behind; the swaps. No program. -/
import Derived.Test.YtoklapibcmnaeaaGreatP3
set_option linter.unusedVariables false
set_option linter.unusedSimpArgs false
namespace Go.Abs
section
variable {P:Program} {L:Bool} {n:Nat} {T:Nat->Option TI} {ops:Array Oper} {sl:Nat->Nat} {F:Fr} {M:List Ag} {K:Fr->List Ag->Prop} {o oi oj:Oper}
theorem Dn.up' {s:Nat} {F' :Fr} {M' :List Ag} {v:AV} {b:Option Ag} (ha:Gd ops F' o=Gd ops F o) (he:∀x∈o.op.operands,ev F' x=ev F x) (hM:pv T M' F' o=pv T M F o\/(∀B v cs,Aj M B v=some cs->Aj M' B v=some cs)) (hf:b≠none->M[s]?=some .free->M'[s]?=some .free)
 (h:Dn T ops o s F M v b):Dn T ops o s F' M' v b:=by
 cases b with
 |some x=>exact h.up ha he hM (hf (by simp))
 |none=>
  rcases h with⟨g1,g2⟩ | ⟨g1,g2,g3⟩
  .refine .inl ⟨by rw[ha];exact g1,?_⟩
   have hnb:Bf o.op=false:=by
    rcases g2.slot with h| ⟨⟨x,h⟩,_⟩
    .exact h.2
    .simp at h
   unfold E9 at g2 |-
   split at g2<;>(rename_i hop;try (simp[hop,Bf] at hnb;done))<;>try (simp only[hop])
   refine⟨by simp,?_⟩
   rcases hM with hM|hM
   .rw[hM];exact g2.2
   .rw[Eg he];exact Sm hM g2.2
  .exact .inr ⟨by rw[ha];exact g1,g2,g3⟩
theorem N4 (tk:BI P T) (hb:By n o=true) {s:Nat} (hc:AF o.op=4\/AF o.op=5) (I:CQ P n F M) (h:CX T (Ah P L) o s F M K):
 CX T (Ah P L) o s F M fun F' M' =>K F' M' /\CQ P n F' M' /\(∃u,F' =Al F o.dst u)/\MS o s M M' :=by
 have key:∀F1 M1,CX T (Ah P L) o s F M (fun F' M' =>F' =F1/\M' =M1)->CQ P n F1 M1:=fun F1 M1 h=>by
  obtain⟨F',M',⟨rfl,rfl⟩,I'⟩:=PJ tk hb h I
  exact I'
 rcases hc with h3|h3
 .obtain⟨t,x,y,hop⟩:=PI h3
  unfold CX at h key |-
  simp only[hop] at h key |-
  unfold Ht Iu Hl at h key |-
  split at h
  .rename_i i hi
   simp only[hi] at key |-
   split at h
   .rename_i B u off hx
    simp only[hx] at key |-
    split at h
    .rename_i cs hcs
     simp only[hcs] at key |-
     split at h
     .rename_i xs hxs
      simp only[hxs] at key |-
      exact⟨h.1,h.2,key _ _ ⟨h.1,rfl,rfl⟩,⟨_,rfl⟩,.inr (.inr (.inl ⟨_,_,_,_,hcs,rfl,h3⟩))⟩
     .exact h.elim
    .exact h.elim
   .exact h.elim
  .exact h.elim
 .obtain⟨args,ts,hop⟩:=Nl h3
  unfold CX at h key |-
  simp only[hop] at h key |-
  split at h
  .rename_i x y t t' hx ht
   simp only[hx,ht] at key
   obtain⟨rfl,h⟩:=h
   refine⟨rfl,?_⟩
   unfold HW Hl Hy at h key |-
   split at h
   .rename_i e es eb ez B u s' off m htd hxe
    simp only[htd,hxe] at key
    split at h
    .rename_i cs hcs
     simp only[hcs] at key |-
     split at h
     .rename_i p hp
      simp only[hp] at key |-
      obtain⟨g1,g2,g3,g4,g5,g6,g7,g8,g⟩:=h
      exact⟨g1,g2,g3,g4,g5,g6,g7,g8,g,key _ _ ⟨trivial,g1,g2,g3,g4,g5,g6,g7,g8,rfl,rfl⟩,⟨_,rfl⟩,.inr (.inr (.inr ⟨_,_,_,_,hcs,rfl,h3⟩))⟩
     .exact h.elim
    .exact h.elim
   .exact h.elim
  .exact h.elim
theorem XT {sj:Nat} {v:AV} {Kj Kj' :Fr->List Ag->Prop} (hap:Ap ops oj oi) (hcj:AF oj.op=5) (hk:∀F1 M1,Kj F1 M1->Kj' (Al F1 oi.dst v) M1) (h:CX T (Ah P L) oj sj F M Kj):CX T (Ah P L) oj sj (Al F oi.dst v) M Kj' :=by
 have hev:∀x∈oj.op.operands,ev (Al F oi.dst v) x=ev F x:=EI hap.symm
 have hcomm:∀u,Al (Al F oi.dst v) oj.dst u=Al (Al F oj.dst u) oi.dst v:=fun u=>(D6 hap.dd).symm
 obtain⟨args,ts,hop⟩:=Nl hcj
 unfold CX at h |-
 simp only[hop] at h hev |-
 split at h
 .rename_i x y t t' hx ht
  obtain⟨rfl,h⟩:=h
  have hxm:x∈args:=by rw[<-Array.mem_toList_iff,hx];simp
  have hym:y∈args:=by rw[<-Array.mem_toList_iff,hx];simp
  simp only[hev x (by simp[Op.operands,Call.operands,hxm]),hev y (by simp[Op.operands,Call.operands,hym])]
  refine⟨trivial,?_⟩
  unfold HW Hl Hy at h |-
  split at h
  .split at h
   .rename_i cs hcs
    split at h
    .rename_i p hp
     obtain⟨g1,g2,g3,g4,g5,g6,g7,g8,g⟩:=h
     exact⟨g1,g2,g3,g4,g5,g6,g7,g8,by show Kj' (Al (Al F oi.dst v) oj.dst _) _;rw[hcomm];exact hk _ _ g⟩
    .exact h.elim
   .exact h.elim
  .exact h.elim
 .exact h.elim
theorem VV (hn:Fq ops=true) {i:Nat} {o:Oper} (hi:ops[i]?=some o):AF o.op≠3:=by
 have:=List.all_eq_true.1 hn o (by rw[<-Array.getElem?_toList] at hi;exact List.mem_of_getElem? hi)
 simpa using this
theorem Uh (tk:BI P T) (hops:∀(k:Nat) (o:Oper),ops[k]?=some o->By n o=true) (hsl:∀(i k:Nat) (oi ok:Oper),ops[i]?=some oi->ops[k]?=some ok->Bf oi.op=true->Bf ok.op=true->i≠k->sl i≠sl k) {j:Nat} (hj:ops[j]?=some oj) (hcj:AF oj.op<=2) {post:List Nat} {v:AV} {b:Option Ag}:∀(pre:List Nat) (F:Fr) (M:List Ag),
 (∀i∈pre,i≠j)->(∀i∈pre,∀oi,ops[i]?=some oi->Em L ops oi oj=true)->(Bf oj.op=true->sl j<M.length)->(Fq ops=true->CQ P n F M)->Dn T ops oj (sl j) F M v b->B1 T (Ah P L) ops sl (pre++j::post) F M K->B1 T (Ah P L) ops sl (pre++post) (Al F oj.dst v) (BN M (sl j) b) K
 | [],F,M,_,_,_,_,hd,h=>by
   obtain⟨v',b',hd',hk⟩:=(Dj hj hcj).1 h
   obtain⟨rfl,rfl⟩:=hd.unique hd'
   exact hk
 |i::pre,F,M,hne,hc,hl,HI,hd,h=>by
  have ih:=fun F M=>Uh tk hops hsl hj hcj (post:=post) (v:=v) (b:=b) pre F M (fun k hk=>hne k (by simp[hk])) (fun k hk=>hc k (by simp[hk]))
  simp only[List.cons_append,B1] at h |-
  cases hi:ops[i]? with
  |none=>
   unfold B5 at h |-
   rw[hi] at h |-
   exact ih F M hl HI hd h
  |some oi=>
   have hcm:=hc i (by simp) oi hi
   obtain⟨hap,hcc⟩:=D7 hcm
   have hij:Bf oi.op=true->Bf oj.op=true->sl i≠sl j:=fun a b=>hsl i j oi oj hi hj a b (hne i (by simp))
   have hevi:∀x∈oi.op.operands,ev (Al F oj.dst v) x=ev F x:=EI hap.symm
   have hslot:=hd.slot
   by_cases hci:AF oi.op<=2
   .obtain⟨vi,bi,hdi,hk⟩:=(Dj hi hci).1 h
    have hsi:=hdi.slot
    have hsep:bi=none\/b=none\/sl i≠sl j:=by
     rcases hsi with h|h
     .exact .inl h
     .rcases hslot with g|g
      .exact .inr (.inl g)
      .exact .inr (.inr (hij h.2.1 g.2.1))
    have hup:Dn T ops oj (sl j) (Al F oi.dst vi) (BN M (sl i) bi) v b:=by
     refine hd.up' (CW hap) (EI hap) (.inr fun B v cs h=>IA (hsi.imp id fun h=>h.2.2) h) (fun hb hf=>?_)
     exact N3 (by rcases hsep with h|h|h;exact .inl h;exact absurd h hb;exact .inr h) hf
    have HI' :Fq ops=true->CQ P n (Al F oi.dst vi) (BN M (sl i) bi):=fun hn=>by
     obtain⟨F1,M1,⟨rfl,rfl⟩,_,_,I1⟩:=Ge (L:=L) (K:=fun F' M' =>F' =Al F oi.dst vi/\M' =BN M (sl i) bi) tk hi (hops i oi hi) (by omega) ((Dj hi hci).2 ⟨vi,bi,hdi,rfl,rfl⟩) (HI hn)
     exact I1
    have h2:=ih _ _ (fun ha=>by rw[Ig];exact hl ha) HI' hup hk
    refine(Dj hi hci).2 ⟨vi,bi,?_,?_⟩
    .refine hdi.up' (CW hap.symm) hevi (.inr fun B v cs h=>IA (hslot.imp id fun h=>h.2.2) h) (fun hb hf=>?_)
     exact N3 (by rcases hsep with h|h|h;exact absurd h hb;exact .inl h;exact .inr (Ne.symm h)) hf
    .rw[D6 hap.symm.dd,Ug (by rcases hsep with h|h|h;exact .inr (.inl h);exact .inl h;exact .inr (.inr (Ne.symm h)))]
     exact h2
   .have hci5:AF oi.op<=5:=by rcases hcc with h|h|h|h|h|h|h<;>omega
    unfold B5 at h |-
    simp only[hi] at h |-
    rw[CW hap.symm]
    split at h
    .by_cases h5:Fq ops=true/\AF oi.op=5/\AF oj.op≠0
     .obtain⟨hn,h5,h0⟩:=h5
      have hb:b=none:=by
       rcases hslot with h|h
       .exact h
       .exact absurd (HZ h.2.1) h0
      subst hb
      refine XT hap h5 (Kj:=fun F' M' =>B1 T (Ah P L) ops sl (pre++j::post) F' M' K/\CQ P n F' M' /\(∃u,F' =Al F oi.dst u)/\MS oi (sl i) M M') ?_ (N4 tk (hops i oi hi) (.inr h5) (HI hn) h)
      rintro F1 M1 ⟨hk,I1,⟨u,rfl⟩,hms⟩
      have hl1:Bf oj.op=true->sl j<M1.length:=fun ha=>absurd (HZ ha) h0
      obtain⟨v',b',hd'⟩:=Sn tk hops hj hcj pre _ M1 (fun k hk=>hc k (by simp[hk])) hl1 I1 hk
      have hd2:=hd'.dn hcm hcj (hops j oj hj) hl (HI hn) (.inl hms)
      obtain⟨rfl,rfl⟩:=hd.unique hd2
      exact ih _ _ hl1 (fun _=>I1) hd' hk
     .have h' :CX T (Ah P L) oi (sl i) F M fun F' M' =>B1 T (Ah P L) ops sl (pre++j::post) F' M' K/\(Fq ops=true->CQ P n F' M')/\M.length<=M'.length:=by
       by_cases hn:Fq ops=true
       .have:=VV hn hi
        refine Ef (call:=Ah P L) (call' :=Ah P L) (fun f args M K K' hk h=>Ah.mono (fun r bs h=>hk _ _ h) h) (fun F M h=>?_) (N4 tk (hops i oi hi) (by omega) (HI hn) h)
        exact⟨h.1,fun _=>h.2.1,MS.len (.inl h.2.2.2)⟩
       .refine Ef (call:=Ah P L) (call' :=Ah P L) (fun f args M K K' hk h=>Ah.mono (fun r bs h=>hk _ _ h) h) (fun F M h=>?_) (Kg hci5 h)
        exact⟨h.1,fun h=>absurd h hn,MS.len (.inl h.2.2)⟩
      refine ZZ hap ?_ hd (Kj:=fun F' M' =>B1 T (Ah P L) ops sl (pre++j::post) F' M' K/\(Fq ops=true->CQ P n F' M')/\M.length<=M'.length) ?_ h'
      .rcases hcc with h|h|h|h|h|h|h
       .exact absurd h.1 hci
       .exact .inl ⟨h.1,h.2.2⟩
       .exact .inr (.inl h)
       .refine .inr (.inr ⟨h.1,?_⟩)
        rcases h.2 with h2|h2
        .exact h2
        .exact Classical.byContradiction fun h0=>h5 ⟨h2.1,h.1,h0⟩
       .exact absurd h.2.1 hci
       .exact absurd (show AF oi.op<=2 by omega) hci
       .exact absurd (show AF oi.op<=2 by omega) hci
      .exact fun F1 M1 hd1 hk=>ih F1 M1 (fun ha=>Nat.lt_of_lt_of_le (hl ha) hk.2.2) hk.2.1 hd1 hk.1
    .rw[D6 hap.symm.dd]
     refine ih _ _ hl (fun hn=>(HI hn).undef _) ?_ h
     exact hd.up (CW hap) (EI hap) (.inr fun B v cs h=>h) (fun hf=>hf)
    .exact h.elim
theorem Ui {sj si:Nat} {v:AV} {b:Option Ag} {Kj Kj' :Fr->List Ag->Prop} (hap:Ap ops oj oi) (hc:(AF oj.op=3/\(L=false\/Bf oi.op=false))\/(AF oj.op=4/\AF oi.op<=1)\/(AF oj.op=5/\AF oi.op=0)) (hbj:By n oj=true) (I:CQ P n F M) (hd:Dn T ops oi si F M v b)
 (hk:∀F1 M1,Dn T ops oi si F1 M1 v b->Kj' (Al F1 oi.dst v) (BN M1 si b)->Kj F1 M1) (h:CX T (Ah P L) oj sj (Al F oi.dst v) (BN M si b) Kj'):CX T (Ah P L) oj sj F M Kj:=by
 have hev:∀x∈oj.op.operands,ev (Al F oi.dst v) x=ev F x:=EI hap.symm
 have hevi:∀u,∀x∈oi.op.operands,ev (Al F oj.dst u) x=ev F x:=fun u=>EI hap
 have hcomm:∀u,Al (Al F oi.dst v) oj.dst u=Al (Al F oj.dst u) oi.dst v:=fun u=>(D6 hap.dd).symm
 have hslot:=hd.slot
 have hopn:∀x∈oj.op.operands,Fu n x=true:=by
  simp only[By,Bool.and_eq_true] at hbj
  intro x hx
  exact Array.all_eq_true'.1 hbj.1 x hx
 have hcell:∀x∈oj.op.operands,∀B u,EP (ev F x)=some (B,u)->Aj (BN M si b) B u=Aj M B u:=by
  intro x hx B u ht
  obtain⟨_,hnf⟩:=I.name (hopn x hx) ht
  cases b with
  |none=>rfl
  |some z=>
   have:M[si]?=some .free:=by
    rcases hslot with h|h
    .simp at h
    .exact h.2.2
   have hne:si≠B:=fun e=>hnf (e ▸ this)
   simp only[BN,Aj,List.getElem?_set_ne hne]
 have hsb:∀(B:Nat) (u u' :Nat) (cs cs' :List AV),Aj M B u=some cs->(BN M si b).set B (.live u' cs')=BN (M.set B (.live u' cs')) si b:=by
  intro B u u' cs cs' hcs
  cases b with
  |none=>rfl
  |some z=>
   simp only[BN]
   refine List.set_comm _ _ fun e=>?_
   rcases hslot with h5|h5
   .simp at h5
   .have:=ET hcs;rw[<-e,h5.2.2] at this;simp at this
 have hsh:(∃f args ts,oj.op= .call ⟨.value f,args,ts⟩)\/(∃t x y,oj.op= .store t x y)\/(∃args ts,oj.op= .call ⟨.builtin .append,args,ts⟩):=by
  rcases hc with⟨e,_⟩ | ⟨e,_⟩ | ⟨e,_⟩
  .exact .inl (VT e)
  .exact .inr (.inl (PI e))
  .exact .inr (.inr (Nl e))
 unfold CX at h |-
 split at h<;>(rename_i hop)<;>(try (exfalso;rcases hc with⟨e,_⟩ | ⟨e,_⟩ | ⟨e,_⟩<;>(rw[hop] at e;simp[AF] at e);done))
 .
  rename_i t x y
  simp only[hop,Op.operands] at hev hcell
  have hci:AF oi.op<=1:=by
   rcases hc with⟨e,_⟩ | ⟨_,h⟩ | ⟨e,_⟩
   .simp[hop,AF] at e
   .exact h
   .simp[hop,AF] at e
  simp only[hev x (by simp),hev y (by simp)] at h
  have hcx:=hcell x (by simp)
  unfold Ht Iu Hl at h |-
  split at h
  .rename_i i hi
   split at h
   .rename_i B u off hx
    rw[hx] at hcx
    have hcx:=hcx B u rfl
    split at h
    .rename_i cs hcs
     rw[hcx] at hcs
     simp only[hi,hcs]
     split at h
     .rename_i xs hxs
      refine⟨h.1,hk _ _ ?_ ?_⟩
      .refine hd.up' (CW hap) (hevi _) (.inl ?_) (fun _ hf=>?_)
       .rw[Eg (hevi _)]
        exact Sl hci (fun B' v' =>Hx hcs B' v')
       .rw[List.getElem?_set_ne]
        .exact hf
        .intro e;have:=ET hcs;rw[e,hf] at this;simp at this
      .rw[<-hcomm,<-hsb _ _ _ _ _ hcs];exact h.2
     .exact h.elim
    .exact h.elim
   .exact h.elim
  .exact h.elim
 .
  rename_i args ts
  have hci:AF oi.op=0:=by
   rcases hc with⟨e,_⟩ | ⟨e,_⟩ | ⟨_,h⟩
   .simp[hop,AF] at e
   .simp[hop,AF] at e
   .exact h
  split at h
  .rename_i x y t t' hx ht
   obtain⟨rfl,h⟩:=h
   have hxm:x∈args:=by rw[<-Array.mem_toList_iff,hx];simp
   have hym:y∈args:=by rw[<-Array.mem_toList_iff,hx];simp
   simp only[hop] at hev hcell
   simp only[hev x (by simp[Op.operands,Call.operands,hxm]),hev y (by simp[Op.operands,Call.operands,hym])] at h
   have hcx:=hcell x (by simp[Op.operands,Call.operands,hxm])
   have hcy:=hcell y (by simp[Op.operands,Call.operands,hym])
   refine⟨rfl,?_⟩
   unfold HW Hl Hy at h |-
   split at h
   .rename_i e es eb ez B u s' off n htd hxe
    rw[hxe] at hcx
    have hcx:=hcx B u rfl
    split at h
    .rename_i cs hcs
     rw[hcx] at hcs
     simp only[hcs]
     split at h
     .rename_i p hp
      have hp' :C2 M (ev F y)=some p:=by
       unfold C2 at hp |-
       split at hp
       .exact hp
       .exact hp
       .rename_i hy
        rw[hy] at hcy
        rw[hcy _ _ rfl] at hp
        exact hp
       .simp at hp
      simp only[hp']
      obtain⟨h1,h2,h3,h4,h5,h6,h7,h8,h⟩:=h
      refine⟨h1,h2,h3,h4,h5,h6,h7,h8,hk _ _ ?_ ?_⟩
      .refine hd.up' (CW hap) (hevi _) (.inl ?_) (fun _ hf=>?_)
       .rw[Eg (hevi _)]
        exact Sk hci
       .rw[List.getElem?_set_ne]
        .exact hf
        .intro e;have:=ET hcs;rw[e,hf] at this;simp at this
      .rw[<-hcomm,<-hsb _ _ _ _ _ hcs];exact h
     .exact h.elim
    .exact h.elim
   .exact h.elim
  .exact h.elim
 .
  rename_i f args ts
  have hca:L=false\/Bf oi.op=false:=by
   rcases hc with⟨_,h⟩ | ⟨e,_⟩ | ⟨e,_⟩
   .exact h
   .simp[hop,AF] at e
   .simp[hop,AF] at e
  simp only[hop] at hev
  rw[hev f (by simp[Op.operands,Call.operands]),Kf (F:=F) fun x hx=>hev x (by simp[Op.operands,Call.operands,hx])] at h
  have key:∀(u:AV) (bs:List Ag),Kj' (Al (Al F oi.dst v) oj.dst u) (BN M si b++bs)->Kj (Al F oj.dst u) (M++bs):=by
   intro u bs h
   refine hk _ _ ?_ ?_
   .refine hd.up' (CW hap) (hevi _) (.inr fun B v cs h=>Ro h) (fun _ hf=>?_)
    have hlt:si<M.length:=by
     rcases Nat.lt_or_ge si M.length with h|h
     .exact h
     .simp[List.getElem?_eq_none h] at hf
    rw[List.getElem?_append_left hlt];exact hf
   .have:BN M si b++bs=BN (M++bs) si b:=by
     cases b with
     |none=>rfl
     |some z=>
      rcases hslot with h5|h5
      .simp at h5
      .simp only[BN]
       rw[List.set_append_left]
       rcases Nat.lt_or_ge si M.length with h|h
       .exact h
       .have:=h5.2.2;simp[List.getElem?_eq_none h] at this
    rw[<-hcomm,<-this];exact h
  unfold J9 at h |-
  split at h
  .rcases hslot with hbn|hbs
   .subst hbn
    exact Ah.mono (fun r bs h=>key r bs h) h
   .rcases hca with rfl|hca
    .exact Ah.mem (Ig).symm (fun r bs h=>key r bs h) h
    .rw[hca] at hbs;simp at hbs
  .exact h.elim
 .exfalso
  rcases hsh with⟨f,args,ts,e⟩ | ⟨t,x,y,e⟩ | ⟨args,ts,e⟩<;>simp_all
theorem Uj (tk:BI P T) (hops:∀(k:Nat) (o:Oper),ops[k]?=some o->By n o=true) {j:Nat} (hj:ops[j]?=some oj) (hcj:3<=AF oj.op) {post:List Nat}:∀(pre:List Nat) (F:Fr) (M:List Ag),
 (∀i∈pre,∀oi,ops[i]?=some oi->Em L ops oi oj=true)->CQ P n F M->B1 T (Ah P L) ops sl (pre++j::post) F M K->B5 T (Ah P L) ops sl j F M fun F' M' =>B1 T (Ah P L) ops sl (pre++post) F' M' K
 | [],F,M,_,_,h=>h
 |i::pre,F,M,hc,I,h=>by
  have ih:=fun F M=>Uj tk hops hj hcj (post:=post) pre F M (fun k hk=>hc k (by simp[hk]))
  simp only[List.cons_append,B1] at h |-
  cases hi:ops[i]? with
  |none=>
   unfold B5 at h
   rw[hi] at h
   have:∀F' M',B5 T (Ah P L) ops sl i F' M' (fun F' M' =>B1 T (Ah P L) ops sl (pre++post) F' M' K)=B1 T (Ah P L) ops sl (pre++post) F' M' K:=fun F' M' =>by unfold B5;rw[hi]
   simp only[this]
   exact ih F M I h
  |some oi=>
   have hcm:=hc i (by simp) oi hi
   obtain⟨hap,hcc⟩:=D7 hcm
   have hci:AF oi.op<=2:=by rcases hcc with h|h|h|h|h|h|h<;>omega
   obtain⟨F1,M1,⟨vi,bi,hdi,rfl,rfl,hk⟩,_,_,I1⟩:=Ge (L:=L) (K:=fun F' M' =>∃vi bi,Dn T ops oi (sl i) F M vi bi/\F' =Al F oi.dst vi/\M' =BN M (sl i) bi/\B1 T (Ah P L) ops sl (pre++j::post) F' M' K) tk hi (hops i oi hi) (by omega) ((Dj hi hci).2 (by
    obtain⟨vi,bi,hdi,hk⟩:=(Dj hi hci).1 h
    exact⟨vi,bi,hdi,vi,bi,hdi,rfl,rfl,hk⟩)) I
   have h2:=ih _ _ I1 hk
   have hcj' :(AF oj.op=3/\(L=false\/Bf oi.op=false))\/(AF oj.op=4/\AF oi.op<=1)\/(AF oj.op=5/\AF oi.op=0):=by
    rcases hcc with h|h|h|h|h|h|h
    .omega
    .omega
    .omega
    .omega
    .exact .inl ⟨h.1,h.2.2⟩
    .exact .inr (.inl h)
    .exact .inr (.inr h)
   generalize hKK:(fun F' M' =>B5 T (Ah P L) ops sl i F' M' fun F' M' =>B1 T (Ah P L) ops sl (pre++post) F' M' K)=KK
   unfold B5 at h2 |-
   simp only[hj] at h2 |-
   rw[CW hap] at h2
   split at h2
   .refine Ui hap.symm hcj' (hops j oj hj) I hdi (fun F1 M1 hd1 hk1=>?_) h2
    rw[<-hKK]
    exact(Dj hi hci).2 ⟨vi,bi,hd1,hk1⟩
   .rw[<-hKK]
    refine(Dj hi hci).2 ⟨vi,bi,?_,?_⟩
    .exact hdi.up (CW hap.symm) (EI hap.symm) (.inr fun B v cs h=>h) (fun hf=>hf)
    .rw[D6 hap.symm.dd];exact h2
   .exact h2.elim
theorem VW (tk:BI P T) (hops:∀(k:Nat) (o:Oper),ops[k]?=some o->By n o=true) (hsl:∀(i k:Nat) (oi ok:Oper),ops[i]?=some oi->ops[k]?=some ok->Bf oi.op=true->Bf ok.op=true->i≠k->sl i≠sl k)
 {j:Nat} (hj:ops[j]?=some oj) (pre post:List Nat) (hne:∀i∈pre,i≠j) (hc:∀i∈pre,∀oi,ops[i]?=some oi->Em L ops oi oj=true) (hl:Bf oj.op=true->sl j<M.length) (I:CQ P n F M) (h:B1 T (Ah P L) ops sl (pre++j::post) F M K):
 B5 T (Ah P L) ops sl j F M fun F' M' =>B1 T (Ah P L) ops sl (pre++post) F' M' K:=by
 by_cases hcj:AF oj.op<=2
 .obtain⟨v,b,hd⟩:=Sn tk hops hj hcj pre F M hc hl I h
  exact(Dj hj hcj).2 ⟨v,b,hd,Uh tk hops hsl hj hcj pre F M hne hc hl (fun _=>I) hd h⟩
 .exact Uj tk hops hj (by omega) pre F M hc I h
end
def BV (o:Oper):List Nat:=(o.after.toList.filter (Region.binds .any)).map (·.on)
def Kh (A:List Nat) (o:Oper):Nat:=(BV o).foldl (fun m j=>m||| (1<<<j) |||A.getD j 0) 0
def Mw {α:Type} (m:Nat) (f:Nat->α):α:=match m with
 |0=>f 0
 |n+1=>f (n+1)
theorem PK {α:Type} (m:Nat) (f:Nat->α):Mw m f=f m:=by cases m<;>rfl
def My (L:Bool) (ops:Array Oper):List Oper->List Nat->List (Nat×Oper)->Nat->Bool
 | [],_,_,_=>true
 |o::r,A,done,i=>Mw (Kh A o) fun m=>(BV o).all (·<i)&&(done.all fun p=>m.testBit p.1||Em L ops p.2 o)&&Mw (i+1) fun i' =>My L ops r (A++[m]) ((i,o)::done) i'
def So (L:Bool) (ops:List Oper):Bool:=My L ops.toArray ops [] [] 0
section
variable {ops:Array Oper}
def Ih (ops:Array Oper) (S:Nat->Prop):Prop:=∀(i:Nat) (o:Oper),ops[i]?=some o->S i->∀p∈BV o,S p
theorem PL (A:List Nat) (k:Nat):∀(l:List Nat) (m:Nat),(l.foldl (fun m j=>m||| (1<<<j) |||A.getD j 0) m).testBit k=true->m.testBit k=true\/∃j∈l,k=j\/(A.getD j 0).testBit k=true
 | [],m,h=> .inl h
 |j::l,m,h=>by
  rcases PL A k l _ h with h| ⟨j',hj,h⟩
  .simp only[Nat.testBit_or,Bool.or_eq_true] at h
   rcases h with(h|h) |h
   .exact .inl h
   .refine .inr ⟨j,by simp,.inl ?_⟩
    rw[Nat.one_shiftLeft,Nat.testBit_two_pow] at h
    simpa using (of_decide_eq_true h).symm
   .exact .inr ⟨j,by simp,.inr h⟩
  .exact .inr ⟨j',by simp[hj],h⟩
def WR (ops:Array Oper) (A:List Nat):Prop:=∀(t m:Nat),A[t]?=some m->∀k,m.testBit k=true->∀S,Ih ops S->(∀o,ops[t]?=some o->∀p∈BV o,S p)->S k
theorem WR.mask {A:List Nat} (h:WR ops A) {o:Oper} {k:Nat} (hk:(Kh A o).testBit k=true) {S:Nat->Prop} (hc:Ih ops S) (hp:∀p∈BV o,S p):S k:=by
 rcases PL A k _ _ hk with h1| ⟨j,hj,h1⟩
 .simp at h1
 .rcases h1 with rfl|h1
  .exact hp _ hj
  .cases hA:A[j]? with
   |none=>rw[List.getD_eq_getElem?_getD,hA] at h1;simp at h1
   |some m=>
    rw[List.getD_eq_getElem?_getD,hA] at h1
    exact h j m hA k h1 S hc fun o ho=>hc j o ho (hp j hj)
theorem Lh {L:Bool}:∀(r pre:List Oper) (A:List Nat) (done:List (Nat×Oper)),ops.toList=pre++r->A.length=pre.length->WR ops A->(∀k o,ops[k]?=some o->k<pre.length->(k,o)∈done)->My L ops r A done pre.length=true->
 ∀(i k:Nat) (oi ok:Oper),ops[i]?=some oi->ops[k]?=some ok->pre.length<=i->(∀p∈BV oi,p<i)/\(k<i->Em L ops ok oi=true\/∀S,Ih ops S->(∀p∈BV oi,S p)->S k)
 | [],pre,A,done,ho,hA,hanc,hd,h,i,k,oi,ok,hi,hk,hle=>by
   exfalso
   rw[<-Array.getElem?_toList,ho,List.append_nil,List.getElem?_eq_none hle] at hi
   simp at hi
 |o::r,pre,A,done,ho,hA,hanc,hd,h,i,k,oi,ok,hi,hk,hle=>by
  simp only[My,PK,Bool.and_eq_true] at h
  obtain⟨⟨h1,h2⟩,h3⟩:=h
  have hself:ops[pre.length]?=some o:=by rw[<-Array.getElem?_toList,ho];simp
  by_cases e:i=pre.length
  .subst e
   rw[hself] at hi
   simp at hi
   subst hi
   refine⟨fun p hp=>by simpa using List.all_eq_true.1 h1 p hp,fun hlt=>?_⟩
   have:=List.all_eq_true.1 h2 _ (hd k ok hk hlt)
   simp only[Bool.or_eq_true] at this
   rcases this with h|h
   .exact .inr fun S hc hp=>hanc.mask h hc hp
   .exact .inl h
  .have:=Lh r (pre++[o]) (A++[Kh A o]) ((pre.length,o)::done) (by simp[ho]) (by simp[hA]) ?_ ?_ (by simpa using h3) i k oi ok hi hk (by simp;omega)
   .exact this
   .intro t m ht k hk S hc hp
    by_cases et:t<A.length
    .rw[List.getElem?_append_left et] at ht
     exact hanc t m ht k hk S hc hp
    .rw[List.getElem?_append_right (by omega)] at ht
     have et2:t=A.length:=by
      rcases Nat.lt_or_ge (t-A.length) 1 with h|h
      .omega
      .rw[List.getElem?_eq_none (by simpa using h)] at ht;simp at ht
     subst et2
     simp at ht
     subst ht
     exact hanc.mask hk hc (hp o (by rw[hA];exact hself))
   .intro k o' hk hlt
    simp at hlt
    by_cases ek:k=pre.length
    .subst ek
     rw[hself] at hk
     simp at hk
     subst hk
     simp
    .exact List.mem_cons_of_mem _ (hd k o' hk (by omega))
theorem Mz {L:Bool} {l:List Oper} (h:So L l=true) (i k:Nat) (oi ok:Oper) (hi:l.toArray[i]?=some oi) (hk:l.toArray[k]?=some ok):
 (∀p∈BV oi,p<i)/\(k<i->Em L l.toArray ok oi=true\/∀S,Ih l.toArray S->(∀p∈BV oi,S p)->S k):=
 Lh (ops:=l.toArray) l [] [] [] (by simp) rfl (fun t m h=>by simp at h) (fun k o _ h=>by simp at h) h i k oi ok hi hk (Nat.zero_le _)
end
section
variable {P:Program} {L:Bool} {T:Nat->Option TI} {ops:Array Oper} {sl:Nat->Nat} {K:Fr->List Ag->Prop}
theorem Jb {n:Nat} {i:Nat} {F:Fr} {M:List Ag} (hops:∀(k:Nat) (o:Oper),ops[k]?=some o->By n o=true) (hc:∀(k:Nat) (o:Oper),ops[k]?=some o->AF o.op<=5) (h:B5 T (Ah P L) ops sl i F M K):B5 T (Ah P L) ops sl i F M fun F' M' =>K F' M' /\M.length<=M'.length:=by
 unfold B5 at h |-
 cases ho:ops[i]? with
 |none=>simp only[ho] at h |-;exact⟨h,Nat.le_refl _⟩
 |some o=>
  simp only[ho] at h |-
  split at h
  .refine Ef (call:=Ah P L) (call' :=Ah P L) (fun f args M K K' hk h=>Ah.mono (fun r bs h=>hk _ _ h) h) (fun F M h=>?_) (Kg (hc i o ho) h)
   exact⟨h.1,MS.len (.inl h.2.2)⟩
  .exact⟨h,Nat.le_refl _⟩
  .exact h
theorem LG {C:Bn} (hC:C.P=P) (tk:BI C.P T) {i:Nat} {o:Oper} (ho:ops[i]?=some o) (hops:∀(k:Nat) (o:Oper),ops[k]?=some o->By C.n o=true) {Q' :Exit->Act->World->Prop} {next:Act->World->Prop} {F:Fr} {M:List Ag} {a:Act} {w:World}
 (hN:∀F M a w,K F M->C1 C F M a w->next a w) (h:B5 T (Ah P L) ops sl i F M K) (r:C1 C F M a w):wpOpIn (FX C) 0 C.P ops Q' i next a w:=by
 unfold B5 at h
 unfold wpOpIn
 simp only[ho] at h |-
 have go:∀F,CX T (Ah P L) o (sl i) F M K->C1 C F M a w->o.wpIn (FX C) 0 C.P a w next Q' :=fun F h r=>by
  obtain⟨σ,own,R⟩:=r
  exact Hw tk (hops i o ho) (Ef (call:=Ah P L) (call' :=DG C) (fun f args M K K' hk hc=>(Ah.at hC hc).mono hk) (fun _ _ h=>h) h) R hN
 unfold Gd at h
 cases hg:o.guard with
 |none=>
  simp only[hg] at h
  rw[if_pos (by simp[Region.wanted,hg])]
  exact go F h r
 |some g=>
  obtain⟨j,want⟩:=g
  simp only[hg] at h
  cases hd:(ops[j]?).bind (·.dst) with
  |none=>simp only[hd] at h
  |some d=>
   simp only[hd] at h
   have hor:(∃b,F d= .bool b)\/F d= .tup []:=by
    cases hFd:F d<;>simp only[hFd] at h
    .exact .inl ⟨_,rfl⟩
    .rename_i xs
     cases xs with
     |nil=>exact .inr rfl
     |cons x xs=>simp at h
   have r' :=r
   obtain⟨σ,own,R⟩:=r'
   obtain⟨oj,hj,hdj⟩:=Option.bind_eq_some_iff.1 hd
   have hdn:d<C.n:=by
    have h1:=hops j oj hj
    simp only[By,Bool.and_eq_true,hdj] at h1
    simpa using h1.2
   have hv:=R.tmp d hdn
   rcases hor with⟨b,hFd⟩ |hFd
   rotate_left
   .rw[hFd] at hv
    obtain⟨cs,he,_⟩:=hv
    have hget:a.tmps[d]?=some (.tuple cs):=by
     have hs:=R.size
     have hlt:d<a.tmps.size:=by rw[hs];exact hdn
     simp[Array.getD,hlt] at he
     simp[hlt,he]
    have hy:yielded ops a.tmps j=none:=by simp[yielded,hd,hget]
    rw[if_neg (by simp[Region.wanted,hg,hy])]
    simp only[hFd] at h
    exact⟨fun _ _=>trivial,hN _ _ _ _ h ⟨σ,own,R.put o.dst (v:=undef) ⟨#[],rfl,rfl,fun _=>rfl⟩⟩⟩
   rw[hFd] at hv
   simp only[hFd] at h
   have he:=hv.1
   have hget:a.tmps[d]?=some (.bool b):=by
    have hs:=R.size
    have hlt:d<a.tmps.size:=by rw[hs];exact hdn
    simp[Array.getD,hlt] at he
    simp[hlt,he]
   have hy:yielded ops a.tmps j=some b:=by simp[yielded,hd,hget]
   by_cases hbw:b=want
   .rw[if_pos (by simp[Region.wanted,hg,hy,hbw])]
    simp only[hbw,beq_self_eq_true] at h
    exact go F h r
   .rw[if_neg (by simp[Region.wanted,hg,hy,hbw])]
    have:(b==want)=false:=by simpa using hbw
    simp only[this] at h
    exact⟨fun _ _=>trivial,hN _ _ _ _ h ⟨σ,own,R.put o.dst (v:=undef) ⟨#[],rfl,rfl,fun _=>rfl⟩⟩⟩
theorem Eu (n:Nat):(List.range n).Pairwise (·<·):=List.pairwise_lt_range
theorem VX {C:Bn} (hC:C.P=P) (tk:BI P T) {l:List Oper} (hops:∀(k:Nat) (o:Oper),l.toArray[k]?=some o->By C.n o=true) (hd:So L l=true) (hc5:∀(k:Nat) (o:Oper),l.toArray[k]?=some o->AF o.op<=5)
 (hsl:∀(i k:Nat) (oi ok:Oper),l.toArray[i]?=some oi->l.toArray[k]?=some ok->Bf oi.op=true->Bf ok.op=true->i≠k->sl i≠sl k) {Q' :Exit->Act->World->Prop} (hQ:∀F M a w,K F M->C1 C F M a w->Q' .normal a w):
 ∀(fuel:Nat) (listed:Array Bool) (rem:List Nat) (F:Fr) (M:List Ag) (a:Act) (w:World),rem=(List.range l.length).filter (fun i=> !listed.getD i true)->rem.length<=fuel->listed.size=l.length->Ih l.toArray (fun i=>listed.getD i false=true)->
 (∀j oj,l.toArray[j]?=some oj->Bf oj.op=true->sl j<M.length)->B1 T (Ah P L) l.toArray sl rem F M K->C1 C F M a w->wpAnyIn (FX C) 0 C.P .any l.toArray Q' fuel listed a w:=by
 intro fuel
 have hready:∀(listed:Array Bool) i,i∈Region.ready .any l.toArray listed->i<l.length/\listed.getD i true=false/\∀o,l.toArray[i]?=some o->∀p∈BV o,listed.getD p false=true:=by
  intro listed i hi
  simp only[Region.ready,List.mem_filter,List.mem_range,Bool.and_eq_true] at hi
  obtain⟨h1,h2,h3⟩:=hi
  refine⟨by simpa using h1,by simpa using h2,fun o ho p hp=>?_⟩
  rw[ho] at h3
  simp only[Option.map_some,Option.getD_some] at h3
  simp only[BV,List.mem_map,List.mem_filter] at hp
  obtain⟨e,⟨he,hb⟩,rfl⟩:=hp
  have h4:=Array.all_eq_true'.1 h3 e (by simpa using he)
  simp only[hb,Bool.not_true,Bool.false_or] at h4
  exact h4
 have hnone:∀(listed:Array Bool),listed.size=l.length->Region.ready .any l.toArray listed=[]->(List.range l.length).filter (fun i=> !listed.getD i true)=[]:=by
  intro listed hsz hr
  cases hrem:(List.range l.length).filter (fun i=> !listed.getD i true) with
  |nil=>rfl
  |cons i rest=>
   exfalso
   have hmem:i∈(List.range l.length).filter (fun i=> !listed.getD i true):=by rw[hrem];simp
   have hp:((List.range l.length).filter (fun i=> !listed.getD i true)).Pairwise (·<·):=(Eu _).filter _
   have hmem' :=List.mem_filter.1 hmem
   have hlt:i<l.length:=by simpa using hmem'.1
   have hmin:∀p,p<i->listed.getD p false=true:=by
    intro p hp'
    apply Classical.byContradiction
    intro hno
    have:p∈(List.range l.length).filter (fun i=> !listed.getD i true):=by
     refine List.mem_filter.2 ⟨by simp;omega,?_⟩
     have hps:p<listed.size:=by omega
     simp[Array.getD,hps] at hno |-
     exact hno
    rw[hrem] at this hp
    rcases List.mem_cons.1 this with h|h
    .omega
    .have:=(List.pairwise_cons.1 hp).1 p h;omega
   have hi2:l.toArray[i]?=some l[i]:=by simp[hlt]
   have:i∈Region.ready .any l.toArray listed:=by
    simp only[Region.ready,List.mem_filter,List.mem_range,Bool.and_eq_true]
    refine⟨by simpa using hlt,by simpa using hmem'.2,?_⟩
    rw[hi2]
    simp only[Option.map_some,Option.getD_some]
    rw[Array.all_eq_true']
    intro e he
    cases hb:Region.binds .any e with
    |false=>rfl
    |true=>
     simp only[Bool.not_true,Bool.false_or]
     refine hmin _ ((Mz hd i i _ _ hi2 hi2).1 _ ?_)
     simp only[BV,List.mem_map,List.mem_filter]
     exact⟨e,⟨by simpa using he,hb⟩,rfl⟩
   rw[hr] at this
   simp at this
 induction fuel with
 |zero=>
  intro listed rem F M a w hrem hlen hsz hcl hsm h r
  have:rem=[]:=by simpa using hlen
  subst this
  refine⟨?_,hQ _ _ _ _ h r⟩
  apply Classical.byContradiction
  intro hne
  obtain⟨i,hi⟩:=List.exists_mem_of_ne_nil _ hne
  have h1:=hready listed i hi
  have:i∈(List.range l.length).filter (fun i=> !listed.getD i true):=List.mem_filter.2 ⟨by simpa using h1.1,by simp[h1.2.1]⟩
  rw[<-hrem] at this
  simp at this
 |succ fuel ih=>
  intro listed rem F M a w hrem hlen hsz hcl hsm h r
  refine⟨fun hr=>?_,fun i hi=>?_⟩
  .rw[hnone listed hsz hr] at hrem
   subst hrem
   exact hQ _ _ _ _ h r
  .have h1:=hready listed i hi
   have hi2:l.toArray[i]?=some (l[i]'h1.1):=by simp[h1.1]
   have hmem:i∈rem:=by rw[hrem];exact List.mem_filter.2 ⟨by simpa using h1.1,by simp[h1.2.1]⟩
   obtain⟨pre,post,hpp⟩:=List.append_of_mem hmem
   have hsorted:rem.Pairwise (·<·):=by rw[hrem];exact(Eu _).filter _
   rw[hpp] at hsorted
   have hs1:=List.pairwise_append.1 hsorted
   have hprelt:∀k∈pre,k<i:=fun k hk=>hs1.2.2 k hk i (by simp)
   have hpostgt:∀k∈post,i<k:=(List.pairwise_cons.1 hs1.2.1).1
   have hpull:=VW (n:=C.n) (sl:=sl) (L:=L) (K:=K) (F:=F) (M:=M) tk hops hsl hi2 pre post (fun k hk=>Nat.ne_of_lt (hprelt k hk)) (fun k hk ok hok=>?_) (fun ha=>hsm i _ hi2 ha) ⟨C,a,w,hC,rfl,r⟩ (by rw[<-hpp];exact h)
   .refine LG hC (hC ▸ tk) hi2 hops (fun F' M' a' w' hk r' =>?_) (Jb hops hc5 hpull) r
    refine ih _ (pre++post) F' M' a' w' ?_ ?_ (by simpa using hsz) ?_ (fun j oj hj ha=>Nat.lt_of_lt_of_le (hsm j oj hj ha) hk.2) hk.1 r'
    .have:(List.range l.length).filter (fun t=> !(listed.setIfInBounds i true).getD t true)=((List.range l.length).filter (fun t=> !listed.getD t true)).filter (fun t=>t !=i):=by
      rw[List.filter_filter]
      refine List.filter_congr fun t ht=>?_
      have htl:t<listed.size:=by rw[hsz];simpa using ht
      by_cases e:t=i
      .subst e;simp[Array.getD,htl]
      .have:¬i=t:=fun h=>e h.symm
       simp[Array.getD,htl,e,this,Array.getElem_setIfInBounds]
     rw[this,<-hrem,hpp,List.filter_append,List.filter_cons]
     simp only[bne_self_eq_false,Bool.false_eq_true,if_false]
     rw[List.filter_eq_self.2 (fun k hk=>by simp;exact Nat.ne_of_lt (hprelt k hk)),List.filter_eq_self.2 (fun k hk=>by simp;exact(Nat.ne_of_gt (hpostgt k hk)))]
    .rw[hpp] at hlen
     simp at hlen |-
     omega
    .intro k o hk hlist p hp
     have key:∀t,(listed.setIfInBounds i true).getD t false=true↔t=i\/listed.getD t false=true:=by
      intro t
      have hil:i<listed.size:=by rw[hsz];exact h1.1
      by_cases e:t=i
      .subst e;simp[Array.getD,hil]
      .have:¬i=t:=fun h=>e h.symm
       by_cases htl:t<listed.size
       .simp[Array.getD,htl,e,this,Array.getElem_setIfInBounds]
       .simp[Array.getD,htl,e]
     rw[key] at hlist |-
     rcases hlist with rfl|hlist
     .exact .inr (h1.2.2 o hk p hp)
     .exact .inr (hcl k o hk hlist p hp)
   .rcases(Mz hd i k _ ok hi2 hok).2 (hprelt k hk) with h|h
    .exact h
    .exfalso
     have h3:=h _ hcl (h1.2.2 _ hi2)
     have h4:k∈rem:=by rw[hpp];simp[hk]
     rw[hrem] at h4
     have h5:=(List.mem_filter.1 h4).2
     have hks:k<listed.size:=by rw[hsz];have:=hprelt k hk;have:=h1.1;omega
     simp[Array.getD,hks] at h3 h5
     simp[h3] at h5
end
def MA (L:Bool) (l:List Oper):Bool:=So L l&&l.all fun o=>decide (AF o.op<=5)
section
variable {P:Program} {L:Bool} {T:Nat->Option TI} {K:Fr->List Ag->Prop} {p:Nat} {F:Fr} {M:List Ag} {Q:Cn}
theorem He (a b:List Oper):Bb (a++b)=Bb a+Bb b:=by
 induction a with
 |nil=>simp[Bb]
 |cons x a ih=>
  have:Bb (x::(a++b))=Cc x+Bb (a++b):=rfl
  have h2:Bb (x::a)=Cc x+Bb a:=rfl
  rw[List.cons_append,this,ih,h2];omega
theorem Jc (o:Oper):Bb [o]=Cc o:=by simp[Bb]
theorem Gx (F:Fr) (d:Nat) (v:AV) (h:F d=v):Bg F d v=F:=by
 funext t
 simp only[Bg]
 split
 .rename_i e;subst e;exact h.symm
 .rfl
theorem Ki {l:List Oper} {base:Nat}:∀(rest pre:List Oper) (F:Fr) (M:List Ag),l=pre++rest->Ak T (Ah P L) l.toArray rest (base+Bb pre) F M K->
 B1 T (Ah P L) l.toArray (fun i=>base+Bb (l.take i)) (List.range' pre.length rest.length) F M K
 | [],pre,F,M,hl,h=>h
 |o::rest,pre,F,M,hl,h=>by
  have hi:l.toArray[pre.length]?=some o:=by rw[hl];simp
  have ht:l.take pre.length=pre:=by rw[hl];simp
  have ih:∀F M,Ak T (Ah P L) l.toArray rest (base+Bb pre+Cc o) F M K->B1 T (Ah P L) l.toArray (fun i=>base+Bb (l.take i)) (List.range' (pre.length+1) rest.length) F M K:=fun F M h=>by
   have:=Ki (l:=l) (base:=base) rest (pre++[o]) F M (by rw[hl];simp) (by rw[He,Jc,<-Nat.add_assoc];exact h)
   simpa using this
  simp only[List.length_cons,List.range'_succ,B1]
  unfold B5
  simp only[hi,ht]
  simp only[Ak] at h
  have mono:∀F,CX T (Ah P L) o (base+Bb pre) F M (fun F' M' =>Ak T (Ah P L) l.toArray rest (base+Bb pre+Cc o) F' M' K)->CX T (Ah P L) o (base+Bb pre) F M (fun F' M' =>B1 T (Ah P L) l.toArray (fun i=>base+Bb (l.take i)) (List.range' (pre.length+1) rest.length) F' M' K):=fun F h=>
   Ef (call:=Ah P L) (call' :=Ah P L) (fun f args M K K' hk h=>Ah.mono (fun r bs h=>hk _ _ h) h) (fun F M h=>ih F M h) h
  unfold Gd
  split at h
  .rename_i hg
   simp only[hg]
   exact mono _ h
  .rename_i j want hg
   simp only[hg]
   split at h
   .rename_i d hd
    simp only[hd]
    unfold gK at h
    split at h
    .rename_i b hF
     simp only[hF]
     by_cases hb:b=want
     .simp only[hb,beq_self_eq_true]
      have:=h.1 hb
      simp only at this
      rw[Gx F d _ (by rw[hF,hb])] at this
      exact mono _ this
     .have e:(b==want)=false:=by simpa using hb
      simp only[e]
      have hbn:b= !want:=by cases b<;>cases want<;>simp_all
      have:=h.2 hbn
      simp only at this
      rw[Gx F d _ (by rw[hF,hbn])] at this
      exact ih _ _ this
    .rename_i hF
     simp only[hF]
     rw[Gx F d _ hF] at h
     exact ih _ _ h
    .exact h.elim
   .exact h.elim
theorem Dt {l:List Oper} {i k:Nat} {ok:Oper} (hk:l[k]?=some ok) (h:k<i):Bb (l.take k)+Cc ok<=Bb (l.take i):=by
 have h1:l.take (k+1)=l.take k++[ok]:=by rw[List.take_add_one,hk];rfl
 have h2:l.take i=l.take (k+1)++(l.drop (k+1)).take (i-(k+1)):=by
  rw[<-List.take_append_drop (k+1) (l.take i),List.take_take,List.drop_take,Nat.min_eq_left (by omega)]
 rw[h2,h1,He,He,Jc];omega
theorem W.regionD {id:Nat} {l:List Oper} (L:Bool) (hp:P.follows .mixedOrders=true) (hd:MA L l=true) (h:Ak T (Ah P L) l.toArray l M.length F (M++List.replicate (Bb l) .free) (Q .normal)):W P T p (.region id l.toArray true) F M Q:=by
 intro tk C hC hp' hb a w r
 simp only[MA,Bool.and_eq_true] at hd
 simp only[CY] at hb
 have hops:∀(k:Nat) (o:Oper),l.toArray[k]?=some o->By C.n o=true:=fun k o ho=>by
  refine List.all_eq_true.1 hb o ?_
  rw[<-Array.getElem?_toList] at ho
  exact List.mem_of_getElem? ho
 have hc5:∀(k:Nat) (o:Oper),l.toArray[k]?=some o->AF o.op<=5:=fun k o ho=>by
  have:=List.all_eq_true.1 hd.2 o (List.mem_of_getElem? (by simpa using ho))
  simpa using this
 refine wpIn_region_any (hC ▸ hp) ?_
 obtain⟨σ,own,R⟩:=r
 have h' :=Ki (base:=M.length) l [] F _ rfl h
 refine VX (l:=l) hC tk hops hd.1 hc5 (sl:=fun i=>M.length+Bb (l.take i)) (fun i k oi ok hi hk ha ha' hne=>?_) (K:=Q .normal) (Q' :=aq C Q) (fun F M a w h r=> .inl ⟨F,M,h,r⟩) l.toArray.size (Array.replicate l.toArray.size false) (List.range' 0 l.length) F _ a w.drew ?_ ?_ ?_ ?_ ?_ h' ⟨σ,own,(R.grow _).drew⟩
 .have s1:Cc oi=1:=by simp[Cc,ha]
  have s2:Cc ok=1:=by simp[Cc,ha']
  rcases Nat.lt_or_gt_of_ne hne with h|h
  .have:=Dt (l:=l) (by simpa using hi) h
   omega
  .have:=Dt (l:=l) (by simpa using hk) h
   omega
 .rw[<-List.range_eq_range']
  symm
  rw[List.filter_eq_self]
  intro t ht
  have:t<l.length:=by simpa using ht
  simp[Array.getD,this]
 .simp
 .simp
 .intro i o ho hl
  simp[Array.getD] at hl
 .intro j oj hj ha
  have s1:Cc oj=1:=by simp[Cc,ha]
  have hjl:j<l.length:=by
   rcases Nat.lt_or_ge j l.length with h|h
   .exact h
   .rw[show l.toArray[j]?=l[j]? by simp,List.getElem?_eq_none h] at hj;simp at hj
  have:=Dt (l:=l) (by simpa using hj) hjl
  rw[List.take_length] at this
  simp only[List.length_append,List.length_replicate]
  omega
theorem W.regDK {id:Nat} {l:List Oper} (L:Bool) (hp:P.follows .mixedOrders=true) (hd:MA L l=true) (h:∀K:Fr->List Ag->Prop,(∀F M,Q .normal F M->K F M)->Ak T (Ah P L) l.toArray l M.length F (M++List.replicate (Bb l) .free) K):W P T p (.region id l.toArray true) F M Q:=
 W.regionD L hp hd (h _ fun _ _ h=>h)
end
mutual
def GX (k:Nat):AV->Bool
 | .tok T _ _ _ _=>decide (T<k)
 | .ptr T _ _=>decide (T<k)
 | .agg xs=>Dg k xs
 | .tup xs=>Dg k xs
 | .fn _ xs=>Dg k xs
 |_=>true
def Dg (k:Nat):List AV->Bool
 | []=>true
 |x::xs=>GX k x&&Dg k xs
end
def Jd (k:Nat):Ag->Bool
 | .live _ xs=>Dg k xs
 |_=>true
def Hz (k:Nat) (σ:Nat->Nat->Option St):Nat->Nat->Option St:=fun T v=>if T<k then σ T v else none
mutual
theorem PM {w:World} {sh:Nat->Prop} {σ:Nat->Nat->Option St} {k:Nat}:∀(x:AV) (v:Value) (fp:Nat->Nat),GX k x=true->VR w sh σ x v fp->VR w sh (Hz k σ) x v fp
 | .any,_,_,_,h=>h
 | .bool _,_,_,_,h=>h
 | .int _ _,_,_,_,h=>h
 | .str _,_,_,_,h=>h
 | .nilp,_,_,_,h=>h
 | .ro _ _,_,_,_,h=>by simp only[VR] at h |-;exact h
 | .own _ _ _,_,_,_,h=>by simp only[VR] at h |-;exact h
 | .rptr _,_,_,_,h=>by simp only[VR] at h |-;exact h
 | .optr _,_,_,_,h=>by simp only[VR] at h |-;exact h
 | .tok T u s off n,v,fp,hn,h=>by
   have:T<k:=by simpa[GX] using hn
   simp only[VR,Hz,this,if_true] at h |-;exact h
 | .ptr T u off,v,fp,hn,h=>by
   have:T<k:=by simpa[GX] using hn
   simp only[VR,Hz,this,if_true] at h |-;exact h
 | .agg xs,v,fp,hn,h=>by
   simp only[VR,GX] at h hn |-
   obtain⟨cs,e,hv⟩:=h
   exact⟨cs,e,Gy xs _ _ hn hv⟩
 | .tup xs,v,fp,hn,h=>by
   simp only[VR,GX] at h hn |-
   obtain⟨cs,e,hv⟩:=h
   exact⟨cs,e,Gy xs _ _ hn hv⟩
 | .fn f xs,v,fp,hn,h=>by
   simp only[VR,GX] at h hn |-
   obtain⟨h0,cs,e,hv⟩:=h
   exact⟨h0,cs,e,Gy xs _ _ hn hv⟩
theorem Gy {w:World} {sh:Nat->Prop} {σ:Nat->Nat->Option St} {k:Nat}:∀(xs:List AV) (vs:List Value) (fp:Nat->Nat),Dg k xs=true->Aw w sh σ xs vs fp->Aw w sh (Hz k σ) xs vs fp
 | [],_,_,_,h=>h
 |x::xs,vs,fp,hn,h=>by
  simp only[Aw,Dg,Bool.and_eq_true] at h hn |-
  obtain⟨v,rest,f1,f2,e,h1,h2,hf⟩:=h
  exact⟨v,rest,f1,f2,e,PM x v f1 hn.1 h1,Gy xs rest f2 hn.2 h2,hf⟩
end
theorem CD.trim {C:Bn} {F F' :Fr} {M bs:List Ag} (hp:C.p<=M.length) (hF:∀t,(F' t=F t/\GX M.length (F t)=true)\/F' t= .any) (hM:M.all (Jd M.length)=true):CD C F (M++bs) F' M:=by
 rintro a w ⟨σ,own,R⟩
 let own' :Nat->Option Nat:=fun g=>match own g with|some T=>if T<M.length then some T else none|none=>none
 have ho:∀g T,T<M.length->own g=some T->own' g=some T:=fun g T hT h=>by simp only[own',h,hT,if_true]
 refine⟨Hz M.length σ,own',R.size,R.dfr,fun t ht=>?_,⟨fun T B hB=>?_,fun T v hT=>?_⟩,fun g hg=>?_,?_,fun T v st h=>?_⟩
 .rcases hF t with⟨e,hn⟩ |e
  .rw[e];exact PM _ _ _ hn (R.tmp t ht)
  .rw[e];intro g;rfl
 .have hlt:T<M.length:=by
   rcases Nat.lt_or_ge T M.length with h|h
   .exact h
   .simp[List.getElem?_eq_none h] at hB
  obtain⟨fp,b1,b2⟩:=R.mem.blk T B (by rw[List.getElem?_append_left hlt];exact hB)
  have hnm:=List.all_eq_true.1 hM B (List.mem_of_getElem? hB)
  have hk:∀u,Hz M.length σ T u=σ T u:=fun u=>by simp only[Hz,hlt,if_true]
  refine⟨fp,?_,fun g=>?_⟩
  .cases B with
   |free=>exact⟨fun u=>by rw[hk];exact b1.1 u,b1.2⟩
   |dead=>exact b1
   |live u cs=>
    obtain⟨c0,b1⟩:=b1
    refine⟨fun u' hu=>by rw[hk];exact c0 u' hu,?_⟩
    rcases b1 with⟨c1,c2,c3⟩ | ⟨hh,b,cur,e',fp',c1,c2,c3,c4,c5⟩
    .exact .inl ⟨by rw[hk];exact c1,c2,c3⟩
    .exact .inr ⟨hh,b,cur,e',fp',by rw[hk];exact c1,c2,c3,Gy _ _ _ hnm c4,c5⟩
  .have:=b2 g
   split at this
   .rename_i e;rw[if_pos (ho g T hlt e)];exact this
   .omega
 .have:¬T<M.length:=by omega
  simp only[Hz,this,if_false]
 .have h1:=R.shr g hg
  exact⟨by simp only[own',h1.1],h1.2⟩
 .refine⟨R.ext.os,R.ext.tape,R.ext.output,R.ext.size,R.ext.block,fun g hg=>R.ext.own g ?_⟩
  intro e
  simp only[own',e] at hg
  exact hg rfl
 .obtain⟨h1,h2⟩:=R.key0 T v st h
  have:T<M.length:=by omega
  exact⟨h1,by simp only[Hz,this,if_true];exact h2⟩
section
variable {P:Program} {T:Nat->Option TI} {p:Nat} {F:Fr} {M:List Ag} {Q:Cn}
def fr:List (Nat×AV)->Fr
 | []=>F0
 |q::s=>Bg (fr s) q.1 q.2
def Ad (F:Fr):List (Nat×AV)->Prop
 | []=>True
 |q::s=>F q.1=q.2/\Ad F s
def LH (k:Nat):List (Nat×AV)->Bool
 | []=>true
 |q::s=>GX k q.2&&LH k s
theorem Kk (F:Fr):∀S,Ad F S->∀t,fr S t=F t\/fr S t= .any
 | [],_,t=> .inr rfl
 |q::S,h,t=>by
  simp only[fr,Bg]
  split
  .rename_i e;subst e;exact .inl h.1.symm
  .exact Kk F S h.2 t
theorem Sp (k:Nat):∀S,LH k S=true->∀t,GX k (fr S t)=true
 | [],_,t=>rfl
 |q::S,h,t=>by
  simp only[LH,Bool.and_eq_true] at h
  simp only[fr,Bg]
  split
  .exact h.1
  .exact Sp k S h.2 t
theorem Wk.refl:Wk p F M F M:=fun _ _=>CD.refl _ _ _
theorem Wk.trans {F' F'' :Fr} {M' M'' :List Ag} (h:Wk p F M F' M') (k:Wk p F' M' F'' M''):Wk p F M F'' M'' :=fun C hp=>(h C hp).trans (k C hp)
theorem Wk.fr {S:List (Nat×AV)} (h:Ad F S):Wk p F M (fr S) M:=fun _ _=>CD.drop fun t _=>Kk F S h t
theorem Wk.trim {bs:List Ag} {S:List (Nat×AV)} (h:Ad F S) (hn:LH M.length S=true) (hM:M.all (Jd M.length)=true) (hp:p<=M.length):Wk p F (M++bs) (Abs.fr S) M:=fun C hC=>CD.trim (by omega) (fun t=>by
 have h1:=Sp M.length S hn t
 rcases Kk F S h t with e|e
 .exact .inl ⟨e,by rw[<-e];exact h1⟩
 .exact .inr e) hM
theorem Wk.cutM {M' :List Ag} {k:Nat} {S:List (Nat×AV)} (h:Ad F S) (hk:M'.take k=M) (hl:k<=M'.length) (hn:LH k S=true) (hM:M.all (Jd k)=true) (hp:p<=k):Wk p F M' (Abs.fr S) M:=by
 have hlen:M.length=k:=by rw[<-hk];simp;omega
 have:M' =M++M'.drop k:=by rw[<-hk,List.take_append_drop]
 rw[this]
 exact Wk.trim h (by rw[hlen];exact hn) (by rw[hlen];exact hM) (by omega)
theorem W.loopS {c:Code} {α:Type} (Sx:α->List (Nat×AV)) (Mx:α->List Ag) (μ:α->Nat) (I:α->Prop) (x:α) (h0:Wk p F M (fr (Sx x)) (Mx x)) (hI:I x)
 (round:∀x,I x->W P T p c (fr (Sx x)) (Mx x) (DN (fun F' M' =>∃y,μ y<μ x/\I y/\Wk p F' M' (fr (Sx y)) (Mx y)) Q)):W P T p (.loop c) F M Q:=
 W.loop (fun k F M=>∃x,k=μ x/\I x/\F=fr (Sx x)/\M=Mx x) (μ x) _ _ h0 ⟨x,rfl,hI,rfl,rfl⟩ (by
  rintro k F M ⟨x,rfl,hx,rfl,rfl⟩
  refine(round x hx).mono fun e F M q=>?_
  cases e<;>first|exact q|skip
  obtain⟨y,h1,h2,h3⟩:=q
  exact⟨μ y,_,_,h1,h3,y,rfl,h2,rfl,rfl⟩)
theorem W.midS {x y:Code} {Q' :Cn} {α:Type} (Sx:α->List (Nat×AV)) (Mx:α->List Ag) (I:α->Prop)
 (h:W P T p x F M (DN (fun F M=>∃x,I x/\Wk p F M (fr (Sx x)) (Mx x)) Q)) (k:∀x,I x->W P T p y (fr (Sx x)) (Mx x) Q'):W P T p x F M (DN (fun F M=>W P T p y F M Q') Q):=
 h.mono fun e F M q=>by
  cases e<;>first|exact q|skip
  obtain⟨x,h1,h2⟩:=q
  exact W.weak h2 (k x h1)
theorem Wk.nil {t s:Nat} (h:F t= .own s 0 []):Wk p F M (Bg F t (.tok M.length 0 s 0 0)) (M++[.live 0 []]):=by
 rintro C hp a w ⟨σ,own,R⟩
 let σ' :Nat->Nat->Option St:=fun T u=>if T=M.length/\u=0 then some .nil else σ T u
 have keep:∀(T u:Nat) (s:St),σ T u=some s->σ' T u=some s:=fun T u s h=>by
  have:¬(T=M.length/\u=0):=fun e=>by rw[R.mem.key T u (by omega)] at h;simp at h
  simp only[σ',this,if_false];exact h
 have L:Cb w w C.sh C.sh σ σ' :=⟨fun _ _=>rfl,fun _ h=>h,fun T u s h=> .inl (keep T u s h)⟩
 refine⟨σ',own,R.size,R.dfr,fun t' ht=>?_,⟨fun T B hB=>?_,fun T u hT=>?_⟩,R.shr,R.ext,R.keyl L⟩
 .simp only[Bg]
  split
  .rename_i e;subst e
   have hv:=R.tmp t' ht
   rw[h] at hv
   simp only[VR] at hv
   rcases hv with⟨⟨ad,e⟩,_⟩ | ⟨hh,b,c,cur,e',fp',_,_,_,_,_,_,_,hf⟩
   .exact⟨fun _=>rfl,⟨ad,0,e⟩,.nil,by simp[σ'],fun _=>⟨⟨ad,e⟩,rfl,rfl⟩,fun _ _ _ e=>by cases e⟩
   .have:=hf hh
    simp at this
    omega
  .exact VR.later L _ _ _ (fun _ _=>rfl) (R.tmp t' ht)
 .by_cases hT:T<M.length
  .rw[List.getElem?_append_left hT] at hB
   obtain⟨fp,b1,b2⟩:=R.mem.blk T B hB
   refine⟨fp,EG L (fun _ _=>rfl) (fun u=>?_) b1,b2⟩
   have:¬(T=M.length/\u=0):=by omega
   simp only[σ',this,if_false]
  .rw[List.getElem?_append_right (by omega)] at hB
   have:T=M.length:=by
    rcases Nat.lt_or_ge (T-M.length) 1 with h|h
    .omega
    .rw[List.getElem?_eq_none (by simpa using h)] at hB;simp at hB
   subst this
   simp at hB;subst hB
   refine⟨fun _=>0,⟨fun u hu=>?_,.inl ⟨by simp[σ'],rfl,fun _=>rfl⟩⟩,fun _=>Nat.zero_le _⟩
   have:¬u=0:=by omega
   simp only[σ',this,and_false,if_false]
   exact R.mem.key _ _ (Nat.le_refl _)
 .simp at hT
  have:¬(T=M.length/\u=0):=by omega
  simp only[σ',this,if_false]
  exact R.mem.key T u (by omega)
theorem Kl {w:World} {sh:Nat->Prop} {σ:Nat->Nat->Option St}:∀{cs:List AV} {vs:List Value} {fp:Nat->Nat},Aw w sh σ cs vs fp->∀{j:Nat} {x:AV},cs[j]?=some x->
 ∃(v:Value) (f f' :Nat->Nat),vs[j]?=some v/\VR w sh σ x v f/\(∀g,fp g=f g+f' g)/\∀τ,Cb w w sh sh σ τ->∀y fy,VR w sh τ y v fy->Aw w sh τ (cs.set j y) vs (fun g=>fy g+f' g)
 | [],_,_,_,_,_,hx=>by simp at hx
 |c::cs,vs,fp,h,0,x,hx=>by
  simp only[Aw] at h
  obtain⟨v,rest,f1,f2,rfl,h1,h2,hf⟩:=h
  simp at hx;subst hx
  exact⟨v,f1,f2,rfl,h1,hf,fun τ L y fy hy=>⟨v,rest,fy,f2,rfl,hy,Aw.later L _ _ _ (fun _ _=>rfl) h2,fun _=>rfl⟩⟩
 |c::cs,vs,fp,h,j+1,x,hx=>by
  simp only[Aw] at h
  obtain⟨v0,rest,f1,f2,rfl,h1,h2,hf⟩:=h
  obtain⟨v,f,f',a1,a2,a3,a4⟩:=Kl h2 (j:=j) (by simpa using hx)
  refine⟨v,f,fun g=>f1 g+f' g,by simpa using a1,a2,fun g=>by have:=hf g;have:=a3 g;show fp g=f g+(f1 g+f' g);omega,fun τ L y fy hy=>?_⟩
  exact⟨v0,rest,f1,_,rfl,VR.later L _ _ _ (fun _ _=>rfl) h1,a4 τ L y fy hy,fun g=>by show fy g+(f1 g+f' g)=f1 g+(fy g+f' g);omega⟩
theorem Wk.thaw {B v j s n:Nat} {cs xs:List AV} (hb:Aj M B v=some cs) (hj:cs[j]?=some (.own s n xs)):Wk p F M F (M.set B (.live v (cs.set j (.tok M.length 0 s 0 n)))++[.live 0 xs]):=by
 rintro C hp a w ⟨σ,own,R⟩
 obtain⟨hM,fpB,hB,hfB⟩:=BS R.mem hb
 have hBl:B<M.length:=by
  rcases Nat.lt_or_ge B M.length with h|h
  .exact h
  .simp[List.getElem?_eq_none h] at hM
 obtain⟨hver,hB⟩:=hB
 rcases hB with⟨_,h2,_⟩ | ⟨h,b,cur,e,fp',h1,h2,h3,h4,h5⟩
 .rw[h2] at hj;simp at hj
 obtain⟨x,f,f',s1,s2,s3,s4⟩:=Kl h4 hj
 have key:∀st:St,(∀τ:Nat->Nat->Option St,τ M.length 0=some st->VR w C.sh τ (.tok M.length 0 s 0 n) x (fun _=>0))->(∀τ:Nat->Nat->Option St,(∀u,0<u->τ M.length u=none)->τ M.length 0=some st->BR w C.sh τ M.length (.live 0 xs) f)->
  C1 C F (M.set B (.live v (cs.set j (.tok M.length 0 s 0 n)))++[.live 0 xs]) a w:=by
  intro st htok hbr
  let σ' :Nat->Nat->Option St:=fun T u=>if T=M.length/\u=0 then some st else σ T u
  have keep:∀(T u:Nat) (s:St),σ T u=some s->σ' T u=some s:=fun T u s h=>by
   have:¬(T=M.length/\u=0):=fun e=>by rw[R.mem.key T u (by omega)] at h;simp at h
   simp only[σ',this,if_false];exact h
  have L:Cb w w C.sh C.sh σ σ' :=⟨fun _ _=>rfl,fun _ h=>h,fun T u s h=> .inl (keep T u s h)⟩
  have hσn:σ' M.length 0=some st:=by simp[σ']
  have hσo:∀T u,T≠M.length->σ' T u=σ T u:=fun T u hT=>by simp[σ',hT]
  let own' :Nat->Option Nat:=fun g=>if f g≠0 then some M.length else own g
  have hfown:∀g,f g≠0->own g=some B:=fun g hg=>by
   have e2:=h5 g;have e3:=s3 g;have e1:=hfB g
   by_cases e:own g=some B
   .exact e
   .rw[if_neg e] at e1;omega
  refine⟨σ',own',R.size,R.dfr,fun t ht=>VR.later L _ _ _ (fun _ _=>rfl) (R.tmp t ht),⟨fun T BB hT=>?_,fun T u hT=>?_⟩,fun g hg=>?_,?_,R.keyl L⟩
  .by_cases hTl:T<M.length
   .rw[List.getElem?_append_left (by simpa using hTl)] at hT
    by_cases eT:T=B
    .subst eT
     rw[List.getElem?_set_self hTl] at hT
     simp at hT;subst hT
     refine⟨fun g=>(if g=h then 1 else 0)+f' g,⟨fun u hu=>by rw[hσo _ _ (by omega)];exact hver u hu,.inr ⟨h,b,cur,e,f',by rw[hσo _ _ (by omega)];exact h1,h2,by simpa using h3,?_,fun _=>rfl⟩⟩,fun g=>?_⟩
     .have:=s4 σ' L _ _ (htok σ' hσn)
      simpa using this
     .have e1:=hfB g;have e2:=h5 g;have e3:=s3 g
      by_cases hf0:f g=0
      .have:own' g=own g:=by simp[own',hf0]
       rw[this];show(if g=h then 1 else 0)+f' g<=_;omega
      .have e4:=hfown g hf0
       rw[if_pos e4] at e1
       show(if g=h then 1 else 0)+f' g<=_
       omega
    .rw[List.getElem?_set_ne (Ne.symm eT)] at hT
     obtain⟨fp,b1,b2⟩:=R.mem.blk T BB hT
     refine⟨fp,EG L (fun _ _=>rfl) (fun u=>hσo _ _ (by omega)) b1,fun g=>?_⟩
     have:=b2 g
     split at this
     .rename_i e4
      have hf0:f g=0:=by
       rcases Nat.eq_zero_or_pos (f g) with h|h
       .exact h
       .have:=hfown g (by omega);rw[e4] at this;simp at this;exact absurd this eT
      have:own' g=some T:=by simp[own',hf0,e4]
      rw[if_pos this];assumption
     .omega
   .rw[List.getElem?_append_right (by simp;omega)] at hT
    have:T=M.length:=by
     rcases Nat.lt_or_ge (T-M.length) 1 with h|h
     .omega
     .rw[List.getElem?_eq_none (by simpa using h)] at hT;simp at hT
    subst this
    simp at hT;subst hT
    refine⟨f,hbr σ' (fun u hu=>?_) hσn,fun g=>?_⟩
    .have:¬u=0:=by omega
     simp only[σ',this,and_false,if_false]
     exact R.mem.key _ _ (Nat.le_refl _)
    .by_cases hf0:f g=0
     .rw[hf0];exact Nat.zero_le _
     .have:own' g=some M.length:=by simp[own',hf0]
      rw[if_pos this]
      have e1:=hfB g;have e2:=h5 g;have e3:=s3 g
      split at e1<;>omega
  .simp at hT
   rw[hσo _ _ (by omega)]
   exact R.mem.key T u (by omega)
  .have h7:=R.shr g hg
   have hf0:f g=0:=by
    rcases Nat.eq_zero_or_pos (f g) with h|h
    .exact h
    .have:=hfown g (by omega);rw[h7.1] at this;simp at this
   exact⟨by simp[own',hf0,h7.1],h7.2⟩
  .refine⟨R.ext.os,R.ext.tape,R.ext.output,R.ext.size,R.ext.block,fun g hg=>R.ext.own g ?_⟩
   by_cases hf0:f g=0
   .simpa[own',hf0] using hg
   .rw[hfown g hf0];simp
 simp only[VR] at s2
 rcases s2 with⟨⟨ad,e⟩,rfl,rfl,h0⟩ | ⟨hh,b',c,cur',e',fpx,e,hn,hc,hl,hheap,hsz,hv,hff⟩
 .refine key .nil (fun τ hτ=>⟨fun _=>rfl,⟨ad,0,e⟩,.nil,hτ,fun _=>⟨⟨ad,e⟩,rfl,rfl⟩,fun _ _ _ e=>by cases e⟩) fun τ h1 h2=>⟨h1,.inl ⟨h2,rfl,h0⟩⟩
 .refine key (.loc hh b' cur'.size) (fun τ hτ=>⟨fun _=>rfl,⟨_,c,e⟩,.loc hh b' cur'.size,hτ,(fun e=>by cases e),fun h' b'' sz' e2=>?_⟩) fun τ g1 g2=>⟨g1,.inr ⟨hh,b',cur',e',fpx,g2,hheap,?_,?_,hff⟩⟩
  .cases e2
   exact⟨⟨hh,b',none⟩,c,e,fun _=>rfl,hn,hc,by omega⟩
  .have:n*s<=c*s:=Nat.mul_le_mul_right _ hn
   rw[hl];omega
  .rw[hl];exact Aw.up _ hv
theorem XU {w:World} {sh:Nat->Prop} {σ:Nat->Nat->Option St} {own:Nat->Option Nat} (m:B7 w sh σ own M) {T v s off n:Nat} {cs:List AV} (hb:Aj M T v=some cs) (hle:off+n*s<=cs.length) (htf:((cs.drop off).take (n*s)).all tf=true) {x:Value} (hx:VR w sh σ (.tok T v s off n) x (fun _=>0)):
 ∃f,VR w sh σ0 (.own s n ((cs.drop off).take (n*s))) x f/\∀g,f g<=if own g=some T then 1 else 0:=by
 obtain⟨hM,fp,hB,hf⟩:=BS m hb
 have hlen:((cs.drop off).take (n*s)).length=n*s:=by simp;omega
 simp only[VR] at hx
 obtain⟨_,_,st,hst,hnil,hloc⟩:=hx
 simp only[BR] at hB
 rcases hB.2 with⟨h1,h2,h3⟩ | ⟨h,b,cur,e,fp',h1,h2,h3,h4,h5⟩
 .rw[h1] at hst;simp at hst;subst hst
  obtain⟨ha,_,rfl⟩:=hnil rfl
  exact⟨fun _=>0,.inl ⟨ha,rfl,by simp,fun _=>rfl⟩,fun _=>Nat.zero_le _⟩
 .rw[h1] at hst;simp at hst;subst hst
  obtain⟨ad,c,rfl,had,hnc,hcm,hcz⟩:=hloc h b _ rfl
  by_cases hc:c=0
  .subst hc
   have:n=0:=by omega
   subst this
   exact⟨fun _=>0,.inl ⟨⟨_,rfl⟩,rfl,by simp,fun _=>rfl⟩,fun _=>Nat.zero_le _⟩
  .have:=had hc;subst this
   obtain⟨f1,h6,h7⟩:=FF off h4
   obtain⟨f2,h8,h9⟩:=Hk (n*s) h6
   have e1:(((cur.toList.drop b).take cs.length).drop off).take (n*s)=(cur.toList.drop (b+off)).take (n*s):=by
    rw[List.drop_take,List.take_take,Nat.min_eq_left (by omega),List.drop_drop]
   rw[e1] at h8
   refine⟨fun g=>(if g=h then 1 else 0)+f2 g,.inr ⟨h,b+off,c,cur,e,f2,rfl,hnc,hcm,hlen,h2,hcz,Ix σ0 htf h8,fun _=>rfl⟩,fun g=>?_⟩
   have e1:=hf g;have e2:=h5 g;have e3:=h7 g;have e4:=h9 g
   show(if g=h then 1 else 0)+f2 g<=_
   omega
theorem Wk.intern {B v j T u s off n:Nat} {cs xs:List AV} (hb:Aj M B v=some cs) (hj:cs[j]?=some (.tok T u s off n)) (hT:Aj M T u=some xs) (hne:T≠B) (hle:off+n*s<=xs.length) (htf:((xs.drop off).take (n*s)).all tf=true):
 Wk p F M F ((M.set B (.live v (cs.set j (.own s n ((xs.drop off).take (n*s)))))).set T .dead):=by
 rintro C hp a w ⟨σ,own,R⟩
 obtain⟨hM,fpB,hB,hfB⟩:=BS R.mem hb
 obtain⟨hMT,_⟩:=BS R.mem hT
 have hlt:∀{q:Nat} {bl:Ag},M[q]?=some bl->q<M.length:=fun{q bl} h=>by
  rcases Nat.lt_or_ge q M.length with h' |h'
  .exact h'
  .simp[List.getElem?_eq_none h'] at h
 have hBl:=hlt hM
 have hTl:=hlt hMT
 obtain⟨hver,hB⟩:=hB
 rcases hB with⟨_,h2,_⟩ | ⟨h,b,cur,e,fp',h1,h2,h3,h4,h5⟩
 .rw[h2] at hj;simp at hj
 obtain⟨x,f,f',s1,s2,s3,s4⟩:=Kl h4 hj
 have hf0:∀g,f g=0:=by simp only[VR] at s2;exact s2.1
 have:f=fun _=>0:=funext hf0
 subst this
 obtain⟨fy,y1,y2⟩:=XU R.mem hT hle htf s2
 let own' :Nat->Option Nat:=fun g=>if own g=some T then some B else own g
 have L:Cb w w C.sh C.sh σ σ:=⟨fun _ _=>rfl,fun _ h=>h,fun _ _ _ h=> .inl h⟩
 refine⟨σ,own',R.size,R.dfr,R.tmp,⟨fun T' BB hT' =>?_,fun T' u hT' =>R.mem.key T' u (by simpa using hT')⟩,fun g hg=>?_,?_,R.key0⟩
 .by_cases e1:T' =T
  .subst e1
   rw[List.getElem?_set_self (by simpa using hTl)] at hT'
   simp at hT';subst hT'
   exact⟨fun _=>0,fun _=>rfl,fun _=>Nat.zero_le _⟩
  .rw[List.getElem?_set_ne (Ne.symm e1)] at hT'
   by_cases e2:T' =B
   .subst e2
    rw[List.getElem?_set_self hBl] at hT'
    simp at hT';subst hT'
    refine⟨fun g=>(if g=h then 1 else 0)+(fy g+f' g),⟨hver,.inr ⟨h,b,cur,e,fun g=>fy g+f' g,h1,h2,by simpa using h3,?_,fun _=>rfl⟩⟩,fun g=>?_⟩
    .have:=s4 σ L _ _ (VR.up σ y1)
     simpa using this
    .have e3:=hfB g;have e4:=h5 g;have e5:=s3 g;have e6:=y2 g
     show(if g=h then 1 else 0)+(fy g+f' g)<=_
     by_cases e7:own g=some T
     .have:own' g=some T' :=by simp[own',e7]
      rw[if_pos this]
      rw[if_pos e7] at e6
      rw[e7] at e3
      simp[e1] at e3
      simp at e5
      split at e3<;>omega
     .have:own' g=own g:=by simp[own',e7]
      rw[this]
      rw[if_neg e7] at e6
      simp at e5
      omega
   .rw[List.getElem?_set_ne (Ne.symm e2)] at hT'
    obtain⟨fp,b1,b2⟩:=R.mem.blk T' BB hT'
    refine⟨fp,b1,fun g=>?_⟩
    have:=b2 g
    split at this
    .rename_i e7
     have:own' g=some T' :=by simp[own',e7,e1]
     rw[if_pos this];assumption
    .omega
 .have h7:=R.shr g hg
  exact⟨by simp[own',h7.1],h7.2⟩
 .refine⟨R.ext.os,R.ext.tape,R.ext.output,R.ext.size,R.ext.block,fun g hg=>R.ext.own g ?_⟩
  by_cases e7:own g=some T
  .rw[e7];simp
  .simpa[own',e7] using hg
end
theorem XV (F:Fr) (d:Nat) (v:AV) (t:Nat):Bg F d v t=if t=d then v else F t:=rfl
theorem Z0 (t:Nat):F0 t= .any:=rfl
theorem XW (v:AV) (K:AV->Prop):Hs (some v) K=K v:=rfl
theorem XX (K:AV->Prop):Hs none K=False:=rfl
theorem XY (v:List AV) (K:List AV->Prop):Hl (some v) K=K v:=rfl
theorem XZ (v:TI) (K:TI->Prop):Ht (some v) K=K v:=rfl
theorem X0 (v:Nat×List AV) (K:Nat->List AV->Prop):Hy (some v) K=K v.1 v.2:=rfl
theorem VY (c:Prop) [Decidable c] (x:Option AV) (K:AV->Prop):Hs (if c then x else none) K=(c/\Hs x K):=by
 by_cases h:c<;>simp[h,Hs]
theorem Sq (b:Bool) (K1 K2:Prop):condK (.bool b) K1 K2=((b=true->K1)/\(b=false->K2)):=rfl
theorem wrap_i64 {n:Int} (h1:-9223372036854775808<=n) (h2:n<=9223372036854775807):IntKind.wrap .i64 n=n:=by rw[IntKind.wrap_i64];omega
theorem X1 (k:IntKind) (a b:Int):CN .add (.int k a) (.int k b)=some (.int k (k.wrap (a+b))):=by simp[CN]
theorem X2 (k:IntKind) (a b:Int):CN .sub (.int k a) (.int k b)=some (.int k (k.wrap (a-b))):=by simp[CN]
theorem X3 (k:IntKind) (a b:Int):CN .mul (.int k a) (.int k b)=some (.int k (k.wrap (a*b))):=by simp[CN]
theorem X4 (k:IntKind) (a b:Int) (h:b≠0):CN .quo (.int k a) (.int k b)=some (.int k (k.wrap (a.tdiv b))):=by simp[CN,h]
theorem X5 (k:IntKind) (a b:Int) (h:b≠0):CN .rem (.int k a) (.int k b)=some (.int k (a.tmod b)):=by simp[CN,h]
theorem Nm (k:IntKind) (a b:Int):CN .and (.int k a) (.int k b)=some (.int k (k.wrap (BitVec.ofInt k.bits a&&&BitVec.ofInt k.bits b).toNat)):=by simp[CN]
theorem Uk (k:IntKind) (a b:Int):CN .or (.int k a) (.int k b)=some (.int k (k.wrap (BitVec.ofInt k.bits a|||BitVec.ofInt k.bits b).toNat)):=by simp[CN]
theorem X6 (k k' :IntKind) (a b:Int) (h:0<=b):CN .shl (.int k a) (.int k' b)=some (.int k (k.wrap (a*2^(min b.toNat k.bits)))):=by simp[CN,h]
theorem X7 (k k' :IntKind) (a b:Int) (h:0<=b):CN .shr (.int k a) (.int k' b)=some (.int k (a.fdiv (2^(min b.toNat k.bits)))):=by simp[CN,h]
theorem X8 (k:IntKind) (a b:Int):CN .eql (.int k a) (.int k b)=some (.bool (decide (a=b))):=by simp[CN]
theorem X9 (k:IntKind) (a b:Int):CN .neq (.int k a) (.int k b)=some (.bool (!decide (a=b))):=by simp[CN]
theorem Ya (k:IntKind) (a b:Int):CN .lss (.int k a) (.int k b)=some (.bool (decide (a<b))):=by simp[CN]
theorem Yb (k:IntKind) (a b:Int):CN .leq (.int k a) (.int k b)=some (.bool (decide (a<=b))):=by simp[CN]
theorem Yc (k:IntKind) (a b:Int):CN .gtr (.int k a) (.int k b)=some (.bool (decide (b<a))):=by simp[CN]
theorem Yd (k:IntKind) (a b:Int):CN .geq (.int k a) (.int k b)=some (.bool (decide (b<=a))):=by simp[CN]
theorem VZ (a b:ByteArray):CN .eql (.str a) (.str b)=some (.bool (decide (a=b))):=rfl
theorem V0 (a b:ByteArray):CN .neq (.str a) (.str b)=some (.bool (!decide (a=b))):=rfl
theorem V1 (T:Nat->Option TI) (op:BinOp) (t:Nat) (k k' :IntKind) (a b:Int):DY T op t (.int k a) (.int k' b)=CN op (.int k a) (.int k' b):=rfl
theorem V2 (T:Nat->Option TI) (op:BinOp) (t:Nat) (a b:ByteArray):DY T op t (.str a) (.str b)=CN op (.str a) (.str b):=rfl
theorem V3 (T:Nat->Option TI) (t:Nat) (a b:Bool) (h:Ar T t= .bool):DY T .eql t (.bool a) (.bool b)=some (.bool (decide (a=b))):=by simp[DY,h]
theorem V4 (T:Nat->Option TI) (t:Nat) (a b:Bool) (h:Ar T t= .bool):DY T .neq t (.bool a) (.bool b)=some (.bool (!decide (a=b))):=by simp[DY,h]
theorem Z1 (b:Bool):un .not (.bool b)=some (.bool !b):=rfl
theorem Z2 (k:IntKind) (n:Int):un .neg (.int k n)=some (.int k (k.wrap (0-n))):=rfl
theorem Ul (xs:List AV) (o:Nat):H9 xs o 0=some []:=by cases xs<;>rfl
theorem Um (xs:List AV) (o m:Nat):H9 xs o (m+1)=match xs[o]?,H9 xs (o+1) m with|some x,some r=>some (x::r) |_,_=>none:=rfl
theorem Ye (b want:Bool) (K1 K2:AV->Prop):gK (.bool b) want K1 K2=((b=want->K1 (.bool want))/\(b= !want->K2 (.bool !want))):=rfl
theorem ba (K1 K2:AV->Prop):gK (.bool true) true K1 K2=K1 (.bool true):=by simp[gK]
theorem bb (K1 K2:AV->Prop):gK (.bool true) false K1 K2=K2 (.bool true):=by simp[gK]
theorem bc (K1 K2:AV->Prop):gK (.bool false) true K1 K2=K2 (.bool false):=by simp[gK]
theorem be (K1 K2:AV->Prop):gK (.bool false) false K1 K2=K1 (.bool false):=by simp[gK]
theorem V5 (want:Bool) (K1 K2:AV->Prop):gK (.tup []) want K1 K2=K2 (.tup []):=rfl
theorem Sr (c:Bool) (x y:AV):LR (.bool c) x y=some (if c=true then x else y):=rfl
theorem Z3 (call:D3) (f:Nat) (cs args:List AV) (M:List Ag) (K:AV->List Ag->Prop):J9 call (.fn f cs) args M K=call f (args++cs) M K:=rfl
theorem Z4 (F:Fr) (xs:List Operand):JN F xs.toArray=xs.map (ev F):=rfl
section
variable {T:Nat->Option TI} {call:D3} {ops:Array Oper} {rest:List Oper} {d:Option Nat} {op:Op} {ty s:Nat} {pos:String} {af:Array Edge} {F:Fr} {M:List Ag} {K:Fr->List Ag->Prop}
def PN (F:Fr) (ps:List (Nat×Operand)):List (Nat×AV):=ps.map fun p=>(p.1,ev F p.2)
def BQ (ops:Array Oper) (j:Nat):Option Nat:=(ops[j]?).bind (·.dst)
def gD (t:Option Nat) (F:Fr) (want:Bool) (K1 K2:Fr->Prop):Prop:=match t with|some t=>gK (F t) want (fun b=>K1 (Bg F t b)) (fun b=>K2 (Bg F t b)) |none=>False
theorem Bp {j:Nat} {want:Bool}:Ak T call ops (⟨d,op,ty,pos,af,some (j,want)⟩::rest) s F M K=
 gD (BQ ops j) F want (fun F=>CX T call ⟨d,op,ty,pos,af,some (j,want)⟩ s F M fun F' M' =>Ak T call ops rest (s+Cc ⟨d,op,ty,pos,af,some (j,want)⟩) F' M' K)
  (fun F=>Ak T call ops rest (s+Cc ⟨d,op,ty,pos,af,some (j,want)⟩) (Al F d (.tup [])) M K):=rfl
theorem Z5 {x:Operand}:Ak T call ops (⟨d,.move x,ty,pos,af,none⟩::rest) s F M K=Ak T call ops rest s (Al F d (Fz T ty (ev F x))) M K:=rfl
theorem Z6 {x:Operand} {j:Nat} {want:Bool}:Ak T call ops (⟨d,.move x,ty,pos,af,some (j,want)⟩::rest) s F M K=gD (BQ ops j) F want (fun F=>Ak T call ops rest s (Al F d (Fz T ty (ev F x))) M K) fun F=>Ak T call ops rest s (Al F d (.tup [])) M K:=by
 rw[Bp];rfl
theorem V6 {x:Operand}:Ak T call ops (⟨d,.assign x,ty,pos,af,none⟩::rest) s F M K=Ak T call ops rest s (Al F d (Fz T ty (ev F x))) M K:=rfl
theorem V7 {x:Operand} {j:Nat} {want:Bool}:Ak T call ops (⟨d,.assign x,ty,pos,af,some (j,want)⟩::rest) s F M K=gD (BQ ops j) F want (fun F=>Ak T call ops rest s (Al F d (Fz T ty (ev F x))) M K) fun F=>Ak T call ops rest s (Al F d (.tup [])) M K:=by
 rw[Bp];rfl
theorem Z7 {c x y:Operand}:Ak T call ops (⟨d,.pick c x y,ty,pos,af,none⟩::rest) s F M K=Hs (LR (ev F c) (ev F x) (ev F y)) fun v=>Ak T call ops rest s (Al F d v) M K:=rfl
theorem Z8 {c x y:Operand} {j:Nat} {want:Bool}:Ak T call ops (⟨d,.pick c x y,ty,pos,af,some (j,want)⟩::rest) s F M K=gD (BQ ops j) F want (fun F=>Hs (LR (ev F c) (ev F x) (ev F y)) fun v=>Ak T call ops rest s (Al F d v) M K) fun F=>Ak T call ops rest s (Al F d (.tup [])) M K:=by
 rw[Bp];rfl
theorem Z9 {t:Nat} {x:Operand}:Ak T call ops (⟨d,.load t x,ty,pos,af,none⟩::rest) s F M K=Hs (KZ T M t (ev F x)) fun v=>Ak T call ops rest s (Al F d v) M K:=rfl
theorem aa {t:Nat} {x:Operand} {j:Nat} {want:Bool}:Ak T call ops (⟨d,.load t x,ty,pos,af,some (j,want)⟩::rest) s F M K=gD (BQ ops j) F want (fun F=>Hs (KZ T M t (ev F x)) fun v=>Ak T call ops rest s (Al F d v) M K) fun F=>Ak T call ops rest s (Al F d (.tup [])) M K:=by
 rw[Bp];rfl
theorem Qx {t:Nat} {x:Operand} {f:Nat}:Ak T call ops (⟨d,.fieldAddr t x f,ty,pos,af,none⟩::rest) s F M K=Hs (JI T M t (ev F x) f) fun v=>Ak T call ops rest s (Al F d v) M K:=rfl
theorem Qy {t:Nat} {x:Operand} {f:Nat} {j:Nat} {want:Bool}:Ak T call ops (⟨d,.fieldAddr t x f,ty,pos,af,some (j,want)⟩::rest) s F M K=gD (BQ ops j) F want (fun F=>Hs (JI T M t (ev F x) f) fun v=>Ak T call ops rest s (Al F d v) M K) fun F=>Ak T call ops rest s (Al F d (.tup [])) M K:=by
 rw[Bp];rfl
theorem Qz {t:Nat} {x i:Operand}:Ak T call ops (⟨d,.indexAddr t x i,ty,pos,af,none⟩::rest) s F M K=Hs (JJ T M t (ev F x) (ev F i)) fun v=>Ak T call ops rest s (Al F d v) M K:=rfl
theorem QA {t:Nat} {x i:Operand} {j:Nat} {want:Bool}:Ak T call ops (⟨d,.indexAddr t x i,ty,pos,af,some (j,want)⟩::rest) s F M K=gD (BQ ops j) F want (fun F=>Hs (JJ T M t (ev F x) (ev F i)) fun v=>Ak T call ops rest s (Al F d v) M K) fun F=>Ak T call ops rest s (Al F d (.tup [])) M K:=by
 rw[Bp];rfl
theorem Yf {b:BinOp} {t t' :Nat} {x:Operand} {y:Nat}:Ak T call ops (⟨d,.binOp b t x (.tmp y) t',ty,pos,af,none⟩::rest) s F M K=Hs (DY T b t (ev F x) (F y)) fun v=>Ak T call ops rest s (Al F d v) M K:=by cases b<;>rfl
theorem Yg {b:BinOp} {t t' :Nat} {x:Operand} {y:Nat} {j:Nat} {want:Bool}:Ak T call ops (⟨d,.binOp b t x (.tmp y) t',ty,pos,af,some (j,want)⟩::rest) s F M K=gD (BQ ops j) F want (fun F=>Hs (DY T b t (ev F x) (F y)) fun v=>Ak T call ops rest s (Al F d v) M K) fun F=>Ak T call ops rest s (Al F d (.tup [])) M K:=by
 rw[Bp];cases b<;>rfl
theorem Yh {b:BinOp} {t t' :Nat} {x:Operand} {k:IntKind} {z:Int}:Ak T call ops (⟨d,.binOp b t x (.const (.int k z)) t',ty,pos,af,none⟩::rest) s F M K=Hs (DY T b t (ev F x) (.int k z)) fun v=>Ak T call ops rest s (Al F d v) M K:=by cases b<;>rfl
theorem Yi {b:BinOp} {t t' :Nat} {x:Operand} {k:IntKind} {z:Int} {j:Nat} {want:Bool}:Ak T call ops (⟨d,.binOp b t x (.const (.int k z)) t',ty,pos,af,some (j,want)⟩::rest) s F M K=gD (BQ ops j) F want (fun F=>Hs (DY T b t (ev F x) (.int k z)) fun v=>Ak T call ops rest s (Al F d v) M K) fun F=>Ak T call ops rest s (Al F d (.tup [])) M K:=by
 rw[Bp];cases b<;>rfl
theorem Yj {b:BinOp} {t t' :Nat} {x:Operand} {z:Bool}:Ak T call ops (⟨d,.binOp b t x (.const (.bool z)) t',ty,pos,af,none⟩::rest) s F M K=Hs (DY T b t (ev F x) (.bool z)) fun v=>Ak T call ops rest s (Al F d v) M K:=by cases b<;>rfl
theorem Yk {b:BinOp} {t t' :Nat} {x:Operand} {z:Bool} {j:Nat} {want:Bool}:Ak T call ops (⟨d,.binOp b t x (.const (.bool z)) t',ty,pos,af,some (j,want)⟩::rest) s F M K=gD (BQ ops j) F want (fun F=>Hs (DY T b t (ev F x) (.bool z)) fun v=>Ak T call ops rest s (Al F d v) M K) fun F=>Ak T call ops rest s (Al F d (.tup [])) M K:=by
 rw[Bp];cases b<;>rfl
theorem Yl {b:BinOp} {t t' :Nat} {x:Operand} {z:ByteArray}:Ak T call ops (⟨d,.binOp b t x (.const (.string z)) t',ty,pos,af,none⟩::rest) s F M K=Hs (DY T b t (ev F x) (.str z)) fun v=>Ak T call ops rest s (Al F d v) M K:=by cases b<;>rfl
theorem Ym {b:BinOp} {t t' :Nat} {x:Operand} {z:ByteArray} {j:Nat} {want:Bool}:Ak T call ops (⟨d,.binOp b t x (.const (.string z)) t',ty,pos,af,some (j,want)⟩::rest) s F M K=gD (BQ ops j) F want (fun F=>Hs (DY T b t (ev F x) (.str z)) fun v=>Ak T call ops rest s (Al F d v) M K) fun F=>Ak T call ops rest s (Al F d (.tup [])) M K:=by
 rw[Bp];cases b<;>rfl
theorem Un {t t' :Nat} {x:Operand}:Ak T call ops (⟨d,.binOp .eql t x (.const (.slice none 0 0)) t',ty,pos,af,none⟩::rest) s F M K=Gu (Ar T t) (Iv (ev F x) false fun v=>Ak T call ops rest s (Al F d v) M K):=rfl
theorem Uo {t t' :Nat} {x:Operand} {j:Nat} {want:Bool}:Ak T call ops (⟨d,.binOp .eql t x (.const (.slice none 0 0)) t',ty,pos,af,some (j,want)⟩::rest) s F M K=gD (BQ ops j) F want (fun F=>Gu (Ar T t) (Iv (ev F x) false fun v=>Ak T call ops rest s (Al F d v) M K)) fun F=>Ak T call ops rest s (Al F d (.tup [])) M K:=by
 rw[Bp];rfl
theorem Up {t t' :Nat} {x:Operand}:Ak T call ops (⟨d,.binOp .neq t x (.const (.slice none 0 0)) t',ty,pos,af,none⟩::rest) s F M K=Gu (Ar T t) (Iv (ev F x) true fun v=>Ak T call ops rest s (Al F d v) M K):=rfl
theorem Uq {t t' :Nat} {x:Operand} {j:Nat} {want:Bool}:Ak T call ops (⟨d,.binOp .neq t x (.const (.slice none 0 0)) t',ty,pos,af,some (j,want)⟩::rest) s F M K=gD (BQ ops j) F want (fun F=>Gu (Ar T t) (Iv (ev F x) true fun v=>Ak T call ops rest s (Al F d v) M K)) fun F=>Ak T call ops rest s (Al F d (.tup [])) M K:=by
 rw[Bp];rfl
theorem dG {b:UnOp} {t:Nat} {x:Operand}:Ak T call ops (⟨d,.unOp b t x,ty,pos,af,none⟩::rest) s F M K=Hs (un b (ev F x)) fun v=>Ak T call ops rest s (Al F d v) M K:=rfl
theorem dH {b:UnOp} {t:Nat} {x:Operand} {j:Nat} {want:Bool}:Ak T call ops (⟨d,.unOp b t x,ty,pos,af,some (j,want)⟩::rest) s F M K=gD (BQ ops j) F want (fun F=>Hs (un b (ev F x)) fun v=>Ak T call ops rest s (Al F d v) M K) fun F=>Ak T call ops rest s (Al F d (.tup [])) M K:=by
 rw[Bp];rfl
theorem Ur {t t' :Nat} {x:Operand}:Ak T call ops (⟨d,.convert t t' x,ty,pos,af,none⟩::rest) s F M K=Hs (JM T M t t' (ev F x)) fun v=>Ak T call ops rest s (Al F d v) M K:=rfl
theorem Us {t t' :Nat} {x:Operand} {j:Nat} {want:Bool}:Ak T call ops (⟨d,.convert t t' x,ty,pos,af,some (j,want)⟩::rest) s F M K=gD (BQ ops j) F want (fun F=>Hs (JM T M t t' (ev F x)) fun v=>Ak T call ops rest s (Al F d v) M K) fun F=>Ak T call ops rest s (Al F d (.tup [])) M K:=by
 rw[Bp];rfl
theorem Yn {t:Nat} {x:Operand} {f:Nat}:Ak T call ops (⟨d,.field t x f,ty,pos,af,none⟩::rest) s F M K=Hs (QM T t (ev F x) f) fun v=>Ak T call ops rest s (Al F d v) M K:=rfl
theorem Yo {t:Nat} {x:Operand} {f:Nat} {j:Nat} {want:Bool}:Ak T call ops (⟨d,.field t x f,ty,pos,af,some (j,want)⟩::rest) s F M K=gD (BQ ops j) F want (fun F=>Hs (QM T t (ev F x) f) fun v=>Ak T call ops rest s (Al F d v) M K) fun F=>Ak T call ops rest s (Al F d (.tup [])) M K:=by
 rw[Bp];rfl
theorem Yp {t:Nat} {x i:Operand}:Ak T call ops (⟨d,.index t x i,ty,pos,af,none⟩::rest) s F M K=Hs (QL T t (ev F x) (ev F i)) fun v=>Ak T call ops rest s (Al F d v) M K:=rfl
theorem Yq {t:Nat} {x i:Operand} {j:Nat} {want:Bool}:Ak T call ops (⟨d,.index t x i,ty,pos,af,some (j,want)⟩::rest) s F M K=gD (BQ ops j) F want (fun F=>Hs (QL T t (ev F x) (ev F i)) fun v=>Ak T call ops rest s (Al F d v) M K) fun F=>Ak T call ops rest s (Al F d (.tup [])) M K:=by
 rw[Bp];rfl
theorem Ut {x:Operand} {i:Nat}:Ak T call ops (⟨d,.extract x i,ty,pos,af,none⟩::rest) s F M K=Hs (ext (ev F x) i) fun v=>Ak T call ops rest s (Al F d v) M K:=rfl
theorem Uu {x:Operand} {i:Nat} {j:Nat} {want:Bool}:Ak T call ops (⟨d,.extract x i,ty,pos,af,some (j,want)⟩::rest) s F M K=gD (BQ ops j) F want (fun F=>Hs (ext (ev F x) i) fun v=>Ak T call ops rest s (Al F d v) M K) fun F=>Ak T call ops rest s (Al F d (.tup [])) M K:=by
 rw[Bp];rfl
theorem Yr {t:Nat} {x:Operand} {lo hi mx:Option Operand}:Ak T call ops (⟨d,.slice t x lo hi mx,ty,pos,af,none⟩::rest) s F M K=Hs (Ju T M t (ev F x) (lo.map (ev F)) (hi.map (ev F)) (mx.map (ev F))) fun v=>Ak T call ops rest s (Al F d v) M K:=rfl
theorem Ys {t:Nat} {x:Operand} {lo hi mx:Option Operand} {j:Nat} {want:Bool}:Ak T call ops (⟨d,.slice t x lo hi mx,ty,pos,af,some (j,want)⟩::rest) s F M K=gD (BQ ops j) F want (fun F=>Hs (Ju T M t (ev F x) (lo.map (ev F)) (hi.map (ev F)) (mx.map (ev F))) fun v=>Ak T call ops rest s (Al F d v) M K) fun F=>Ak T call ops rest s (Al F d (.tup [])) M K:=by
 rw[Bp];rfl
theorem Ss {x:Operand}:Ak T call ops (⟨d,.nilCheck x,ty,pos,af,none⟩::rest) s F M K=Hs (Ia M (ev F x)) fun v=>Ak T call ops rest s (Al F d v) M K:=rfl
theorem Su {x:Operand} {j:Nat} {want:Bool}:Ak T call ops (⟨d,.nilCheck x,ty,pos,af,some (j,want)⟩::rest) s F M K=gD (BQ ops j) F want (fun F=>Hs (Ia M (ev F x)) fun v=>Ak T call ops rest s (Al F d v) M K) fun F=>Ak T call ops rest s (Al F d (.tup [])) M K:=by
 rw[Bp];rfl
theorem Sv {f:Nat} {caps:Array Operand}:Ak T call ops (⟨d,.makeFunc (.func f) #[] caps,ty,pos,af,none⟩::rest) s F M K=Ak T call ops rest s (Al F d (.fn f (JN F caps))) M K:=rfl
theorem Sw {f:Nat} {caps:Array Operand} {j:Nat} {want:Bool}:Ak T call ops (⟨d,.makeFunc (.func f) #[] caps,ty,pos,af,some (j,want)⟩::rest) s F M K=gD (BQ ops j) F want (fun F=>Ak T call ops rest s (Al F d (.fn f (JN F caps))) M K) fun F=>Ak T call ops rest s (Al F d (.tup [])) M K:=by
 rw[Bp];rfl
theorem Yt {t:Nat} {Am:List (Nat×Operand)}:Ak T call ops (⟨d,.build t Am.toArray,ty,pos,af,none⟩::rest) s F M K=Hs (QR T t (PN F Am)) fun v=>Ak T call ops rest s (Al F d v) M K:=rfl
theorem Yu {t:Nat} {Am:List (Nat×Operand)} {j:Nat} {want:Bool}:Ak T call ops (⟨d,.build t Am.toArray,ty,pos,af,some (j,want)⟩::rest) s F M K=gD (BQ ops j) F want (fun F=>Hs (QR T t (PN F Am)) fun v=>Ak T call ops rest s (Al F d v) M K) fun F=>Ak T call ops rest s (Al F d (.tup [])) M K:=by
 rw[Bp];rfl
theorem bf {x:Operand} {t:Nat}:Ak T call ops (⟨d,.call ⟨.builtin .len, #[x], #[t]⟩,ty,pos,af,none⟩::rest) s F M K=Hs (MZ T t (ev F x)) fun v=>Ak T call ops rest s (Al F d v) M K:=rfl
theorem bg {x:Operand} {t:Nat} {j:Nat} {want:Bool}:Ak T call ops (⟨d,.call ⟨.builtin .len, #[x], #[t]⟩,ty,pos,af,some (j,want)⟩::rest) s F M K=gD (BQ ops j) F want (fun F=>Hs (MZ T t (ev F x)) fun v=>Ak T call ops rest s (Al F d v) M K) fun F=>Ak T call ops rest s (Al F d (.tup [])) M K:=by
 rw[Bp];rfl
theorem bh {x y:Operand} {ts:Array Nat}:Ak T call ops (⟨d,.call ⟨.builtin .min, #[x,y],ts⟩,ty,pos,af,none⟩::rest) s F M K=Hs (LP (ev F x) (ev F y)) fun v=>Ak T call ops rest s (Al F d v) M K:=rfl
theorem bj {x y:Operand} {ts:Array Nat} {j:Nat} {want:Bool}:Ak T call ops (⟨d,.call ⟨.builtin .min, #[x,y],ts⟩,ty,pos,af,some (j,want)⟩::rest) s F M K=gD (BQ ops j) F want (fun F=>Hs (LP (ev F x) (ev F y)) fun v=>Ak T call ops rest s (Al F d v) M K) fun F=>Ak T call ops rest s (Al F d (.tup [])) M K:=by
 rw[Bp];rfl
theorem bk {x y:Operand} {ts:Array Nat}:Ak T call ops (⟨d,.call ⟨.builtin .max, #[x,y],ts⟩,ty,pos,af,none⟩::rest) s F M K=Hs (LQ (ev F x) (ev F y)) fun v=>Ak T call ops rest s (Al F d v) M K:=rfl
theorem bm {x y:Operand} {ts:Array Nat} {j:Nat} {want:Bool}:Ak T call ops (⟨d,.call ⟨.builtin .max, #[x,y],ts⟩,ty,pos,af,some (j,want)⟩::rest) s F M K=gD (BQ ops j) F want (fun F=>Hs (LQ (ev F x) (ev F y)) fun v=>Ak T call ops rest s (Al F d v) M K) fun F=>Ak T call ops rest s (Al F d (.tup [])) M K:=by
 rw[Bp];rfl
theorem Yv {t:Nat}:Ak T call ops (⟨d,.alloc t,ty,pos,af,none⟩::rest) s F M K=Ht (T t) fun i=>M[s]?=some .free/\Ak T call ops rest (s+1) (Al F d (.ptr s 0 0)) (M.set s (.live 0 i.zero)) K:=rfl
theorem Yw {t:Nat} {j:Nat} {want:Bool}:Ak T call ops (⟨d,.alloc t,ty,pos,af,some (j,want)⟩::rest) s F M K=gD (BQ ops j) F want (fun F=>Ht (T t) fun i=>M[s]?=some .free/\Ak T call ops rest (s+1) (Al F d (.ptr s 0 0)) (M.set s (.live 0 i.zero)) K) fun F=>Ak T call ops rest (s+1) (Al F d (.tup [])) M K:=by
 rw[Bp];rfl
theorem bn {t:Nat} {x:Operand}:Ak T call ops (⟨d,.box t x,ty,pos,af,none⟩::rest) s F M K=Ht (T t) fun i=>Hl (II i (ev F x)) fun cs=>M[s]?=some .free/\Ak T call ops rest (s+1) (Al F d (.ptr s 0 0)) (M.set s (.live 0 cs)) K:=rfl
theorem bo {t:Nat} {x:Operand} {j:Nat} {want:Bool}:Ak T call ops (⟨d,.box t x,ty,pos,af,some (j,want)⟩::rest) s F M K=gD (BQ ops j) F want (fun F=>Ht (T t) fun i=>Hl (II i (ev F x)) fun cs=>M[s]?=some .free/\Ak T call ops rest (s+1) (Al F d (.ptr s 0 0)) (M.set s (.live 0 cs)) K) fun F=>Ak T call ops rest (s+1) (Al F d (.tup [])) M K:=by
 rw[Bp];rfl
theorem QB {t:Nat} {l c:Operand}:Ak T call ops (⟨d,.makeSlice t l c,ty,pos,af,none⟩::rest) s F M K=Mo (Ar T t) (ev F l) (ev F c) s M fun v M' =>Ak T call ops rest (s+1) (Al F d v) M' K:=rfl
theorem QC {t:Nat} {l c:Operand} {j:Nat} {want:Bool}:Ak T call ops (⟨d,.makeSlice t l c,ty,pos,af,some (j,want)⟩::rest) s F M K=gD (BQ ops j) F want (fun F=>Mo (Ar T t) (ev F l) (ev F c) s M fun v M' =>Ak T call ops rest (s+1) (Al F d v) M' K) fun F=>Ak T call ops rest (s+1) (Al F d (.tup [])) M K:=by
 rw[Bp];rfl
theorem PO {t len:Nat} {Am:List (Nat×Operand)}:Ak T call ops (⟨d,.buildSlice t len Am.toArray,ty,pos,af,none⟩::rest) s F M K=Mp (Ar T t) len (PN F Am) s M fun v M' =>Ak T call ops rest (s+1) (Al F d v) M' K:=rfl
theorem PP {t len:Nat} {Am:List (Nat×Operand)} {j:Nat} {want:Bool}:Ak T call ops (⟨d,.buildSlice t len Am.toArray,ty,pos,af,some (j,want)⟩::rest) s F M K=gD (BQ ops j) F want (fun F=>Mp (Ar T t) len (PN F Am) s M fun v M' =>Ak T call ops rest (s+1) (Al F d v) M' K) fun F=>Ak T call ops rest (s+1) (Al F d (.tup [])) M K:=by
 rw[Bp];rfl
theorem Yx {t:Nat} {x y:Operand}:Ak T call ops (⟨d,.store t x y,ty,pos,af,none⟩::rest) s F M K=Ht (T t) fun i=>Iu i (ev F x) (ev F y) M fun M' =>Ak T call ops rest s (Al F d .any) M' K:=rfl
theorem Yy {t:Nat} {x y:Operand} {j:Nat} {want:Bool}:Ak T call ops (⟨d,.store t x y,ty,pos,af,some (j,want)⟩::rest) s F M K=gD (BQ ops j) F want (fun F=>Ht (T t) fun i=>Iu i (ev F x) (ev F y) M fun M' =>Ak T call ops rest s (Al F d .any) M' K) fun F=>Ak T call ops rest s (Al F d (.tup [])) M K:=by
 rw[Bp];rfl
theorem V8 {x y:Operand} {t:Nat}:Ak T call ops (⟨d,.call ⟨.builtin .append, #[x,y], #[t,t]⟩,ty,pos,af,none⟩::rest) s F M K=HW (Ar T t) (ev F x) (ev F y) M fun v M' =>Ak T call ops rest s (Al F d v) M' K:=by simp only[Ak,CX,true_and];rfl
theorem V9 {x y:Operand} {t:Nat} {j:Nat} {want:Bool}:Ak T call ops (⟨d,.call ⟨.builtin .append, #[x,y], #[t,t]⟩,ty,pos,af,some (j,want)⟩::rest) s F M K=gD (BQ ops j) F want (fun F=>HW (Ar T t) (ev F x) (ev F y) M fun v M' =>Ak T call ops rest s (Al F d v) M' K) fun F=>Ak T call ops rest s (Al F d (.tup [])) M K:=by
 rw[Bp];simp only[CX,true_and];rfl
def Sy:=Ak
theorem Fa:Sy T call ops rest s F M K=Ak T call ops rest s F M K:=rfl
theorem ab {f:Operand} {args:List Operand} {ts:Array Nat}:Ak T call ops (⟨d,.call ⟨.value f,args.toArray,ts⟩,ty,pos,af,none⟩::rest) s F M K=J9 call (ev F f) (args.map (ev F)) M fun r M' =>Sy T call ops rest s (Al F d r) M' K:=rfl
theorem ac {f:Operand} {args:List Operand} {ts:Array Nat} {j:Nat} {want:Bool}:Ak T call ops (⟨d,.call ⟨.value f,args.toArray,ts⟩,ty,pos,af,some (j,want)⟩::rest) s F M K=gD (BQ ops j) F want (fun F=>J9 call (ev F f) (args.map (ev F)) M fun r M' =>Sy T call ops rest s (Al F d r) M' K) fun F=>Ak T call ops rest s (Al F d (.tup [])) M K:=by
 rw[Bp];rfl
theorem bp {g:Option (Nat×Bool)} {l:List Oper}:BQ (⟨some ty,op,s,pos,af,g⟩::l).toArray 0=some ty:=rfl
theorem bq {o:Oper} {l:List Oper} {j:Nat}:BQ (o::l).toArray (j+1)=BQ l.toArray j:=by simp[BQ]
theorem Yz {t:Nat} {want:Bool} {K1 K2:Fr->Prop}:gD (some t) F want K1 K2=gK (F t) want (fun b=>K1 (Bg F t b)) (fun b=>K2 (Bg F t b)):=rfl
theorem YA:PN F []=[]:=rfl
theorem Wa {i:Nat} {x:Operand} {ps:List (Nat×Operand)}:PN F ((i,x)::ps)=(i,ev F x)::PN F ps:=rfl
theorem Uv {t:Nat} {v:AV}:Al F (some t) v=Bg F t v:=rfl
theorem Uw {v:AV}:Al F none v=F:=rfl
theorem ae {t:Nat}:ev F (.tmp t)=F t:=rfl
theorem ag {k:IntKind} {n:Int}:ev F (.const (.int k n))= .int k n:=rfl
theorem YB {b:Bool}:ev F (.const (.bool b))= .bool b:=rfl
theorem ah {b:ByteArray}:ev F (.const (.string b))= .str b:=rfl
theorem ai:ev F (.const (.slice none 0 0))= .own 0 0 []:=rfl
theorem YC:ev F (.const (.pointer none))= .nilp:=rfl
theorem YD {f:Nat}:ev F (.func f)= .fn f []:=rfl
theorem YE:Fz T ty .any= .any:=rfl
theorem Wb {b:Bool}:Fz T ty (.bool b)= .bool b:=rfl
theorem YF {k:IntKind} {n:Int}:Fz T ty (.int k n)= .int k n:=rfl
theorem YG {b:ByteArray}:Fz T ty (.str b)= .str b:=rfl
theorem Wc:Fz T ty .nilp= .nilp:=rfl
theorem aj {n:Nat} {xs:List AV}:Fz T ty (.ro n xs)= .ro n xs:=rfl
theorem YH {a b c e n:Nat}:Fz T ty (.tok a b c e n)= .tok a b c e n:=rfl
theorem YI {a b c:Nat}:Fz T ty (.ptr a b c)= .ptr a b c:=rfl
theorem Wd {xs:List AV}:Fz T ty (.rptr xs)= .rptr xs:=rfl
theorem ak {f:Nat} {xs:List AV}:Fz T ty (.fn f xs)= .fn f xs:=rfl
theorem YJ {xs:List AV}:Fz T ty (.agg xs)= .agg xs:=rfl
theorem YK {xs:List AV}:Fz T ty (.tup xs)= .tup xs:=rfl
theorem YL {n:Nat} {xs:List AV}:Fz T ty (.own (s+1) n xs)= .own (s+1) n xs:=rfl
theorem YM:Fz T ty (.own 0 0 [])=match T ty with|some i=>(match i.zero with| [z]=>RH z (.own 0 0 []) |_=> .own 0 0 []) |none=> .own 0 0 []:=rfl
theorem We {n:Nat}:RH (.own n 0 []) (.own 0 0 [])= .own n 0 []:=rfl
theorem Wf {a b:Nat}:FO none a b=some a:=rfl
@[simp] theorem fR:Da .any=false:=rfl
@[simp] theorem dI (b:Bool):Da (.bool b)=true:=rfl
@[simp] theorem fS (k:IntKind) (n:Int):Da (.int k n)=true:=rfl
@[simp] theorem fT (b:ByteArray):Da (.str b)=true:=rfl
@[simp] theorem dJ:Da .nilp=true:=rfl
@[simp] theorem iX (n:Nat) (xs:List AV):Da (.ro n xs)=true:=rfl
@[simp] theorem fU (s n:Nat) (xs:List AV):Da (.own s n xs)=false:=rfl
@[simp] theorem fV (a b c e f:Nat):Da (.tok a b c e f)=true:=rfl
@[simp] theorem fW (a b c:Nat):Da (.ptr a b c)=true:=rfl
@[simp] theorem dK (xs:List AV):Da (.rptr xs)=true:=rfl
@[simp] theorem dL (xs:List AV):Da (.optr xs)=false:=rfl
@[simp] theorem iY (f:Nat) (xs:List AV):Da (.fn f xs)=true:=rfl
@[simp] theorem fX (xs:List AV):Da (.agg xs)=false:=rfl
@[simp] theorem fY (xs:List AV):Da (.tup xs)=false:=rfl
@[simp] theorem bV:BO .any=false:=rfl
@[simp] theorem br (b:Bool):BO (.bool b)=true:=rfl
@[simp] theorem bW (k:IntKind) (n:Int):BO (.int k n)=true:=rfl
@[simp] theorem bX (b:ByteArray):BO (.str b)=true:=rfl
@[simp] theorem bt:BO .nilp=true:=rfl
@[simp] theorem dM (n:Nat) (xs:List AV):BO (.ro n xs)=true:=rfl
@[simp] theorem bY (s n:Nat) (xs:List AV):BO (.own s n xs)=true:=rfl
@[simp] theorem bZ (a b c e f:Nat):BO (.tok a b c e f)=true:=rfl
@[simp] theorem b9 (a b c:Nat):BO (.ptr a b c)=true:=rfl
@[simp] theorem bu (xs:List AV):BO (.rptr xs)=true:=rfl
@[simp] theorem bx (xs:List AV):BO (.optr xs)=true:=rfl
@[simp] theorem dN (f:Nat) (xs:List AV):BO (.fn f xs)=true:=rfl
@[simp] theorem cb (xs:List AV):BO (.agg xs)=false:=rfl
@[simp] theorem cc (xs:List AV):BO (.tup xs)=false:=rfl
def EY (xs:List AV):Bool:=xs.all Da
def EZ (xs:List AV):Bool:=xs.all BO
theorem IB (xs:List AV):xs.all Da=EY xs:=rfl
theorem Km (xs:List AV):xs.all BO=EZ xs:=rfl
@[simp] theorem fZ:EY []=true:=rfl
@[simp] theorem dO (x:AV) (xs:List AV):EY (x::xs)=(Da x&&EY xs):=rfl
@[simp] theorem f9 (xs ys:List AV):EY (xs++ys)=(EY xs&&EY ys):=by simp[EY]
@[simp] theorem ga:EZ []=true:=rfl
@[simp] theorem dP (x:AV) (xs:List AV):EZ (x::xs)=(BO x&&EZ xs):=rfl
@[simp] theorem gb (xs ys:List AV):EZ (xs++ys)=(EZ xs&&EZ ys):=by simp[EZ]
@[simp] theorem js (v u:Nat) (cs:List AV):Aj (.live u cs::M) 0 v=if v=u then some cs else none:=rfl
@[simp] theorem jt (b:Ag) (n v:Nat):Aj (b::M) (n+1) v=Aj M n v:=rfl
@[simp] theorem iZ (v:Nat):Aj (.dead::M) 0 v=none:=rfl
@[simp] theorem i0 (v:Nat):Aj (.free::M) 0 v=none:=rfl
@[simp] theorem cd (z:List AV):CF 0 z=[]:=rfl
@[simp] theorem dQ (z:List AV):CF 1 z=z:=by simp[CF]
theorem Wg:M++List.replicate 0 Ag.free=M:=by simp
theorem Wh {n:Nat}:M++List.replicate (n+1) Ag.free=(M++[.free])++List.replicate n .free:=by simp[List.replicate_succ]
end
section
variable {P:Program} {T:Nat->Option TI} {p:Nat} {F:Fr} {M:List Ag} {Q:Cn}
theorem W.reg {id:Nat} {l:List Oper} (n:Nat) (hn:Bb l=n) (h:∀K:Fr->List Ag->Prop,(∀F M,Q .normal F M->K F M)->Ak T (Ab P) l.toArray l M.length F (M++List.replicate n .free) K):W P T p (.region id l.toArray false) F M Q:=
 W.regK (by rw[hn];exact h)
theorem W.regd {id:Nat} {l:List Oper} (n:Nat) (hn:Bb l=n) (L:Bool) (hp:P.follows .mixedOrders=true) (hd:MA L l=true) (h:∀K:Fr->List Ag->Prop,(∀F M,Q .normal F M->K F M)->Ak T (Ah P L) l.toArray l M.length F (M++List.replicate n .free) K):W P T p (.region id l.toArray true) F M Q:=
 W.regDK L hp hd (by rw[hn];exact h)
theorem Ab.eq {f:Nat} {args cargs:List AV} {K:AV->List Ag->Prop} {v:AV} (spec:Aa P f cargs [] fun r _=>r=v) (hargs:args.map (vw M)=cargs) (hr:Gc v=true) (hk:K (D5 M.length v).1 (M++(D5 M.length v).2)):Ab P f args M K:=
 Ab.bor spec hargs fun r e=>by subst e;exact⟨hr,hk⟩
theorem Ab.eqr {f:Nat} {args cargs:List AV} {K:AV->List Ag->Prop} {v:AV} (spec:Aa P f cargs [] fun r _=>r=v) (hargs:args.map N0=cargs) (hk:K (D5 M.length v).1 (M++(D5 M.length v).2)):Ab P f args M K:=
 Ab.ro spec hargs fun r e=>by subst e;exact hk
theorem Ah.eq {f:Nat} {args cargs:List AV} {K:AV->List Ag->Prop} {v:AV} (spec:Aa P f cargs [] fun r _=>r=v) (hargs:args.map (vw M)=cargs) (hr:Gc v=true) (hk:K (D5 M.length v).1 (M++(D5 M.length v).2)):Ah P true f args M K:=
 ⟨_,_,spec,.inl ⟨rfl,⟨[],hargs⟩,fun r e=>by subst e;exact⟨hr,hk⟩⟩⟩
theorem Ah.eqr {L:Bool} {f:Nat} {args cargs:List AV} {K:AV->List Ag->Prop} {v:AV} (spec:Aa P f cargs [] fun r _=>r=v) (hargs:args.map N0=cargs) (hk:K (D5 M.length v).1 (M++(D5 M.length v).2)):Ah P L f args M K:=
 ⟨_,_,spec,.inr ⟨hargs,fun r e=>by subst e;exact hk⟩⟩
end
section
variable {x x' :Option AV} {y y' :Option (List AV)} {z z' :Option TI} {q q' :Option (Nat×List AV)} {v v' w w' :AV} {d d' :TD} {M M' :List Ag} {t t' :Option Nat}
@[congr] theorem dR {K:AV->Prop} (h:x=x'):Hs x K=Hs x' K:=by rw[h]
@[congr] theorem dS {K:List AV->Prop} (h:y=y'):Hl y K=Hl y' K:=by rw[h]
@[congr] theorem dT {K:TI->Prop} (h:z=z'):Ht z K=Ht z' K:=by rw[h]
@[congr] theorem dU {K:Nat->List AV->Prop} (h:q=q'):Hy q K=Hy q' K:=by rw[h]
@[congr] theorem dV {b:Bool} {K1 K2:AV->Prop} (h:v=v'):gK v b K1 K2=gK v' b K1 K2:=by rw[h]
@[congr] theorem dW {F:Fr} {b:Bool} {K1 K2:Fr->Prop} (h:t=t'):gD t F b K1 K2=gD t' F b K1 K2:=by rw[h]
@[congr] theorem aH {K1 K2:Prop} (h:v=v'):condK v K1 K2=condK v' K1 K2:=by rw[h]
@[congr] theorem ce {b:Bool} {K:AV->Prop} (h:v=v'):Iv v b K=Iv v' b K:=by rw[h]
@[congr] theorem bz {K:Prop} (h:d=d'):Gu d K=Gu d' K:=by rw[h]
@[congr] theorem cf {s:Nat} {K:AV->List Ag->Prop} (h:d=d') (h1:v=v') (h2:w=w') (h3:M=M'):Mo d v w s M K=Mo d' v' w' s M' K:=by rw[h,h1,h2,h3]
@[congr] theorem cj {n s:Nat} {ps ps' :List (Nat×AV)} {K:AV->List Ag->Prop} (h:d=d') (h1:ps=ps') (h3:M=M'):Mp d n ps s M K=Mp d' n ps' s M' K:=by rw[h,h1,h3]
@[congr] theorem ck {i:TI} {K:List Ag->Prop} (h1:v=v') (h2:w=w') (h3:M=M'):Iu i v w M K=Iu i v' w' M' K:=by rw[h1,h2,h3]
@[congr] theorem cm {K:AV->List Ag->Prop} (h:d=d') (h1:v=v') (h2:w=w') (h3:M=M'):HW d v w M K=HW d' v' w' M' K:=by rw[h,h1,h2,h3]
@[congr] theorem cn {call:D3} {as as' :List AV} {K:AV->List Ag->Prop} (h1:v=v') (h2:as=as') (h3:M=M'):J9 call v as M K=J9 call v' as' M' K:=by rw[h1,h2,h3]
@[congr] theorem aI {P:Program} {f:Nat} {as as' :List AV} {K:AV->List Ag->Prop} (h2:as=as') (h3:M=M'):Ab P f as M K=Ab P f as' M' K:=by rw[h2,h3]
@[congr] theorem aJ {P:Program} {L:Bool} {f:Nat} {as as' :List AV} {K:AV->List Ag->Prop} (h2:as=as') (h3:M=M'):Ah P L f as M K=Ah P L f as' M' K:=by rw[h2,h3]
@[congr] theorem bA {T:Nat->Option TI} {call:D3} {ops:Array Oper} {l:List Oper} {s:Nat} {F:Fr} {K:Fr->List Ag->Prop} (h3:M=M'):Ak T call ops l s F M K=Ak T call ops l s F M' K:=by rw[h3]
end
attribute [simp] VM Z5 Z6 V6 V7 Z7 Z8 Z9 aa Qx Qy Qz QA Yf Yg Yh Yi Yj Yk Yl Ym Un Uo Up Uq dG dH Ur Us Yn Yo Yp Yq Ut Uu Yr Ys Ss Su Sv Sw Yt Yu bf bg bh bj bk bm Yv Yw bn bo QB QC PO PP Yx Yy V8 V9 ab ac bp bq YA Wa Uv Uw ae ag YB ah ai YC YD YE Wb YF YG Wc aj YH YI Wd ak YJ YK YL YM We Wf Wg Wh XV Z0 X1 X2 X3 X4 X5 X6 X7 X8 X9 Ya Yb Yc Yd VZ V0 V1 V2 Z1 Z2 Ul Z4 Sr
attribute [simp ↓] XW XX XY XZ X0 VY Sq Ye V5 Z3 Yz
attribute [simp] MZ.eq_def JJ.eq_def JI.eq_def QM.eq_def Ju.eq_def Ia.eq_def ext.eq_def QL.eq_def JM.eq_def WH.eq_def Gu.eq_def Iv.eq_def Mo.eq_def Mp.eq_def Iu.eq_def HW.eq_def C2.eq_def II.eq_def IH.eq_def cellsOf.eq_def QR.eq_def LP.eq_def LQ.eq_def WJ.eq_def WI.eq_def QK.eq_def FO.eq_def KZ.eq_def OP.eq_def
attribute [simp] HL CP
attribute [simp] IB Km
attribute [simp ↓ high] ba bb bc be
attribute [simp] Um wrap_i64 V3 V4
@[congr] theorem cp {F:Fr} {d:Nat} {v:AV} {t t' :Nat} (h:t=t'):Bg F d v t=Bg F d v t' :=by rw[h]
@[congr] theorem bB {F:Fr} {d:Option Nat} {v:AV} {t t' :Nat} (h:t=t'):Al F d v t=Al F d v t' :=by rw[h]
@[simp] theorem Wi (F:Fr) (d:Nat) (v:AV) (t:Nat):Al F (some d) v t=if t=d then v else F t:=rfl
attribute [simp] Int.toNat_natCast List.getElem?_cons_zero List.getElem?_cons_succ
@[simp] theorem gc {a b:Int} (h:0<=a):a.tmod b=a%b:=Int.tmod_eq_emod_of_nonneg h
@[simp] theorem gd {a b:Int} (h:0<=a):a.tdiv b=a/b:=Int.tdiv_eq_ediv_of_nonneg h
@[simp] theorem gg {a b:Int} (h:0<=b):a.fdiv b=a/b:=Int.fdiv_eq_ediv_of_nonneg a h
section
variable {a b:Int} {m n:Nat}
@[simp] theorem gh (h:a<b):decide (a<b)=true:=by simp[h]
@[simp] theorem gj (h:b<=a):decide (a<b)=false:=by simp;omega
@[simp] theorem gk (h:a<=b):decide (a<=b)=true:=by simp[h]
@[simp] theorem gl (h:b<a):decide (a<=b)=false:=by simp;omega
@[simp] theorem gn (h:m<n):decide (m<n)=true:=by simp[h]
@[simp] theorem gp (h:n<=m):decide (m<n)=false:=by simp;omega
@[simp] theorem gq (h:m<=n):decide (m<=n)=true:=by simp[h]
@[simp] theorem gr (h:n<m):decide (m<=n)=false:=by simp;omega
@[simp] theorem ju (h:a≠b):decide (a=b)=false:=by simp[h]
@[simp] theorem jv (h:m≠n):decide (m=n)=false:=by simp[h]
end
@[simp] theorem cq (n:Nat):(n<=maxLen)=(n<=9223372036854775807):=rfl
@[simp] theorem dX {α:Type} {m n:Nat} {a b:α} (h:m<=n):(if m<=n then a else b)=a:=if_pos h
@[simp] theorem gu (T:Nat->Option TI) (t:Nat) (a b:Bool):DY T .eql t (.bool a) (.bool b)=(match Ar T t with| .bool=>some (.bool (decide (a=b))) |_=>none):=by
  unfold DY;cases Ar T t<;>rfl
@[simp] theorem gv (T:Nat->Option TI) (t:Nat) (a b:Bool):DY T .neq t (.bool a) (.bool b)=(match Ar T t with| .bool=>some (.bool (!decide (a=b))) |_=>none):=by
  unfold DY;cases Ar T t<;>rfl
@[simp] theorem cr {α:Type} {a b c d:Int} {x y:α} (h1:a<=b) (h2:c<=d):(if a<=b/\c<=d then x else y)=x:=if_pos ⟨h1,h2⟩
@[simp] theorem dY {α:Type} {a b:Int} {x y:α} (h1:a<=b):(if a<=b then x else y)=x:=if_pos h1
end Go.Abs
