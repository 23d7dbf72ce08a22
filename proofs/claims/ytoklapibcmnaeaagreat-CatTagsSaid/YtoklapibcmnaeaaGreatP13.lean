/- Laws of layer 14: what wakes. -/
import Derived.Test.YtoklapibcmnaeaaGreatP12
import Derived.Test.YtoklapibcmnaeaaGreatRows
import Derived.JoinedOf
set_option linter.unusedVariables false
set_option linter.unusedSimpArgs false
set_option maxRecDepth 100000
namespace Go.Abs
open Go.Proofs
theorem TW:C6 []=F0:=by funext t;simp[C6,F0]
theorem NG:BT (BG 9 2):=by
 rw[Gc]
 refine⟨by simp[BG],by simp[BG],by simp[BG],by simp[BG],⟨by simp[BG,Ar],by simp[BG,Ar],by simp[BG,Ar]⟩,⟨by simp[BG],by simp[BG],by simp[BG,A0],by simp[BG,A0],by simp[BG,A0]⟩,fun i h=>by simp[BG] at h,fun x hx=>?_⟩
 have:x=Du:=by simpa[BG] using hx
 subst this
 simp[Aw,Du]
theorem OQ (hR:BV):Aa pg 19 [] [] (fun r _=>r= .bool true):=by
 have spN:=UT hR 9 2 NG
 have hs:Be (BG 9 2):=⟨by simp[BG],by simp[BG],by simp[BG]⟩
 have hx:Dv (BG 9 2):=by
  intro x hx
  have:x=Du:=by simpa[BG] using hx
  subst this
  simp[DN,EA,IA,Du,AD,B6]
 have spH:=RH hR (BG 9 2) hs hx
 rw[if_pos NG,if_pos NG] at spH
 have hl:B1 (BG 9 2).vers=0:=rfl
 have hb:(BG 9 2).blocks=9:=rfl
 have hsl:(BG 9 2).sess.length=3:=rfl
 rw[hl] at spH
 obtain⟨s,hsd⟩:∃s,s=BG 9 2:=⟨_,rfl⟩
 rw[←hsd] at spN spH hb hsl
 refine Aa.start (fn:=Tryz.f19) [.tmp 0] tk rfl rfl rfl (by kernel_rfl) (Nat.le_of_ble_eq_true rfl) rfl (by kernel_rfl) ?_
 rw[TW]
 refine zs ?_
 refine z1 ?_;intro K hK
 refine Ab.eq spN (by simp) (by simp) ?_
 refine zx ?_
 refine zk ?_;clear hK K
 refine z0 ?_;intro K hK
 refine Ab.eq spH (by simp) (by simp) ?_
 refine zx ?_
 refine zk ?_;clear hK K
 have hb' :(s.blocks=9)=True:=eq_true hb
 have hsl' :((s.sess.length:Int)=3)=True:=eq_true (by omega)
 refine z0 ?_;intro K hK
 refine Ab.eq (FI 0) (by simp) (by simp) ?_
 refine zx ?_
 refine Ab.eq (FI 0) (by simp) (by simp) ?_
 refine AJ (an hb' hsl') ?_
 refine zk ?_;clear hK K
 exact zR
end Go.Abs
namespace Go.Abs
def Cn (s:AS) (keep:Int) (k:Nat) (tag gone:Bool):AS:={s with keep:=keep,vers:=match s.vers[k]? with|some v=>s.vers.set k {v with tag:=tag,gone:=gone} |none=>s.vers}
theorem CD {s:AS} {keep:Int} {k:Nat} {tag gone:Bool} (h:k<s.vers.length):(Cn s keep k tag gone).vers=s.vers.set k {s.vers[k] with tag:=tag,gone:=gone}:=by
 simp[Cn,List.getElem?_eq_getElem h]
theorem Lz {α β:Type} (f:α→β) (l:List α) (k:Nat) (x:α) (h:k<l.length) (e:f x=f l[k]):(l.set k x).map f=l.map f:=by
 rw[List.map_set,e]
 have:(l.map f)[k]'(by simpa using h)=f l[k]:=by simp
 rw[←this,List.set_getElem_self]
theorem EP {β:Type} {s:AS} {keep:Int} {k:Nat} {tag gone:Bool} (f:Cw→β) (hf:∀v:Cw,f {v with tag:=tag,gone:=gone}=f v):(Cn s keep k tag gone).vers.map f=s.vers.map f:=by
 by_cases h:k<s.vers.length
 .rw[CD h]
  exact Lz f _ _ _ h (hf _)
 .simp[Cn,List.getElem?_eq_none (show s.vers.length≤k by omega)]
theorem IG (s:AS) (keep:Int) (k:Nat) (tag gone:Bool):Ar (Cn s keep k tag gone)=Ar s:=EP _ fun _=>rfl
theorem La (s:AS) (keep:Int) (k:Nat) (tag gone:Bool):A0 (Cn s keep k tag gone)=A0 s:=EP _ fun _=>rfl
theorem EQ (s:AS) (keep:Int) (k:Nat) (tag gone:Bool):(Cn s keep k tag gone).vers.length=s.vers.length:=by
 have:=congrArg List.length (EP (s:=s) (keep:=keep) (k:=k) (tag:=tag) (gone:=gone) (fun v=>v.id) fun _=>rfl)
 simpa using this
theorem NH (l m:List Cw) (h:l.map (fun v=>v.id)=m.map fun v=>v.id):B1 l=B1 m:=by
 have:=congrArg List.getLast? h
 rw[List.getLast?_map,List.getLast?_map] at this
 unfold B1
 cases hl:l.getLast?<;>cases hm:m.getLast?<;>simp_all
theorem OR (l:List Cw) (i:Int):(∃v∈l,v.id=i)↔i∈l.map fun v=>v.id:=by simp
theorem NI (s:AS) (keep:Int) (k:Nat) (tag gone:Bool) (l:List Obj) (x:C8):Aw (Cn s keep k tag gone) l x↔Aw s l x:=by
 have e:=EP (s:=s) (keep:=keep) (k:=k) (tag:=tag) (gone:=gone) (fun v=>v.id) fun _=>rfl
 have e1:=NH _ _ e
 unfold Aw
 rw[OR,OR,e,e1]
theorem Ks {s:AS} {keep:Int} {k:Nat} {tag gone:Bool} (h:BT s) (hk:k+1<s.vers.length) (h1:1≤keep∧keep≤8) (ht:¬(tag=true∧gone=true)):BT (Cn s keep k tag gone):=by
 rw[Gc] at h ⊢
 obtain⟨_,a2,a3,a4,a5,a6,a7,a8⟩:=h
 rw[IG,La]
 refine⟨h1,a2,by rw[EQ];exact a3,a4,a5,a6,fun i hi=>?_,fun x hx=>(NI s keep k tag gone _ x).2 (a8 x hx)⟩
 have hi' :i<s.vers.length:=by rw[EQ] at hi;exact hi
 obtain⟨b1,b2,b3⟩:=a7 i hi'
 have hv:=CD (s:=s) (keep:=keep) (tag:=tag) (gone:=gone) (show k<s.vers.length by omega)
 unfold Iy
 simp only[IG,hv,List.getElem_set]
 by_cases e:k=i
 .subst e
  simp only[if_true,List.length_set]
  exact⟨b1,⟨b2.1,b2.2.1,ht⟩,fun g=>by omega⟩
 .simp only[e,if_false,List.length_set]
  exact⟨b1,b2,b3⟩
theorem TX {s:AS} (h:BT s):(s.vers.map fun v=>v.id).Pairwise (·<·):=by
 have:=((Gc s).1 h).2.2.2.2.1.2.2
 rw[List.pairwise_map]
 have h2:(s.vers.map Gl).Pairwise fun a b=>a.id<b.id:=this
 rw[List.pairwise_map] at h2
 exact h2
theorem Nc {s:AS} (h:BT s) {i j:Nat} (hi:i<s.vers.length) (hj:j<s.vers.length) (e:s.vers[i].id=s.vers[j].id):i=j:=by
 have hp:=TX h
 rw[List.pairwise_iff_getElem] at hp
 rcases Nat.lt_trichotomy i j with hlt|heq|hgt
 .have:=hp i j (by simpa using hi) (by simpa using hj) hlt
  simp at this;omega
 .exact heq
 .have:=hp j i (by simpa using hj) (by simpa using hi) hgt
  simp at this;omega
theorem LA (l:List Cw) (i:Int):i∈BU l↔∃v∈l,v.gone=false∧v.id=i:=by
 simp[BU,and_assoc]
theorem TY {s:AS} {keep:Int} {k:Nat} {tag:Bool} (hk:k<s.vers.length):s.vers[k].id∈BU (Cn s keep k tag false).vers:=by
 rw[LA,CD hk]
 exact⟨_,List.mem_set hk _,rfl,rfl⟩
theorem OS {s:AS} {keep:Int} {k:Nat} {tag:Bool} (h:BT s) (hk:k<s.vers.length):¬s.vers[k].id∈BU (Cn s keep k tag true).vers:=by
 rw[LA,CD hk]
 rintro⟨v,hv,hg,Bu⟩
 obtain⟨i,hi,rfl⟩:=List.mem_iff_getElem.1 hv
 have hi' :i<s.vers.length:=by simpa using hi
 rw[List.getElem_set] at hg Bu
 by_cases e:k=i
 .rw[if_pos e] at hg;simp at hg
 .rw[if_neg e] at Bu
  exact e (Nc h hk hi' Bu.symm)
theorem Jo (s:AS) (i:Int):i∈Ct s true↔∃v∈s.vers,E0 s v=true∧v.id=i:=by
 simp[Ct,Dc,and_assoc]
theorem P3 {s:AS} {keep:Int} {k:Nat} {gone:Bool} (hk:k<s.vers.length):s.vers[k].id∈Ct (Cn s keep k true gone) true:=by
 rw[Jo]
 refine⟨{s.vers[k] with tag:=true,gone:=gone},?_,?_,rfl⟩
 .rw[CD hk];exact List.mem_set hk _
 .simp[E0]
theorem P4 {s:AS} {keep:Int} {k:Nat} (h:BT s) (hk:k<s.vers.length):s.vers[k].id∈Ct (Cn s keep k false true) true↔pinned s s.vers[k].id=true:=by
 have hns:=OS (keep:=keep) (tag:=false) h hk
 have hpin:pinned (Cn s keep k false true)=pinned s:=rfl
 rw[Jo]
 constructor
 .rintro⟨v,hv,hkp,Bu⟩
  have hvk:v.tag=false:=by
   rw[CD hk] at hv
   obtain⟨i,hi,rfl⟩:=List.mem_iff_getElem.1 hv
   have hi' :i<s.vers.length:=by simpa using hi
   rw[List.getElem_set] at Bu ⊢
   by_cases e:k=i
   .rw[if_pos e]
   .rw[if_neg e] at Bu
    exact absurd (Nc h hk hi' Bu.symm) e
  simp only[E0,hvk,Bool.false_or,Bool.or_eq_true] at hkp
  rcases hkp with hkp|hkp
  .exfalso
   apply hns
   have:=List.contains_iff_mem.1 hkp
   rw[Bu] at this
   exact List.mem_of_mem_drop this
  .rw[Bu,hpin] at hkp
   exact hkp
 .intro hp
  refine⟨{s.vers[k] with tag:=false,gone:=true},?_,?_,rfl⟩
  .rw[CD hk];exact List.mem_set hk _
  .simp only[E0,Bool.false_or,Bool.or_eq_true]
   right
   rw[hpin];exact hp
end Go.Abs
set_option maxRecDepth 100000
namespace Go.Abs
open Go.Proofs
theorem J5:∀(l:List Cw) (k:Nat) (a b:Bool) (h:k<l.length),((Ag AU l).set (k*8+6) (.bool a)).set (k*8+7) (.bool b)=Ag AU (l.set k {l[k] with tag:=a,gone:=b})
 | [],k,a,b,h=>by simp at h
 |v::t,0,a,b,h=>by simp[AM,AU]
 |v::t,k+1,a,b,h=>by
  have ih:=J5 t k a b (by simpa using h)
  have hl:(AU v).length=8:=rfl
  rw[AM,List.set_append_right _ _ (by omega),List.set_append_right _ _ (by omega)]
  rw[show(k+1)*8+6-(AU v).length=k*8+6 by omega,show(k+1)*8+7-(AU v).length=k*8+7 by omega,ih]
  simp[AM]
theorem P5 {s:AS} (h:D1 1500 s):Be s∧Dv s:=by
 obtain⟨h1,h2,h3,h4⟩:=h
 refine⟨⟨by omega,by omega,fun v hv=>by have:=h3 v hv;omega⟩,fun x hx=>?_⟩
 obtain⟨k1,k2,k3,k4⟩:=h4 x hx
 exact⟨⟨by omega,fun l hl=>by have:=k2 l hl;omega⟩,by omega,by omega⟩
theorem Kt {s:AS} {keep:Int} {k:Nat} {tag gone:Bool} (h:Be s) (hx:Dv s):Be (Cn s keep k tag gone)∧Dv (Cn s keep k tag gone):=by
 refine⟨⟨by rw[EQ];exact h.1,h.2.1,?_⟩,hx⟩
 intro v hv
 have hm:v.data∈(Cn s keep k tag gone).vers.map fun v=>v.data:=List.mem_map.2 ⟨v,hv,rfl⟩
 rw[EP (fun v=>v.data) fun _=>rfl] at hm
 obtain⟨u,hu,he⟩:=List.mem_map.1 hm
 rw[←he];exact h.2.2 u hu
set_option maxHeartbeats 4000000 in
theorem OT (hR:BV) (S:List AS) (L:List (List Obj)) (G:List Gr) (na nn:Nat) (h0:S.length<AT) (hS:∀s∈S,IY s) (h1:G.length<AT) (h2:∀g∈G,H1 g) (h3:na<AT) (h4:nn<AT) (h5:L.length<AT) (h6:∀l∈L,l.length<AT∧∀o∈l,o.data.data.size<AT):Aa pg 3 [.agg (J4 S L G na nn)] [] (fun r _=>r= .bool true):=by
 have spH:=RU S L G na nn h0 hS h1 h2 h3 h4 h5 h6
 have spW:=OQ hR
 simp only[J4,G5,G4,List.cons_append,List.nil_append] at spH ⊢
 refine Aa.start (fn:=Tryz.f3) [.tmp 2] tk rfl rfl rfl (by kernel_rfl) (Nat.le_of_ble_eq_true rfl) rfl (by kernel_rfl) ?_
 rw[As]
 refine z1 ?_;intro K hK;refine zk ?_;clear hK K
 refine z0 ?_;intro K hK
 refine Ab.bor spH (by simp) ?_
 rintro r ⟨b,rfl,hb⟩
 refine⟨by simp,?_⟩
 cases b
 rotate_left
 .refine zx ?_
  refine zk ?_;clear hK K
  refine zt ?_
  refine zs ?_
  exact zR
 obtain⟨hS1,hS2⟩:=hb rfl
 refine zx ?_
 refine zk ?_;clear hK K
 refine zn ?_
 refine W.skip ?_
 refine zs ?_
 (repeat refine W.seq ?_);refine W.block (W.loopS (fun i:Nat=> [(1,.ptr 0 0 0),(3,.int .i64 i)]) (fun _=> [.live 0 [.ro S.length (Ag (AC false) S),.ro L.length (C9 L),.ro G.length (Ag (AO false) G),.ro na [],.ro nn []]]) (fun i=>S.length-i) (fun i=>i≤S.length) 0 (Wk.fr (by simp[Ad])) (by simp) ?_)
 intro i hi
 by_cases c:i<S.length∧i<4
 rotate_left
 . (repeat refine W.seq ?_);refine W.midS (fun _:Unit=> [(27,.bool false)]) (fun _=> []) (fun _=>True) ?_ ?_
   .by_cases d1:i<S.length
    .have d2:¬(i:Int)<4:=by omega
     refine Af (an d1 d2) ?_;intro K hK
     refine zk ?_;clear hK K
     exact⟨(),trivial,Wk.cutM (k:=0) (by simp[Ad]) (by simp) (by simp) (by simp) (by simp) (by simp)⟩
    .refine Af d1 ?_;intro K hK
     refine zk ?_;clear hK K
     exact⟨(),trivial,Wk.cutM (k:=0) (by simp[Ad]) (by simp) (by simp) (by simp) (by simp) (by simp)⟩
   rintro _ _
   refine zn ?_
   refine W.exit ?_
   refine z0 ?_;intro K hK
   refine Ab.eq spW (by simp) (by simp) ?_
   refine zx ?_
   refine zk ?_;clear hK K
   exact zR
 obtain⟨d1,d2⟩:=c
 have d2' :(i:Int)<4:=by omega
 have k0:(Ag (AC false) S)[i*4]?=some (.int .i64 S[i].keep):=B7 (f:=AC false) (s:=4) (fun _=>rfl) d1 (i:=0) (by omega)
 have k1:(Ag (AC false) S)[i*4+1]?=some (.int .i64 S[i].blocks):=B7 (f:=AC false) (s:=4) (fun _=>rfl) d1 (i:=1) (by omega)
 have k2:(Ag (AC false) S)[i*4+1+1]?=some (.ro S[i].vers.length (Ag AU S[i].vers)):=B7 (f:=AC false) (s:=4) (fun _=>rfl) d1 (i:=2) (by omega)
 have k2' :(Ag (AC false) S)[i*4+2]?=some (.ro S[i].vers.length (Ag AU S[i].vers)):=k2
 have k3:(Ag (AC false) S)[i*4+1+1+1]?=some (.ro S[i].sess.length (Ag (AQ false) S[i].sess)):=B7 (f:=AC false) (s:=4) (fun _=>rfl) d1 (i:=3) (by omega)
 obtain⟨hsi,hsx⟩:=P5 (hS2 _ (List.getElem_mem d1))
 have hsm:=hS2 _ (List.getElem_mem d1)
 obtain⟨s,hsd⟩:∃s,s=S[i]:=⟨_,rfl⟩
 rw[←hsd] at k0 k1 k2 k2' k3 hsi hsx hsm
 have spS:=P0 s hsi hsx
 refine Af (an d1 d2') ?_;intro K hK
 refine zk ?_;clear hK K
 refine zt ?_
 refine W.skip ?_
 refine zb ?_
 by_cases hok:BT s
 rotate_left
 .rw[decide_eq_false hok] at spS
  refine Af (an d1 (an k0 (an k1 (an k2 k3)))) ?_;intro K hK
  refine Ab.eq spS (by simp) (by simp) ?_
  refine zx ?_
  refine zk ?_;clear hK K
  refine zt ?_
  refine W.exit ?_
  refine zs ?_
  exact⟨i+1,by omega,by omega,Wk.fr (by simp[Ad])⟩
 rw[decide_eq_true hok] at spS
 refine Af (an d1 (an k0 (an k1 (an k2 k3)))) ?_;intro K hK
 refine Ab.eq spS (by simp) (by simp) ?_
 refine zx ?_
 refine zk ?_;clear hK K
 refine zn ?_
 refine W.skip ?_
 refine zs ?_
 (repeat refine W.seq ?_);refine W.block (W.loopS (fun k:Nat=> [(1,.ptr 0 0 0),(3,.int .i64 i),(4,.int .i64 k)]) (fun _=> [.live 0 [.ro S.length (Ag (AC false) S),.ro L.length (C9 L),.ro G.length (Ag (AO false) G),.ro na [],.ro nn []]]) (fun k=>s.vers.length-k) (fun k=>k≤s.vers.length) 0 (Wk.fr (by simp[Ad])) (by simp) ?_)
 intro k hk
 have hvl:=hsm.1
 by_cases e1:k+1<s.vers.length
 rotate_left
 .have e1' :¬(k:Int)+1<(s.vers.length:Int):=by omega
  refine Af (an d1 (an k2' e1')) ?_;intro K hK
  refine zk ?_;clear hK K
  refine zn ?_
  refine W.exit ?_
  refine zs ?_
  exact⟨i+1,by omega,by omega,Wk.fr (by simp[Ad])⟩
 have e1' :(k:Int)+1<(s.vers.length:Int):=by omega
 have hkl:k<s.vers.length:=by omega
 refine Af (an d1 (an k2' e1')) ?_;intro K hK
 refine zk ?_;clear hK K
 refine zt ?_
 refine W.skip ?_
 refine zb ?_
 refine Af (an d1 (an k2' hkl)) ?_;intro K hK
 refine zk ?_;clear hK K
 refine zs ?_
 (repeat refine W.seq ?_);refine W.block (W.loopS (fun q:Nat=> [(1,.ptr 0 0 0),(3,.int .i64 i),(4,.int .i64 k),(5,.int .i64 s.vers[k].id),(6,.int .i64 ((q:Int)+1))]) (fun _=> [.live 0 [.ro S.length (Ag (AC false) S),.ro L.length (C9 L),.ro G.length (Ag (AO false) G),.ro na [],.ro nn []]]) (fun q=>20-q) (fun q=>q≤10) 0 (Wk.fr (by simp[Ad])) (by simp) ?_)
 intro q hq
 by_cases f1:q<8
 rotate_left
 .have f1' :¬(q:Int)+1≤8:=by omega
  refine Af f1' ?_;intro K hK
  refine zk ?_;clear hK K
  refine zn ?_
  refine W.exit ?_
  refine zs ?_
  exact⟨k+1,by omega,by omega,Wk.fr (by simp[Ad])⟩
 have f1' :(q:Int)+1≤8:=by omega
 obtain⟨kp,hkp⟩:∃kp:Int,kp=(q:Int)+1:=⟨_,rfl⟩
 have hkp8:1≤kp∧kp≤8:=by omega
 refine Af f1' ?_;intro K hK
 refine zk ?_;clear hK K
 refine zt ?_
 refine W.skip ?_
 refine zb ?_
 have spC:=MP s hsi hsx
 refine Pw (an d1 (an k0 (an k1 (an k2 k3)))) ?_;intro K hK
 refine Ab.eq spC (by simp) (by simp) ?_
 refine zx ?_
 refine zk ?_;clear hK K
 refine zs ?_
 rw[←hkp]
 obtain⟨s1,hs1⟩:∃s1,s1=Cn s kp k true false:=⟨_,rfl⟩
 have ok1:BT s1:=by rw[hs1];exact Ks hok e1 hkp8 (by simp)
 obtain⟨in1,sx1⟩:Be s1∧Dv s1:=by rw[hs1];exact Kt hsi hsx
 have len1:s1.vers.length=s.vers.length:=by rw[hs1];exact EQ ..
 have ses1:s1.sess=s.sess:=by rw[hs1];rfl
 have blk1:s1.blocks=s.blocks:=by rw[hs1];rfl
 have kep1:s1.keep=kp:=by rw[hs1];rfl
 have vrs1:s1.vers=s.vers.set k {s.vers[k] with tag:=true,gone:=false}:=by rw[hs1];exact CD hkl
 have set1:((Ag AU s.vers).set (k*8+6) (.bool true)).set (k*8+7) (.bool false)=Ag AU s1.vers:=by rw[J5 _ _ _ _ hkl,vrs1]
 have spK1:=OL hR s1 in1 sx1
 have spE1:=Rh hR s1 in1 sx1
 rw[if_pos ok1,if_pos ok1] at spK1 spE1
 have memK1:s.vers[k].id∈Ct s1 true:=by rw[hs1];exact P3 hkl
 have memE1:s.vers[k].id∈BU s1.vers:=by rw[hs1];exact TY hkl
 have lnK1:(Ct s1 true).length≤s1.vers.length:=Fk ..
 have lnE1:(BU s1.vers).length≤s1.vers.length:=Gu ..
 obtain⟨id,Bu⟩:∃id,id=s.vers[k].id:=⟨_,rfl⟩
 rw[←Bu] at memK1 memE1 ⊢
 obtain⟨x1,hx1⟩:∃x1,x1=Ct s1 true:=⟨_,rfl⟩
 obtain⟨y1,hy1⟩:∃y1,y1=BU s1.vers:=⟨_,rfl⟩
 rw[←hx1] at spK1 memK1 lnK1
 rw[←hy1] at spE1 memE1 lnE1
 obtain⟨s2,hs2⟩:∃s2,s2=Cn s kp k false true:=⟨_,rfl⟩
 have ok2:BT s2:=by rw[hs2];exact Ks hok e1 hkp8 (by simp)
 obtain⟨in2,sx2⟩:Be s2∧Dv s2:=by rw[hs2];exact Kt hsi hsx
 have len2:s2.vers.length=s.vers.length:=by rw[hs2];exact EQ ..
 have ses2:s2.sess=s.sess:=by rw[hs2];rfl
 have blk2:s2.blocks=s.blocks:=by rw[hs2];rfl
 have kep2:s2.keep=kp:=by rw[hs2];rfl
 have vrs2:s2.vers=s.vers.set k {s.vers[k] with tag:=false,gone:=true}:=by rw[hs2];exact CD hkl
 have set2:((Ag AU s1.vers).set (k*8+6) (.bool false)).set (k*8+7) (.bool true)=Ag AU s2.vers:=by
  rw[J5 _ _ _ _ (by rw[len1];exact hkl),vrs2]
  congr 1
  simp only[vrs1,List.getElem_set_self,List.set_set]
 have spK2:=OL hR s2 in2 sx2
 have spE2:=Rh hR s2 in2 sx2
 rw[if_pos ok2,if_pos ok2] at spK2 spE2
 have memK2:id∈Ct s2 true↔pinned s id=true:=by rw[hs2,Bu];exact P4 hok hkl
 have memE2:¬id∈BU s2.vers:=by rw[hs2,Bu];exact OS hok hkl
 have lnK2:(Ct s2 true).length≤s2.vers.length:=Fk ..
 have lnE2:(BU s2.vers).length≤s2.vers.length:=Gu ..
 obtain⟨x2,hx2⟩:∃x2,x2=Ct s2 true:=⟨_,rfl⟩
 obtain⟨y2,hy2⟩:∃y2,y2=BU s2.vers:=⟨_,rfl⟩
 rw[←hx2] at spK2 memK2 lnK2
 rw[←hy2] at spE2 memE2 lnE2
 have b1:k*8+6<(Ag AU s.vers).length:=by simp;omega
 have b2:k*8+7<(Ag AU s.vers).length:=by simp;omega
 (repeat refine W.seq ?_);refine W.regdX 0 [(74,78)] rfl true Cc (by kernel_rfl) fun K hK=>?_;simp -implicitDefEqProofs (maxSteps:=999999) (disch:=omega) [hkl]
 (repeat refine⟨by first|assumption|omega,?_⟩);refine hK _ _ (by simp(disch:=omega)) ?_;clear hK K
 rw[set1]
 refine z0 ?_;intro K hK
 have tk1:List.take s.vers.length s1.vers=s1.vers:=List.take_of_length_le (by omega)
 have tk2:List.take s.vers.length s2.vers=s2.vers:=List.take_of_length_le (by omega)
 have tx1:∀n,n=x1.length→List.take n x1=x1:=fun n h=>List.take_of_length_le (by omega)
 refine Ab.eq spK1 (by simp[len1,ses1,blk1,kep1,tk1]) (by simp) ?_
 refine zx ?_
 refine zk ?_;clear hK K
 refine z0 ?_;intro K hK
 refine Ab.eq spE1 (by simp[len1,ses1,blk1,kep1,tk1]) (by simp) ?_
 refine zx ?_
 refine zk ?_;clear hK K
 refine z0 ?_;intro K hK
 refine Ab.eq (FI 0) (by simp) (by simp) ?_
 refine zx ?_
 refine Ab.eq (FI 0) (by simp) (by simp) ?_
 refine zx ?_
 have bx1:x1.length<4611686018427387904:=by omega
 have by1:y1.length<4611686018427387904:=by omega
 have ix1:0≤BX (fun y=>decide (y=id)) x1:=(D0 x1 id).2 (by simpa using memK1)
 have iy1:0≤BX (fun y=>decide (y=id)) y1:=(D0 y1 id).2 (by simpa using memE1)
 refine Ab.eq (Ja x1 id bx1) (by simp) (by simp) ?_
 refine AJ ix1 ?_
 refine Ab.eq (Ja y1 id by1) (by simp) (by simp) ?_
 refine AJ iy1 ?_
 refine zk ?_;clear hK K
 refine zn ?_
 refine W.skip ?_
 have b3:k*8+6<(Ag AU s1.vers).length:=by simp;omega
 have b4:k*8+7<(Ag AU s1.vers).length:=by simp;omega
 have hkl1:k<s1.vers.length:=by omega
 (repeat refine W.seq ?_);refine W.regdX 0 [(114,118)] rfl true Cc (by kernel_rfl) fun K hK=>?_;simp -implicitDefEqProofs (maxSteps:=999999) (disch:=omega) [hkl,hkl1,len1]
 (repeat refine⟨by first|assumption|omega,?_⟩);refine hK _ _ (by simp(disch:=omega)) ?_;clear hK K
 rw[set2]
 refine z0 ?_;intro K hK
 refine Ab.eq spK2 (by simp[len2,ses2,blk2,kep2,tk2]) (by simp) ?_
 refine zx ?_
 refine zk ?_;clear hK K
 refine z0 ?_;intro K hK
 refine Ab.eq spE2 (by simp[len2,ses2,blk2,kep2,tk2]) (by simp) ?_
 refine zx ?_
 refine zk ?_;clear hK K
 refine zs ?_
 refine zs ?_
 (repeat refine W.seq ?_);refine W.block (W.loopS (fun x:Nat=> [(1,.ptr 0 0 0),(3,.int .i64 i),(4,.int .i64 k),(5,.int .i64 id),(6,.int .i64 kp),(7,.ptr 1 0 0),(10,.tok 7 0 1 0 y2.length),(12,.tok 6 0 1 0 x2.length),(13,.int .i64 0),(14,.int .i64 0),(15,.bool ((s.sess.take x).any fun y=>decide (y.pin=id))),(16,.int .i64 x)]) (fun _=> [.live 0 [.ro S.length (Ag (AC false) S),.ro L.length (C9 L),.ro G.length (Ag (AO false) G),.ro na [],.ro nn []],.live 0 [.int .i64 kp,.int .i64 s.blocks,.tok 2 0 8 0 s.vers.length,.tok 3 0 12 0 s.sess.length],.live 0 (Ag AU s2.vers),.live 0 (Ag (AQ true) s.sess),.live 0 (Ac x1),.live 0 (Ac y1),.live 0 (Ac x2),.live 0 (Ac y2)]) (fun x=>s.sess.length-x) (fun x=>x≤s.sess.length) 0 (Wk.fr (by simp[Ad])) (by simp) ?_)
 have hsl:=hsi.2.1
 intro x hx
 by_cases g1:x<s.sess.length
 rotate_left
 .have g1' :List.take x s.sess=s.sess:=List.take_of_length_le (by omega)
  rw[g1']
  have hp:(s.sess.any fun y=>decide (y.pin=id))=pinned s id:=rfl
  rw[hp]
  refine Af g1 ?_;intro K hK
  refine zk ?_;clear hK K
  refine zn ?_
  refine W.exit ?_
  have bx2:x2.length<4611686018427387904:=by omega
  have by2:y2.length<4611686018427387904:=by omega
  have iy2:¬0≤BX (fun y=>decide (y=id)) y2:=fun h=>memE2 (by simpa using (D0 y2 id).1 h)
  refine z0 ?_;intro K hK
  refine Ab.eq (FI 0) (by simp) (by simp) ?_
  refine zx ?_
  refine Ab.eq (FI 0) (by simp) (by simp) ?_
  refine zx ?_
  refine Ab.eq (Ja y2 id by2) (by simp) (by simp) ?_
  refine AJ iy2 ?_
  refine Ab.eq (Ja x2 id bx2) (by simp) (by simp) ?_
  cases hpn:pinned s id
  .have ix2:¬0≤BX (fun y=>decide (y=id)) x2:=fun h=>by
    have:=memK2.1 (by simpa using (D0 x2 id).1 h)
    rw[hpn] at this;exact absurd this (by simp)
   refine AJ ix2 ?_
   refine zk ?_;clear hK K
   refine zn ?_
   refine W.skip ?_
   refine zs ?_
   exact⟨q+3,by omega,by omega,Wk.cutM (k:=1) (by simp[Ad,hkp];omega) (by simp) (by simp) (by simp) (by simp) (by simp)⟩
  .have ix2:0≤BX (fun y=>decide (y=id)) x2:=(D0 x2 id).2 (by simpa using memK2.2 hpn)
   refine AJ ix2 ?_
   refine zk ?_;clear hK K
   refine zn ?_
   refine W.skip ?_
   refine zs ?_
   exact⟨q+3,by omega,by omega,Wk.cutM (k:=1) (by simp[Ad,hkp];omega) (by simp) (by simp) (by simp) (by simp) (by simp)⟩
 refine Af g1 ?_;intro K hK
 refine zk ?_;clear hK K
 refine zt ?_
 refine W.skip ?_
 have l1:(Ag (AQ true) s.sess)[x*12+1]?=some (.int .i64 s.sess[x].pin):=B7 (f:=AQ true) (s:=12) (fun _=>rfl) g1 (i:=1) (by omega)
 have hany:(List.take (x+1) s.sess).any (fun y=>decide (y.pin=id))=((List.take x s.sess).any (fun y=>decide (y.pin=id)) ||decide (s.sess[x].pin=id)):=by
  rw[List.take_succ_eq_append_getElem g1,List.any_append];simp
 obtain⟨b,hb'⟩:∃b,b=(List.take x s.sess).any fun y=>decide (y.pin=id):=⟨_,rfl⟩
 rw[←hb'] at hany ⊢
 refine zb ?_
 cases b
 .refine Af (an g1 l1) ?_;intro K hK
  refine zk ?_;clear hK K
  refine zs ?_
  exact⟨x+1,by omega,by omega,Wk.fr (by simp[Ad,hany])⟩
 .refine Af (an g1 l1) ?_;intro K hK
  refine zk ?_;clear hK K
  refine zs ?_
  exact⟨x+1,by omega,by omega,Wk.fr (by simp[Ad,hany])⟩
end Go.Abs
namespace Go.Abs
open Go.Proofs
theorem c3:pg.cellsOf 3=1:=by kernel_rfl
theorem c4:pg.cellsOf 4=1:=by kernel_rfl
theorem c9:pg.cellsOf 9=1:=by kernel_rfl
theorem YR:pg.cellsOf 22=1:=by kernel_rfl
theorem YS:pg.cellsOf 23=1:=by kernel_rfl
theorem YT:pg.cellsOf 24=1:=by kernel_rfl
theorem YU:pg.cellsOf 25=1:=by kernel_rfl
theorem YV:pg.cellsOf 27=2:=by kernel_rfl
theorem TZ:pg.cellsOf 28=1:=by kernel_rfl
theorem YW:pg.cellsOf 30=4:=by kernel_rfl
theorem YX:pg.cellsOf 35=1:=by kernel_rfl
theorem YY:pg.cellsOf 36=1:=by kernel_rfl
theorem VC:pg.cellsOf 40=2:=by kernel_rfl
theorem YZ:pg.cellsOf 49=1:=by kernel_rfl
theorem Y0:pg.cellsOf 51=2:=by kernel_rfl
theorem Y1:pg.cellsOf 53=6:=by kernel_rfl
section
variable {H:Type} {enc:TypeId×Value→H} {w:World}
theorem Fy:AP enc pg w 3 (fun n:Int=> [.int .i64 n]) fun _=>True:=AP.int Tryz.underlying3
theorem OU:AP enc pg w 4 (fun b:Bool=> [.bool b]) fun _=>True:=AP.bool Tryz.underlying4
theorem Y2:AP enc pg w 9 (fun s:ByteArray=> [.str s]) fun s=>s.size≤reachBytes:=AP.str Tryz.underlying9
theorem T0:AP enc pg w 40 Cb fun b=>b.data.size≤reachBytes:=
 AP.map (AP.struct Tryz.underlying40 (.cons Y2 c9 rfl (.cons Fy c3 rfl .nil)) (by kernel_rfl)) (fun x=>⟨x.1,x.2.1⟩) (fun _=>rfl) fun _ h=>h.1
theorem Wn:AP enc pg w 42 AU fun v=>v.data.data.size≤reachBytes:=
 AP.map (AP.struct Tryz.underlying42 (.cons Fy c3 rfl (.cons Fy c3 rfl (.cons Fy c3 rfl (.cons T0 VC rfl (.cons Fy c3 rfl (.cons OU c4 rfl (.cons OU c4 rfl .nil))))))) (by kernel_rfl)) (fun x=>⟨x.1,x.2.1,x.2.2.1,x.2.2.2.1,x.2.2.2.2.1,x.2.2.2.2.2.1,x.2.2.2.2.2.2.1⟩) (fun _=>rfl) fun _ h=>h.2.2.2.1
theorem OV (xs:List Int):Ag (fun n:Int=> [AV.int .i64 n]) xs=Ac xs:=by
 induction xs with
 |nil=>rfl
 |cons x xs ih=>simp only[AM,ih];rfl
theorem P6:AP enc pg w 28 (fun l:List Int=> [Fd false l]) fun l=>l.length≤reachBytes:=
 AP.map (AP.slice Fy Tryz.underlying28 (Nat.le_of_ble_eq_true (by kernel_rfl))) id (fun l=>by rw[OV];rfl) fun _ h=>h.1
theorem NJ (xs:List (List Int)):Ag (fun l:List Int=> [Fd false l]) xs=Ax false xs:=by
 induction xs with
 |nil=>rfl
 |cons x xs ih=>simp only[AM,ih];rfl
theorem Wo:AP enc pg w 49 (fun l:List (List Int)=> [DQ false l]) fun l=>l.length≤reachBytes∧∀x∈l,x.length≤reachBytes:=
 AP.map (AP.slice P6 Tryz.underlying49 (Nat.le_of_ble_eq_true (by kernel_rfl))) id (fun l=>by rw[NJ];rfl) fun _ h=>h
theorem T1:AP enc pg w 51 (AO false) fun g=>g.out.length≤reachBytes∧∀x∈g.out,x.length≤reachBytes:=
 AP.map (AP.struct Tryz.underlying51 (.cons Fy c3 rfl (.cons Wo YZ rfl .nil)) (by kernel_rfl)) (fun x=>⟨x.1,x.2.1⟩) (fun _=>rfl) fun _ h=>h.2.1
theorem Wp:AP enc pg w 53 (BA false) fun j=>j.list.length≤reachBytes∧j.out.length≤reachBytes:=
 AP.map (AP.struct Tryz.underlying53 (.cons Fy c3 rfl (.cons Fy c3 rfl (.cons Fy c3 rfl (.cons OU c4 rfl (.cons P6 TZ rfl (.cons P6 TZ rfl .nil)))))) (by kernel_rfl)) (fun x=>⟨x.1,x.2.1,x.2.2.1,x.2.2.2.1,x.2.2.2.2.1,x.2.2.2.2.2.1⟩) (fun _=>rfl) fun _ h=>⟨h.2.2.2.2.1,h.2.2.2.2.2.1⟩
theorem Wq:AP enc pg w 55 (AQ false) fun s=>(s.stage.out.length≤reachBytes∧∀x∈s.stage.out,x.length≤reachBytes)∧s.job.list.length≤reachBytes∧s.job.out.length≤reachBytes:=
 AP.map (AP.struct Tryz.underlying55 (.cons OU c4 rfl (.cons Fy c3 rfl (.cons OU c4 rfl (.cons Fy c3 rfl (.cons T1 Y0 rfl (.cons Wp Y1 rfl .nil)))))) (by kernel_rfl)) (fun x=>⟨x.1,x.2.1,x.2.2.1,x.2.2.2.1,x.2.2.2.2.1,x.2.2.2.2.2.1⟩) (fun _=>rfl) fun _ h=>⟨h.2.2.2.2.1,h.2.2.2.2.2.1⟩
theorem Wr:AP enc pg w 35 (fun l:List Cw=> [FE false l]) fun l=>l.length≤reachBytes∧∀v∈l,v.data.data.size≤reachBytes:=
 AP.map (AP.slice Wn Tryz.underlying35 (Nat.le_of_ble_eq_true (by kernel_rfl))) id (fun _=>rfl) fun _ h=>h
theorem Ws:AP enc pg w 36 (fun l:List C8=> [Of false l]) fun l=>l.length≤reachBytes∧∀s∈l,(s.stage.out.length≤reachBytes∧∀x∈s.stage.out,x.length≤reachBytes)∧s.job.list.length≤reachBytes∧s.job.out.length≤reachBytes:=
 AP.map (AP.slice Wq Tryz.underlying36 (Nat.le_of_ble_eq_true (by kernel_rfl))) id (fun _=>rfl) fun _ h=>h
theorem BL {n:Nat} (h:n≤reachBytes):n<AT:=by
 have:=reachBytes_lt;simp only[AT];omega
theorem Wt:AP enc pg w 38 (AC false) IY:=
 AP.map (AP.struct Tryz.underlying38 (.cons Fy c3 rfl (.cons Fy c3 rfl (.cons Wr YX rfl (.cons Ws YY rfl .nil)))) (by kernel_rfl)) (fun x=>⟨x.1,x.2.1,x.2.2.1,x.2.2.2.1⟩) (fun _=>rfl) fun _ h=>
  ⟨BL h.2.2.1.1,BL h.2.2.2.1.1,fun v hv=>BL (h.2.2.1.2 v hv),fun x hx=>⟨⟨BL (h.2.2.2.1.2 x hx).1.1,fun l hl=>BL ((h.2.2.2.1.2 x hx).1.2 l hl)⟩,BL (h.2.2.2.1.2 x hx).2.1,BL (h.2.2.2.1.2 x hx).2.2⟩⟩
theorem Wu:AP enc pg w 22 (fun l:List AS=> [.ro l.length (Ag (AC false) l)]) fun l=>l.length<AT∧∀s∈l,IY s:=
 AP.map (AP.slice Wt Tryz.underlying22 (Nat.le_of_ble_eq_true (by kernel_rfl))) id (fun _=>rfl) fun _ h=>⟨BL h.1,h.2⟩
theorem Wv:AP enc pg w 60 Au fun o=>o.data.data.size<AT:=
 AP.map (AP.struct Tryz.underlying60 (.cons Fy c3 rfl (.cons Fy c3 rfl (.cons T0 VC rfl .nil))) (by kernel_rfl)) (fun x=>⟨x.1,x.2.1,x.2.2.1⟩) (fun _=>rfl) fun _ h=>BL h.2.2.1
theorem Ww:AP enc pg w 65 (fun l:List Obj=> [AV.ro l.length (Ag Au l)]) fun l=>l.length<AT∧∀o∈l,o.data.data.size<AT:=
 AP.map (AP.slice Wv Tryz.underlying65 (Nat.le_of_ble_eq_true (by kernel_rfl))) id (fun _=>rfl) fun _ h=>⟨BL h.1,h.2⟩
theorem NK (xs:List (List Obj)):Ag (fun l:List Obj=> [AV.ro l.length (Ag Au l)]) xs=C9 xs:=by
 induction xs with
 |nil=>rfl
 |cons x xs ih=>simp only[AM,ih];rfl
theorem Wx:AP enc pg w 23 (fun l:List (List Obj)=> [AV.ro l.length (C9 l)]) fun l=>l.length<AT∧∀x∈l,x.length<AT∧∀o∈x,o.data.data.size<AT:=
 AP.map (AP.slice Ww Tryz.underlying23 (Nat.le_of_ble_eq_true (by kernel_rfl))) id (fun l=>by rw[NK];rfl) fun _ h=>⟨BL h.1,h.2⟩
theorem Wy:AP enc pg w 24 (fun l:List Gr=> [AV.ro l.length (Ag (AO false) l)]) fun l=>l.length<AT∧∀g∈l,H1 g:=
 AP.map (AP.slice T1 Tryz.underlying24 (Nat.le_of_ble_eq_true (by kernel_rfl))) id (fun _=>rfl) fun _ h=>⟨BL h.1,fun g hg=>⟨BL (h.2 g hg).1,fun l hl=>BL ((h.2 g hg).2 l hl)⟩⟩
theorem Wz:AP enc pg w 25 (fun n:Nat=> [AV.ro n []]) fun n=>n<AT:=
 AP.map (AP.len Tryz.underlying25 (Nat.le_of_ble_eq_true (by kernel_rfl))) id (fun _=>rfl) fun _ h=>BL h
theorem UV:AP enc pg w 28 (fun n:Nat=> [AV.ro n []]) fun n=>n<AT:=
 AP.map (AP.len Tryz.underlying28 (Nat.le_of_ble_eq_true (by kernel_rfl))) id (fun _=>rfl) fun _ h=>BL h
theorem WA:AP enc pg w 27 (fun x:List Gr×Nat=>G4 x.1 x.2) fun x=>(x.1.length<AT∧∀g∈x.1,H1 g)∧x.2<AT:=
 AP.map (AP.struct Tryz.underlying27 (.cons Wy YT rfl (.cons Wz YU rfl .nil)) (by kernel_rfl)) (fun x=>⟨x.1,x.2.1⟩) (fun _=>rfl) fun _ h=>⟨h.1,h.2.1⟩
theorem WB:AP enc pg w 30 (fun x:List (List Obj)×(List Gr×Nat)×Nat=>G5 x.1 x.2.1.1 x.2.1.2 x.2.2) fun x=>(x.1.length<AT∧∀l∈x.1,l.length<AT∧∀o∈l,o.data.data.size<AT)∧((x.2.1.1.length<AT∧∀g∈x.2.1.1,H1 g)∧x.2.1.2<AT)∧x.2.2<AT:=
 AP.map (AP.struct Tryz.underlying30 (.cons Wx YS rfl (.cons WA YV rfl (.cons UV TZ rfl .nil))) (by kernel_rfl)) (fun x=>⟨x.1,x.2.1,x.2.2.1⟩) (fun _=>rfl) fun _ h=>⟨h.1,h.2.1,h.2.2.1⟩
theorem WC:AP enc pg w 32 (fun x:List AS×List (List Obj)×(List Gr×Nat)×Nat=>J4 x.1 x.2.1 x.2.2.1.1 x.2.2.1.2 x.2.2.2) fun x=>(x.1.length<AT∧∀s∈x.1,IY s)∧(x.2.1.length<AT∧∀l∈x.2.1,l.length<AT∧∀o∈l,o.data.data.size<AT)∧((x.2.2.1.1.length<AT∧∀g∈x.2.2.1.1,H1 g)∧x.2.2.1.2<AT)∧x.2.2.2<AT:=
 AP.map (AP.struct Tryz.underlying32 (.cons Wu YR rfl (.cons WB YW rfl .nil)) (by kernel_rfl)) (fun x=>⟨x.1,x.2.1⟩) (fun _=>rfl) fun _ h=>⟨h.1,h.2.1⟩
end
end Go.Abs
set_option maxRecDepth 100000
namespace Go.Abs
open Go.Proofs Go.ChangeShapes Go.WideShapes Go.ChangeAt Go.RowKit
theorem own0:ownKnob pg.godebug=none:=by kernel_rfl
theorem UW:laidOutB pg=true:=by kernel_rfl
theorem T2:mapsRowed pg=true:=by kernel_rfl
theorem UX:Kids pg (·<pg.types.size):=kids_rows UW T2
theorem UY:∀t e,t<pg.types.size→pg.underlying t=some (.slice e)→0<pg.cellsOf e:=slices_full_of pg (by kernel_rfl)
theorem UZ (w:World):Bw w (Ps w) σ0 (fun _=>none) []:=⟨fun T B h=>by simp at h,fun _ _ _=>rfl⟩
theorem Em.kept {w w' :World} {own' :Nat→Option Nat} (h:Em w w' (fun _=>none) own'):w.keptBut w' (fun _=>False):=by
 have hb:∀i,i<w.heap.size→w'.heap[i]?=w.heap[i]?:=fun i hi=>h.block i hi rfl
 refine⟨h.os,h.output,fun i hi=>?_⟩
 rw[hb i hi]
 cases hw:w.heap[i]? with
 |none=>trivial
 |some o=>cases o<;>simp
section
variable {H:Type} {enc:TypeId×Value→H}
theorem HE {P:Program} {w w' :World} {base:Nat} {spare:Nat→Bool} {held:Bool}:∀{ts:List TypeId} {vs:List Value} {ds:List (DataW H)} {ps:List MemPlace},DataW.TrodAll enc P w base spare held ts vs ds ps→(∀p∈ps,w.sameAt w' p)→DataW.TrodAll enc P w' base spare held ts vs ds ps
 | [],[],[],_,h,_=>h
 |_::_,_::_,_::_,_,⟨p,q,⟨n,h1⟩,h2,e⟩,hs=>⟨p,q,⟨n,DataW.trod_carry n _ _ _ h1 fun x hx=>hs x (by rw[e];exact List.mem_append_left _ hx)⟩,HE h2 (fun x hx=>hs x (by rw[e];exact List.mem_append_right _ hx)),e⟩
theorem OW {f:Func} {s:ChangeSpec} {fresh handsOn again:Bool} {W W' :World} {args:Array Value} {v:Value} {ds gs:List (DataW H)} {before:List MemPlace} {own' :Nat→Option Nat}
 (hW:DataW.Whole enc pg f.params.toList s.vars false W args.toList ds gs before) (hT:∀t∈f.params.toList,t<pg.types.size) (hv:s.vars=[]) (hE:Em W W' (fun _=>none) own') (hs:s.fn H (ds++gs)={results:=[.lit (.bool true)],args:=ds})
 (hr:f.resultTypes= #[4]) (he:v= .bool true):s.post enc pg f false fresh handsOn again W args v W' :=by
 have hold:∀p∈before,(fun b=>decide (b<W.heap.size)) p.block=true:=fun p hp=>by simpa using hW.lt p hp
 have hlt:=fun p hp=>hW.lt p hp
 have hW0:=hW
 obtain⟨p,q,hA,hV,rfl,hz,hn⟩:=hW
 rw[hv] at hV
 obtain⟨rfl,rfl⟩:=trodVars_none hV
 simp only[List.append_nil] at*
 have hargs:∀sp:Nat→Bool,(∀x∈p,sp x.block=true)→DataW.TrodAll enc pg W' 0 sp true f.params.toList args.toList ds p:=fun sp hsp=>by
  refine DataW.TrodAll.respare UX UY hT ?_ hsp
  refine HE hA fun x hx=>?_
  have hb:=hE.block _ (hlt x hx) rfl
  cases x with
  |cell b off=>exact World.cell?_of_block hb
  |map b=>exact hb
 have hres:∀(b:Nat) (sp:Nat→Bool) (hd:Bool),DataW.TrodAll enc pg W' b sp hd f.resultTypes.toList (v.resultList f.resultTypes.size) [.lit (.bool true)] []:=fun b sp hd=>by
  subst he;rw[hr]
  exact trodAll_mk1 (shut_bool Tryz.underlying4 true)
 have hvars:∀sp:Nat→Bool,DataW.TrodVars enc pg W' sp s.vars [] []:=fun sp=>by rw[hv];rfl
 refine⟨ds,[],p,[],p,[],by simpa using hW0,?_,?_,?_,World.keptBut_mono (fun x hx=>hx.elim) hE.kept,fun _=>?_⟩
 .simp only[List.append_nil,hs];exact hres _ _ _
 .simp only[List.append_nil,hs];exact hargs _ hold
 .simp only[List.append_nil,hs];exact hvars _
 .refine⟨ok_one (P:=pg) (f:=f) (t:=4) hr (by subst he;rfl) (by subst he;exact okWide_bool_mk Tryz.underlying4 true),?_⟩
  refine⟨[.lit (.bool true)]++ds,[],[]++p,⟨[]++p,[],?_,hvars _,by simp,fun b off hp=>?_,fun h=>by cases h⟩,fun x hx _=>by simpa using hx⟩
  .exact trodAll_append (hargs (fun _=>true) (fun _ _=>rfl)) (hres 0 (fun _=>true) true)
  .have hp' :MemPlace.cell b off∈p:=by simpa using hp
   have:=hz b off hp'
   rw[World.frozen?_of_block (w:=W) (hE.block _ (hlt _ hp') rfl)]
   exact this
theorem LB {f:Nat} {fn:Func} {s:ChangeSpec} {fresh handsOn again:Bool} (hp:fn.params= #[32]) (hr:fn.resultTypes= #[4]) (hv:s.vars=[]) (hs:∀(H:Type) (d:DataW H),s.fn H [d]={results:=[.lit (.bool true)],args:=[d]})
 (hc:∀(S:List AS) (L:List (List Obj)) (G:List Gr) (na nn:Nat),S.length<AT→(∀s∈S,IY s)→G.length<AT→(∀g∈G,H1 g)→na<AT→nn<AT→L.length<AT→(∀l∈L,l.length<AT∧∀o∈l,o.data.data.size<AT)→Aa pg f [.agg (J4 S L G na nn)] [] fun r _=>r= .bool true)
 (W:World) (base:Nat) (args:Array Value) (ds gs:List (DataW H)) (before:List MemPlace) (hval:∀(j:Nat) t v,fn.params[j]?=some t→args[j]?=some v→Value.okWide pg W .any base t v)
 (hW:DataW.Whole enc pg fn.params.toList s.vars false W args.toList ds gs before) (hsz:(DataW.weightsEach pg (fn.params.toList++s.plain.varTypes pg) (ds++gs)).all (·≤reachBytes)=true):
 Calls pg f args W fun e W' =>∃v,e= .returned v∧s.post enc pg fn false fresh handsOn again W args v W' :=by
 have hW0:=hW
 obtain⟨p,q,hA,hV,rfl,hz,hn⟩:=hW
 rw[hv] at hV
 obtain⟨rfl,rfl⟩:=trodVars_none hV
 rw[hp] at hA hval hsz
 obtain⟨v0,d0,ha,rfl,fuel,h0⟩:=trodAll_one hA
 obtain rfl:args= #[v0]:=by cases args;simp_all
 have hok:=hval 0 32 v0 rfl rfl
 unfold Value.okWide at hok
 rw[Tryz.underlying32] at hok
 obtain⟨cs,rfl,_,_⟩:=hok
 obtain⟨⟨S,L,⟨G,na⟩,nn⟩,hvr,⟨g1,g2⟩,⟨g3,g4⟩,⟨⟨g5,g6⟩,g7⟩,g8⟩:=WC fuel cs.toList _ h0 (fun n hn' =>by
  have:=List.all_eq_true.1 hsz n (DataW.weights_mem_each (j:=0) (t:=32) (d:=d0) rfl rfl n hn')
  simpa using this)
 refine((hc S L G na nn g1 g2 g5 g6 g7 g8 g3 g4).2 W (Ps W) σ0 (fun _=>none) #[.agg cs] (KH ⟨cs,rfl,hvr⟩) (UZ W) (fun g hg=>⟨rfl,hg⟩)).mono ?_
 rintro e W' ⟨r,v,M',σ',own',fpr,rfl,rfl,_,hvv,_,_,_,hE,_⟩
 have hvt:v= .bool true:=hvv.1
 exact⟨v,rfl,OW hW0 (by rw[hp];intro t ht;simp at ht;subst ht;exact of_decide_eq_true (by kernel_rfl)) hv hE (by simpa using hs H d0) hr hvt⟩
end
end Go.Abs
set_option maxRecDepth 100000
namespace Go.Abs
open Go.Proofs
theorem RV {C:A2} {T:Nat→Option TI} (tk:Bt C.P T) {t e es eb:Nat} {ez:List AV} (htd:Al T t= .slice e es eb ez) {a:Option Addr} {n c l h:Nat} {lo hi:Option (IntKind×Int)} (hnc:n≤c) (h1:ED (hi.map fun x=> .int x.1 x.2) n n=some h) (h2:ED (lo.map fun x=> .int x.1 x.2) 0 h=some l) (w:World):
 (Instr.sliceAt t (.slice a n c) (lo.map fun x=> .int x.1 x.2) (hi.map fun x=> .int x.1 x.2) none).run C.P w= .ok (.slice (if c=l then a else a.map (·.add (l*es))) (h-l) (c-l)) w:=by
 obtain⟨hD,E,z,hE,hs,_⟩:=Cm tk htd
 have hh:∀(x:Option (IntKind×Int)) (y:AV),(x.map fun x=>AV.int x.1 x.2)=some y→∃u,(x.map fun x=>Value.int x.1 x.2)=some u∧VR w C.sh (fun _ _=>none) y u (fun _=>0):=by
  intro x y hy
  cases x with
  |none=>simp at hy
  |some x=>simp at hy;subst hy;exact⟨_,rfl,rfl,fun _=>rfl⟩
 have hb:=(EE (P:=C.P) (w:=w) (σ:=fun _ _=>none) (C:=C) true (hh lo) (by cases lo<;>simp) (hh hi) (by cases hi<;>simp) hnc h1 h2).1
 simp only[Instr.sliceAt,Sem.run_bind,run_underlying hD,Result.andThen_ok,Instr.slice,hb,BJ hE,hs,Sem.run_pure]
theorem OX {C:A2} {T:Nat→Option TI} (tk:Bt C.P T) {F:Fr} {M:List Ae} {a:Act} {w:World} {σ:Nat→Nat→Option St} {own:Nat→Option Nat} (R:AE C F M a w σ own) {t e eb:Nat} {ez:List AV} (htd:Al T t= .slice e 1 eb ez) {B v off n tx ty d ty' :Nat} {pos:String} {af:Array Edge} {cs ys:List AV} (hb:Ai M B v=some cs) (hx:F tx= .tok B v 1 off n) (hxn:tx<C.n) (hyn:ty<C.n)
 {m:Nat} (hyc:CB M (F ty)=some (m,ys)) (hyl:ys.length=m*1) (hyo:ys.all Dd=true) (hle:off+n≤cs.length) (hn:0<n) (hm:0<m) {next:Act→World→Prop} {Q:Exit→Act→World→Prop}
 (hK:∀a' w',AE C (A4 F d (.int .i64 (min m n:Nat))) (M.set B (.live v (Da cs off (ys.take (min m n))))) a' w' σ own→(∀t,t≠d→a'.tmps.getD t undef=a.tmps.getD t undef)→next a' w'):
 Oper.wpIn (FX C) 0 C.P {dst:=some d,op:= .call {callee:= .builtin .copy,args:= #[.tmp tx,.tmp ty],argTypes:= #[t,t]},type:=ty',pos:=pos,after:=af,guard:=none} a w next Q:=by
 have e1:=R.tmp tx hxn;rw[hx] at e1
 obtain⟨w',hrun,R'⟩:=R.copy (ty:=ty') tk htd hb e1 (R.tmp ty hyn) hyc hyl hyo hle hn hm
 refine Oper.wp_value (fun _ h=>by cases h) (v:= .int .i64 (min m n:Nat)) (w' :=w') ?_ (hK _ _ (R'.put (some d) (av:= .int .i64 (min m n:Nat)) ⟨rfl,fun _=>rfl⟩) fun t ht=>Ba ht)
 have e2:∀t,a.eval (.tmp t)=a.tmps.getD t undef:=fun _=>rfl
 simp only[execOp,resolve,invoke,builtin,e2,List.map_toArray,List.map_cons,List.map_nil,Sem.run_bind,hrun,Result.andThen_ok,Sem.run_pure]
theorem OY {C:A2} (hrd:C.rd=none) {K:Act→World→Prop} {ops:Array Oper} {i d fuel:Nat} {listed:Array Bool} {F:Fr} {M:List Ae} {a:Act} {w:World} {σ:Nat→Nat→Option St} {own:Nat→Option Nat} {o:Oper} {v:Value} {av:AV} (R:AE C F M a w σ own) (ho:ops[i]?=some o) (hd:o.dst=some d) (hg:o.guard=none) (hs:Region.noSelect ops=true) (hf:Region.free .any ops listed i=true) (hr:(Region.ready .any ops listed).contains i=true)
 (hv:VR w C.sh σ av v (fun _=>0)) (hrun:∀w,(execOp a.eval o).run C.P w= .ok (.value v) w) (hab:∀w,o.about C.P w a.eval=none) (next:∀a',AE C (A4 F d av) M a' w σ own→wpAnyIn (FX C) 0 C.P .any ops (fun e a w=>e= .normal∧K a w) fuel (listed.setIfInBounds i true) a' w):wpAnyIn (FX C) 0 C.P .any ops (fun e a w=>e= .normal∧K a w) (fuel+1) listed a w:=by
 refine wpAnyIn_take (i:=i) (v:=v) (by simp[FX,hrd]) ho hs hf hr (fun _ _ _ h=>by cases h.1) ⟨.inl ⟨by simp[Region.wanted,hg],hrun⟩,hab⟩ ?_
 rw[hd]
 exact next _ (R.put (some d) hv)
theorem FP {C:A2} (hrd:C.rd=none) {K:Act→World→Prop} {ops:Array Oper} {i d s ty fuel:Nat} {pos:String} {af:Array Edge} {listed:Array Bool} {F:Fr} {M:List Ae} {a:Act} {w:World} {σ:Nat→Nat→Option St} {own:Nat→Option Nat} (R:AE C F M a w σ own) (ho:ops[i]?=some {dst:=some d,op:= .move (.tmp s),type:=ty,pos:=pos,after:=af,guard:=none}) (hs:Region.noSelect ops=true) (hf:Region.free .any ops listed i=true) (hr:(Region.ready .any ops listed).contains i=true) (hn:s<C.n)
 (next:∀a',AE C (A4 F d (F s)) M a' w σ own→wpAnyIn (FX C) 0 C.P .any ops (fun e a w=>e= .normal∧K a w) fuel (listed.setIfInBounds i true) a' w):wpAnyIn (FX C) 0 C.P .any ops (fun e a w=>e= .normal∧K a w) (fuel+1) listed a w:=
 OY hrd R ho rfl rfl hs hf hr (R.tmp s hn) (fun w=>by simp only[execOp];rfl) (fun _=>rfl) next
theorem Ku {C:A2} {T:Nat→Option TI} (tk:Bt C.P T) (hrd:C.rd=none) {K:Act→World→Prop} {ops:Array Oper} {i d s ty t e es eb fuel B v n l h:Nat} {ez:List AV} {lo hi:Option (Nat×IntKind×Int)} {pos:String} {af:Array Edge} {listed:Array Bool} {F:Fr} {M:List Ae} {a:Act} {w:World} {σ:Nat→Nat→Option St} {own:Nat→Option Nat} (R:AE C F M a w σ own) (ho:ops[i]?=some {dst:=some d,op:= .slice t (.tmp s) (lo.map fun x=> .tmp x.1) (hi.map fun x=> .tmp x.1) none,type:=ty,pos:=pos,after:=af,guard:=none}) (hs:Region.noSelect ops=true) (hf:Region.free .any ops listed i=true) (hr:(Region.ready .any ops listed).contains i=true) (hn:s<C.n) (htd:Al T t= .slice e es eb ez) (hF:F s= .tok B v es 0 n) (hb:(Ai M B v).isSome) (hlo:∀x,lo=some x→x.1<C.n∧F x.1= .int x.2.1 x.2.2) (hhi:∀x,hi=some x→x.1<C.n∧F x.1= .int x.2.1 x.2.2)
 (h1:ED (hi.map fun x=> .int x.2.1 x.2.2) n n=some h) (h2:ED (lo.map fun x=> .int x.2.1 x.2.2) 0 h=some l)
 (next:∀a',AE C (A4 F d (.tok B v es (l*es) (h-l))) M a' w σ own→wpAnyIn (FX C) 0 C.P .any ops (fun e a w=>e= .normal∧K a w) fuel (listed.setIfInBounds i true) a' w):wpAnyIn (FX C) 0 C.P .any ops (fun e a w=>e= .normal∧K a w) (fuel+1) listed a w:=by
 have hx:=R.tmp s hn
 rw[hF] at hx
 obtain⟨cs,hcs⟩:=Option.isSome_iff_exists.1 hb
 obtain⟨_,fp,hB,_⟩:=BO R.mem hcs
 have hx2:=hx
 simp only[VR] at hx2
 obtain⟨_,⟨ad,c,hval⟩,st,hst,hnil,hloc⟩:=hx2
 have hnc:n≤c:=by
  simp only[BR] at hB
  rcases hB.2 with⟨h1,_,_⟩ | ⟨g,b,cur,e',fp',h1,_⟩
  .rw[h1] at hst;simp at hst;subst hst
   have:=(hnil rfl).2.2;omega
  .rw[h1] at hst;simp at hst;subst hst
   obtain⟨a2,c2,e2,_,e3,_⟩:=hloc _ _ _ rfl
   rw[hval] at e2;cases e2;exact e3
 have el:(lo.map fun x=>Operand.tmp x.1).map a.eval=(lo.map fun x=>x.2).map fun x=>Value.int x.1 x.2:=by
  cases lo with
  |none=>rfl
  |some x=>
   obtain⟨h3,h4⟩:=hlo x rfl
   have:=R.tmp x.1 h3;rw[h4] at this
   simp only[Option.map_some];exact congrArg some this.1
 have eh:(hi.map fun x=>Operand.tmp x.1).map a.eval=(hi.map fun x=>x.2).map fun x=>Value.int x.1 x.2:=by
  cases hi with
  |none=>rfl
  |some x=>
   obtain⟨h3,h4⟩:=hhi x rfl
   have:=R.tmp x.1 h3;rw[h4] at this
   simp only[Option.map_some];exact congrArg some this.1
 have e1:a.eval (.tmp s)= .slice ad n c:=hval
 have hall:=RV tk htd (a:=ad) (lo:=lo.map fun x=>x.2) (hi:=hi.map fun x=>x.2) hnc (by rw[Option.map_map];exact h1) (by rw[Option.map_map];exact h2)
 obtain⟨u,hu,hv⟩:=Ow R.mem tk (t:=t) (lo:=lo.map fun x=>AV.int x.2.1 x.2.2) (hi:=hi.map fun x=>AV.int x.2.1 x.2.2) (mx:=none) (vl:=(lo.map fun x=>x.2).map fun x=>Value.int x.1 x.2) (vh:=(hi.map fun x=>x.2).map fun x=>Value.int x.1 x.2) (vm:=none) hx (by
  intro y hy;cases lo with
  |none=>simp at hy
  |some x=>simp at hy;subst hy;exact⟨_,rfl,rfl,fun _=>rfl⟩) (by cases lo<;>simp) (by
  intro y hy;cases hi with
  |none=>simp at hy
  |some x=>simp at hy;subst hy;exact⟨_,rfl,rfl,fun _=>rfl⟩) (by cases hi<;>simp) (by simp) (by simp) (r:= .tok B v es (0+l*es) (h-l)) (by
  unfold HD
  simp only[htd]
  rw[if_pos ⟨trivial,hb⟩]
  simp only[h1,h2])
 rw[hval] at hu
 have h5:=hall w
 rw[h5] at hu
 cases hu
 refine OY hrd R ho rfl rfl hs hf hr (by simpa using hv) (fun w=>?_) (fun _=>rfl) next
 simp only[execOp,e1,el,eh,Option.map_none,Sem.run_bind,hall,Result.andThen_ok,Sem.run_pure]
theorem T3 {C:A2} {T:Nat→Option TI} (tk:Bt C.P T) {F:Fr} {M:List Ae} {a:Act} {w:World} {σ:Nat→Nat→Option St} {own:Nat→Option Nat} {o:Oper} {next:Act→World→Prop} {Q:Exit→Act→World→Prop} (R:AE C F M a w σ own) (hb:A6 C.n o=true) (hnd:∀c,o.op≠ .defer c) {r:AV} (hv:pv T M F o=some r)
 (h:∀a',AE C (Aj F o.dst r) M a' w σ own→next a' w):o.wpIn (FX C) 0 C.P a w next Q:=by
 obtain⟨u,hu,hr⟩:=NL tk R hb hv
 exact Oper.wp_value hnd hu (h _ (R.put _ hr))
theorem Nd (a b:Int):∀(j k m:Nat),j≤m→Da (Ac (List.replicate k a++List.replicate m b)) k (Ac (List.replicate j a))=Ac (List.replicate (k+j) a++List.replicate (m-j) b)
 |0,k,m,_=>by simp[Da,Ac]
 |j+1,k,m,h=>by
  obtain⟨m,rfl⟩:∃m',m=m' +1:=⟨m-1,by omega⟩
  have ih:=Nd a b j (k+1) m (by omega)
  have e:(Ac (List.replicate k a++List.replicate (m+1) b)).set k (.int .i64 a)=Ac (List.replicate (k+1) a++List.replicate m b):=by
   rw[List.replicate_succ,List.replicate_succ',List.append_assoc]
   simp only[Ac,List.map_append,List.map_cons]
   rw[List.set_append_right _ _ (by simp)]
   simp
  have e2:Ac (List.replicate (j+1) a)= .int .i64 a::Ac (List.replicate j a):=by simp[Ac,List.replicate_succ]
  rw[e2,Da,e,ih,show k+1+j=k+(j+1) by omega,show m+1-(j+1)=m-j by omega]
theorem P7 (n:Nat) (hn1:1≤n) (hn:n<1000):Aa pg 250 [.ro 1 [.int .i64 (-1)],.int .i64 n] [] (fun r _=>r= .own 1 n (Ac (List.replicate n (-1)))):=by
 refine Aa.enterA (fn:=Tryz.f250) tk rfl rfl rfl (Nat.le_of_ble_eq_true rfl) (by kernel_rfl) ?_
 intro C hC hp hnC hrd hdf
 have hp0:C.p≤0:=Nat.le_of_eq hp
 have hn48:C.n=48:=hnC
 show AW C _ _ _ (Ha tT [.tmp 4] 0 _)
 rw[Aq]
 refine AW.seqW tk hC hp0 (by rw[hn48];kernel_rfl) ?_
 refine zs ?_
 refine AW.seqW tk hC hp0 (by rw[hn48];kernel_rfl) ?_
 refine zs ?_
 refine zn ?_
 refine W.skip ?_
 refine AW.seqW tk hC hp0 (by rw[hn48];kernel_rfl) ?_
 refine z0 ?_;intro K hK
 refine Ab.eq (US n hn) (by simp) (by simp) ?_
 refine zx ?_
 refine zk ?_;clear hK K
 refine AW.seqW tk hC hp0 (by rw[hn48];kernel_rfl) ?_
 have z1:¬(9223372036854775807<(n:Int)):=by omega
 refine Af z1 ?_;intro K hK
 refine zk ?_;clear hK K
 refine zn ?_
 refine W.skip ?_
 refine AW.seqW tk hC hp0 (by rw[hn48];kernel_rfl) ?_
 (repeat refine W.seq ?_);refine W.reg 1 rfl fun K hK=>?_;simp -implicitDefEqProofs (maxSteps:=999999) (disch:=omega)
 refine zk ?_;clear hK K
 have hz:Dw n [AV.int .i64 0]=Ac (List.replicate n 0):=by
  simp only[Dw,Ac]
  clear z1 hn1 hn
  induction n with
  |zero=>rfl
  |succ n ih=>simp[List.replicate_succ,ih]
 rw[hz]
 refine AW.seq ?_
 intro a w hr
 refine wpIn_region_lit ?_
 refine(E9 (hC ▸ tk) (K:=fun F' M' =>Wk 0 F' M' (fr [(7,.tok 0 0 1 0 n),(31,.tok 0 0 1 0 n),(32,.ro 1 [.int .i64 (-1)])]) [.live 0 (Ac (List.replicate n 0))]) ?_ [_,_] 1 _ _ a w ?_ ?_ ?_ hr:wpListIn _ _ _ _ _ ([_,_]++[_,_]) a w)
 rotate_left
 .rw[hn48];kernel_rfl
 .rw[hn48];kernel_rfl
 .refine D4 (call:=Ab pg) (call' :=C4 C) (fun f args M K K' hk hc=>(hc C hC).mono hk) (fun _ _ h=>h) _ _ _ _ ?_
  simp -implicitDefEqProofs (maxSteps:=999999) (disch:=omega)
  exact Wk.fr (by simp[Ad])
 clear hr a w
 intro F' M' a w hwk hr
 obtain⟨σ,own,R⟩:=hwk C hp0 a w hr
 clear hr hwk
 simp only[wpListIn]
 rw[if_pos (by simp[Region.wanted])]
 refine OX (hC ▸ tk) R (t:=28) (e:=3) (eb:=8) (ez:=[.int .i64 0]) rfl (cs:=Ac (List.replicate n 0)) (B:=0) (v:=0) (off:=0) (n:=n) (m:=1) (ys:=[.int .i64 (-1)]) rfl rfl (by omega) (by omega) rfl rfl rfl (by simp) (by omega) (by omega) ?_
 intro a' w' R' _
 rw[if_pos (by simp[Region.wanted])]
 have e33:a'.eval (.tmp 33)= .int .i64 (min 1 n:Nat):=by
  have:=R'.tmp 33 (by omega)
  have h2:a'.tmps.getD 33 undef= .int .i64 (min 1 n:Nat):=by simpa[A4,VR,fr] using this.1
  exact h2
 have hmin:min 1 n=1:=by omega
 rw[hmin] at R' e33
 refine Oper.wp_value (fun _ h=>by cases h) (v:= .int .i64 (1:Nat)) (w' :=w') (by simp only[execOp,e33];rfl) (.inl ⟨_,_,?_,σ,own,R'.put (some 8) (av:= .int .i64 (1:Nat)) ⟨rfl,fun _=>rfl⟩⟩)
 have hset:[Ae.live 0 (Ac (List.replicate n 0))].set 0 (.live 0 (Da (Ac (List.replicate n 0)) 0 (List.take 1 [AV.int .i64 (-1)])))=[.live 0 (Ac (List.replicate 1 (-1)++List.replicate (n-1) 0))]:=by
  obtain⟨j,rfl⟩:∃j,n=j+1:=⟨n-1,by omega⟩
  simp[Ac,Da,List.replicate_succ]
 rw[hset]
 clear R' e33 hset R
 refine AW.weak (Wk.fr (S:=[(7,.tok 0 0 1 0 n),(8,.int .i64 (1:Nat))]) (by simp[Ad,A4]) C hp0) ?_
 refine AW.seq ?_
 refine AW.block ?_
 refine AW.loop (fun m F M=>∃k,m=n-k∧1≤k∧k≤n∧F=fr [(7,.tok 0 0 1 0 n),(8,.int .i64 k)]∧M=[.live 0 (Ac (List.replicate k (-1)++List.replicate (n-k) 0))]) (n-1) _ _ (Ck.refl _ _ _) ⟨1,rfl,by omega,by omega,rfl,rfl⟩ ?_
 rintro m F M ⟨k,rfl,hk1,hkn,rfl,rfl⟩
 refine AW.seqW tk hC hp0 (by rw[hn48];kernel_rfl) ?_
 by_cases hlt:k<n
 rotate_left
 .refine Af hlt ?_;intro K hK
  refine zk ?_;clear hK K
  refine zn ?_
  refine W.exit ?_
  have ek:k=n:=by omega
  subst ek
  refine AW.seqW tk hC hp0 (by rw[hn48];kernel_rfl) ?_
  refine zs ?_
  refine AW.ret ?_
  simp only[B4,CM,Ch]
  refine B8 (d:=0) ?_
  simp -implicitDefEqProofs (maxSteps:=999999) (disch:=omega)
 refine Af hlt ?_;intro K hK
 refine zk ?_;clear hK K
 refine zt ?_
 refine W.skip ?_
 refine AW.block ?_
 generalize hF:A4 (A4 _ _ _) _ _=F1
 have f7:F1 7= .tok 0 0 1 0 n:=by rw[←hF];simp[A4,fr]
 have f8:F1 8= .int .i64 k:=by rw[←hF];simp[A4,fr]
 clear hF
 intro a w hr
 refine wpIn_mono (Q:=fun e a w=>e= .normal∧B9 C (fr [(7,.tok 0 0 1 0 n),(8,.int .i64 ((k+min k (n-k):Nat):Int))]) [.live 0 (Ac (List.replicate (k+min k (n-k)) (-1)++List.replicate (n-(k+min k (n-k))) 0))] a w) ?_ ?_
 rotate_left
 .rintro e a w ⟨rfl,hr⟩
  refine .inl ⟨_,_,?_,hr⟩
  exact⟨n-(k+min k (n-k)),_,_,by omega,Ck.refl _ _ _,k+min k (n-k),rfl,by omega,by omega,rfl,rfl⟩
 refine wpIn_region_any (hC ▸ Cc) ?_
 obtain⟨σ,own,R⟩:=hr
 have R:=R.drew
 show wpAnyIn _ _ _ _ _ _ 10 _ a w.drew
 generalize w.drew=w at*
 refine FP hrd R (i:=0) rfl (by kernel_rfl) (by kernel_rfl) (by kernel_rfl) (by omega) fun a R=>?_
 refine FP hrd R (i:=1) rfl (by kernel_rfl) (by kernel_rfl) (by kernel_rfl) (by omega) fun a R=>?_
 refine FP hrd R (i:=2) rfl (by kernel_rfl) (by kernel_rfl) (by kernel_rfl) (by omega) fun a R=>?_
 refine Ku (hC ▸ tk) hrd R (i:=3) (lo:=some (40,.i64,k)) (hi:=none) rfl (by kernel_rfl) (by kernel_rfl) (by kernel_rfl) (by omega) (t:=28) (e:=3) (es:=1) (eb:=8) (ez:=[.int .i64 0]) (n:=n) (h:=n) (l:=k) rfl (by simp[A4,f7];exact⟨rfl,rfl⟩) rfl (by simp[A4,f8];omega) (by simp) rfl (by simp[ED];omega) fun a R=>?_
 refine FP hrd R (i:=4) rfl (by kernel_rfl) (by kernel_rfl) (by kernel_rfl) (by omega) fun a R=>?_
 refine FP hrd R (i:=5) rfl (by kernel_rfl) (by kernel_rfl) (by kernel_rfl) (by omega) fun a R=>?_
 refine Ku (hC ▸ tk) hrd R (i:=6) (lo:=none) (hi:=some (43,.i64,k)) rfl (by kernel_rfl) (by kernel_rfl) (by kernel_rfl) (by omega) (t:=28) (e:=3) (es:=1) (eb:=8) (ez:=[.int .i64 0]) (n:=n) (h:=k) (l:=0) rfl (by simp[A4,f7];exact⟨rfl,rfl⟩) rfl (by simp) (by simp[A4,f8];omega) (by simp[ED];omega) rfl fun a R=>?_
 refine wpAnyIn_ready (rs:=[7]) (by kernel_rfl) (by simp) (AllReadyIn.cons rfl (fun K' hK=>?_) AllReadyIn.nil)
 rw[if_pos (by simp[Region.wanted])]
 refine OX (hC ▸ tk) R (t:=28) (e:=3) (eb:=8) (ez:=[.int .i64 0]) rfl (cs:=Ac (List.replicate k (-1)++List.replicate (n-k) 0)) (B:=0) (v:=0) (off:=k) (n:=n-k) (m:=k) (ys:=Ac (List.replicate k (-1))) rfl (by simp[A4]) (by omega) (by omega) ?_ (by simp) (by simp) (by simp) (by omega) (by omega) ?_
 .simp[A4,CB,Ai]
 intro a' w' R' _
 refine hK _ _ ?_
 refine wpAnyIn_ready (rs:=[8]) (by kernel_rfl) (by simp) (AllReadyIn.cons rfl (fun K' hK=>?_) AllReadyIn.nil)
 rw[if_pos (by simp[Region.wanted])]
 refine T3 (hC ▸ tk) R' (by rw[hn48];kernel_rfl) (fun _ h=>by cases h) (r:= .int .i64 ((k+min k (n-k):Nat):Int)) (by simp(disch:=omega) [pv,A4,f8]) fun a R=>hK _ _ ?_
 refine wpAnyIn_ready (rs:=[9]) (by kernel_rfl) (by simp) (AllReadyIn.cons rfl (fun K' hK=>?_) AllReadyIn.nil)
 rw[if_pos (by simp[Region.wanted])]
 refine T3 (hC ▸ tk) R (by rw[hn48];kernel_rfl) (fun _ h=>by cases h) (r:= .int .i64 ((k+min k (n-k):Nat):Int)) (by simp(disch:=omega) [pv,A4,f8,Aj]) fun a R=>hK _ _ ?_
 refine wpAnyIn_done (by kernel_rfl) ⟨rfl,?_⟩ _
 have hm:Da (Ac (List.replicate k (-1)++List.replicate (n-k) 0)) k ((Ac (List.replicate k (-1))).take (min k (n-k)))=Ac (List.replicate (k+min k (n-k)) (-1)++List.replicate (n-(k+min k (n-k))) 0):=by
  have e:(Ac (List.replicate k (-1))).take (min k (n-k))=Ac (List.replicate (min k (n-k)) (-1)):=by
   simp only[Ac,←List.map_take,List.take_replicate]
   rw[Nat.min_eq_left (by omega)]
  rw[e,Nd _ _ _ _ _ (by omega),show n-k-min k (n-k)=n-(k+min k (n-k)) by omega]
 have hr:=Wk.fr (p:=0) (S:=[(7,.tok 0 0 1 0 n),(8,.int .i64 ((k+min k (n-k):Nat):Int))]) (by simp[Ad,A4,Aj,f7]) C hp0 a _ ⟨σ,own,R⟩
 simp only[List.set_cons_zero,hm] at hr
 exact hr
theorem OZ:BV:=fun n h1 h2=>P7 n h1 h2
end Go.Abs
set_option maxRecDepth 100000
namespace Go.Proofs.YtoklapibcmnaeaaGreat
open Go.Abs Go.ChangeShapes Go.WideShapes Go.ChangeAt Go.RowKit
theorem J6 (os:Os) (started:os.Started) (H:Type) (enc:TypeId×Value→H):
 ReturnsInHanded {} Tryz.checked os 3 .any (Rows.catTagsSpec.pre6 enc Tryz.prog Tryz.f3 Rows.catTagsRow.domain false) (Rows.catTagsSpec.post enc Tryz.prog Tryz.f3 false true false false):=by
 refine returnsInHanded_of_change_sized (C:=Tryz.checked) own0 started (by kernel_rfl) Tryz.func3
  (ChangeSpec.witness6 (enc:=enc) (C:=Tryz.checked) false ⟨#[], #[.agg #[.slice none 0 0,.slice none 0 0,.slice none 0 0,.slice none 0 0,.slice none 0 0]],[]⟩ 8 (by kernel_rfl) (by kernel_rfl) (by kernel_rfl) (by kernel_rfl)) ?_
 intro W base args ds gs before hval hW _ hsz _
 exact LB (s:=Rows.catTagsSpec) Tryz.params3 (by kernel_rfl) rfl (fun _ _=>rfl) (fun S L G na nn h0 hS h1 h2 h3 h4 h5 h6=>OT OZ S L G na nn h0 hS h1 h2 h3 h4 h5 h6) W base args ds gs before hval hW hsz
theorem Y3:Tryz.prog.funcNamed "herbarium/herbariumlaw14.CatTags" =some 3:=by kernel_rfl
theorem Y4:joinedFacts Tryz.prog 3 Tryz.f3 Rows.catTagsSpec Rows.catTagsRow=true:=by kernel_rfl
theorem Y5:Tryz.f3.isInstance Tryz.prog Rows.catTagsRow.origin Rows.catTagsRow.targs:=of_decide_eq_true (by kernel_rfl)
theorem Y6:Tryz.f3.isWrapper Tryz.prog Rows.catTagsRow.wrapper Rows.catTagsRow.mainSum:=by unfold Func.isWrapper;first| (rw[if_pos (by decide+kernel)];kernel_rfl) | (rw[if_neg (by decide+kernel)];exact⟨rfl,rfl⟩)
theorem catTags_holds:Rows.CatTagsSaid:=
 OpenClaim.holds_of_wide (p:=Tryz.pinned) (s:=Rows.catTagsSpec) (c:=Rows.catTagsRow) 3 Tryz.f3 rfl rfl rfl rfl rfl rfl rfl ⟨rfl,rfl,rfl,rfl,rfl⟩ rfl rfl rfl rfl rfl Y3 Tryz.func3 Y4
  Y5 Y6
  (fun os started H enc _=>J6 os started H enc)
#print axioms catTags_holds
end Go.Proofs.YtoklapibcmnaeaaGreat
