/- References: the next action; cleaning. -/
import Derived.Test.YtgdmnlibcdajjaaGreatP10
open Bool renaming and_eq_true -> uU
open Int renaming toNat_natCast -> vE
open List renaming take_of_length_le -> uM, getElem?_eq_getElem -> uT, set_append_right -> vz, cons_append -> vF, set_cons_zero -> vQ, nil_append -> vU, set_cons_succ -> wu, drop_zero -> xc
open Nat renaming sub_self -> wp
set_option maxHeartbeats 8000000
set_option linter.unusedVariables false
set_option linter.unusedSimpArgs false
set_option maxRecDepth 100000
namespace Go.Abs
open Go.Proofs
def JZ (s:An) (id:Int) (m:Nat):Int×Int:=match (s.sQ.drop m).find? λv=>decide (v.base=id) with|some v=>(2,v.id) |none=>(1,id)
theorem dm (s:An) (hs:A0 s) (hx:BO s) (hok:A2 s):Ac pg 107 [.agg (Aj false s)] [] (λr _=>r= .agg (Od (CU s))):=by
 have h1:=hs.1;have hkp:0<=s.keep/\s.keep<=1000000:=⟨by have:=hok.1.1.1;omega,by have:=hok.1.1.2.1;omega⟩;have spW:=cf s true hs hkp;simp only[Bool.not_true] at spW;have hwl:(DG s false).length<=s.sQ.length:=GR ..;obtain⟨a,ha⟩:∃a,a=CU s:=zX;have hfo:a=match (DG s false).find? (MJ s) with|some id=>Er s id|none=>(0,0):=by rw[ha];rfl
 rw[<-ha];obtain⟨w,hw⟩:∃w,w=DG s false:=zX;rw[<-hw] at spW hwl hfo;refine zE (fn:=Tryz.f107) [.cell 2 157] ?_;rw[AC];refine Cx ?_;refine AL spW ?_;refine xR ?_;refine sV (λk:Nat=> [(1,pt 0),(2,pt 1),(3,.tok 2 0 1 0 w.length),(4,iN k)]) (λ_=> [lv (Aj false s),lv [iN 0,iN 0],lv (Ab w)]) (λk=>w.length-k) (λk=>k<=w.length/\∀x∈w.take k,MJ s x=false) 0 (Wk.fr zK) ⟨zO,zS⟩ ?_;rintro k ⟨hk,hno⟩;by_cases c1:k<w.length;rotate_left
 .have hke:k=w.length:=zO;have hf:w.find? (MJ s)=none:=by
   rw[List.find?_eq_none];intro x hx;rw[uM zO] at hno;simpa using hno x hx
  rw[hf] at hfo;subst hfo;refine zg c1 ?_;exact Kp
 obtain⟨id,By⟩:∃id,id=w[k]:=zX;have g1:(Ab w)[k]?=some (iN id):=by rw[By];simp[c1,Ab]
 obtain⟨b,hb⟩:∃b,b=Er s id:=zX;have spA:=ZY s b.1 b.2 hs hx hok;have hoa:MJ s id=decide ((Di s b.1 b.2).2=0):=by rw[hb];rfl
 have hin:=Nj (k:=b.1) (id:=b.2) hs hx hok;obtain⟨y,hy⟩:∃y,y=(Di s b.1 b.2).1:=zX;obtain⟨e,he⟩:∃e,e=(Di s b.1 b.2).2:=zX;rw[<-hy,<-he] at spA;rw[<-he] at hoa;refine xL c1 ?_;refine GQ (an c1 g1) ?_;intro K hK;refine xM ?_;refine s5 (λ_:Unit=> [(1,pt 0),(2,pt 1),(3,.tok 2 0 1 0 w.length),(4,iN k),(5,pt 3)]) (λ_=> [lv (Aj false s),lv [iN 0,iN 0],lv (Ab w),lv (Od b)]) (λ_=>True) ?_ ?_
 .have e9:JZ s id s.sQ.length=(1,id):=by unfold JZ;rw[List.drop_length];rfl
  refine zb ?_;refine sV (λj:Nat=> [(1,pt 0),(2,pt 1),(3,.tok 2 0 1 0 w.length),(4,iN k),(5,pt 3),(6,iN ((s.sQ.length:Int)-1-j))]) (λj=> [lv (Aj false s),lv [iN 0,iN 0],lv (Ab w),lv (Od (JZ s id (s.sQ.length-j)))]) (λj=>s.sQ.length-j) (λj=>j<=s.sQ.length) 0 (sU (k:=4) zK (by simp[e9]) zS zS zS zS) zO ?_;intro j hj;by_cases c2:j<s.sQ.length;rotate_left
  .have hje:j=s.sQ.length:=zO;subst hje;have e0:¬(0:Int)<=(s.sQ.length:Int)-1-(s.sQ.length:Int):=zO;have eb:JZ s id (s.sQ.length-s.sQ.length)=b:=by rw[wp,hb];rfl
   rw[eb];refine th e0 ?_;exact⟨(),trivial,Wk.fr zK⟩
  obtain⟨m,hm⟩:∃m:Nat,(s.sQ.length:Int)-1-j=(m:Int):=⟨s.sQ.length-1-j,zO⟩;have hml:m<s.sQ.length:=zO;have hdr:s.sQ.length-j=m+1:=zO;have hdr2:s.sQ.length-(j+1)=m:=zO;have hst:JZ s id m=if s.sQ[m].base=id then(2,s.sQ[m].id) else JZ s id (m+1):=by
   unfold JZ;rw[List.drop_eq_getElem_cons hml,List.find?_cons];by_cases h:s.sQ[m].base=id
   .rw[zT h,zP h]
   .rw[zV h,zM h]
  have v0:(Aa As s.sQ)[m*8]?=some (iN s.sQ[m].id):=Au (f:=As) (s:=8) zL hml (i:=0) zO;have v2:(Aa As s.sQ)[m*8+2]?=some (iN s.sQ[m].base):=Au (f:=As) (s:=8) zL hml (i:=2) zO;rw[hm,hdr];refine y4 ?_;refine zw ?_;refine s5 (λq:Bool=> [(1,pt 0),(2,pt 1),(3,.tok 2 0 1 0 w.length),(4,iN k),(5,pt 3),(6,iN m),(40,.bool q)]) (λ_=> [lv (Aj false s),lv [iN 0,iN 0],lv (Ab w),lv (Od (JZ s id (m+1)))]) (λq=>q=decide (s.sQ[m].base=id)) ?_ ?_
  .refine zh (an hml (an v2 (an c1 g1))) ?_;exact⟨_,rfl,Wk.fr zK⟩
  rintro q hq;by_cases hbm:s.sQ[m].base=id
  .rw[zP hbm] at hst;rw[zT hbm] at hq;subst hq;refine zt ?_;refine zg (an hml v0) ?_;refine zs ?_;exact⟨j+1,by omega,by omega,sU (k:=4) (by simp[AA];omega) (by simp[hdr2,hst]) (by simp) (by simp) (by simp) (by simp)⟩
  .rw[zM hbm] at hst;rw[zV hbm] at hq;subst hq;refine y3 ?_;exact⟨j+1,by omega,by omega,sU (k:=4) (by simp[AA];omega) (by simp[hdr2,hst]) (by simp) (by simp) (by simp) (by simp)⟩
 rintro _ _;cases hoc:MJ s id
 .rw[hoc] at hoa;have hne:¬e=0:=by simpa using hoa.symm
  refine EU spA ?_;refine xL hne ?_;exact⟨k+1,zO,⟨zO,JR c1 hno (by rw[<-By];exact hoc)⟩,sU (k:=3) zK zS zS zS zS zS⟩
 .rw[hoc] at hoa;have hne:e=0:=by simpa using hoa.symm
  have hf:=Jj c1 hno (by rw[<-By];exact hoc);rw[hf] at hfo;simp only[<-By,<-hb] at hfo;subst hfo;refine EU spA ?_;refine zg hne ?_;exact Ny
def Pq (s:An) (n:Nat):An:=(CJ s n).getLast?.getD s
theorem XY (s:An) (n:Nat) (hs:A0 s) (hx:BO s) (hok:A2 s) (hn:n<=1000):Ac pg 70 [xT s,iN n] [lv (Aa As s.sQ),lv (Aa (Af true) s.sR)] (λr M=>r= .tup [.agg (Aj true (Pq s n)),iN (CJ s n).length]/\M=[.dead,.dead]):=by
 unfold xT;refine zE (fn:=Tryz.f70) [.cell 4 25,.tmp 5] ?_;rw[Aq];refine Cx ?_;refine zs ?_;have h10:∀c:An,((Aa As c.sQ).drop 0).take (c.sQ.length*8)=Aa As c.sQ:=λc=>uM (by rw[xc,Bk (f:=As) (s:=8) zL];omega);have h11:∀c:An,((Aa (Af true) c.sR).drop 0).take (c.sR.length*12)=Aa (Af true) c.sR:=λc=>uM (by rw[xc,Bk (f:=Af true) (s:=12) zL];omega);refine zb ?_;refine sV (λz:Nat×An=> [(1,iN n),(2,pt 2),(4,pt 3),(6,iN z.1)]) (λz=> [.dead,.dead,lv (Aj true z.2),lv [iN 0,iN 0,.own 8 0 [],.own 12 0 []]]) (λz=>n-z.1) (λz=>z.1<=n/\A2 z.2/\A0 z.2/\BO z.2/\∃L:List An,L.length=z.1/\L++CJ z.2 (n-z.1)=CJ s n/\L.getLast?.getD s=z.2) (0,s) ?_ ⟨zO,hok,hs,hx,[],rfl,rfl,rfl⟩ ?_
 .refine(Wk.inn 2 2).trans ?_;refine(Wk.inn 2 3).trans ?_;exact sU (k:=4) zK (by simp[h10,h11]) zS zS zS zS
 rintro⟨k,c⟩ ⟨hk,hcok,hcs,hcx,L,hL,hLr,hLc⟩;simp only at hk hcok hcs hcx hL hLr hLc |-;have spF:=dm c hcs hcx hcok;obtain⟨a,ha⟩:∃a,a=CU c:=zX;rw[<-ha] at spF;have spD:=ZY c a.1 a.2 hcs hcx hcok;have hyin:=Nj (k:=a.1) (id:=a.2) hcs hcx hcok;have hyok:=λh:a.1≠0=>S7 (k:=a.1) (id:=a.2) hcok (by rw[ha] at h |-;exact MI h);obtain⟨y,hy⟩:∃y,y=(Di c a.1 a.2).1:=zX;obtain⟨e,he⟩:∃e,e=(Di c a.1 a.2).2:=zX;rw[<-hy,<-he] at spD;rw[<-hy] at hyin;simp only[<-hy] at hyok;refine W.weak (sX 2 2) ?_;refine W.weak (sX 2 3) ?_;by_cases c1:k<n;rotate_left
 .have hkn:k=n:=zO;subst hkn;have hfin:CJ s k=L:=by rw[<-hLr,wp];simp[CJ]
  refine x3 c1 ?_;simp[hfin,Pq,hL,hLc]
 refine xL c1 ?_;refine EU spF ?_;by_cases c2:a.1=0
 .have hfin:CJ s n=L:=by rw[<-hLr,PU (n-k) (by rw[<-ha];exact c2)];simp
  refine x3 c2 ?_;simp[hfin,Pq,hL,hLc]
 have hrow:CJ c (n-k)=y::CJ y (n-(k+1)):=by
  obtain⟨m,hm⟩:∃m,n-k=m+1:=⟨n-k-1,zO⟩;rw[hm,Oe (by rw[<-ha];exact c2),<-ha,<-hy,show n-(k+1)=m by omega]
 refine th c2 ?_;refine AL spD ?_;refine zs ?_;have hyk:=hyok c2;refine⟨(k+1,y),by simp only;omega,⟨by simp only;omega,hyk.1,hyin.1,hyin.2,L++[y],by simp[hL],by simp only;rw[<-hLr,hrow];simp,zS⟩,?_⟩;refine(Wk.inn 2 2).trans ?_;refine(Wk.inn 2 3).trans ?_;exact sU (k:=4) zK (by simp[h10,h11]) zS zS zS zS
theorem PY (b:Bool):∀(l:List Bn) (k:Nat) (h:k<l.length),(Aa As l).set (k*8+6) (.bool b)=Aa As (l.set k {l[k] with tag:=b})
 | [],k,h=>by simp at h
 |v::t,0,h=>by simp[AG,As]
 |v::t,k+1,h=>by
  have ih:=PY b t k (by simpa using h);have hl:(As v).length=8:=rfl;rw[AG,vz _ _ zO,show(k+1)*8+6-(As v).length=k*8+6 by omega,ih];simp[AG]
theorem Tm (b:Bool):∀(l:List Bn) (k:Nat) (h:k<l.length),(Aa As l).set (k*8+7) (.bool b)=Aa As (l.set k {l[k] with gone:=b})
 | [],k,h=>by simp at h
 |v::t,0,h=>by simp[AG,As]
 |v::t,k+1,h=>by
  have ih:=Tm b t k (by simpa using h);have hl:(As v).length=8:=rfl;rw[AG,vz _ _ zO,show(k+1)*8+7-(As v).length=k*8+7 by omega,ih];simp[AG]
def sx (f:Bn->Bn) (l:List Bn) (k:Nat):List Bn:=(l.take k).map f++l.drop k
theorem g9 (s:An) (o:Cy) (hs:A0 s) (hx:BO s) (h:A2 s) (hO:DV o):Ac pg 31 [.agg (Aj false s),.agg (AZ o)] [] (λr _=>r= .tup [.agg (Aj false (D6 s o).1),.agg (Fm true (D6 s o).2)]\/r= .tup [.agg (Aj true (D6 s o).1),.agg (Fm true (D6 s o).2)]):=by
 have h1:=hs.1;have h2:=hs.2.1;have hl3:s.sR.length=3:=h.1.2.1;obtain⟨p,hp⟩:∃p,p=D6 s o:=zX;rw[<-hp];have hO1:=hO.1;have hON:=hO.2.1;have hOS:=hO.2.2.1;have hOV:=hO.2.2.2.1;have hOA:=hO.2.2.2.2;obtain⟨k,si,v,a,b,nn⟩:=o;simp only at hO1 hON hOS hOV hOA hp;have hn0:0<=nn/\nn<=1000:=by
  unfold Gf at hON;simp only at hON;split at hON
  .have:=hON.1;have:=hON.2;omega
  split at hON
  .have:=hON.1;have:=hON.2;omega
  split at hON
  .have:=hON.1;have:=hON.2;omega
  .omega
 have hs0:0<=si/\si<=2:=by
  split at hOS
  .exact hOS
  .omega
 obtain⟨n,rfl⟩:∃n:Nat,nn=n:=⟨nn.toNat,zO⟩;obtain⟨i,rfl⟩:∃i:Nat,si=i:=⟨si.toNat,zO⟩;have hi:i<s.sR.length:=zO;have hsa:CG s i=s.sR[i]:=by unfold CG;rw[List.getD_eq_getElem?_getD,vE,uT hi];rfl
 have spC:=Ga s hs hx;unfold D6 at hp;simp only[hsa] at hp;refine zE (fn:=Tryz.f31) [.cell 4 25,.cell 5 45] ?_;rw[Aq];refine ed ?_;intro K hK;simp -implicitDefEqProofs (disch:=omega);refine zk ?_;refine z1 ?_;intro K hK;refine tg spC zS ?_;refine Am ?_;by_cases k1:k=1
 .rw[zP k1] at hp;subst k1;refine xZ ?_;refine sV (λq:Nat=> [(2,pt 0),(3,pt 1),(4,pt 2),(5,pt 3),(6,pt 4),(7,iN q)]) (λ_=> [lv (Aj false s),lv (AZ ⟨1,i,v,a,b,n⟩),lv (Aj true Av),lv [iN 0,iN 0,.own 1 0 []],lv [iN s.keep,iN s.sS,.tok 5 0 8 0 s.sQ.length,.tok 6 0 12 0 s.sR.length],lv (Aa As s.sQ),lv (Aa (Af true) s.sR)]) (λq=>3-q) (λq=>q<=3/\∀j (hj:j<s.sR.length),j<q->s.sR[j].opn=true) 0 (sU (k:=7) zK (by simp[Av]) zS zS zS zS) ⟨zO,λj _ hj=>zO⟩ ?_;rintro q ⟨hq,hqo⟩;by_cases c1:q<3;rotate_left
  .have hf:s.sR.findIdx? (λx=> !x.opn)=none:=List.findIdx?_eq_none_iff.2 λx hx=>by
    obtain⟨j,hj,rfl⟩:=List.mem_iff_getElem.1 hx;simp[hqo j hj zO]
   have hpe:p=AE s 5:=by rw[hp];unfold Gg;rw[hf]
   refine th c1 ?_;refine z0 ?_;intro K hK;refine tg (Ei s 5) zS ?_;refine xU ?_;simp[hpe,AE]
  have hqi:q<s.sR.length:=zO;have g0:(Aa (Af true) s.sR)[q*12]?=some (.bool s.sR[q].opn):=Au (f:=Af true) (s:=12) zL hqi (i:=0) zO;have hfl:True->(Aa (Af true) s.sR).length=s.sR.length*12:=λ_=>Bk (f:=Af true) zL _;refine xL c1 ?_;cases hop:s.sR[q].opn
  .have hz:s.sR[q]=BU:=by
    have:=h.1.2.2.2 _ (List.getElem_mem hqi);unfold AQ at this
    rwa [zP hop] at this
   have hf:s.sR.findIdx? (λx=> !x.opn)=some q:=List.findIdx?_eq_some_iff_getElem.2 ⟨hqi,by simp[hop],λj hj=>by simp[hqo j zO hj]⟩;have hpe:p=({s with sR:=s.sR.set q {BU with opn:=true}},⟨0,q,[]⟩):=by rw[hp];unfold Gg;rw[hf]
   have e8:=BA (f:=Af true) (s:=12) zL (ps:=[(0,.bool true)]) (y:={BU with opn:=true}) zS hqi (by rw[hz];simp[Be,Af]);refine xP (an hqi (an g0 hop)) ?_;refine BS (an hqi (hfl trivial)) ?_;intro K hK;refine⟨zO,?_⟩;refine zk ?_;show W _ _ _ _ _ [_,_,_,_,_,_,lv (Be (Aa (Af true) s.sR) (q*12) [(0,.bool true)])] _;rw[e8];refine zs ?_;refine W.weak (sX 3 2) ?_;refine zr ?_;simp[hpe];rw[uM zS]
  .refine xL (an hqi (an g0 hop)) ?_;refine⟨q+1,zO,⟨zO,λj hj hjq=>?_⟩,Wk.fr zK⟩;by_cases e:j=q
   .subst e;exact hop
   .exact hqo j hj zO
 rw[zM k1] at hp;refine th k1 ?_;have spB:=Dn k 2 13;by_cases ks:EL k
 .rw[zT (show 2<=k/\k<=13 from ks)] at spB;rw[zP ks] at hp;refine AL spB ?_;refine zt ?_;cases hop:s.sR[i].opn
  .rw[zP hop] at hp;have hpe:p=AE s 3:=hp;refine yl (an hi hop) ?_;intro K hK;refine tg (Ei s 3) zS ?_;refine xU ?_;simp[hpe,AE]
  rw[zM (by rw[hop];simp)] at hp;have hks:=ks;unfold EL B8 at hks;have hN:=hON;unfold Gf B8 at hN;simp only at hN;have spU:=dl s i n k v a b hks hs hx h hi zO (λe=>by rw[zP e] at hN;omega) (λe=>by rw[zM zO,zM zO,zM zO] at hN;omega) (λe=>by rw[zM (by unfold EY B8;omega)] at hOV;exact hOV) hop;rw[<-hp] at spU;unfold xT at spU;refine th (an hi hop) ?_;refine z0 ?_;intro K hK;refine tP [5,6] spU zS zS zS zS ?_;rintro r M' ⟨hr|hr,rfl⟩ _<;>refine⟨zS,?_⟩
  .subst hr;refine Am ?_;exact zR
  .subst hr;refine Am ?_;exact zR
 rw[zM ks] at hp;rw[zV (show¬(2<=k/\k<=13) from ks)] at spB;refine ym spB ?_;by_cases k17:k=17
 .rw[zP k17] at hp;refine xL k17 ?_;refine W.weak (sX 3 2) ?_;refine zr ?_;simp[hp,DE]
 rw[zM k17] at hp;refine th k17 ?_;by_cases k18:k=18
 .rw[zP k18] at hp;have spO:=XY s n hs hx h zO;unfold xT at spO;have hpe:p=(Pq s n,⟨0,(CJ s n).length,[]⟩):=hp;refine xP k18 ?_;refine z1 ?_;intro K hK;refine sZ [5,6] spO zS zS zS zS ?_;rintro _ _ ⟨rfl,rfl⟩ _;refine⟨zS,zS,?_⟩;refine ye ?_;refine W.weak (sX 3 2) ?_;refine zr ?_;simp[hpe]
 rw[zM k18] at hp;refine th k18 ?_;have k14:k=14\/k=15\/k=16:=by have:=hO1.1;have:=hO1.2;unfold EL B8 at ks;omega
 unfold Ft at hp;simp only at hp;have spS:=Pd s hs;have hsl:(Bf s.sQ).length<=s.sQ.length:=by unfold Bf;rw[List.length_map];exact List.length_filter_le _ _
 have spI:=Lb (Bf s.sQ) v zO;have hqc:=Lv (Bf s.sQ) v;obtain⟨x,hx'⟩:∃x,x=AN (λy=>decide (y=v)) (Bf s.sQ):=zX;rw[<-hx'] at spI hqc;refine CN ?_;intro K hK;refine CQ spS ?_;refine s6 spI (by simp) (by simp) ?_;by_cases cq:x<0
 .have hcf:(Bf s.sQ).contains v=false:=by
   cases e:(Bf s.sQ).contains v
   .rfl
   .have:=hqc.2 e;omega
  have hpe:p=AE s 3:=by rw[hp,zP hcf]
  refine xK cq ?_;refine yy ?_;intro K hK;refine tg (Ei s 3) zS ?_;refine xU ?_;simp[hpe,AE]
 have hct:(Bf s.sQ).contains v=true:=hqc.1 zO;rw[zM (by rw[hct];simp)] at hp;refine x5 cq ?_;obtain⟨kk,hkk,e1,e2,e3⟩:=Nk h hct;rw[e1] at hp;simp only[vE,uT hkk] at hp;have spA:=N3 s v hs;rw[e1] at spA;have f6:(Aa As s.sQ)[kk*8+6]?=some (.bool s.sQ[kk].tag):=Au (f:=As) (s:=8) zL hkk (i:=6) zO;have hfv:True->(Aa As s.sQ).length=s.sQ.length*8:=λ_=>Bk (f:=As) zL _;refine Dy hkk ?_;intro K hK;refine s6 spA (by simp) (by simp) ?_;refine xK hkk ?_;refine yo ?_;refine s5 (λ_:Bn=> [(4,pt 2),(5,pt 3),(6,pt 4)]) (λw=> [lv (Aj false s),lv (AZ ⟨k,i,v,a,b,n⟩),lv (Aj true Av),lv [iN 0,iN 0,.own 1 0 []],lv [iN s.keep,iN s.sS,.tok 5 0 8 0 s.sQ.length,.tok 6 0 12 0 s.sR.length],lv (Aa As (s.sQ.set kk w)),lv (Aa (Af true) s.sR)]) (λw=>p=DE {s with sQ:=s.sQ.set kk w}) ?_ ?_
 .refine zb ?_;by_cases ka:k=14
  .subst ka;refine y2 ?_;cases ht:s.sQ[kk].tag
   .rw[zM (by rw[ht];simp),zM zS,zM zS] at hp;refine th (an hkk (an f6 ht)) ?_;have e6:=PY true s.sQ kk hkk;refine BS (an hkk (hfv trivial)) ?_;intro K hK;refine⟨zO,?_⟩;refine zk ?_;rw[e6];refine⟨_,by rw[hp],?_⟩;exact sU (k:=7) zK (by simp[Av,e3]) zS zS zS zS
   .have hpe:p=AE s 4:=by rw[hp,zP ⟨rfl,ht⟩]
    refine yl (an hkk (an f6 ht)) ?_;intro K hK;refine tg (Ei s 4) zS ?_;refine xU ?_;simp[hpe,AE]
  refine xO ka ?_;by_cases kb:k=15
  .subst kb;refine y2 ?_;cases ht:s.sQ[kk].tag
   .have hpe:p=AE s 6:=by rw[hp,zM zS,zP ⟨rfl,ht⟩]
    refine yl (an hkk (an f6 ht)) ?_;intro K hK;refine tg (Ei s 6) zS ?_;refine xU ?_;simp[hpe,AE]
   .rw[zM zS,zM (by rw[ht];simp),zM zS] at hp;refine th (an hkk (an f6 ht)) ?_;have e6:=PY false s.sQ kk hkk;refine BS (an hkk (hfv trivial)) ?_;intro K hK;refine⟨zO,?_⟩;refine zk ?_;rw[e6];refine⟨_,by rw[hp],?_⟩;exact sU (k:=7) zK (by simp[Av,e3]) zS zS zS zS
  have kc:k=16:=zO;subst kc;refine y2 ?_;rw[zM zS,zM zS] at hp;have spL:=HL s hs;cases ht:s.sQ[kk].tag
  .by_cases cl:v=At s.sQ
   .have hpe:p=AE s 6:=by rw[hp,zP ⟨rfl,.inr cl⟩]
    refine Dy (an hkk (an f6 ht)) ?_;intro K hK;refine s6 spL (by simp) (by simp) ?_;refine xK cl ?_;refine yy ?_;intro K hK;refine tg (Ei s 6) zS ?_;refine xU ?_;simp[hpe,AE]
   .rw[zM (by rw[ht];simp[cl])] at hp;refine Dy (an hkk (an f6 ht)) ?_;intro K hK;refine s6 spL (by simp) (by simp) ?_;refine x5 cl ?_;have e6:=Tm true s.sQ kk hkk;refine BS (an hkk (hfv trivial)) ?_;intro K hK;refine⟨zO,?_⟩;refine zk ?_;rw[e6];refine⟨_,by rw[hp],?_⟩;exact sU (k:=7) zK (by simp[Av,ht]) zS zS zS zS
  .have hpe:p=AE s 6:=by rw[hp,zP ⟨rfl,.inl ht⟩]
   refine zh (an hkk (an f6 ht)) ?_;refine yy ?_;intro K hK;refine tg (Ei s 6) zS ?_;refine xU ?_;simp[hpe,AE]
 rintro w hw;refine zs ?_;refine W.weak (sX 3 2) ?_;refine zr ?_;simp[hw,DE];rw[uM zS]
def MQ (k:Int):Prop:=k=6\/k=11\/k=12\/k=17\/k=18
instance (k:Int):Decidable (MQ k):=inferInstanceAs (Decidable (_\/_))
def Es (o:Cy):Cy:=⟨o.kind,if EL o.kind then o.s else 0,if EY o.kind then o.v else 0,if GU o.kind then o.a else 0,if GU o.kind then o.b else 0,if MQ o.kind then o.n else 0⟩
theorem fM (o:Cy) (hk:B8 o.kind 1 18) (h11:o.kind=11->1<=o.a/\o.a<=6):DV o↔¬((EY o.kind/\¬(1<=o.v/\o.v<=1048576))\/(o.kind=17/\¬(1<=o.n/\o.n<=8))\/(o.kind=6/\¬(0<=o.n/\o.n<=16)))/\
 (o=Es o/\(0<=o.s/\o.s<=2)/\(-1073741824<=o.a/\o.a<=1073741824)/\(-1073741824<=o.b/\o.b<=1073741824)/\(0<=o.n/\o.n<=1000)):=by
 obtain⟨kd,os,ov,oa,ob,on⟩:=o;simp only at hk h11 |-;obtain⟨k1,k2⟩:=hk;have hkd:kd=1\/kd=2\/kd=3\/kd=4\/kd=5\/kd=6\/kd=7\/kd=8\/kd=9\/kd=10\/kd=11\/kd=12\/kd=13\/kd=14\/kd=15\/kd=16\/kd=17\/kd=18:=zO;unfold DV Es;simp only[Cy.mk.injEq];rcases hkd with e|e|e|e|e|e|e|e|e|e|e|e|e|e|e|e|e|e<;>subst e<;>simp[EL,EY,GU,MQ,Gf,B8] at h11 |-<;>omega
theorem hG (o:Cy):Ac pg 16 [.agg (AZ o)] [] (λr _=>r= .bool (decide (DV o))):=by
 obtain⟨kd,os,ov,oa,ob,on⟩:=o;refine zE (fn:=Tryz.f16) [.tmp 2] ?_;rw[AC];refine AX ?_;refine x6 ?_;refine zw ?_;refine s5 (λ_:Unit=> [(1,pt 0),(2,.bool false),(3,pt 1)]) (λ_=> [lv (AZ ⟨kd,os,ov,oa,ob,on⟩),lv (AZ (Es ⟨kd,os,ov,oa,ob,on⟩))]) (λ_=>B8 kd 1 18/\(kd=11->1<=oa/\oa<=6)) ?_ ?_
 .refine zb ?_;by_cases kk:kd=1
  .refine zg kk ?_;have hm:Es ⟨kd,os,ov,oa,ob,on⟩=⟨kd,0,0,0,0,0⟩:=by subst kk;unfold Es;simp[EL,EY,GU,MQ,B8]
   refine y2 ?_;exact⟨(),⟨by unfold B8;omega,zO⟩,sU (k:=2) zK (by rw[hm];simp[kk]) zS zS zS zS⟩
  have k1:=kk;refine th kk ?_;refine zw ?_;refine s5 (λq:Bool=> [(1,pt 0),(2,.bool false),(3,pt 1),(9,iN kd),(12,.bool q)]) (λ_=> [lv (AZ ⟨kd,os,ov,oa,ob,on⟩),lv (AZ ⟨kd,0,0,0,0,0⟩)]) (λq=>q=decide (kd=2\/kd=4\/kd=5\/kd=9\/kd=10)) ?_ ?_
  .refine zc ?_ ?_<;>intro h
   .have e:=h;refine W.skip ?_;exact⟨decide (kd=2),by simp[e],Wk.fr zK⟩
   .have e0:=h;refine zs ?_;refine zc ?_ ?_<;>intro h
    .have e:=h;refine W.skip ?_;exact⟨decide (kd=4),by simp[e,e0],Wk.fr zK⟩
    .have e1:=h;refine zs ?_;refine zc ?_ ?_<;>intro h
     .have e:=h;refine W.skip ?_;exact⟨decide (kd=5),by simp[e,e0,e1],Wk.fr zK⟩
     .have e2:=h;refine zs ?_;refine zc ?_ ?_<;>intro h
      .have e:=h;refine W.skip ?_;exact⟨decide (kd=9),by simp[e,e0,e1,e2],Wk.fr zK⟩
      .have e3:=h;refine zs ?_;exact⟨decide (kd=10),by simp[e0,e1,e2,e3],Wk.fr zK⟩
  rintro q rfl;by_cases kk:kd=2\/kd=4\/kd=5\/kd=9\/kd=10
  .rw[zT kk];have hm:Es ⟨kd,os,ov,oa,ob,on⟩=⟨kd,os,0,0,0,0⟩:=by unfold Es;rcases kk with e|e|e|e|e<;>subst e<;>simp[EL,EY,GU,MQ,B8]
   refine y2 ?_;exact⟨(),⟨by unfold B8;omega,zO⟩,sU (k:=2) zK (by simp[hm,kk]) zS zS zS zS⟩
  have k12:=kk;rw[zV kk];refine yt ?_;refine s5 (λq:Bool=> [(1,pt 0),(2,.bool false),(3,pt 1),(9,iN kd),(21,.bool q)]) (λ_=> [lv (AZ ⟨kd,os,ov,oa,ob,on⟩),lv (AZ ⟨kd,0,0,0,0,0⟩)]) (λq=>q=decide (kd=3\/kd=13)) ?_ ?_
  .refine zc ?_ ?_<;>intro h
   .have e:=h;refine W.skip ?_;exact⟨decide (kd=3),by simp[e],Wk.fr zK⟩
   .have e0:=h;refine zs ?_;exact⟨decide (kd=13),by simp[e0],Wk.fr zK⟩
  rintro q rfl;by_cases kk:kd=3\/kd=13
  .rw[zT kk];have hm:Es ⟨kd,os,ov,oa,ob,on⟩=⟨kd,os,ov,0,0,0⟩:=by unfold Es;rcases kk with e|e<;>subst e<;>simp[EL,EY,GU,MQ,B8]
   refine zt ?_;(repeat refine ta ?_);refine tj 0 [(26,28),(26,25)] rfl true Df AK λK hK=>?_;simp -implicitDefEqProofs (disch:=omega);(repeat refine⟨by first|assumption|omega,?_⟩);refine hK _ _ (by simp(disch:=omega)) ?_;clear hK K;exact⟨(),⟨by unfold B8;omega,zO⟩,sU (k:=2) zK (by simp[hm,kk]) zS zS zS zS⟩
  have k21:=kk;rw[zV kk];refine yt ?_;refine s5 (λq:Bool=> [(1,pt 0),(2,.bool false),(3,pt 1),(9,iN kd),(30,.bool q)]) (λ_=> [lv (AZ ⟨kd,os,ov,oa,ob,on⟩),lv (AZ ⟨kd,0,0,0,0,0⟩)]) (λq=>q=decide (kd=6\/kd=12)) ?_ ?_
  .refine zc ?_ ?_<;>intro h
   .have e:=h;refine W.skip ?_;exact⟨decide (kd=6),by simp[e],Wk.fr zK⟩
   .have e0:=h;refine zs ?_;exact⟨decide (kd=12),by simp[e0],Wk.fr zK⟩
  rintro q rfl;by_cases kk:kd=6\/kd=12
  .rw[zT kk];have hm:Es ⟨kd,os,ov,oa,ob,on⟩=⟨kd,os,0,0,0,on⟩:=by unfold Es;rcases kk with e|e<;>subst e<;>simp[EL,EY,GU,MQ,B8]
   refine zt ?_;(repeat refine ta ?_);refine tj 0 [(35,37),(35,34)] rfl true Df AK λK hK=>?_;simp -implicitDefEqProofs (disch:=omega);(repeat refine⟨by first|assumption|omega,?_⟩);refine hK _ _ (by simp(disch:=omega)) ?_;clear hK K;exact⟨(),⟨by unfold B8;omega,zO⟩,sU (k:=2) zK (by simp[hm,kk]) zS zS zS zS⟩
  have k30:=kk;rw[zV kk];refine yt ?_;refine s5 (λq:Bool=> [(1,pt 0),(2,.bool false),(3,pt 1),(9,iN kd),(39,.bool q)]) (λ_=> [lv (AZ ⟨kd,os,ov,oa,ob,on⟩),lv (AZ ⟨kd,0,0,0,0,0⟩)]) (λq=>q=decide (kd=7\/kd=8)) ?_ ?_
  .refine zc ?_ ?_<;>intro h
   .have e:=h;refine W.skip ?_;exact⟨decide (kd=7),by simp[e],Wk.fr zK⟩
   .have e0:=h;refine zs ?_;exact⟨decide (kd=8),by simp[e0],Wk.fr zK⟩
  rintro q rfl;by_cases kk:kd=7\/kd=8
  .rw[zT kk];have hm:Es ⟨kd,os,ov,oa,ob,on⟩=⟨kd,os,0,oa,ob,0⟩:=by unfold Es;rcases kk with e|e<;>subst e<;>simp[EL,EY,GU,MQ,B8]
   refine zt ?_;(repeat refine ta ?_);refine tj 0 [(44,48),(44,43),(46,48),(46,43),(46,49),(46,45)] rfl true Df AK λK hK=>?_;simp -implicitDefEqProofs (disch:=omega);(repeat refine⟨by first|assumption|omega,?_⟩);refine hK _ _ (by simp(disch:=omega)) ?_;clear hK K;exact⟨(),⟨by unfold B8;omega,zO⟩,sU (k:=2) zK (by simp[hm,kk]) zS zS zS zS⟩
  have k39:=kk;rw[zV kk];refine zn ?_;by_cases kk:kd=11
  .have spB:=Dn oa 1 6;refine xP kk ?_;(repeat refine ta ?_);refine tj 0 [(55,61),(55,54),(57,61),(57,54),(59,61),(59,54),(57,62),(57,56),(59,62),(59,56),(59,63),(59,58)] rfl true Df AK λK hK=>?_;simp -implicitDefEqProofs (disch:=omega);(repeat refine⟨by first|assumption|omega,?_⟩);refine hK _ _ (by simp(disch:=omega)) ?_;clear hK K;by_cases c6:1<=oa/\oa<=6
   .have hm:Es ⟨kd,os,ov,oa,ob,on⟩=⟨kd,os,0,oa,ob,on⟩:=by subst kk;unfold Es;simp[EL,EY,GU,MQ,B8]
    rw[zT c6] at spB;refine ym spB ?_;exact⟨(),⟨by unfold B8;omega,λ_=>c6⟩,sU (k:=2) zK (by rw[hm];simp[kk]) zS zS zS zS⟩
   .rw[zV c6] at spB;refine AL spB ?_;refine AJ ?_;intro hO;unfold DV at hO;obtain⟨_,_,_,_,hA⟩:=hO;simp only[kk] at hA;rw[zP zD] at hA;have:=hA.2.2 (by first|rfl|trivial);exact c6 ⟨this.1,this.2⟩
  have k11:=kk;refine th kk ?_;refine zw ?_;refine s5 (λq:Bool=> [(1,pt 0),(2,.bool false),(3,pt 1),(9,iN kd),(69,.bool q)]) (λ_=> [lv (AZ ⟨kd,os,ov,oa,ob,on⟩),lv (AZ ⟨kd,0,0,0,0,0⟩)]) (λq=>q=decide (kd=14\/kd=15\/kd=16)) ?_ ?_
  .refine zc ?_ ?_<;>intro h
   .have e:=h;refine W.skip ?_;exact⟨decide (kd=14),by simp[e],Wk.fr zK⟩
   .have e0:=h;refine zs ?_;refine zc ?_ ?_<;>intro h
    .have e:=h;refine W.skip ?_;exact⟨decide (kd=15),by simp[e,e0],Wk.fr zK⟩
    .have e1:=h;refine zs ?_;exact⟨decide (kd=16),by simp[e0,e1],Wk.fr zK⟩
  rintro q rfl;by_cases kk:kd=14\/kd=15\/kd=16
  .rw[zT kk];have hm:Es ⟨kd,os,ov,oa,ob,on⟩=⟨kd,0,ov,0,0,0⟩:=by unfold Es;rcases kk with e|e|e<;>subst e<;>simp[EL,EY,GU,MQ,B8]
   refine y2 ?_;exact⟨(),⟨by unfold B8;omega,zO⟩,sU (k:=2) zK (by simp[hm,kk]) zS zS zS zS⟩
  have k69:=kk;rw[zV kk];refine yt ?_;refine s5 (λq:Bool=> [(1,pt 0),(2,.bool false),(3,pt 1),(9,iN kd),(76,.bool q)]) (λ_=> [lv (AZ ⟨kd,os,ov,oa,ob,on⟩),lv (AZ ⟨kd,0,0,0,0,0⟩)]) (λq=>q=decide (kd=17\/kd=18)) ?_ ?_
  .refine zc ?_ ?_<;>intro h
   .have e:=h;refine W.skip ?_;exact⟨decide (kd=17),by simp[e],Wk.fr zK⟩
   .have e0:=h;refine zs ?_;exact⟨decide (kd=18),by simp[e0],Wk.fr zK⟩
  rintro q rfl;by_cases kk:kd=17\/kd=18
  .rw[zT kk];have hm:Es ⟨kd,os,ov,oa,ob,on⟩=⟨kd,0,0,0,0,on⟩:=by unfold Es;rcases kk with e|e<;>subst e<;>simp[EL,EY,GU,MQ,B8]
   refine y2 ?_;exact⟨(),⟨by unfold B8;omega,zO⟩,sU (k:=2) zK (by simp[hm,kk]) zS zS zS zS⟩
  have k76:=kk;rw[zV kk];refine AJ ?_;intro hO;have h1:=hO.1.1;have h2:=hO.1.2;simp only at h1 h2;omega
 rintro _ ⟨hk,h11⟩;have hiff:=fM ⟨kd,os,ov,oa,ob,on⟩ hk h11;simp only at hiff;obtain⟨m,hmd⟩:∃m,m=Es ⟨kd,os,ov,oa,ob,on⟩:=zX;rw[<-hmd] at hiff |-;have spK:=Dn kd 13 16;have spV:=Dn ov 1 1048576;have spN:=Dn on 1 8;have spG:=FS on 16;refine zw ?_;refine s5 (λq:Bool=> [(1,pt 0),(2,.bool false),(3,pt 1),(4,.bool q)]) (λ_=> [lv (AZ ⟨kd,os,ov,oa,ob,on⟩),lv (AZ m)]) (λq=>q=decide (EY kd)) ?_ ?_
 .by_cases c3:kd=3
  .refine zg c3 ?_;exact⟨true,by simp[EY,c3],sU (k:=2) zK (by simp[c3]) zS zS zS zS⟩
  .by_cases c13:13<=kd/\kd<=16
   .rw[zT c13] at spK;refine GL c3 spK ?_;exact⟨true,by simp[EY,B8,c3,c13],sU (k:=2) zK (by simp[c3]) zS zS zS zS⟩
   .rw[zV c13] at spK;refine GL c3 spK ?_;refine⟨false,?_,sU (k:=2) zK (by simp[c3]) zS zS zS zS⟩;symm;rw[decide_eq_false_iff_not];rintro(h|h)
    .exact c3 h
    .exact c13 h
 rintro q rfl;refine zw ?_;refine s5 (λq:Bool=> [(1,pt 0),(2,.bool false),(3,pt 1),(118,.bool q)]) (λ_=> [lv (AZ ⟨kd,os,ov,oa,ob,on⟩),lv (AZ m)]) (λq=>q=decide ((EY kd/\¬(1<=ov/\ov<=1048576))\/(kd=17/\¬(1<=on/\on<=8))\/(kd=6/\¬(0<=on/\on<=16)))) ?_ ?_
 .by_cases v1:EY kd
  .rw[zT v1];have n17:¬kd=17:=λe=>by rw[e] at v1;exact absurd v1 zD
   have n6:¬kd=6:=λe=>by rw[e] at v1;exact absurd v1 zD
   by_cases v2:1<=ov/\ov<=1048576
   .rw[zT v2] at spV;refine z0 ?_;intro K hK;refine sW spV (by simp) (by simp) ?_;refine xK (an n17 n6) ?_;refine⟨false,?_,sU (k:=2) zK zS zS zS zS zS⟩;symm;rw[decide_eq_false_iff_not];rintro(h|h|h)
    .exact h.2 v2
    .exact n17 h.1
    .exact n6 h.1
   .rw[zV v2] at spV;refine AL spV ?_;refine⟨true,?_,sU (k:=2) zK zS zS zS zS zS⟩;symm;rw[decide_eq_true_iff];exact .inl ⟨v1,v2⟩
  .rw[zV v1];by_cases n17:kd=17
   .have n6:¬kd=6:=zO;by_cases n2:1<=on/\on<=8
    .rw[zT n2] at spN;refine BS n17 ?_;intro K hK;refine sW spN (by simp) (by simp) ?_;refine xK n17 ?_;refine⟨false,?_,sU (k:=2) zK (by simp[n17]) zS zS zS zS⟩;symm;rw[decide_eq_false_iff_not];rintro(h|h|h)
     .exact v1 h.1
     .exact h.2 n2
     .exact n6 h.1
    .rw[zV n2] at spN;refine BS n17 ?_;intro K hK;refine sW spN (by simp) (by simp) ?_;refine xK n17 ?_;refine⟨true,?_,sU (k:=2) zK (by simp[n17]) zS zS zS zS⟩;symm;rw[decide_eq_true_iff];exact .inr (.inl ⟨n17,n2⟩)
   .by_cases n6:kd=6
    .by_cases n2:0<=on/\on<=16
     .rw[zT n2] at spG;refine GL (an n17 n6) spG ?_;refine⟨false,?_,sU (k:=2) zK (by simp[n17,n6]) zS zS zS zS⟩;symm;rw[decide_eq_false_iff_not];rintro(h|h|h)
      .exact v1 h.1
      .exact n17 h.1
      .exact h.2 n2
     .rw[zV n2] at spG;refine GL (an n17 n6) spG ?_;refine⟨true,?_,sU (k:=2) zK (by simp[n17,n6]) zS zS zS zS⟩;symm;rw[decide_eq_true_iff];exact .inr (.inr ⟨n6,n2⟩)
    .refine zg (an n17 n6) ?_;refine⟨false,?_,sU (k:=2) zK (by simp[n17,n6]) zS zS zS zS⟩;symm;rw[decide_eq_false_iff_not];rintro(h|h|h)
     .exact v1 h.1
     .exact n17 h.1
     .exact n6 h.1
 rintro q rfl;by_cases cb:(EY kd/\¬(1<=ov/\ov<=1048576))\/(kd=17/\¬(1<=on/\on<=8))\/(kd=6/\¬(0<=on/\on<=16))
 .rw[zT cb];refine AJ ?_;rw[hiff];exact λh=>h.1 cb
 rw[zV cb];simp only[cb,not_false_eq_true,true_and] at hiff;have spS:=FS os 2;have spA:=Dn oa (-1073741824) 1073741824;have spB:=Dn ob (-1073741824) 1073741824;have spM:=FS on 1000;refine y2 ?_;have hmk:m.kind=kd:=by rw[hmd];rfl
 by_cases es:os=m.s;rotate_left
 .refine xQ (an hmk es) ?_;rw[hiff];intro hO;exact es (congrArg Cy.s hO.1)
 have rs:m.s=os:=es.symm;by_cases ev:ov=m.v;rotate_left
 .refine xQ (an hmk (an rs ev)) ?_;rw[hiff];intro hO;exact ev (congrArg Cy.v hO.1)
 have rv:m.v=ov:=ev.symm;by_cases ea:oa=m.a;rotate_left
 .refine xQ (an hmk (an rs (an rv ea))) ?_;rw[hiff];intro hO;exact ea (congrArg Cy.a hO.1)
 have ra:m.a=oa:=ea.symm;by_cases eb:ob=m.b;rotate_left
 .refine xQ (an hmk (an rs (an rv (an ra eb)))) ?_;rw[hiff];intro hO;exact eb (congrArg Cy.b hO.1)
 have rb:m.b=ob:=eb.symm;by_cases en:on=m.n;rotate_left
 .refine xQ (an hmk (an rs (an rv (an ra (an rb en))))) ?_;rw[hiff];intro hO;exact en (congrArg Cy.n hO.1)
 have rn:m.n=on:=en.symm;have em:(⟨kd,os,ov,oa,ob,on⟩:Cy)=m:=Cy.ext hmk.symm es ev ea eb en;clear rs rv ra rb rn es ev ea eb en hmk;subst em;by_cases cS:0<=os/\os<=2;rotate_left
 .rw[zV cS] at spS;refine yj spS ?_;rw[hiff];intro hO;exact cS hO.2.1
 rw[zT cS] at spS;by_cases cA:-1073741824<=oa/\oa<=1073741824;rotate_left
 .rw[zV cA] at spA;refine Hm spS spA ?_;refine zr ?_;rw[hiff];intro hO;exact cA hO.2.2.1
 rw[zT cA] at spA;by_cases cB:-1073741824<=ob/\ob<=1073741824;rotate_left
 .rw[zV cB] at spB;refine nA spS spA spB ?_;refine zr ?_;rw[hiff];intro hO;exact cB hO.2.2.2.1
 rw[zT cB] at spB;by_cases cM:0<=on/\on<=1000;rotate_left
 .rw[zV cM] at spM;refine z0 ?_;intro K hK;refine zj spS ?_;refine zj spA ?_;refine zj spB ?_;refine xN spM ?_;refine zr ?_;rw[hiff];intro hO;exact cM hO.2.2.2.2
 rw[zT cM] at spM;refine z0 ?_;intro K hK;refine zj spS ?_;refine zj spA ?_;refine zj spB ?_;refine xN spM ?_;refine zr ?_;rw[hiff];exact⟨rfl,cS,cA,cB,cM⟩
theorem dq {M:List Ag} {B v u:Nat} {cs ds:List AV} (h:Ah M B v=some cs):Ah (M.set B (.live u ds)) B u=some ds:=by
 have hl:B<M.length:=by
  rcases Nat.lt_or_ge B M.length with h' |h'
  .exact h'
  .simp[Ah,List.getElem?_eq_none h'] at h
 simp[Ah,hl]
section
variable {P:Program} {T:Nat->Option TI} {p:Nat} {F:Fr} {M:List Ag} {Q:Cj} {c:Code}
theorem tD {B:Nat} {s:An} (hb:Ah M B 0=some (Aj true s)) (k:WX P T p c F (M.set B (lv (Aj false s))) Q):WX P T p c F M Q:=by
 refine tH (j:=2) (x:=GF true s.sQ) hb rfl ?_;refine tH (j:=3) (x:=KV true s.sR) (dq hb) rfl ?_;rw[List.set_set];have e:((Aj true s).set 2 (Gd (GF true s.sQ))).set 3 (Gd (KV true s.sR))=Aj false s:=zS;rw[e];exact k
theorem t8 {B:Nat} {s:An} {m:Bool} (hb:Ah M B 0=some (Aj m s)) (k:WX P T p c F (M.set B (lv (Aj false s))) Q):WX P T p c F M Q:=by
 cases m
 .have e:M.set B (lv (Aj false s))=M:=by
   refine List.ext_getElem? λj=>?_;by_cases h:B=j
   .subst h;unfold Ah at hb;rw[List.getElem?_set];split at hb
    .rename_i u cs hM;split at hb
     .rename_i hu;simp at hb;subst hb;subst hu;have hl:=(List.getElem?_eq_some_iff.1 hM).1;rw[zP rfl,zP hl,hM];rfl
     .simp at hb
    .simp at hb
   .rw[List.getElem?_set_ne h]
  rw[e] at k;exact k
 .exact tD hb k
theorem ua {B:Nat} {r:HA} (hb:Ah M B 0=some (Fm true r)) (k:WX P T p c F (M.set B (lv (Fm false r))) Q):WX P T p c F M Q:=by
 refine tH (j:=2) (x:=DB true r.list) hb rfl ?_;have e:(Fm true r).set 2 (Gd (DB true r.list))=Fm false r:=zS;rw[e];exact k
end
theorem NO (hR:BK) (S:An) (O:List Cy) (hS:Ji S) (hO:O.length<Gw):Ac pg 7 [.agg (Bo S O)] [] (λr _=>r= .bool true):=by
 have spH:=XS S O hS hO;have spW:=XT hR;refine Ac.mono (Q:=λr _=>∃b,r= .bool b/\b=true) ?_ (by rintro r _ ⟨b,rfl,rfl⟩;rfl);simp only[Gw] at hO;simp only[Bo,Aj,vF,vU] at spH |-;refine zE (fn:=Tryz.f7) [.tmp 2] ?_;refine uK ?_ rfl rfl;rw[AC];refine w1 ?_;intro K hK;refine zk ?_;refine w0 ?_;intro K hK;refine tr spH zS ?_;rintro r ⟨b,rfl,hb⟩;refine⟨zS,?_⟩;cases b;rotate_left
 .refine Am ?_;refine wt ?_;refine ws ?_;refine tE ?_;(try simp only[B6,C0]);exact⟨by trivial,zS,true,zS,rfl⟩
 obtain⟨hS1,hO2⟩:=hb rfl;obtain⟨hSi,hSx⟩:=Zy (hS1.mono (by omega:700<=1500));refine Am ?_;refine wn ?_;refine WX.skip ?_;have h10:∀c:An,((Aa As c.sQ).drop 0).take (c.sQ.length*8)=Aa As c.sQ:=λc=>uM (by rw[xc,Bk (f:=As) (s:=8) zL];omega);have h11:∀c:An,((Aa (Af true) c.sR).drop 0).take (c.sR.length*12)=Aa (Af true) c.sR:=λc=>uM (by rw[xc,Bk (f:=Af true) (s:=12) zL];omega);have h12:∀l:List Int,((Ab l).drop 0).take (l.length*1)=Ab l:=λl=>uM zS;have spC0:=Ga S hSi hSx;refine w1 ?_;intro K hK;refine tg spC0 zS ?_;refine Am ?_;refine ws ?_;refine WX.weak (Wk.inn 1 2) ?_;refine WX.weak (Wk.inn 1 3) ?_;refine WX.weak (sU (S:=[(1,pt 0),(3,pt 1),(4,iN 0)]) (M:=[lv (Bo S O),lv (Aj true S)]) (k:=2) zK (by simp[h10,h11,Bo]) zS zS (by simp[Bo]) zS) ?_;refine tD (B:=1) (s:=S) zF ?_;refine wb ?_;refine tZ (λz:Nat×An=> [(1,pt 0),(3,pt 1),(4,iN z.1)]) (λz=> [lv (Bo S O),lv (Aj false z.2)]) (λz=>O.length-z.1) (λz=>z.1<=O.length/\A0 z.2/\BO z.2) (0,S) (Wk.fr zK) ⟨zO,hSi,hSx⟩ ?_;rintro⟨i,s⟩ ⟨hi,hsi,hsx⟩;simp only at hi hsi hsx |-;simp only[Bo,Aj,vF,vU];by_cases c:i<O.length/\i<16;rotate_left
 .refine ww ?_;refine tF (λ_:Unit=> [(25,.bool false)]) (λ_=> []) (λ_=>True) ?_ ?_
  .by_cases d1:i<O.length
   .have d2:¬(i:Int)<16:=zO;refine Qc (an d1 d2) ?_;intro K hK;refine zk ?_;exact⟨(),trivial,sU (k:=0) zK zS zS zS zS zS⟩
   .refine Qc d1 ?_;intro K hK;refine zk ?_;exact⟨(),trivial,sU (k:=0) zK zS zS zS zS zS⟩
  rintro _ _;refine wn ?_;refine tR ?_;refine w0 ?_;intro K hK;refine sW spW (by simp) (by simp) ?_;refine Am ?_;refine tE ?_;(try simp only[B6,C0]);exact⟨by trivial,zS,true,zS,rfl⟩
 obtain⟨d1,d2⟩:=c;have d2' :(i:Int)<16:=zO;have spC:=Ga s hsi hsx;have spD:=Rf hR s O[i] hsi hsx;have spS:=YQ s hsi hsx;have spO:=hG O[i];obtain⟨q,hq⟩:∃q:An×HA,q=if A2 s/\DV O[i] then D6 s O[i] else(Av,⟨0,0,[]⟩):=zX
 obtain⟨e,he⟩:∃e:Int,e=if A2 s/\DV O[i] then 0 else 1:=zX
 have hqD:(if A2 s/\DV O[i] then [.agg (Aj true (D6 s O[i]).1),.agg (Fm true (D6 s O[i]).2),iN 0] else [.agg (Aj true Av),.agg (Fm true ⟨0,0,[]⟩),iN 1])=[AV.agg (Aj true q.1),.agg (Fm true q.2),iN e]:=by
  rw[hq,he];split<;>rfl
 rw[hqD] at spD;have hqi:A0 q.1/\BO q.1:=by
  rw[hq];split
  .rename_i hh;exact Rg (Tf hh.1 hh.2)
  .exact⟨⟨by simp[Av],by simp[Av],by simp[Av]⟩,by simp[BO,Av]⟩
 have hql:q.2.list.length<1000000:=by
  rw[hq];split
  .rename_i hh;exact dc hh.1 hh.2
  .simp
 obtain⟨o,ho⟩:∃o,o=O[i]:=zX;have f1:(Aa AZ O)[i*6+1]?=some (iN o.s):=by rw[ho];exact Au (f:=AZ) (s:=6) zL d1 (i:=1) zO
 have f2:(Aa AZ O)[i*6+1+1]?=some (iN o.v):=by rw[ho];exact Au (f:=AZ) (s:=6) zL d1 (i:=2) zO
 have f3:(Aa AZ O)[i*6+1+1+1]?=some (iN o.a):=by rw[ho];exact Au (f:=AZ) (s:=6) zL d1 (i:=3) zO
 have f4:(Aa AZ O)[i*6+1+1+1+1]?=some (iN o.b):=by rw[ho];exact Au (f:=AZ) (s:=6) zL d1 (i:=4) zO
 have f5:(Aa AZ O)[i*6+1+1+1+1+1]?=some (iN o.n):=by rw[ho];exact Au (f:=AZ) (s:=6) zL d1 (i:=5) zO
 have f0:(Aa AZ O)[i*6]?=some (iN o.kind):=by rw[ho];exact Au (f:=AZ) (s:=6) zL d1 (i:=0) zO
 rw[<-ho] at spD spO hq he;refine Qc (an d1 d2') ?_;intro K hK;refine zk ?_;refine wt ?_;refine WX.skip ?_;refine wb ?_;refine w1 ?_;intro K hK;refine tg spC zS ?_;refine Am ?_;(repeat refine tp ?_);refine tS 2 rfl true Df AK λK hK=>?_;simp -implicitDefEqProofs (disch:=omega) [d1,f0,f1,f2,f3,f4,f5];refine s6 spD (by simp) (by simp) ?_;refine Am ?_;refine ws ?_;refine w1 ?_;intro K hK;refine zk ?_;refine w1 ?_;intro K hK;refine zk ?_;refine ww ?_;refine tF (λz:Bool=> [(1,pt 0),(3,pt 1),(4,iN i),(5,pt 2),(6,pt 5),(7,pt 6),(8,iN e),(9,iN 1),(10,pt 10),(11,pt 11),(50,.bool z)]) (λ_=> [lv (Bo S O),lv (Aj false s),lv [iN s.keep,iN s.sS,.tok 3 0 8 0 s.sQ.length,.tok 4 0 12 0 s.sR.length],lv (Aa As s.sQ),lv (Aa (Af true) s.sR),lv [iN q.1.keep,iN q.1.sS,.tok 7 0 8 0 q.1.sQ.length,.tok 8 0 12 0 q.1.sR.length],lv [iN q.2.err,iN q.2.n,.tok 9 0 1 0 q.2.list.length],lv (Aa As q.1.sQ),lv (Aa (Af true) q.1.sR),lv (Ab q.2.list),lv (Aj true Av),lv [iN 0,iN 0,.own 1 0 []]]) (λz=>z=decide (A2 s/\DV o)) ?_ ?_
 .by_cases ks:A2 s
  .rw[zT ks] at spS;refine w0 ?_;intro K hK;refine sW spS (by simp) (by simp) ?_;refine AO (an d1 (an f0 (an f1 (an f2 (an f3 (an f4 f5)))))) ?_;refine sW spO (by simp) (by simp) ?_;refine Am ?_;exact⟨decide (DV o),by simp[ks],sU (k:=12) zK (by simp[Av,Bo]) zS zS (by simp[Bo]) zS⟩
  .rw[zV ks] at spS;refine w0 ?_;intro K hK;refine sW spS (by simp) (by simp) ?_;refine Am ?_;exact⟨false,by simp[ks],sU (k:=12) zK (by simp[Av,Bo]) zS zS (by simp[Bo]) zS⟩
 rintro z rfl;refine ww ?_;refine tF (λ_:Bool=> [(1,pt 0),(3,pt 1),(4,iN i),(5,pt 2),(6,pt 5),(7,pt 6),(8,iN e),(9,iN e),(10,pt 10),(11,pt 11)]) (λm=> [lv (Bo S O),lv (Aj false s),lv [iN s.keep,iN s.sS,.tok 3 0 8 0 s.sQ.length,.tok 4 0 12 0 s.sR.length],lv (Aa As s.sQ),lv (Aa (Af true) s.sR),lv [iN q.1.keep,iN q.1.sS,.tok 7 0 8 0 q.1.sQ.length,.tok 8 0 12 0 q.1.sR.length],lv [iN q.2.err,iN q.2.n,.tok 9 0 1 0 q.2.list.length],lv (Aa As q.1.sQ),lv (Aa (Af true) q.1.sR),lv (Ab q.2.list),lv (Aj m q.1),lv (Fm true q.2)]) (λ_=>True) ?_ ?_
 .by_cases hok:A2 s/\DV o
  .rw[zT hok];rw[zP hok] at hq he;have spR:=g9 s o hsi hsx hok.1 hok.2;rw[<-hq] at spR;subst he;simp only[Bo,Aj,vF,vU];refine wt ?_;refine ws ?_;refine kg (an d1 (an f0 (an f1 (an f2 (an f3 (an f4 f5)))))) ?_;intro K hK;refine⟨_,_,spR,(λh=>by cases h),.inr ⟨zS,?_⟩⟩;rintro r (rfl|rfl)
   .refine Am ?_;refine⟨false,trivial,?_⟩;refine(Wk.inn 11 2).trans ?_;exact sU (k:=12) zK (by simp[h12,Bo]) zS zS (by simp[Bo]) zS
   .refine Am ?_;refine⟨true,trivial,?_⟩;refine(Wk.inn 10 2).trans ?_;refine(Wk.inn 10 3).trans ?_;refine(Wk.inn 11 2).trans ?_;exact sU (k:=12) zK (by simp[h10,h11,h12,Bo]) zS zS (by simp[Bo]) zS
  .rw[zV hok];rw[zM hok] at hq he;refine wn ?_;refine WX.skip ?_;exact⟨true,trivial,sU (k:=12) (by simp[AA,he]) (by simp[hq,Av,Bo]) zS zS (by simp[Bo]) zS⟩
 rintro m _;refine t8 (B:=10) (s:=q.1) (m:=m) zF ?_;refine ua (B:=11) (r:=q.2) zF ?_;simp only[wu,vQ,Bo,Aj,vF,vU];have spN:=Nl e;have spER:=XV q.2 q.2 zO;have spE1:=Qu q.1 q.1 ⟨by have:=hqi.1.1;omega,by have:=hqi.1.2.1;omega,hqi.2⟩;have spE2:=Qu s s ⟨by have:=hsi.1;omega,by have:=hsi.2.1;omega,hsx⟩;have spV1:=Zx s q.1 hsi;have spV2:=ZA s q.1 hsi;rw[zT rfl] at spER spE1 spE2;obtain⟨sv,hsv⟩:∃sv,sv=ML s q.1:=zX;rw[<-hsv] at spV1 spV2;refine nC ?_;intro K hK;refine s6 spN (by simp) (by simp) ?_;refine zx ?_;refine s6 spER (by simp) (by simp) ?_;refine zx ?_;refine s6 spE1 (by simp) (by simp) ?_;refine zx ?_;refine s6 spE2 (by simp) (by simp) ?_;refine zx ?_;refine s6 spV1 (by simp) (by simp) ?_;refine zx ?_;refine s6 spV2 (by simp) (by simp) ?_;refine Am ?_;refine wn ?_;refine WX.skip ?_;have spC2:=Ga q.1 hqi.1 hqi.2;refine w0 ?_;intro K hK;refine tg spC2 zS ?_;refine Am ?_;have spU:=Zn q.1 0 0 hqi.1 hqi.2;refine w0 ?_;intro K hK;refine sZ [7,8] spU zS zS zS zS ?_;rintro _ _ ⟨rfl,rfl⟩ _;refine⟨zS,zS,?_⟩;refine Am ?_;have spM:=JX q.2.list 0 zO;refine w0 ?_;intro K hK;refine sZ [9] spM zS zS zS zS ?_;rintro _ _ ⟨rfl,rfl⟩ _;refine⟨zS,zS,?_⟩;refine Am ?_;refine w0 ?_;intro K hK;refine sW spE2 (by simp) (by simp) ?_;refine Am ?_;refine wn ?_;refine WX.skip ?_;by_cases ce:e=0
 .refine Qc ce ?_;intro K hK;refine zk ?_;refine wt ?_;refine w0 ?_;intro K hK;refine zk ?_;refine WX.weak (Wk.inn 1 2) ?_;refine WX.weak (Wk.inn 1 3) ?_;refine WX.weak (sU (S:=[(1,pt 0),(3,pt 1),(4,iN i)]) (M:=[lv (Bo S O),lv (Aj true q.1)]) (k:=2) zK (by simp[h10,h11,Bo]) zS zS (by simp[Bo]) zS) ?_;refine tD (B:=1) (s:=q.1) zF ?_;simp only[wu,vQ];refine ws ?_;exact⟨(i+1,q.1),by simp only;omega,⟨by simp only;omega,hqi.1,hqi.2⟩,Wk.fr zK⟩
 .refine Qc ce ?_;intro K hK;refine zk ?_;refine wn ?_;refine WX.skip ?_;refine ws ?_;exact⟨(i+1,s),by simp only;omega,⟨by simp only;omega,hsi,hsx⟩,sU (k:=2) zK (by simp[Bo]) zS zS (by simp[Bo]) zS⟩
open Go.Proofs Go.ChangeShapes Go.WideShapes Go.ChangeAt Go.RowKit
def GC (P:Program) (fn:Func) (s:ChangeSpec) (c:OpenClaim):Bool:=
 c.wf (OpenSpec.ofChange s)&&laidOutB P&&mapsRowed P&&
 fn.params.all (λt=>P.readableRec t)&&namedTie P c.named s.vars&&
 (c.stops==[])&&(P.stops==[])&&(c.knobs==[])&&(P.stopKnobs==[])&&
 (c.maps==(fn.params.toList++s.plain.varTypes P).any (λt=>P.mapsRec t))&&(c.ifaces==(fn.params.toList++s.plain.varTypes P).any (λt=>P.ifacesRec t))&&(c.mapsOut==P.mapsAmong fn.resultTypes.toList)&&
 (c.loops==(fn.params.toList++s.plain.varTypes P).any (λt=>P.loopsFrom t))&&(c.wideKeys==(fn.params.toList++s.plain.varTypes P++fn.resultTypes.toList).any (λt=>P.wideKeysFrom t))&&
 s.vars.all (λt=>P.varReadable t)&&fn.resultTypes.all (λt=>P.readableRec t&&decide (t<P.types.size))&&(c.ifacesOut==fn.resultTypes.toList.any (λt=>P.ifacesRec t))&&(c.loopsOut==fn.resultTypes.toList.any (λt=>P.loopsFrom t))&&(c.plainKeys==P.plainKeys)&&c.shortTexts.isNone&&(c.kinds==(if c.domain.isEmpty then [] else fn.params.toList.map λt=>match P.underlying t with|some (.int k)=>some k|_=>none))&&(c.pinned==c.pinnedBy)&&
 (c.veiled==(fn.params.toList++s.plain.varTypes P++fn.resultTypes.toList).any (λt=>P.veiledRec t))&&c.veiledFits P fn.params.toList (fn.params.toList++s.plain.varTypes P++fn.resultTypes.toList)
theorem It {P:Program} {f:FuncId} {fn:Func} {s:ChangeSpec} {c:OpenClaim} (h1:(c.inPlace==P.inPlace f)=true) (h2:(c.unfollowed==P.unfollowed f)=true) (h3:(c.recurses==P.recurses f)=true) (h4:(c.named==P.varsNamed f)=true)
 (h5:P.stopsHeard=true) (h6:P.mayEnter=true) (h7:(c.lifted==P.liftsFinal)=true) (h8:(P.make==some c.make)=true) (h:GC P fn s c=true):joinedFacts P f fn s c=true:=by
 simp only[GC,uU] at h;obtain⟨⟨⟨⟨⟨⟨⟨⟨⟨⟨⟨⟨⟨⟨⟨⟨⟨⟨⟨⟨⟨⟨⟨k1,k2⟩,k3⟩,k4⟩,k5⟩,k6⟩,k7⟩,k8⟩,k9⟩,k10⟩,k11⟩,k12⟩,k13⟩,k14⟩,k15⟩,k16⟩,k17⟩,k18⟩,k19⟩,k20⟩,k21⟩,k22⟩,k23⟩,k24⟩:=h;simp only[joinedFacts,uU];exact⟨⟨⟨⟨⟨⟨⟨⟨⟨⟨⟨⟨⟨⟨⟨⟨⟨⟨⟨⟨⟨⟨⟨⟨⟨⟨⟨⟨⟨⟨⟨k1,k2⟩,k3⟩,k4⟩,k5⟩,k6⟩,k7⟩,k8⟩,k9⟩,h1⟩,h2⟩,h3⟩,h4⟩,k10⟩,k11⟩,k12⟩,k13⟩,k14⟩,k15⟩,k16⟩,k17⟩,k18⟩,k19⟩,k20⟩,h5⟩,h6⟩,h7⟩,h8⟩,k21⟩,k22⟩,k23⟩,k24⟩
theorem fN (o:Cy) (k:Int):Ac pg 29 [.agg (AZ o),iN k] [] (λr _=>∃x:Cy,r= .agg (AZ x)):=by
 obtain⟨ok,os,ov,oa,ob,on⟩:=o;refine zE (fn:=Tryz.f29) [.cell 4 42] ?_;rw[Aq];refine Cx ?_;refine CN ?_;intro K hK;refine zk ?_;refine zw ?_;refine s5 (λz:Bool=> [(1,iN k),(2,pt 0),(4,pt 1),(5,iN on),(6,iN ov),(17,.bool z)]) (λ_=> [lv (AZ ⟨ok,os,ov,oa,ob,on⟩),lv (AZ ⟨0,0,0,0,0,0⟩)]) (λz=>z=false->1<=ov/\ov<=1048576) ?_ ?_
 .by_cases c1:ov<1
  .refine zg c1 ?_;exact⟨true,zS,Wk.fr zK⟩
  .by_cases c2:1048576<ov
   .refine zg (an c1 c2) ?_;exact⟨true,zS,Wk.fr zK⟩
   .refine zg (an c1 c2) ?_;exact⟨false,λ_=>zO,Wk.fr zK⟩
 rintro z hz;refine zw ?_;refine s5 (λv:Int=> [(1,iN k),(2,pt 0),(4,pt 1),(5,iN on),(6,iN v)]) (λ_=> [lv (AZ ⟨ok,os,ov,oa,ob,on⟩),lv (AZ ⟨0,0,0,0,0,0⟩)]) (λv=>1<=v/\v<=1048576) ?_ ?_
 .cases z
  .refine y2 ?_;exact⟨ov,hz rfl,Wk.fr zK⟩
  .refine y2 ?_;exact⟨1,zO,Wk.fr zK⟩
 rintro v hv;refine zw ?_;refine s5 (λz:Bool=> [(1,iN k),(2,pt 0),(4,pt 1),(5,iN on),(6,iN v),(23,.bool z)]) (λ_=> [lv (AZ ⟨ok,os,ov,oa,ob,on⟩),lv (AZ ⟨0,0,0,0,0,0⟩)]) (λz=>z=false->0<=on/\on<=1000) ?_ ?_
 .by_cases c1:on<0
  .refine zg c1 ?_;exact⟨true,zS,Wk.fr zK⟩
  .by_cases c2:1000<on
   .refine zg (an c1 c2) ?_;exact⟨true,zS,Wk.fr zK⟩
   .refine zg (an c1 c2) ?_;exact⟨false,λ_=>zO,Wk.fr zK⟩
 rintro z hz;refine zw ?_;refine s5 (λn:Int=> [(1,iN k),(2,pt 0),(4,pt 1),(5,iN n),(6,iN v)]) (λ_=> [lv (AZ ⟨ok,os,ov,oa,ob,on⟩),lv (AZ ⟨0,0,0,0,0,0⟩)]) (λn=>0<=n/\n<=1000) ?_ ?_
 .cases z
  .refine y2 ?_;exact⟨on,hz rfl,Wk.fr zK⟩
  .refine y2 ?_;exact⟨3,zO,Wk.fr zK⟩
 rintro n hn;refine AX ?_;refine zw ?_;refine s5 (λ_:Unit=> [(1,iN k),(2,pt 0),(4,pt 1),(5,iN n),(6,iN v),(7,pt 2),(26,iN k)]) (λ_=> [lv (AZ ⟨ok,os,ov,oa,ob,on⟩),lv (AZ ⟨0,0,0,0,0,0⟩),lv (AZ ⟨k,0,0,0,0,0⟩)]) (λ_=>True) ?_ ?_
 .refine zs ?_;exact⟨(),trivial,Wk.fr zK⟩
 rintro _ _;refine zw ?_;refine s5 (λ_:Cy=> [(4,pt 1),(7,pt 2)]) (λx=> [lv (AZ ⟨ok,os,ov,oa,ob,on⟩),lv (AZ ⟨0,0,0,0,0,0⟩),lv (AZ x)]) (λ_=>True) ?_ ?_
 .refine W.block ?_;refine yo ?_;refine s5 (λz:Bool=> [(1,iN k),(2,pt 0),(4,pt 1),(5,iN n),(6,iN v),(7,pt 2),(26,iN k),(27,.bool z)]) (λ_=> [lv (AZ ⟨ok,os,ov,oa,ob,on⟩),lv (AZ ⟨0,0,0,0,0,0⟩),lv (AZ ⟨k,0,0,0,0,0⟩)]) (λ_=>True) ?_ ?_
  .refine zc ?_ ?_<;>intro h
   .refine W.skip ?_;exact⟨true,trivial,Wk.fr (by simp[AA,h])⟩
   .refine zs ?_;refine zc ?_ ?_<;>intro h
    .refine W.skip ?_;exact⟨true,trivial,Wk.fr (by simp[AA,h])⟩
    .refine zs ?_;refine zc ?_ ?_<;>intro h
     .refine W.skip ?_;exact⟨true,trivial,Wk.fr (by simp[AA,h])⟩
     .refine zs ?_;refine zc ?_ ?_<;>intro h
      .refine W.skip ?_;exact⟨true,trivial,Wk.fr (by simp[AA,h])⟩
      .refine zs ?_;exact⟨decide (k=10),trivial,Wk.fr zK⟩
  rintro z _;cases z;rotate_left
  .refine y2 ?_;exact⟨⟨k,os,0,0,0,0⟩,trivial,Wk.fr zK⟩
  refine yt ?_;refine s5 (λz:Bool=> [(1,iN k),(2,pt 0),(4,pt 1),(5,iN n),(6,iN v),(7,pt 2),(26,iN k),(36,.bool z)]) (λ_=> [lv (AZ ⟨ok,os,ov,oa,ob,on⟩),lv (AZ ⟨0,0,0,0,0,0⟩),lv (AZ ⟨k,0,0,0,0,0⟩)]) (λ_=>True) ?_ ?_
  .refine zc ?_ ?_<;>intro h
   .refine W.skip ?_;exact⟨true,trivial,Wk.fr (by simp[AA,h])⟩
   .refine zs ?_;exact⟨decide (k=13),trivial,Wk.fr zK⟩
  rintro z _;cases z;rotate_left
  .refine y2 ?_;exact⟨⟨k,os,v,0,0,0⟩,trivial,Wk.fr zK⟩
  refine yt ?_;refine s5 (λz:Bool=> [(1,iN k),(2,pt 0),(4,pt 1),(5,iN n),(6,iN v),(7,pt 2),(26,iN k),(44,.bool z)]) (λ_=> [lv (AZ ⟨ok,os,ov,oa,ob,on⟩),lv (AZ ⟨0,0,0,0,0,0⟩),lv (AZ ⟨k,0,0,0,0,0⟩)]) (λ_=>True) ?_ ?_
  .refine zc ?_ ?_<;>intro h
   .refine W.skip ?_;exact⟨true,trivial,Wk.fr (by simp[AA,h])⟩
   .refine zs ?_;exact⟨decide (k=12),trivial,Wk.fr zK⟩
  rintro z _;cases z;rotate_left
  .refine y2 ?_;exact⟨⟨k,os,0,0,0,_⟩,trivial,Wk.fr zK⟩
  refine yt ?_;refine s5 (λz:Bool=> [(1,iN k),(2,pt 0),(4,pt 1),(5,iN n),(6,iN v),(7,pt 2),(26,iN k),(53,.bool z)]) (λ_=> [lv (AZ ⟨ok,os,ov,oa,ob,on⟩),lv (AZ ⟨0,0,0,0,0,0⟩),lv (AZ ⟨k,0,0,0,0,0⟩)]) (λ_=>True) ?_ ?_
  .refine zc ?_ ?_<;>intro h
   .refine W.skip ?_;exact⟨true,trivial,Wk.fr (by simp[AA,h])⟩
   .refine zs ?_;exact⟨decide (k=8),trivial,Wk.fr zK⟩
  rintro z _;cases z;rotate_left
  .refine zt ?_;(repeat refine ta ?_);refine tj 0 [(58,62),(58,57),(60,62),(60,57),(60,63),(60,59)] rfl true Df AK λK hK=>?_;simp -implicitDefEqProofs (disch:=omega);(repeat refine⟨by first|assumption|omega,?_⟩);refine hK _ _ (by simp(disch:=omega)) ?_;clear hK K;exact⟨⟨k,os,0,oa,ob,0⟩,trivial,Wk.fr zK⟩
  refine y2 ?_;refine zc ?_ ?_<;>intro h
  . (repeat refine ta ?_);refine tj 0 [(74,78),(74,68),(74,79),(74,73)] rfl true Df AK λK hK=>?_;simp -implicitDefEqProofs (disch:=omega);(repeat refine⟨by first|assumption|omega,?_⟩);refine hK _ _ (by simp(disch:=omega)) ?_;clear hK K;exact⟨⟨k,os,0,_,ob,_⟩,trivial,Wk.fr zK⟩
  refine yo ?_;refine s5 (λz:Bool=> [(1,iN k),(2,pt 0),(4,pt 1),(5,iN n),(6,iN v),(7,pt 2),(26,iN k),(82,.bool z)]) (λ_=> [lv (AZ ⟨ok,os,ov,oa,ob,on⟩),lv (AZ ⟨0,0,0,0,0,0⟩),lv (AZ ⟨k,0,0,0,0,0⟩)]) (λ_=>True) ?_ ?_
  .refine zc ?_ ?_<;>intro h
   .refine W.skip ?_;exact⟨true,trivial,Wk.fr (by simp[AA,h])⟩
   .refine zs ?_;refine zc ?_ ?_<;>intro h
    .refine W.skip ?_;exact⟨true,trivial,Wk.fr (by simp[AA,h])⟩
    .refine zs ?_;exact⟨decide (k=16),trivial,Wk.fr zK⟩
  rintro z _;cases z;rotate_left
  .refine y2 ?_;exact⟨⟨k,0,v,0,0,0⟩,trivial,Wk.fr zK⟩
  refine y2 ?_;refine zc ?_ ?_<;>intro h
  .refine zs ?_;exact⟨⟨k,0,0,0,0,_⟩,trivial,Wk.fr zK⟩
  refine zs ?_;refine zc ?_ ?_<;>intro h
  .refine zs ?_;exact⟨⟨k,0,0,0,0,_⟩,trivial,Wk.fr zK⟩
  refine W.skip ?_;exact⟨⟨k,0,0,0,0,0⟩,trivial,Wk.fr zK⟩
 rintro x _;refine Bd ?_;exact⟨x,rfl,rfl,rfl,rfl,rfl,rfl⟩
section
variable (xs ys:List Cy) (m:Bool) (M:List Ag) (k:Nat)
@[simp] theorem mX:(Aa AZ xs).length=xs.length*6:=Bk _ (λx=>by simp[AZ]) xs
@[simp] theorem nX:D5 k (Aa AZ xs)=true:=Ja _ k (λx=>by simp[AZ]) xs
@[simp] theorem mY:(Aa AZ xs).map (CV M k)=Aa AZ xs:=HF _ (λx=>by simp[AZ]) xs
end
theorem Pr (hR:BK) (S:An) (O:List Cy) (ks:List Int) (hk:0<ks.length) (hkl:ks.length<100) (hS:Ji S) (hO:O.length*48<=reachBytes):Ac pg 37 [.agg (Bo S O),.ro ks.length (Ab ks)] [] (λr _=>r= .bool true):=by
 simp only[reachBytes] at hO;simp only[Bo,Aj,vF,vU];refine zE (fn:=Tryz.f37) [.tmp 4] ?_;rw[Aq];refine AX ?_;refine x6 ?_;refine W.weak (sX 1 4) ?_;refine zb ?_;refine sV (λz:Nat×List Cy=> [(1,.ro ks.length (Ab ks)),(2,pt 0),(5,pt 1),(6,iN z.1)]) (λz=> [lv (Bo S O),lv (Aj false S++[.tok 2 z.1 6 0 z.2.length]),.live z.1 (Aa AZ z.2)]) (λz=>O.length-z.1) (λz=>z.1<=O.length/\z.2.length=z.1) (0,[]) (Wk.fr zK) ⟨zO,rfl⟩ ?_;rintro⟨i,Q⟩ ⟨hi,hq⟩;simp only at hi hq |-;simp only[Bo,Aj,vF,vU];by_cases d:i<O.length;rotate_left
 .refine th d ?_;have spM:=NO hR S Q hS (by simp only[Gw];omega);have h10:(Aa AZ Q).take (Q.length*6)=Aa AZ Q:=uM zS;refine z0 ?_;intro K hK;refine sW spM (by simp[h10,Bo,Aj]) zS ?_;refine Am ?_;exact zR
 obtain⟨f0,f1,f2,f3,f4,f5⟩:=gZ d;obtain⟨o,ho⟩:∃o,o=O[i]:=zX;rw[<-ho] at f0 f1 f2 f3 f4 f5;refine xL d ?_;refine GQ (an d (an f0 (an f1 (an f2 (an f3 (an f4 f5)))))) ?_;intro K hK;refine xM ?_;refine zw ?_;refine s5 (λ_:Cy=> [(1,.ro ks.length (Ab ks)),(2,pt 0),(5,pt 1),(6,iN i),(7,pt 3)]) (λx=> [lv (Bo S O),lv (Aj false S++[.tok 2 i 6 0 Q.length]),.live i (Aa AZ Q),lv (AZ x)]) (λ_=>True) ?_ ?_
 .refine zc ?_ ?_<;>intro h
  .have h0:0<=(i:Int)/2%ks.length:=Int.emod_nonneg _ zO;have h1:(i:Int)/2%ks.length<ks.length:=Int.emod_lt_of_pos _ zO;obtain⟨m,hm⟩:=Int.eq_ofNat_of_zero_le h0;have hml:m<ks.length:=zO;have hkl0:¬(ks.length:Int)=0:=zO;have spF:=fN o ks[m];refine Dy (an hm (an hml hkl0)) ?_;intro K hK;refine⟨_,_,spF,(λh=>by cases h),.inr ⟨zS,?_⟩⟩;rintro r ⟨x,rfl⟩;refine Am ?_;exact⟨x,trivial,Wk.fr zK⟩
  .refine W.skip ?_;exact⟨o,trivial,Wk.fr zK⟩
 rintro x _;simp only[Bo,Aj,vF,vU];refine z1 ?_;intro K hK;refine⟨zO,zO,?_⟩;refine xM ?_;exact⟨(i+1,Q++[x]),by simp only;omega,⟨by simp only;omega,by simp[hq]⟩,sU (k:=3) zK (by simp[BI,AG,Bo,Aj]) zS zS zS zS⟩
theorem TN (hR:BK) (S:An) (O:List Cy) (hS:Ji S) (hO:O.length*48<=reachBytes):Ac pg 8 [.agg (Bo S O)] [] (λr _=>r= .bool true):=by
 have sp:=Pr hR S O [1] zS zS hS hO;refine zE (fn:=Tryz.f8) [.tmp 2] ?_;rw[AC];refine AX ?_;refine z1 ?_;intro K hK;refine sW sp (by simp[Bo,Aj,Ab]) zS ?_;refine Am ?_;exact zR
theorem Tn (hR:BK) (S:An) (O:List Cy) (hS:Ji S) (hO:O.length*48<=reachBytes):Ac pg 9 [.agg (Bo S O)] [] (λr _=>r= .bool true):=by
 have sp:=Pr hR S O [2] zS zS hS hO;refine zE (fn:=Tryz.f9) [.tmp 2] ?_;rw[AC];refine AX ?_;refine z1 ?_;intro K hK;refine sW sp (by simp[Bo,Aj,Ab]) zS ?_;refine Am ?_;exact zR
theorem VX (hR:BK) (S:An) (O:List Cy) (hS:Ji S) (hO:O.length*48<=reachBytes):Ac pg 10 [.agg (Bo S O)] [] (λr _=>r= .bool true):=by
 have sp:=Pr hR S O [3] zS zS hS hO;refine zE (fn:=Tryz.f10) [.tmp 2] ?_;rw[AC];refine AX ?_;refine z1 ?_;intro K hK;refine sW sp (by simp[Bo,Aj,Ab]) zS ?_;refine Am ?_;exact zR
theorem To (hR:BK) (S:An) (O:List Cy) (hS:Ji S) (hO:O.length*48<=reachBytes):Ac pg 11 [.agg (Bo S O)] [] (λr _=>r= .bool true):=by
 have sp:=Pr hR S O [4] zS zS hS hO;refine zE (fn:=Tryz.f11) [.tmp 2] ?_;rw[AC];refine AX ?_;refine z1 ?_;intro K hK;refine sW sp (by simp[Bo,Aj,Ab]) zS ?_;refine Am ?_;exact zR
end Go.Abs
