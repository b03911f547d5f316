import Derived.Test.YtgmnmnnoahdjnaaGreatDoorB24
import Derived.Test.YtgmnmnnoahdjnaaGreatDoorB26
import Derived.Test.YtgmnmnnoahdjnaaGreatDoorB27
import Derived.Test.YtgmnmnnoahdjnaaGreatDoorB18
set_option maxRecDepth 100000
set_option maxHeartbeats 16000000
set_option linter.unusedVariables false
set_option linter.unusedSimpArgs false
namespace Go.Proofs.YtgmnmnnoahdjnaaGreatDoor
section
theorem tS {α:Type} {a b:List α} (hb:b≠[]):(a++b).getLast? = b.getLast?:=by
 rw [List.getLast?_append];cases h:b.getLast? with
 | none=>rw [List.getLast?_eq_none_iff] at h;exact absurd h hb
 | some v=>rfl
theorem gi.app:∀ {a b:List LX},gi a→gi b→(∀ x y,a.getLast? = some x→b.head? = some y→x.1=5→x.2.1=[60]→(ay y).headD 0≠61)→gi (a++b)
 | [],b,_,hb,_=>hb
 | [x],[],hx,_,_=>hx
 | [x],y::r,hx,hb,h=>⟨hx,h x y rfl rfl,hb⟩
 | x::z::r,b,ha,hb,h=>⟨ha.1,ha.2.1,gi.app (a:=z::r) ha.2.2 hb (fun u y hu hy=>h u y (by rw [List.getLast?_cons_cons];exact hu) hy)⟩
structure Seg (l:List LX):Prop where
 ok:gi l
 ne:l≠[]
 fst:∀ y,l.head? = some y→(ay y).headD 0≠61
 lst:∀ x,l.getLast? = some x→x.1=5→x.2.1≠[60]
theorem Seg.app {a b:List LX} (ha:Seg a) (hb:Seg b):Seg (a++b):=by
 refine ⟨ha.ok.app hb.ok (fun x y hx _ h5 h=>absurd h (ha.lst x hx h5)),by simp [ha.ne],fun y hy=>?_,fun x hx=>?_⟩
 ·cases a with
  | nil=>exact absurd rfl ha.ne
  | cons z r=>exact ha.fst y hy
 ·cases b with
  | nil=>exact absurd rfl hb.ne
  | cons z r=>rw [tS (List.cons_ne_nil _ _)] at hx;exact hb.lst x hx
theorem Seg.one {x:LX} (h:iK x) (h1:(ay x).headD 0≠61) (h2:x.1=5→x.2.1≠[60]):Seg [x] :=
 ⟨h,by simp,fun y hy=>by
  obtain rfl:x=y:=by simpa using hy
  exact h1,fun y hy=>by
   obtain rfl:x=y:=by simpa using hy
   exact h2⟩
theorem Seg.op {a b:List LX} {o:LX} (ha:Seg a) (ho:iK o) (hb:Seg b):Seg (a++o::b):=by
 have h1:gi (o::b):=by
  cases b with
  | nil=>exact absurd rfl hb.ne
  | cons y r=>exact ⟨ho,fun _ _=>hb.fst y rfl,hb.ok⟩
 refine ⟨ha.ok.app h1 (fun x y hx _ h5 h=>absurd h (ha.lst x hx h5)),by simp,fun y hy=>?_,fun x hx=>?_⟩
 ·cases a with
  | nil=>exact absurd rfl ha.ne
  | cons z r=>exact ha.fst y hy
 ·cases b with
  | nil=>exact absurd rfl hb.ne
  |cons z r =>
   rw [tS (List.cons_ne_nil _ _),List.getLast?_cons_cons] at hx;exact hb.lst x hx
theorem eI {t:List UInt8} (h:t ∈ bF):iK (ap t):=.inr (.inr (.inr (.inr ⟨rfl,h,rfl⟩)))
theorem fY {t:List UInt8} (h:t ∈ cL):iK (aS t):=.inr (.inl ⟨rfl,h,rfl⟩)
theorem ev {t:List UInt8} (h:t ∈ bF) (h1:t.headD 0≠61) (h2:t≠[60]):Seg [ap t]:=.one (eI h) h1 (fun _=>h2)
theorem ew {t:List UInt8} (h:t ∈ cL):Seg [aS t]:=by
 have hall:∀ t ∈ cL,t.headD 0≠61∧t≠[60]:=by decide
 exact .one (fY h) (hall t h).1 (fun _=>(hall t h).2)
theorem lV {s:List UInt8} (h:eC s=true):Seg [eq s]:=by
 obtain ⟨_,⟨c,r,rfl,hl⟩,_⟩:=kQ h;have hb:=lD hl;refine .one (.inl ⟨rfl,h,rfl⟩) ?_ (fun e=>absurd e (by show ¬ (1:Int)=5;decide));show c≠61
 rintro rfl;exact absurd hb (by decide)
theorem xE {k:Int} (hk:5≤k∧k≤15):iK (opK k):=by
 have h11:k=5∨k=6∨k=7∨k=8∨k=9∨k=10∨k=11∨k=12∨k=13∨k=14∨k=15:=by omega
 rcases h11 with rfl | rfl | rfl | rfl | rfl | rfl | rfl | rfl | rfl | rfl | rfl
 ·exact fY (by decide)
 ·exact fY (by decide)
 ·exact fY (by decide)
 ·exact eI (by decide)
 ·exact eI (by decide)
 ·exact eI (by decide)
 ·exact eI (by decide)
 ·exact eI (by decide)
 ·exact eI (by decide)
 ·exact fY (by decide)
 ·exact fY (by decide)
theorem vW {k:Int} (hk:5≤k∧k≤7):Seg [opK k]:=by
 have h3:k=5∨k=6∨k=7:=by omega
 rcases h3 with rfl | rfl | rfl<;>exact ew (by decide)
theorem vO {v:JV} (h:fy v=true) (hc:df v):Seg [gu v]:=by
 rcases j1 h with ⟨n,hn,rfl⟩ | ⟨s,hs,rfl⟩ | rfl | ⟨b,rfl⟩
 ·have hi:=hc.out.2.1;have hok:iK (gu (n8 n)):=.inr (.inr (.inl ⟨rfl,hn,hi.2,rfl⟩));obtain ⟨c,r,e,_,_,_,hB,_⟩:=ef hok;have hd:=lg (hB rfl).1;refine .one hok ?_ (fun e=>absurd e (by show ¬ (3:Int)=5;decide));rw [e];show c≠61
  rintro rfl;exact absurd hd (by decide)
 ·refine .one (.inr (.inr (.inr (.inl ⟨rfl,hs,rfl⟩)))) ?_ (fun e=>absurd e (by show ¬ (4:Int)=5;decide));show (ie s).headD 0≠61
  unfold ie;exact (by decide:(34:UInt8)≠61)
 ·exact ew (by decide)
 ·cases b<;>exact ew (by decide)
theorem Seg.wrap {f:Nat} {x:Nat × List LX} (h:Seg x.2):Seg (a8 f x):=by
 unfold a8;split
 ·exact (ev (t:=[40]) (by decide) (by decide) (by decide)).app (h.app (ev (t:=[41]) (by decide) (by decide) (by decide)))
 ·exact h
theorem nh:∀ {ks:List (List LX)},ks≠[]→(∀ k ∈ ks,Seg k)→Seg (bd ks)
 | [],h,_=>absurd rfl h
 | [a],_,h=>h a List.mem_cons_self
 | a::b::r,_,h=>(h a List.mem_cons_self).op (eI (by decide)) (nh (List.cons_ne_nil _ _) (fun k hk=>h k (List.mem_cons_of_mem _ hk)))
theorem nw:∀ (r:Nat) (x:EJ),bi r x≠0→bB x→Seg (az x).2
 | 0,x,h,_=>absurd (by cases x;rfl) h
 |r+1,.mk k v s kids,h,hc=>by
  obtain ⟨_,hk,hkids⟩:=bR h;unfold bB at hc;obtain ⟨_,hcv,_,_,hck⟩:=hc;have ih:∀ y ∈ kids,Seg (az y).2:=fun y hy=>nw r y (hkids y hy) (bf.1 hck y hy)
  rw [gA];simp only;rcases j6 hk with ⟨rfl,hl,rfl,hk0⟩ | ⟨rfl,⟨rfl,hn,hk0⟩ | ⟨rfl,hn,hk1⟩ | ⟨rfl,rfl⟩ | ⟨h5,h7,rfl,hk1⟩ | ⟨h8,h15,rfl,hk2⟩⟩
  ·exact vO hl hcv
  ·exact lV hn
  ·obtain ⟨y,rfl⟩:=List.length_eq_one_iff.1 hk1;show Seg (a8 8 (az y)++[ap [46],eq s])
   exact (ih y List.mem_cons_self).wrap.app ((ev (t:=[46]) (by decide) (by decide) (by decide)).app (lV hn))
  ·show Seg (ap [91]::(bd ((kids.map az).map (a8 1))++[ap [93]]))
   have ho:=ev (t:=[91]) (by decide) (by decide) (by decide);have hcl:=ev (t:=[93]) (by decide) (by decide) (by decide);cases kids with
   | nil=>exact ho.app hcl
   |cons y l =>
    refine ho.app ((nh (by simp) fun k hk=>?_).app hcl);rw [List.map_map] at hk;obtain ⟨z,hz,rfl⟩:=List.mem_map.1 hk;exact (ih z hz).wrap
  ·obtain ⟨y,rfl⟩:=List.length_eq_one_iff.1 hk1;have e:cn k cW [] ([y].map az)=[opK k]++ar (aE k) y:=by
    unfold cn;rw [if_neg (by omega),if_neg (by omega),if_neg (by omega),if_neg (by omega)];rfl
   rw [e];exact (vW ⟨h5,h7⟩).app (ih y List.mem_cons_self).wrap
  ·match kids,hk2,ih with
   |[y,z],_,ih =>
    have e:cn k cW [] ([y,z].map az)=ar (gT (aE k)) y++opK k::ar (aE k+1) z:=by
     unfold cn;rw [if_neg (by omega),if_neg (by omega),if_neg (by omega),if_neg (by omega)];rfl
    rw [e];exact (ih y List.mem_cons_self).wrap.op (xE ⟨by omega,h15⟩) (ih z (List.mem_cons_of_mem _ List.mem_cons_self)).wrap
theorem pY {x:EJ} (h:nV x) (hc:bB x) (f:Nat):Seg (ar f x):=(nw 12 x h hc).wrap
theorem im {d:Nat} (ih:d≠0→∀ l:List SJ,cF (d-1) l=true→bg l→l=[]∨Seg (aq l)):∀ l:List SJ,cF d l=true→bg l→l=[]∨Seg (aq l)
 | [],_,_=>.inl rfl
 | .mk k s a b body els::l,hm,hc=>by
  right;unfold cF at hm;unfold bg fG at hc;rw [Bool.and_eq_true] at hm;obtain ⟨hx,hl⟩:=hm;obtain ⟨⟨_,_,hca,hcb,_,_,hcbo,hcel⟩,hcl⟩:=hc;unfold kH at hx;rw [Bool.and_eq_true,Bool.and_eq_true,decide_eq_true_eq,decide_eq_true_eq] at hx;obtain ⟨hd,hfa,hk⟩:=hx;have hb:∀ l:List SJ,cF (d-1) l=true→bg l→Seg (ap [123]::(aq l++[ap [125]])):=fun l h1 h2=>by
   have ho:=ev (t:=[123]) (by decide) (by decide) (by decide);have hcl:=ev (t:=[125]) (by decide) (by decide) (by decide);rcases ih hd l h1 h2 with rfl | h
   ·exact ho.app hcl
   ·exact ho.app (h.app hcl)
  have hA:=pY hfa hca 1;have hS:Seg (dn (.mk k s a b body els)):=by
   unfold dn;by_cases h1:k=1
   ·rw [if_pos h1] at hk ⊢;rw [Bool.and_eq_true,decide_eq_true_eq] at hk;exact (ew (t:=dv) (by decide)).app (hA.op (eI (by decide)) ((pY hk.1 hcb 1).app (ev (t:=[59]) (by decide) (by decide) (by decide))))
   ·rw [if_neg h1] at hk ⊢;by_cases h2:k=2
    ·rw [if_pos h2,Bool.and_eq_true,Bool.and_eq_true,Bool.and_eq_true] at hk;rw [if_neg (by omega)];refine (ew (t:=wIf) (by decide)).app (hA.app ?_);by_cases he:els.length=0
     ·rw [if_pos he];exact hb body hk.2.2.1 hcbo
     ·rw [if_neg he];have e:ap [123]::(aq body++ap [125]::aS cS::ap [123]::(aq els++[ap [125]]))=(ap [123]::(aq body++[ap [125]]))++([aS cS]++(ap [123]::(aq els++[ap [125]]))):=by simp
      rw [e];exact (hb body hk.2.2.1 hcbo).app ((ew (t:=cS) (by decide)).app (hb els hk.2.2.2 hcel))
    ·rw [if_neg h2] at hk;by_cases h3:k=3
     ·rw [if_pos h3,Bool.and_eq_true,Bool.and_eq_true,Bool.and_eq_true,decide_eq_true_eq] at hk;rw [if_pos h3,if_pos hk.2.2.2];exact ((ew (t:=fj) (by decide)).app ((lV hk.2.1).app (ew (t:=wIn) (by decide)))).app (hA.app (hb body hk.2.2.1 hcbo))
     ·rw [if_neg h3] at hk;cases hk
  unfold aq;rcases im ih l hl hcl with rfl | h
  ·unfold aq;rw [List.append_nil];exact hS
  ·exact hS.app h
theorem ml:∀ (d:Nat) (l:List SJ),cF d l=true→bg l→l=[]∨Seg (aq l)
 | 0,l,h,hc=>im (fun h=>absurd rfl h) l h hc
 | d+1,l,h,hc=>im (d:=d+1) (fun _ l=>ml d l) l h hc
theorem rR {d:Nat} {l:List SJ} (h:cF d l=true) (hc:bg l):gi (aq l):=by
 rcases ml d l h hc with rfl | h
 ·unfold aq;trivial
 ·exact h.ok
def cY (l:List UInt8):List SJ × Int × Int :=
 if (gh l).2.2≠0 then ([],(gh l).2.1,(gh l).2.2)
 else match gG (gh l).1 with
  | .bad p=>([],(tkA (gh l).1 p:Nat),330)
  | .ok b _=>if jz b=true then (b,0,0) else ([],0,331)
theorem pE {l:List SJ} (h:jz l=true) (hc:bg l) (hl:(fA l).length≤512):cY (fA l)=(l,0,0):=by
 obtain ⟨T,h1,hT,hA,hn⟩:=uc (rR h hc) hl;unfold cY;rw [show gh (fA l)=(T,0,0) from h1];simp only;rw [if_neg (by decide),sJ hT h hA hn];simp only;rw [if_pos h]
def bO (l:List LX):Nat:=(l.map fun x=>(ay x).length+1).sum
theorem aC (a b:List LX):bO (a++b)=bO a+bO b:=by unfold bO;rw [List.map_append,List.sum_append]
theorem aj (x:LX) (b:List LX):bO (x::b)=(ay x).length+1+bO b:=by unfold bO;rw [List.map_cons,List.sum_cons]
theorem bm:bO []=0:=rfl
theorem cm (st:List UInt8 × Bool) (s:List UInt8):(a9 st s).1.length≤st.1.length+(s.length+1):=by
 unfold a9;simp only [List.length_append];split<;>simp<;>omega
theorem pI:∀ (l:List LX) (st:List UInt8 × Bool),((l.map ay).foldl a9 st).1.length≤st.1.length+bO l
 | [],st=>by simp [bO]
 |x::r,st=>by
  rw [List.map_cons,List.foldl_cons,aj];have h1:=pI r (a9 st (ay x));have h2:=cm st (ay x);omega
theorem oT:∀ (f:Nat) (l:List UInt8),(ld f l).length≤l.length
 | _,[]=>by unfold ld;exact Nat.le_refl _
 | 0,_::_=>by unfold ld;simp
 |f+1,c::r=>by
  unfold ld;split
  ·simp
  ·have:=oT f ((c::r).drop (au (c::r)).2);rw [List.length_drop] at this;simp only [List.length_cons] at *;omega
theorem yQ (c:Nat):(aP c).length≤6:=by
 unfold aP;split
 ·simp
 ·split
  ·simp
  ·unfold ag
   repeat' split
   all_goals simp
theorem wJ:∀ l:List Nat,(l.flatMap aP).length≤6*l.length
 | []=>by simp
 |c::r=>by
  rw [List.flatMap_cons,List.length_append,List.length_cons];have:=yQ c;have:=wJ r;omega
theorem uI (s:List UInt8):(ie s).length≤6*s.length+2:=by
 unfold ie;have h1:=wJ (eX s);have h2:(eX s).length≤s.length:=oT _ _;simp only [List.length_append,List.length_cons,List.length_nil];omega
theorem qN {n:Int} (h:iw n):(dV n).length≤20:=by
 unfold iw at h;have h1:=lK (N:=n.natAbs) (k:=19) (by show n.natAbs<10000000000000000000;omega) (by decide);unfold dV;split
 ·rw [List.length_cons];omega
 ·omega
theorem vN {v:JV} (h:df v):(ay (gu v)).length+9≤40*cZ v:=by
 obtain ⟨k,n,s,kids,keys⟩:=v;obtain ⟨_,hn,_⟩:=h.out;have h1:=uI s;have h2:=qN hn;by_cases k3:k=3
 ·rw [show gu (.mk k n s kids keys)=(3,dV n,n) from if_pos k3];show (dV n).length+9≤_;unfold cZ;omega
 by_cases k4:k=4
 ·rw [show gu (.mk k n s kids keys)=(4,s,0) from (if_neg k3).trans (if_pos k4)];show (ie s).length+9≤_;unfold cZ;omega
 by_cases k1:k=1
 ·rw [show gu (.mk k n s kids keys)=aS mz from (if_neg k3).trans ((if_neg k4).trans (if_pos k1))];show (4:Nat)+9≤_;unfold cZ;omega
 by_cases n1:n=1
 ·rw [show gu (.mk k n s kids keys)=aS iR from (if_neg k3).trans ((if_neg k4).trans ((if_neg k1).trans (if_pos n1)))];show (4:Nat)+9≤_;unfold cZ;omega
 ·rw [show gu (.mk k n s kids keys)=aS fL from (if_neg k3).trans ((if_neg k4).trans ((if_neg k1).trans (if_neg n1)))];show (5:Nat)+9≤_;unfold cZ;omega
theorem qg (f:Nat) (x:Nat × List LX):bO (a8 f x)≤bO x.2+4:=by
 unfold a8;split
 ·rw [aj,aC];show 2+(bO x.2+2)≤_;omega
 ·omega
theorem mH:∀ l:List (List LX),bO (bd l)≤(l.map fun x=>bO x+2).sum
 | []=>Nat.le_refl _
 | [a]=>by simp [bd]
 |a::b::r=>by
  rw [bd,aC,aj,List.map_cons,List.sum_cons];have:=mH (b::r);show bO a+(2+bO (bd (b::r)))≤_
  omega
theorem xF (k:Int):(ay (opK k)).length≤4:=by
 unfold opK
 repeat' split
 all_goals decide
theorem pp:∀ x:EJ,bB x→bO (az x).2+8≤40*ff x
 | .mk k v s kids,h=>by
  unfold bB at h;obtain ⟨g1,hv,g2,g3,hk⟩:=h;clear g1 g2 g3;have hK:∀ y ∈ kids,∀ f,bO (a8 f (az y))+4≤40*ff y:=fun y hy f=>by
   have h1:=pp y (bf.1 hk y hy);have h2:=qg f (az y);omega
  have hb:=mB v;have hop:=xF k;have hl:=vN hv;unfold az ff;rw [iH];simp only;unfold cn;split
  ·rw [aj,bm];omega
  split
  ·rw [aj,bm];show s.length+1+0+8≤_;omega
  split
  ·cases kids with
   | nil=>rw [aC,aj,aj,bm];show bO []+(2+(s.length+1+0))+8≤_;rw [bm];omega
   |cons y r =>
    have h1:=hK y List.mem_cons_self 8;rw [aC,aj,aj,bm];unfold cQ;show bO (a8 8 (az y))+(2+(s.length+1+0))+8≤_
    omega
  split
  ·rw [aj,aC,aj,bm];have h1:=mH ((kids.map az).map (a8 1));have h2:(((kids.map az).map (a8 1)).map fun x=>bO x+2).sum≤40*cQ kids:=by
    clear h1 hl hop hb hv
    induction kids with
    | nil=>simp [cQ]
    |cons y r ih =>
     have g1:=hK y List.mem_cons_self 1;unfold gO at hk;have g2:=ih hk.2 fun z hz f=>hK z (List.mem_cons_of_mem _ hz) f
     simp only [List.map_cons,List.sum_cons];unfold cQ;omega
   show 2+(bO (bd ((kids.map az).map (a8 1)))+(2+0))+8≤_
   omega
  split
  ·rename_i a he
   obtain ⟨y,rfl⟩:∃ y,kids=[y]:=by
    match kids,he with
    | [y],_=>exact ⟨y,rfl⟩
   obtain rfl:az y=a:=by simpa using he
   have h1:=hK y List.mem_cons_self (aE k);rw [aj];unfold cQ cQ;omega
  ·rename_i a b he
   obtain ⟨y,z,rfl⟩:∃ y z,kids=[y,z]:=by
    match kids,he with
    | [y,z],_=>exact ⟨y,z,rfl⟩
   obtain ⟨rfl,rfl⟩:az y=a∧az z=b:=by simpa using he
   have h1:=hK y List.mem_cons_self (gT (aE k));have h2:=hK z (List.mem_cons_of_mem _ List.mem_cons_self) (aE k+1);rw [aC,aj];unfold cQ cQ cQ;omega
  ·rw [bm];omega
theorem pr (f:Nat) (x:EJ) (h:bB x):bO (ar f x)≤40*ff x:=by
 have h1:=pp x h;have h2:=qg f (az x);unfold ar;omega
mutual
theorem ub:∀ x:SJ,fG x→bO (dn x)≤40*gJ x
 | .mk k s a b body els,h=>by
  unfold fG at h;obtain ⟨_,_,ha,hb,_,_,hB,hE⟩:=h;have h1:=pr 1 a ha;have h2:=pr 1 b hb;have h3:=ix body hB;have h4:=ix els hE;unfold dn gJ;split
  ·rw [aj,aC,aj,aC,aj,bm];show 5+(bO (ar 1 a)+(2+(bO (ar 1 b)+(2+0))))≤_
   omega
  ·have e1:bO (if k=3 then [aS fj,eq s,aS wIn] else [aS wIf])≤8+s.length:=by
    split
    ·rw [aj,aj,aj,bm];show 4+(s.length+1+(3+0))≤_;omega
    ·rw [aj,bm];show 3+0≤_;omega
   have e2:bO (if els.length=0 then [] else aS cS::ap [123]::(aq els++[ap [125]]))≤9+bO (aq els):=by
    split
    ·rw [bm];omega
    ·rw [aj,aj,aC,aj,bm];show 5+(2+(bO (aq els)+(2+0)))≤_;omega
   rw [aC,aC,aj,aC,aj];show bO (if k=3 then [aS fj,eq s,aS wIn] else [aS wIf])+(bO (ar 1 a)+(2+(bO (aq body)+(2+bO (if els.length=0 then [] else aS cS::ap [123]::(aq els++[ap [125]]))))))≤_
   omega
theorem ix:∀ l:List SJ,bg l→bO (aq l)≤40*cJ l
 | [],_=>by unfold aq;exact Nat.zero_le _
 |x::r,h=>by
  unfold bg at h;unfold aq cJ;rw [aC];have h1:=ub x h.1;have h2:=ix r h.2;omega
end
theorem xx {x:LX} (h:iK x):tq (ay x):=by
 obtain ⟨c,r,e,_,_,h1,h2,h3,h4⟩:=ef h;refine ⟨by rw [e];simp,fun h46=>?_⟩;have hc:c=46:=by rw [e] at h46;simpa using h46
 subst hc;rcases h with ⟨hk,_⟩ | ⟨hk,_⟩ | ⟨hk,_⟩ | ⟨hk,_⟩ | ⟨hk,hs,_⟩
 ·exact absurd (h1 (.inl hk)) (by decide)
 ·exact absurd (h1 (.inr hk)) (by decide)
 ·exact absurd (h2 hk).1 (by decide)
 ·exact absurd (h3 hk) (by decide)
 ·have e2:ay x=x.2.1:=by unfold ay;rw [if_neg (by omega)]
  have:∀ t ∈ bF,t.headD 0=46→t=[46]:=by decide
  rw [e2] at h46 ⊢;exact this _ hs h46
theorem gi.all:∀ {l:List LX},gi l→∀ x ∈ l,iK x
 |y::r,h,x,hx=>by
  rcases List.mem_cons.1 hx with rfl | hx
  ·exact h.head
  ·exact h.tail.all x hx
theorem uC {d:Nat} {l:List SJ} (h:cF d l=true) (hc:bg l):(((aq l).map ay).foldl a9 ([],false)).1=fA l:=by
 refine uD _ fun s hs=>?_
 obtain ⟨x,hx,rfl⟩:=List.mem_map.1 hs;exact xx ((rR h hc).all x hx)
def dG (l:List SJ):List UInt8 × Int:=if jz l=true then (if 512<(fA l).length then ([],3) else (fA l,0)) else ([],332)
end
section
open Go.RowKit
attribute [local go_sem] aa ac ae ab
theorem l9 (s:List UInt8):Lib.strCells ⟨s.toArray⟩=al s:=by unfold Lib.strCells al;simp
section
variable {P:Program} (w:World)
theorem kJ (base:Nat) (t u ty e:TypeId) (i:TypeInfo) (ht:P.underlying t=some (.slice e)) (hu:P.underlying u=some .string) (hi:P.info? e=some i) (hz:i.zero=some (.int .u8 0)) (hsize:i.size=1) (hby:i.bytes=1)
  (v:Value) (n:Nat) (xs:List Value) (hown:w.ownsRow base e 1 v n xs) (s:ByteArray) (h63:n+s.size≤maxLen) (hbytes:n+s.size≤140737488355328) (hbase:base≤w.heap.size) :
  ∃ v' w',(Builtin.append_ #[t,u] ty #[v,.string s]).run P w=.ok v' w'∧w'.ownsRow base e 1 v' (n+s.size) (xs++Lib.strCells s)∧w.grownBy w' v.ownBlock∧(v'.ownBlock=v.ownBlock∨∃ k,v'.ownBlock=some k∧w.heap.size≤k):=by
 obtain ⟨v',w',hr,h1,h2,h3⟩:=Lib.run_append_own_string (P:=P) w base t u ty e i ht hu hi hz hsize hby v n xs hown s h63 hbytes hbase;refine ⟨v',w',hr,h1,h2,?_⟩;rcases hown.2 with ⟨rfl,rfl⟩ | ⟨g,cap,cur,rfl,hbg,hg,hnc,hcm,hcs,htake⟩
 ·obtain ⟨v2,w2,hr2,k1,_,_⟩:=Lib.run_append_own_string (P:=P) w w.heap.size t u ty e i ht hu hi hz hsize hby (.slice none 0 0) 0 [] (World.ownsRow_nil _ _ _ _) s (by omega) (by omega) (Nat.le_refl _);rw [hr] at hr2;injection hr2 with e1 e2
  subst e1 e2;cases ho:v'.ownBlock with
  | none=>exact .inl rfl
  | some k=>exact .inr ⟨k,rfl,(k1.lt k ho).1⟩
 ·have hxl:xs.length=n:=by simpa using hown.1
  by_cases hroom:n+s.size≤cap
  ·have hcs':cur.size=cap:=by simpa using hcs
   have hr2:=Lib.run_append_room_string (P:=P) w t u ty e i ht hu hi hsize g n cap cur hg s hroom (by omega);rw [hr] at hr2;injection hr2 with e1 e2
   subst e1;exact .inl rfl
  ·have holds:∀ j u,xs[j]? = some u→w.cell? ((⟨g,0,none⟩:Addr).add j)=some u:=hown.cells (g:=g) rfl;unfold maxLen at h63;have hr2:=Lib.run_append_grow_string (P:=P) w t u ty e i (.int .u8 0) ht hu hi hz ⟨g,0,none⟩ n cap xs (by rw [hsize];simpa using hxl) holds s (by omega) (by omega) (by rw [hby];exact growslice_fits (by omega) (by omega));rw [hr] at hr2;injection hr2 with e1 e2
   subst e1;exact .inr ⟨_,rfl,Nat.le_refl _⟩
theorem fM {o:Oper} {a:Act} {K:Act→World→Prop} {Q:Exit→Act→World→Prop} (s x:Operand) (t u:TypeId)
  (ho:o.op=.call { callee:=.builtin .append,args:=#[s,x],argTypes:=#[t,u] })
  (base:Nat) (e:TypeId) (i:TypeInfo) (ht:P.underlying t=some (.slice e)) (hu:P.underlying u=some .string) (hi:P.info? e=some i) (hz:i.zero=some (.int .u8 0)) (hsize:i.size=1) (hby:i.bytes=1)
  (v:Value) (n:Nat) (xs:List Value) (hs:a.eval s=v) (hown:w.ownsRow base e 1 v n xs) (str:ByteArray) (hx:a.eval x=.string str)
  (h63:n+str.size≤maxLen) (hbytes:n+str.size≤140737488355328) (hbase:base≤w.heap.size)
  (h:∀ v' w',w'.ownsRow base e 1 v' (n+str.size) (xs++Lib.strCells str)→w.grownBy w' v.ownBlock→(v'.ownBlock=v.ownBlock∨∃ k,v'.ownBlock=some k∧w.heap.size≤k)→K (a.put o.dst v') w'):o.wp P a w K Q:=by
 obtain ⟨v',w',hrun,h2,h3,h4⟩:=kJ (P:=P) w base t u o.type e i ht hu hi hz hsize hby v n xs hown str h63 hbytes hbase;unfold Oper.wp execOp;simp only [ho,resolve,invoke,builtin,Sem.run_bind,Sem.run_pure,Result.andThen_ok,List.map_toArray,List.map_cons,List.map_nil,hs,hx,hrun];exact h v' w' h2 h3 h4
end
structure WP (w:World) (g:Nat) (row:Value) (n:Nat) (out:List UInt8) (num:Bool):Prop where
 blk:Blk w g 71 #[row,.bool num]
 own:iL (g+1) row n out w
 gob:∃ w0:World,GOE w0∧w0.heap.size≤g∧Below w0.heap.size w0 w
section
variable {w w':World} {g:Nat} {row row':Value} {n n':Nat} {out out':List UInt8} {num num':Bool}
theorem WP.goe (h:WP w g row n out num):GOE w:=by obtain ⟨w0,h1,_,h2⟩:=h.gob;exact h1.keep h2
theorem WP.keep (h:WP w g row n out num) (hb:Below w.heap.size w w'):WP w' g row n out num:=by
 obtain ⟨w0,h1,h2,h3⟩:=h.gob;exact ⟨h.blk.keep hb,h.own.bel hb,w0,h1,h2,h3.trans (hb.mono (by have:=h.blk.lt;omega))⟩
theorem WP.ge (h:WP w g row n out num):∀ k,row.ownBlock=some k→g+1≤k∧k<w.heap.size:=fun k e=>h.own.2.1.lt k e
theorem WP.step (h:WP w g row n out num) (hg:MG g row w row' w') (hb:Blk w' g 71 #[row',.bool num']) (ho:iL (g+1) row' n' out' w'):WP w' g row' n' out' num':=by
 obtain ⟨w0,h1,h2,h3⟩:=h.gob;exact ⟨hb,ho,w0,h1,h2,h3.trans (hg.below (by have:=h.blk.lt;omega) h2 (fun k e=>by have:=(h.ge k e).1;omega))⟩
theorem WP.ne (h:WP w g row n out num):some g≠row.ownBlock:=fun e=>by have:=(h.ge g e.symm).1;omega
end
theorem aL.mg {L:List (Nat × TypeId × Array Value)} {w0 W W':World} {g:Nat} {a b:Value} (h:aL L w0 W) (hg:MG g a W b W') (hb:w0.heap.size≤g) (ho:∀ k,a.ownBlock=some k→w0.heap.size≤k) (hL:∀ x ∈ L,x.1≠g∧some x.1≠a.ownBlock):aL L w0 W' :=
 ⟨h.1.trans (hg.below h.1.size hb ho),fun x hx=>hg.blk (h.2 x hx) (hL x hx).1 (hL x hx).2⟩
theorem rX (c:UInt8) (w:World):Calls Tryz.prog 111 #[.int .u8 c.toNat] w fun e w'=>e=.returned (.bool (cK c))∧w'=w:=by
 have hc:=c.toNat_lt;obtain ⟨n,hn⟩:∃ n,c.toNat=n:=⟨_,rfl⟩
 have HB:=aW (show cK c=(decide (97≤n∧n≤122) || decide (48≤n∧n≤57)) by unfold cK aM aR;rw [hn]);rw [hn] at hc ⊢;clear hn;by_cases h1:97≤n
 ·by_cases h2:n≤122
  ·have HT:=aW (show cK c=true by rw [HB.out];simp;omega);go_enter Tryz.func111,Tryz.ntmps111;go_wp2;go_ret;exact ⟨aw (by rw [HT.out]),rfl⟩
  ·have HT:=aW (show cK c=false by rw [HB.out];simp;omega);go_enter Tryz.func111,Tryz.ntmps111;go_wp2;go_ret;exact ⟨aw (by rw [HT.out];try (simp;omega)),rfl⟩
 ·by_cases h2:48≤n
  ·by_cases h3:n≤57
   ·have HT:=aW (show cK c=true by rw [HB.out];simp;omega);go_enter Tryz.func111,Tryz.ntmps111;go_wp2;go_ret;exact ⟨aw (by rw [HT.out];try (simp;omega)),rfl⟩
   ·have HT:=aW (show cK c=false by rw [HB.out];simp;omega);go_enter Tryz.func111,Tryz.ntmps111;go_wp2;go_ret;exact ⟨aw (by rw [HT.out];try (simp;omega)),rfl⟩
  ·have HT:=aW (show cK c=false by rw [HB.out];simp;omega);go_enter Tryz.func111,Tryz.ntmps111;go_wp2;go_ret;exact ⟨aw (by rw [HT.out];try (simp;omega)),rfl⟩
def rO (ss:List (List UInt8)):List Value:=ss.map fun s=>.string ⟨s.toArray⟩
theorem uS {ss:List (List UInt8)} {i:Nat} {s:List UInt8} (h:ss[i]? = some s):(rO ss)[i]? = some (.string ⟨s.toArray⟩):=by unfold rO;simp [h]
def gj (g:Nat) (row:Value) (st:List UInt8 × Bool) (w:World) (e:Ending) (w':World):Prop:=e=.returned (.tuple #[])∧∃ row' n',WP w' g row' n' st.1 st.2∧MG g row w row' w'
def gap (out:List UInt8) (num:Bool) (s:List UInt8):Bool:=decide (out≠[]∧((cK (out.getLastD 0)=true∧cK (s.headD 0)=true)∨(num=true∧s.headD 0=46)))
theorem uB (out:List UInt8) (num:Bool) (s:List UInt8):a9 (out,num) s=(out++((if gap out num s=true then [32] else [])++s),aR (s.headD 0)):=by
 unfold a9 gap;simp only [decide_eq_true_eq]
theorem iL.last {base n:Nat} {row:Value} {l:List UInt8} {w:World} (h:iL base row (n+1) l w):∃ b o cap c,row=.slice (some ⟨b,o,none⟩) (n+1) cap∧b<w.heap.size∧w.cell? ⟨b,o+n,none⟩=some (.int .u8 (c:UInt8).toNat)∧l.getLastD 0=c:=by
 obtain ⟨hl,ho,hb⟩:=h;obtain ⟨A,cap,rfl,h1,h2,h3⟩:=cx ho;have hne:al l≠[]:=by
  intro e;have:=congrArg List.length e;rw [aB,hl] at this;simp at this
 obtain ⟨b,o,rfl,hlt,_,hc⟩:=h3 hne;have hn:n<l.length:=by omega
 have hg:l[n]? = some l[n]:=List.getElem?_eq_getElem hn;refine ⟨b,o,cap,l[n],rfl,hlt,?_,?_⟩
 ·have hnb:n<(al l).length:=by rw [aB];exact hn
  rw [hc n hnb];unfold al;exact congrArg some (List.getElem_map ..)
 ·rw [List.getLastD_eq_getLast?,List.getLast?_eq_getElem?,show l.length-1=n by omega,hg];rfl
theorem MG.gr {mb:Nat} {a b:Value} {w w1:World} (h:Gr a w b w1):MG mb a w b w1:=⟨h.1.os,h.1.tape,h.1.output,h.1.size,fun k hk _ hne=>h.1.block k hk hne,h.2⟩
theorem WP.grow {w w2:World} {g n n2:Nat} {row row2:Value} {out out2:List UInt8} {num:Bool} (h:WP w g row n out num) (ho:iL (g+1) row2 n2 out2 w2) (hg:Gr row w row2 w2):WP (w2.setCell ⟨g,0,none⟩ row2) g row2 n2 out2 num∧MG g row w row2 (w2.setCell ⟨g,0,none⟩ row2):=by
 have hm:MG g row w row2 (w2.setCell ⟨g,0,none⟩ row2):=(MG.gr hg).set 0 row2;refine ⟨h.step hm ((hg.blk h.blk h.ne).set_ 0 _) ⟨ho.1,?_,by have:=ho.2.2;simpa [World.setCell] using this⟩,hm⟩;refine ho.2.1.kept (bw (dP w2 (some g)) 0 row2) ?_;rcases hro:row2.ownBlock with _ | j
 ·exact .inl rfl
 ·refine .inr fun e=>?_
  have:=(ho.2.1.lt j hro).1;injection e with e
  omega
theorem WP.setNum {w:World} {g n:Nat} {row:Value} {out:List UInt8} {num:Bool} (h:WP w g row n out num) (b:Bool):WP (w.setCell ⟨g,1,none⟩ (.bool b)) g row n out b∧MG g row w row (w.setCell ⟨g,1,none⟩ (.bool b)):=by
 have hm:MG g row w row (w.setCell ⟨g,1,none⟩ (.bool b)):=(MG.refl g row w).set 1 _;refine ⟨h.step hm (h.blk.set_ 1 _) ⟨h.own.1,?_,by have:=h.own.2.2;simpa [World.setCell] using this⟩,hm⟩;refine h.own.2.1.kept (bw (dP w (some g)) 1 (.bool b)) ?_;rcases hro:row.ownBlock with _ | j
 ·exact .inl rfl
 ·refine .inr fun e=>?_
  have:=(h.ge j hro).1;injection e with e
  omega
theorem jY {w w6:World} {g n m:Nat} {row row6:Value} {out s:List UInt8} {S:ByteArray} (ho:iL (g+1) row n out w) (hS:(⟨s.toArray⟩:ByteArray)=S) (hm:n+S.size=m) (h1:w6.ownsRow (g+1) 5 1 row6 m (al out++Lib.strCells S)) (h2:w.grownBy w6 row.ownBlock) (h3:row6.ownBlock=row.ownBlock∨∃ k,row6.ownBlock=some k∧w.heap.size≤k):iL (g+1) row6 m (out++s) w6∧Gr row w row6 w6:=by
 subst hS hm;rw [l9,← ip] at h1;exact ⟨⟨by rw [List.length_append,ho.1];simp [ByteArray.size],h1,Nat.le_trans ho.2.2 h2.size⟩,h2,h3⟩
theorem vi (ss:List (List UInt8)) (A:Option Addr) (k ca:Nat) (w:World) (g:Nat) (row:Value) (n:Nat) (out:List UInt8) (num:Bool) (hW:WP w g row n out num) (hR:RdF w (PbM g row w) A (rO ss)) (hk:ss.length=k) (hk3:k≤3) (hne:∀ s ∈ ss,s≠[])
  (hlen:n+(ss.map fun s=>s.length+1).sum≤100000000000) :
  Calls Tryz.prog 73 #[.pointer (some ⟨g,0,none⟩),.slice A k ca] w (gj g row (ss.foldl a9 (out,num)) w):=by
 obtain ⟨i0,hi,hz0,hz1,hz2⟩:=info_parts sn;have HI:=aW hi;have HW:=aW hW;have HR:=aW hR;have HK:=aW hk;have HNE:=aW hne;have HLEN:=aW hlen;clear hW hR hk hne hlen hi;go_enter Tryz.func73,Tryz.ntmps73;go_wp2;go_loopg [5,6,9] k (fun gk s5 s6 s9 wr => ∃ (i:Nat) (row':Value) (n':Nat) (out':List UInt8) (num':Bool),i≤k∧gk=k-i∧s9=.int .i64 (i:Int)∧Hid ((out',num')=(ss.take i).foldl a9 (out,num))∧Hid (WP wr g row' n' out' num')∧Hid (MG g row w row' wr)∧Hid (n'+((ss.drop i).map fun s=>s.length+1).sum≤100000000000))
 case atStart=>exact ⟨0,row,n,out,num,Nat.zero_le _,rfl,rfl,aW rfl,HW,aW (MG.refl _ _ _),HLEN⟩
 case round =>
  obtain ⟨i,row',n',out',num',hik,hgk,rfl,HST,HWP,HMG,HLN⟩:=hrel;have HGK:=aW hgk;clear hgk;by_cases hlt:i<k
  ·obtain ⟨s,hs⟩:∃ s,ss[i]? = some s:=⟨_,List.getElem?_eq_getElem (by rw [HK.out];exact hlt)⟩
   have hsne:=HNE.out s (List.mem_of_getElem? hs);obtain ⟨c,sr,rfl⟩:∃ c sr,s=c::sr:=by cases s with | nil=>exact absurd rfl hsne | cons c sr=>exact ⟨c,sr,rfl⟩
   have HST1:=aW (show a9 (out',num') (c::sr)=(ss.take (i+1)).foldl a9 (out,num) by rw [List.take_add_one,hs,List.foldl_append,← HST.out];rfl);have hdr:ss.drop i=(c::sr)::ss.drop (i+1):=by
    have h9:=(List.getElem?_eq_some_iff.1 hs)
    rw [List.drop_eq_getElem_cons h9.1,h9.2]
   have hln:=HLN.out;rw [hdr,List.map_cons,List.sum_cons] at hln;have HLN1:=aW hln;have hlr:=RdF.mg HR.out HMG.out;have hsx:(rO ss)[i]? = some (.string ⟨(c::sr).toArray⟩):=uS hs;obtain ⟨hix,hie⟩:=List.getElem?_eq_some_iff.1 hsx;obtain ⟨b,o,rfl,hb,hF,hc⟩:=hlr (by intro e;rw [e] at hix;exact absurd hix (Nat.not_lt_zero _));have hcell:=hc i hix;rw [hie] at hcell;have hix0:=fun W=>qD (s:=c::sr) (i:=0) (a:=c) rfl W
   obtain ⟨S,hS⟩:∃ S:ByteArray,⟨(c::sr).toArray⟩=S:=⟨_,rfl⟩
   have hsz:S.size=sr.length+1:=by rw [← hS];simp [ByteArray.size]
   have HS:=aW hS;have hS0:∀ h:0<S.size,((S[0]'h).toNat)=c.toNat:=by subst hS;intro h;rfl
   rw [hS] at hcell hix0;obtain ⟨cN,hcN⟩:∃ q,c.toNat=q:=⟨_,rfl⟩
   have HCN:=aW hcN;rw [hcN] at hix0 hS0;have HGP:=aW (uB out' num' (c::sr));obtain ⟨gp,hgp⟩:∃ q,gap out' num' (c::sr)=q:=⟨_,rfl⟩
   rw [hgp] at HGP;have HGQ:=aW hgp;obtain ⟨x0,x1,x2⟩:=HWP.out.blk.rules;obtain ⟨RA,rc,rfl,hrc,hrn,hrr⟩:=cx HWP.out.own.2.1;clear hs hsne hdr hln hlr hsx hix hie hc hS hcN hgp hrn hrr;go_upto_region 4 with fail;go_cut [49] (fun s49 wx=>s49=.bool gp∧wx=wr)
   case first =>
    cases hn0:n' with
    |zero =>
     subst hn0;have HGF:=aW (show gp=false by
      rw [← HGQ.out];unfold gap;have h0:=HWP.out.own.1;rw [List.length_eq_zero_iff.1 h0];simp)
     go_wp2;go_meet
     case rel=>exact ⟨by rw [HGF.out],rfl⟩
    |succ m =>
     subst hn0;obtain ⟨lb,lo,lcap,cl,hrl,hlb,hlc,hll⟩:=HWP.out.own.last;injection hrl with e1 e2 e3
     subst e1 e3;obtain ⟨clN,hclN⟩:∃ q,cl.toNat=q:=⟨_,rfl⟩
     obtain ⟨b1,hb1⟩:∃ q,cK cl=q:=⟨_,rfl⟩
     obtain ⟨b2,hb2⟩:∃ q,cK c=q:=⟨_,rfl⟩
     obtain ⟨dt,hdt⟩:∃ q,decide (cN=46)=q:=⟨_,rfl⟩
     have HW1:=aW (fun W=>rX cl W);have HW2:=aW (fun W=>rX c W);rw [hclN,hb1] at HW1;rw [HCN.out,hb2] at HW2;rw [hclN] at hlc;have HGE:=aW (show gp=((b1 && b2) || (num' && dt)) by
      have hne:out'≠[]:=by intro e;have h0:=HWP.out.own.1;rw [e] at h0;simp at h0
      have hc46:(c=46) ↔ (cN=46):=by rw [← UInt8.toNat_inj,HCN.out];exact Iff.rfl
      rw [← HGQ.out,← hdt,← hb1,← hb2];unfold gap;rw [hll];show decide (out'≠[]∧((cK cl=true∧cK c=true)∨(num'=true∧c=46)))=_
      rw [Bool.eq_iff_iff];simp [hne,hc46])
     have hd1:((cN:Int) == 46)=dt:=by rw [← hdt];rw [Bool.eq_iff_iff];simp;omega
     have hm9:m+1≤100000000000:=by have:=HLN1.out;omega
     have HWA:=aW (show ∀ (q:Nat) (b:Bool) (W:World),((q=clN∧b=b1)∨(q=cN∧b=b2))→Calls Tryz.prog 111 #[.int .u8 (q:Int)] W fun e w'=>e=.returned (.bool b)∧w'=W by
      rintro q b W (⟨rfl,rfl⟩ | ⟨rfl,rfl⟩)
      ·exact HW1.out W
      ·exact HW2.out W)
     clear hclN hb1 hb2 hdt hll HGQ e2 HW1 HW2;cases b1<;>cases b2<;>cases num'<;>cases dt
     all_goals
      go_wp2_with (go_at_call 111;refine (HWA.out _ _ _ (by first | exact Or.inl ⟨rfl,rfl⟩ | exact Or.inr ⟨rfl,rfl⟩)).mono ?_;rintro e w2 ⟨rfl,rfl⟩);go_meet
      case rel=>exact ⟨by rw [HGE.out];rfl,rfl⟩
   case rest =>
    obtain ⟨rfl,hwx⟩:=hcut;have hwy:=hwx.symm;clear hwx;subst hwy;have hln1:=HLN1.out;simp only [List.length_cons] at hln1;go_upto_if 49 with fail;go_cut [] (fun wy => ∃ (row1:Value) (n1:Nat) (W:World),W=wy∧n1≤n'+1∧Hid (WP W g row1 n1 (out'++(if gp=true then [32] else [])) num')∧Hid (MG g (.slice RA n' rc) wr row1 W))
    case first =>
     cases gp
     ·go_wp2;go_meet
      case rel=>exact ⟨_,n',_,rfl,Nat.le_succ _,aW (by simpa using HWP.out),aW (MG.refl _ _ _)⟩
     ·have HA3:=aW (HWP.out.own.2.1.alloc (.cells #[.int .u8 32] 5));have HR3:=aW (Rd.of_blk (Blk.new wr 5 #[.int .u8 32]));have HB3:=aW (show g+1≤(wr.alloc (.cells #[.int .u8 32] 5)).heap.size by have:=HWP.out.own.2.2;simp;omega);go_wp2_with (at_builtin;refine bX _ rfl _ _ 67 rfl (g+1) 5 i0 _ 1 1 Tryz.underlying67 HI.out hz0 hz1 hz2 rfl (by decide) (.slice RA n' rc) n' (al out') rfl HA3.out (some ⟨wr.heap.size,0,none⟩) 1 1 (fun h=>by cases h) [.int .u8 32] rfl rfl HR3.out (mE [32]) (by unfold maxLen;omega) (by omega) HB3.out ?_;intro row3 w3 hown3 hgr3 hob3;obtain ⟨RA3,rc3,rfl,hrc3,hrn3,hrr3⟩:=cx hown3;obtain ⟨y0,y1,y2⟩:=((HWP.out.blk.keep ((Below.refl _ wr).alloc (Nat.le_refl _) (.cells #[.int .u8 32] 5))).grown hgr3 HWP.out.ne).rules);have H3P:=aW (HWP.out.own.post (m:=[32]) (M:=1) hown3 rfl hgr3 hob3);have H3G:=aW (HWP.out.grow H3P.out.1 H3P.out.2);go_meet
      case rel=>exact ⟨_,n'+1,_,rfl,Nat.le_refl _,aW H3G.out.1,aW H3G.out.2⟩
    case rest =>
     obtain ⟨row1,n1,W1,rfl,hn1,HW1,HM1⟩:=hcut;clear x0 x1 x2;obtain ⟨RA1,rc1,rfl,hrc1,hrn1,hrr1⟩:=cx HW1.out.own.2.1;have HO1:=aW (HW1.out.own.bel ((Below.refl _ W1).drew));have HB1:=aW (HW1.out.blk.keep ((Below.refl _ W1).drew));have HLN9:=aW (show n1+S.size+((ss.drop (i+1)).map fun s=>s.length+1).sum≤100000000000 by rw [hsz];omega);have HW0:=HW1;clear HW1;have HW1:=aW (HW0.out.keep ((Below.refl _ W1).drew));have HM0:=HM1;clear HM1;have HM1:=aW (HM0.out.trans (MG.bel (mb:=g) (a:=.slice RA1 n1 rc1) ((Below.refl _ W1).drew)));clear HW0 HM0 hrc1 hrn1 hrr1 HWP;go_upto_region 6 with fail;by_cases h48:48≤cN
     ·have h48i:(48:Int)≤(cN:Int):=by omega
      by_cases h57:cN≤57
      ·have h57i:(cN:Int)≤(57:Int):=by omega
       refine wp_region_held_drew (S:=fun _=>True) (by kernel_rfl) trivial (fun hHeld=>?_);refine tA 0 61 (.pointer (some ⟨g,0,none⟩)) rfl ?_;refine tA 1 62 (.pointer (some ⟨g,0,none⟩)) rfl ?_;refine tA 2 63 (.pointer (some ⟨g,0,none⟩)) rfl ?_;refine tA 3 64 (.pointer (some ⟨g,0,none⟩)) rfl ?_;refine tA 4 65 (.pointer (some ⟨g,0,none⟩)) rfl ?_;refine tA 5 66 (.pointer (some ⟨g,0,none⟩)) rfl ?_;refine tA 7 68 (.string S) rfl ?_;refine tA 9 70 (.string S) rfl ?_;refine tA 10 71 (.int .u8 (cN:Int)) rfl ?_;refine tA 11 72 (.bool true) rfl ?_;refine aV 6 67 rfl (fun K hK=>?_);obtain ⟨y0,y1,y2⟩:=HB1.out.rules;go_simp;refine hK.out _ _ trivial (fun hHeld2=>?_);clear hK K hHeld y0 y1 y2;have hHeld:=hHeld2;clear hHeld2
       try simp only [pU]
       refine aV 8 69 rfl (fun K hK=>?_);rw [if_pos (by kernel_rfl)];refine fM _ (.tmp 67) (.tmp 68) 67 9 rfl (g+1) 5 i0 Tryz.underlying67 Tryz.underlying9 HI.out hz0 hz1 hz2 (.slice RA1 n1 rc1) n1 (al (out'++(if gp=true then [32] else []))) rfl HO1.out.2.1 S rfl (by rw [hsz];unfold maxLen;omega) (by rw [hsz];omega) HO1.out.2.2 ?_;intro row6 w6 hown6 hgr6 hob6;obtain ⟨n6,hn6⟩:∃ q,n1+S.size=q:=⟨_,rfl⟩
       rw [hn6] at hown6;have HN6:=aW hn6;clear hn6;obtain ⟨RA6,rc6,rfl,hrc6,hrn6,hrr6⟩:=cx hown6;have H6:=aW (jY HO1.out HS.out HN6.out hown6 hgr6 hob6);have H6S:=aW (HW1.out.grow H6.out.1 H6.out.2);obtain ⟨y0,y1,y2⟩:=(H6.out.2.blk HW1.out.blk HW1.out.ne).rules;clear hown6 hgr6 hob6 hrc6 hrn6 hrr6;refine hK.out _ _ trivial (fun hHeld2=>?_);clear hK K hHeld;have hHeld:=hHeld2;clear hHeld2
       try simp only [pU]
       refine tA 12 73 (.bool true) rfl ?_;refine tA 13 74 (.string S) rfl ?_;refine tA 14 75 (.int .u8 (cN:Int)) rfl ?_;refine tA 15 76 (.bool true) rfl ?_;refine tA 16 77 (.bool true) rfl ?_;refine tA 17 78 (.pointer (some ⟨g,0,none⟩)) rfl ?_;refine tA 18 79 (.pointer (some ⟨g,0,none⟩)) rfl ?_;refine tA 19 80 (.pointer (some ⟨g,0,none⟩)) rfl ?_;refine aU 20 rfl (fun K hK=>?_);go_simp;refine hK.out _ _ trivial (fun hHeld2=>?_);clear hK K hHeld;have hHeld:=hHeld2;clear hHeld2
       try simp only [pU]
       refine tA 21 81 (.pointer (some ⟨g,0,none⟩)) rfl ?_;refine tA 22 82 (.pointer (some ⟨g,0,none⟩)) rfl ?_;refine tA 23 83 (.pointer (some ⟨g,1,none⟩)) rfl ?_;refine aU 24 rfl (fun K hK=>?_);obtain ⟨W8,hW8⟩:∃ W',w6.setCell ⟨g,0,none⟩ (.slice RA6 n6 rc6)=W':=⟨_,rfl⟩
       rw [hW8] at H6S ⊢;obtain ⟨v0,v1,v2⟩:=H6S.out.1.blk.rules;go_simp;refine hK.out _ _ trivial (fun hHeld2=>?_);clear hK K hHeld;have hHeld:=hHeld2;clear hHeld2
       try simp only [pU]
       refine aX ?_;have HZ:=aW (H6S.out.1.setNum true);have HN9:=aW (show aR c=true by unfold aR;rw [HCN.out];simp;try omega);obtain ⟨W9,hW9⟩:∃ W',W8.setCell ⟨g,1,none⟩ (.bool true)=W':=⟨_,rfl⟩
       rw [hW9] at HZ ⊢;clear hW8 hW9 v0 v1 v2 y0 y1 y2;have HST9:=aW (show ((out'++(if gp=true then [32] else []))++(c::sr),true)=(ss.take (i+1)).foldl a9 (out,num) by rw [← HST1.out,HGP.out,← HN9.out,List.append_assoc];rfl);go_wp2;go_roundg (k-(i+1))
       case measure=>have:=HGK.out;omega
       case rel=>exact ⟨i+1,_,_,_,true,by omega,rfl,by go_num,HST9,aW HZ.out.1,aW ((HMG.out.trans HM1.out).trans (H6S.out.2.trans HZ.out.2)),aW (by rw [← HN6.out];exact HLN9.out)⟩
      ·have h57i:¬ (cN:Int)≤(57:Int):=by omega
       refine wp_region_held_drew (S:=fun _=>True) (by kernel_rfl) trivial (fun hHeld=>?_);refine tA 0 61 (.pointer (some ⟨g,0,none⟩)) rfl ?_;refine tA 1 62 (.pointer (some ⟨g,0,none⟩)) rfl ?_;refine tA 2 63 (.pointer (some ⟨g,0,none⟩)) rfl ?_;refine tA 3 64 (.pointer (some ⟨g,0,none⟩)) rfl ?_;refine tA 4 65 (.pointer (some ⟨g,0,none⟩)) rfl ?_;refine tA 5 66 (.pointer (some ⟨g,0,none⟩)) rfl ?_;refine tA 7 68 (.string S) rfl ?_;refine tA 9 70 (.string S) rfl ?_;refine tA 10 71 (.int .u8 (cN:Int)) rfl ?_;refine tA 11 72 (.bool true) rfl ?_;refine aV 6 67 rfl (fun K hK=>?_);obtain ⟨y0,y1,y2⟩:=HB1.out.rules;go_simp;refine hK.out _ _ trivial (fun hHeld2=>?_);clear hK K hHeld y0 y1 y2;have hHeld:=hHeld2;clear hHeld2
       try simp only [pU]
       refine aV 8 69 rfl (fun K hK=>?_);rw [if_pos (by kernel_rfl)];refine fM _ (.tmp 67) (.tmp 68) 67 9 rfl (g+1) 5 i0 Tryz.underlying67 Tryz.underlying9 HI.out hz0 hz1 hz2 (.slice RA1 n1 rc1) n1 (al (out'++(if gp=true then [32] else []))) rfl HO1.out.2.1 S rfl (by rw [hsz];unfold maxLen;omega) (by rw [hsz];omega) HO1.out.2.2 ?_;intro row6 w6 hown6 hgr6 hob6;obtain ⟨n6,hn6⟩:∃ q,n1+S.size=q:=⟨_,rfl⟩
       rw [hn6] at hown6;have HN6:=aW hn6;clear hn6;obtain ⟨RA6,rc6,rfl,hrc6,hrn6,hrr6⟩:=cx hown6;have H6:=aW (jY HO1.out HS.out HN6.out hown6 hgr6 hob6);have H6S:=aW (HW1.out.grow H6.out.1 H6.out.2);obtain ⟨y0,y1,y2⟩:=(H6.out.2.blk HW1.out.blk HW1.out.ne).rules;clear hown6 hgr6 hob6 hrc6 hrn6 hrr6;refine hK.out _ _ trivial (fun hHeld2=>?_);clear hK K hHeld;have hHeld:=hHeld2;clear hHeld2
       try simp only [pU]
       refine tA 12 73 (.bool true) rfl ?_;refine tA 13 74 (.string S) rfl ?_;refine tA 14 75 (.int .u8 (cN:Int)) rfl ?_;refine tA 15 76 (.bool false) rfl ?_;refine tA 16 77 (.bool false) rfl ?_;refine tA 17 78 (.pointer (some ⟨g,0,none⟩)) rfl ?_;refine tA 18 79 (.pointer (some ⟨g,0,none⟩)) rfl ?_;refine tA 19 80 (.pointer (some ⟨g,0,none⟩)) rfl ?_;refine aU 20 rfl (fun K hK=>?_);go_simp;refine hK.out _ _ trivial (fun hHeld2=>?_);clear hK K hHeld;have hHeld:=hHeld2;clear hHeld2
       try simp only [pU]
       refine tA 21 81 (.pointer (some ⟨g,0,none⟩)) rfl ?_;refine tA 22 82 (.pointer (some ⟨g,0,none⟩)) rfl ?_;refine tA 23 83 (.pointer (some ⟨g,1,none⟩)) rfl ?_;refine aU 24 rfl (fun K hK=>?_);obtain ⟨W8,hW8⟩:∃ W',w6.setCell ⟨g,0,none⟩ (.slice RA6 n6 rc6)=W':=⟨_,rfl⟩
       rw [hW8] at H6S ⊢;obtain ⟨v0,v1,v2⟩:=H6S.out.1.blk.rules;go_simp;refine hK.out _ _ trivial (fun hHeld2=>?_);clear hK K hHeld;have hHeld:=hHeld2;clear hHeld2
       try simp only [pU]
       refine aX ?_;have HZ:=aW (H6S.out.1.setNum false);have HN9:=aW (show aR c=false by unfold aR;rw [HCN.out];simp;try omega);obtain ⟨W9,hW9⟩:∃ W',W8.setCell ⟨g,1,none⟩ (.bool false)=W':=⟨_,rfl⟩
       rw [hW9] at HZ ⊢;clear hW8 hW9 v0 v1 v2 y0 y1 y2;have HST9:=aW (show ((out'++(if gp=true then [32] else []))++(c::sr),false)=(ss.take (i+1)).foldl a9 (out,num) by rw [← HST1.out,HGP.out,← HN9.out,List.append_assoc];rfl);go_wp2;go_roundg (k-(i+1))
       case measure=>have:=HGK.out;omega
       case rel=>exact ⟨i+1,_,_,_,false,by omega,rfl,by go_num,HST9,aW HZ.out.1,aW ((HMG.out.trans HM1.out).trans (H6S.out.2.trans HZ.out.2)),aW (by rw [← HN6.out];exact HLN9.out)⟩
     ·have h48i:¬ (48:Int)≤(cN:Int):=by omega
      refine wp_region_held_drew (S:=fun _=>True) (by kernel_rfl) trivial (fun hHeld=>?_);refine tA 0 61 (.pointer (some ⟨g,0,none⟩)) rfl ?_;refine tA 1 62 (.pointer (some ⟨g,0,none⟩)) rfl ?_;refine tA 2 63 (.pointer (some ⟨g,0,none⟩)) rfl ?_;refine tA 3 64 (.pointer (some ⟨g,0,none⟩)) rfl ?_;refine tA 4 65 (.pointer (some ⟨g,0,none⟩)) rfl ?_;refine tA 5 66 (.pointer (some ⟨g,0,none⟩)) rfl ?_;refine tA 7 68 (.string S) rfl ?_;refine tA 9 70 (.string S) rfl ?_;refine tA 10 71 (.int .u8 (cN:Int)) rfl ?_;refine tA 11 72 (.bool false) rfl ?_;refine aV 6 67 rfl (fun K hK=>?_);obtain ⟨y0,y1,y2⟩:=HB1.out.rules;go_simp;refine hK.out _ _ trivial (fun hHeld2=>?_);clear hK K hHeld y0 y1 y2;have hHeld:=hHeld2;clear hHeld2
      try simp only [pU]
      refine aV 8 69 rfl (fun K hK=>?_);rw [if_pos (by kernel_rfl)];refine fM _ (.tmp 67) (.tmp 68) 67 9 rfl (g+1) 5 i0 Tryz.underlying67 Tryz.underlying9 HI.out hz0 hz1 hz2 (.slice RA1 n1 rc1) n1 (al (out'++(if gp=true then [32] else []))) rfl HO1.out.2.1 S rfl (by rw [hsz];unfold maxLen;omega) (by rw [hsz];omega) HO1.out.2.2 ?_;intro row6 w6 hown6 hgr6 hob6;obtain ⟨n6,hn6⟩:∃ q,n1+S.size=q:=⟨_,rfl⟩
      rw [hn6] at hown6;have HN6:=aW hn6;clear hn6;obtain ⟨RA6,rc6,rfl,hrc6,hrn6,hrr6⟩:=cx hown6;have H6:=aW (jY HO1.out HS.out HN6.out hown6 hgr6 hob6);have H6S:=aW (HW1.out.grow H6.out.1 H6.out.2);obtain ⟨y0,y1,y2⟩:=(H6.out.2.blk HW1.out.blk HW1.out.ne).rules;clear hown6 hgr6 hob6 hrc6 hrn6 hrr6;refine hK.out _ _ trivial (fun hHeld2=>?_);clear hK K hHeld;have hHeld:=hHeld2;clear hHeld2
      try simp only [pU]
      refine tA 12 73 (.bool false) rfl ?_;refine tN 13 74 undef rfl ?_;refine tN 14 75 undef rfl ?_;refine tN 15 76 undef rfl ?_;refine tA 16 77 (.bool false) rfl ?_;refine tA 17 78 (.pointer (some ⟨g,0,none⟩)) rfl ?_;refine tA 18 79 (.pointer (some ⟨g,0,none⟩)) rfl ?_;refine tA 19 80 (.pointer (some ⟨g,0,none⟩)) rfl ?_;refine aU 20 rfl (fun K hK=>?_);go_simp;refine hK.out _ _ trivial (fun hHeld2=>?_);clear hK K hHeld;have hHeld:=hHeld2;clear hHeld2
      try simp only [pU]
      refine tA 21 81 (.pointer (some ⟨g,0,none⟩)) rfl ?_;refine tA 22 82 (.pointer (some ⟨g,0,none⟩)) rfl ?_;refine tA 23 83 (.pointer (some ⟨g,1,none⟩)) rfl ?_;refine aU 24 rfl (fun K hK=>?_);obtain ⟨W8,hW8⟩:∃ W',w6.setCell ⟨g,0,none⟩ (.slice RA6 n6 rc6)=W':=⟨_,rfl⟩
      rw [hW8] at H6S ⊢;obtain ⟨v0,v1,v2⟩:=H6S.out.1.blk.rules;go_simp;refine hK.out _ _ trivial (fun hHeld2=>?_);clear hK K hHeld;have hHeld:=hHeld2;clear hHeld2
      try simp only [pU]
      refine aX ?_;have HZ:=aW (H6S.out.1.setNum false);have HN9:=aW (show aR c=false by unfold aR;rw [HCN.out];simp;try omega);obtain ⟨W9,hW9⟩:∃ W',W8.setCell ⟨g,1,none⟩ (.bool false)=W':=⟨_,rfl⟩
      rw [hW9] at HZ ⊢;clear hW8 hW9 v0 v1 v2 y0 y1 y2;have HST9:=aW (show ((out'++(if gp=true then [32] else []))++(c::sr),false)=(ss.take (i+1)).foldl a9 (out,num) by rw [← HST1.out,HGP.out,← HN9.out,List.append_assoc];rfl);go_wp2;go_roundg (k-(i+1))
      case measure=>have:=HGK.out;omega
      case rel=>exact ⟨i+1,_,_,_,false,by omega,rfl,by go_num,HST9,aW HZ.out.1,aW ((HMG.out.trans HM1.out).trans (H6S.out.2.trans HZ.out.2)),aW (by rw [← HN6.out];exact HLN9.out)⟩
  ·obtain rfl:i=k:=by omega
   rw [List.take_of_length_le (Nat.le_of_eq HK.out)] at HST;go_wp2;go_end0;exact ⟨rfl,_,_,by rw [← HST.out];exact HWP.out,HMG.out⟩
end
end Go.Proofs.YtgmnmnnoahdjnaaGreatDoor
