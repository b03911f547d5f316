import Derived.Test.YtgmnmnnoahdjnaaGreatDoorQ27
import Derived.Test.YtgmnmnnoahdjnaaGreatDoorQ26
open Go.Value renaming int → Zi, slice → Zs, string → Zt, pointer → Zp
open Go.IntKind renaming i64 → Zq
set_option maxRecDepth 100000
set_option maxHeartbeats 16000000
set_option linter.unusedVariables false
set_option linter.unusedSimpArgs false
namespace Go.Proofs.YtgmnmnnoahdjnaaGreatDoor
section
theorem vt {α:Type} {a b:List α} (hb:b≠[]):(a++b).getLast? = b.getLast?:=by
 rw [List.getLast?_append];cases h:b.getLast? with
 | none=>rw [List.getLast?_eq_none_iff] at h;exact absurd h hb
 | some v=>rfl
theorem jh.app:∀ {a b:List LX},jh a->jh b->(∀ x y,a.getLast? = some x->b.head? = some y->x.1=5->x.2.1=[60]->(aF y).headD 0≠61)->jh (a++b)
 | [],b,_,hb,_=>hb
 | [x],[],hx,_,_=>hx
 | [x],y::r,hx,hb,h=>⟨hx,h x y rfl rfl,hb⟩
 | x::z::r,b,ha,hb,h=>⟨ha.1,ha.2.1,jh.app (a:=z::r) ha.2.2 hb (λ u y hu hy=>h u y (by rw [List.getLast?_cons_cons];exact hu) hy)⟩
structure Seg (l:List LX):Prop where
 ok:jh l
 ne:l≠[]
 fst:∀ y,l.head? = some y->(aF y).headD 0≠61
 lst:∀ x,l.getLast? = some x->x.1=5->x.2.1≠[60]
theorem Seg.app {a b:List LX} (ha:Seg a) (hb:Seg b):Seg (a++b):=by
 refine ⟨ha.ok.app hb.ok (λ x y hx _ h5 h=>absurd h (ha.lst x hx h5)),by simp [ha.ne],λ y hy=>?_,λ x hx=>?_⟩
 ·cases a with
  | nil=>exact absurd rfl ha.ne
  | cons z r=>exact ha.fst y hy
 ·cases b with
  | nil=>exact absurd rfl hb.ne
  | cons z r=>rw [vt (List.cons_ne_nil _ _)] at hx;exact hb.lst x hx
theorem Seg.one {x:LX} (h:jq x) (h1:(aF x).headD 0≠61) (h2:x.1=5->x.2.1≠[60]):Seg [x] :=
 ⟨h,by simp,λ y hy=>by
  obtain rfl:x=y:=by simpa using hy
  exact h1,λ y hy=>by
   obtain rfl:x=y:=by simpa using hy
   exact h2⟩
theorem Seg.op {a b:List LX} {o:LX} (ha:Seg a) (ho:jq o) (hb:Seg b):Seg (a++o::b):=by
 have h1:jh (o::b):=by
  cases b with
  | nil=>exact absurd rfl hb.ne
  | cons y r=>exact ⟨ho,λ _ _=>hb.fst y rfl,hb.ok⟩
 refine ⟨ha.ok.app h1 (λ x y hx _ h5 h=>absurd h (ha.lst x hx h5)),by simp,λ y hy=>?_,λ x hx=>?_⟩
 ·cases a with
  | nil=>exact absurd rfl ha.ne
  | cons z r=>exact ha.fst y hy
 ·cases b with
  | nil=>exact absurd rfl hb.ne
  |cons z r =>
   rw [vt (List.cons_ne_nil _ _),List.getLast?_cons_cons] at hx;exact hb.lst x hx
theorem ff {t:List UInt8} (h:t ∈ cn):jq (aA t):=.inr (.inr (.inr (.inr ⟨rfl,h,rfl⟩)))
theorem gC {t:List UInt8} (h:t ∈ cL):jq (bv t):=.inr (.inl ⟨rfl,h,rfl⟩)
theorem eM {t:List UInt8} (h:t ∈ cn) (h1:t.headD 0≠61) (h2:t≠[60]):Seg [aA t]:=.one (ff h) h1 (λ _=>h2)
theorem eN {t:List UInt8} (h:t ∈ cL):Seg [bv t]:=by
 have hall:∀ t ∈ cL,t.headD 0≠61/\t≠[60]:=by decide
 exact .one (gC h) (hall t h).1 (λ _=>(hall t h).2)
theorem nf {s:List UInt8} (h:dv s=true):Seg [eW s]:=by
 obtain ⟨_,⟨c,r,rfl,hl⟩,_⟩:=tg h;have hb:=mE hl;refine .one (.inl ⟨rfl,h,rfl⟩) ?_ (λ e=>absurd e (by show ¬ (1:Int)=5;decide));show c≠61
 rintro rfl;exact absurd hb (by decide)
theorem zy {k:Int} (hk:5<=k/\k<=15):jq (opK k):=by
 have h11:k=5∨k=6∨k=7∨k=8∨k=9∨k=10∨k=11∨k=12∨k=13∨k=14∨k=15:=by omega
 rcases h11 with rfl | rfl | rfl | rfl | rfl | rfl | rfl | rfl | rfl | rfl | rfl
 ·exact gC (by decide)
 ·exact gC (by decide)
 ·exact gC (by decide)
 ·exact ff (by decide)
 ·exact ff (by decide)
 ·exact ff (by decide)
 ·exact ff (by decide)
 ·exact ff (by decide)
 ·exact ff (by decide)
 ·exact gC (by decide)
 ·exact gC (by decide)
theorem xM {k:Int} (hk:5<=k/\k<=7):Seg [opK k]:=by
 have h3:k=5∨k=6∨k=7:=by omega
 rcases h3 with rfl | rfl | rfl<;>exact eN (by decide)
theorem xA {v:JV} (h:dM v=true) (hc:cW v):Seg [fI v]:=by
 rcases ua h with ⟨n,hn,rfl⟩ | ⟨s,hs,rfl⟩ | rfl | ⟨b,rfl⟩
 ·have hi:=hc.out.2.1;have hok:jq (fI (pA n)):=.inr (.inr (.inl ⟨rfl,hn,hi.2,rfl⟩));obtain ⟨c,r,e,_,_,_,hB,_⟩:=oL hok;have hd:=mj (hB rfl).1;refine .one hok ?_ (λ e=>absurd e (by show ¬ (3:Int)=5;decide));rw [e];show c≠61
  rintro rfl;exact absurd hd (by decide)
 ·refine .one (.inr (.inr (.inr (.inl ⟨rfl,hs,rfl⟩)))) ?_ (λ e=>absurd e (by show ¬ (4:Int)=5;decide));show (jB s).headD 0≠61
  unfold jB;exact (by decide:(34:UInt8)≠61)
 ·exact eN (by decide)
 ·cases b<;>exact eN (by decide)
theorem Seg.wrap {f:Nat} {x:Nat × List LX} (h:Seg x.2):Seg (cU f x):=by
 unfold cU;split
 ·exact (eM (t:=[40]) (by decide) (by decide) (by decide)).app (h.app (eM (t:=[41]) (by decide) (by decide) (by decide)))
 ·exact h
theorem oK:∀ {ks:List (List LX)},ks≠[]->(∀ k ∈ ks,Seg k)->Seg (cm ks)
 | [],h,_=>absurd rfl h
 | [a],_,h=>h a List.mem_cons_self
 | a::b::r,_,h=>(h a List.mem_cons_self).op (ff (by decide)) (oK (List.cons_ne_nil _ _) (λ k hk=>h k (List.mem_cons_of_mem _ hk)))
theorem oV:∀ (r:Nat) (x:EJ),bj r x≠0->bh x->Seg (bM x).2
 | 0,x,h,_=>absurd (by cases x;rfl) h
 |r+1,.mk k v s kids,h,hc=>by
  obtain ⟨_,hk,hkids⟩:=aR h;unfold bh at hc;obtain ⟨_,hcv,_,_,hck⟩:=hc;have ih:∀ y ∈ kids,Seg (bM y).2:=λ y hy=>oV r y (hkids y hy) (aK.1 hck y hy)
  rw [yf];simp only;rcases ub hk with ⟨rfl,hl,rfl,hk0⟩ | ⟨rfl,⟨rfl,hn,hk0⟩ | ⟨rfl,hn,hk1⟩ | ⟨rfl,rfl⟩ | ⟨h5,h7,rfl,hk1⟩ | ⟨h8,h15,rfl,hk2⟩⟩
  ·exact xA hl hcv
  ·exact nf hn
  ·obtain ⟨y,rfl⟩:=List.length_eq_one_iff.1 hk1;show Seg (cU 8 (bM y)++[aA [46],eW s])
   exact (ih y List.mem_cons_self).wrap.app ((eM (t:=[46]) (by decide) (by decide) (by decide)).app (nf hn))
  ·show Seg (aA [91]::(cm ((kids.map bM).map (cU 1))++[aA [93]]))
   have ho:=eM (t:=[91]) (by decide) (by decide) (by decide);have hcl:=eM (t:=[93]) (by decide) (by decide) (by decide);cases kids with
   | nil=>exact ho.app hcl
   |cons y l =>
    refine ho.app ((oK (by simp) λ k hk=>?_).app hcl);rw [List.map_map] at hk;obtain ⟨z,hz,rfl⟩:=List.mem_map.1 hk;exact (ih z hz).wrap
  ·obtain ⟨y,rfl⟩:=List.length_eq_one_iff.1 hk1;have e:bK k dX [] ([y].map bM)=[opK k]++az (ay k) y:=by
    unfold bK;rw [if_neg (by omega),if_neg (by omega),if_neg (by omega),if_neg (by omega)];rfl
   rw [e];exact (xM ⟨h5,h7⟩).app (ih y List.mem_cons_self).wrap
  ·match kids,hk2,ih with
   |[y,z],_,ih =>
    have e:bK k dX [] ([y,z].map bM)=az (gP (ay k)) y++opK k::az (ay k+1) z:=by
     unfold bK;rw [if_neg (by omega),if_neg (by omega),if_neg (by omega),if_neg (by omega)];rfl
    rw [e];exact (ih y List.mem_cons_self).wrap.op (zy ⟨by omega,h15⟩) (ih z (List.mem_cons_of_mem _ List.mem_cons_self)).wrap
theorem ri {x:EJ} (h:fY x) (hc:bh x) (f:Nat):Seg (az f x):=(oV 12 x h hc).wrap
theorem iJ {d:Nat} (ih:d≠0->∀ l:List SJ,bJ (d-1) l=true->a9 l->l=[]∨Seg (aw l)):∀ l:List SJ,bJ d l=true->a9 l->l=[]∨Seg (aw l)
 | [],_,_=>.inl rfl
 | .mk k s a b body els::l,hm,hc=>by
  right;unfold bJ at hm;unfold a9 fX at hc;rw [Bool.and_eq_true] at hm;obtain ⟨hx,hl⟩:=hm;obtain ⟨⟨_,_,hca,hcb,_,_,hcbo,hcel⟩,hcl⟩:=hc;unfold iB at hx;rw [Bool.and_eq_true,Bool.and_eq_true,decide_eq_true_eq,decide_eq_true_eq] at hx;obtain ⟨hd,hfa,hk⟩:=hx;have hb:∀ l:List SJ,bJ (d-1) l=true->a9 l->Seg (aA [123]::(aw l++[aA [125]])):=λ l h1 h2=>by
   have ho:=eM (t:=[123]) (by decide) (by decide) (by decide);have hcl:=eM (t:=[125]) (by decide) (by decide) (by decide);rcases ih hd l h1 h2 with rfl | h
   ·exact ho.app hcl
   ·exact ho.app (h.app hcl)
  have hA:=ri hfa hca 1;have hS:Seg (dy (.mk k s a b body els)):=by
   unfold dy;by_cases h1:k=1
   ·rw [if_pos h1] at hk ⊢;rw [Bool.and_eq_true,decide_eq_true_eq] at hk;exact (eN (t:=d8) (by decide)).app (hA.op (ff (by decide)) ((ri hk.1 hcb 1).app (eM (t:=[59]) (by decide) (by decide) (by decide))))
   ·rw [if_neg h1] at hk ⊢;by_cases h2:k=2
    ·rw [if_pos h2,Bool.and_eq_true,Bool.and_eq_true,Bool.and_eq_true] at hk;rw [if_neg (by omega)];refine (eN (t:=wIf) (by decide)).app (hA.app ?_);by_cases he:els.length=0
     ·rw [if_pos he];exact hb body hk.2.2.1 hcbo
     ·rw [if_neg he];have e:aA [123]::(aw body++aA [125]::bv dE::aA [123]::(aw els++[aA [125]]))=(aA [123]::(aw body++[aA [125]]))++([bv dE]++(aA [123]::(aw els++[aA [125]]))):=by simp
      rw [e];exact (hb body hk.2.2.1 hcbo).app ((eN (t:=dE) (by decide)).app (hb els hk.2.2.2 hcel))
    ·rw [if_neg h2] at hk;by_cases h3:k=3
     ·rw [if_pos h3,Bool.and_eq_true,Bool.and_eq_true,Bool.and_eq_true,decide_eq_true_eq] at hk;rw [if_pos h3,if_pos hk.2.2.2];exact ((eN (t:=gM) (by decide)).app ((nf hk.2.1).app (eN (t:=wIn) (by decide)))).app (hA.app (hb body hk.2.2.1 hcbo))
     ·rw [if_neg h3] at hk;cases hk
  unfold aw;rcases iJ ih l hl hcl with rfl | h
  ·unfold aw;rw [List.append_nil];exact hS
  ·exact hS.app h
theorem nz:∀ (d:Nat) (l:List SJ),bJ d l=true->a9 l->l=[]∨Seg (aw l)
 | 0,l,h,hc=>iJ (λ h=>absurd rfl h) l h hc
 | d+1,l,h,hc=>iJ (d:=d+1) (λ _ l=>nz d l) l h hc
theorem tC {d:Nat} {l:List SJ} (h:bJ d l=true) (hc:a9 l):jh (aw l):=by
 rcases nz d l h hc with rfl | h
 ·unfold aw;trivial
 ·exact h.ok
def dU (l:List UInt8):List SJ × Int × Int :=
 if (iK l).2.2≠0 then ([],(iK l).2.1,(iK l).2.2)
 else match jn (iK l).1 with
  | .bad p=>([],(tkA (iK l).1 p:Nat),330)
  | .ok b _=>if ie b=true then (b,0,0) else ([],0,331)
def bt (l:List LX):Nat:=(l.map λ x=>(aF x).length+1).sum
theorem al (a b:List LX):bt (a++b)=bt a+bt b:=by unfold bt;rw [List.map_append,List.sum_append]
theorem ai (x:LX) (b:List LX):bt (x::b)=(aF x).length+1+bt b:=by unfold bt;rw [List.map_cons,List.sum_cons]
theorem bd:bt []=0:=rfl
theorem cz (st:List UInt8 × Bool) (s:List UInt8):(bi st s).1.length<=st.1.length+(s.length+1):=by
 unfold bi;simp only [List.length_append];split<;>simp<;>omega
theorem mT:∀ (l:List LX) (st:List UInt8 × Bool),((l.map aF).foldl bi st).1.length<=st.1.length+bt l
 | [],st=>by simp [bt]
 |x::r,st=>by
  rw [List.map_cons,List.foldl_cons,ai];have h1:=mT r (bi st (aF x));have h2:=cz st (aF x);omega
theorem mf:∀ (f:Nat) (l:List UInt8),(mc f l).length<=l.length
 | _,[]=>by unfold mc;exact Nat.le_refl _
 | 0,_::_=>by unfold mc;simp
 |f+1,c::r=>by
  unfold mc;split
  ·simp
  ·have:=mf f ((c::r).drop (ar (c::r)).2);rw [List.length_drop] at this;simp only [List.length_cons] at *;omega
theorem AU (c:Nat):(aE c).length<=6:=by
 unfold aE;split
 ·simp
 ·split
  ·simp
  ·unfold af
   repeat' split
   all_goals simp
theorem yC:∀ l:List Nat,(l.flatMap aE).length<=6*l.length
 | []=>by simp
 |c::r=>by
  rw [List.flatMap_cons,List.length_append,List.length_cons];have:=AU c;have:=yC r;omega
theorem wg (s:List UInt8):(jB s).length<=6*s.length+2:=by
 unfold jB;have h1:=yC (eb s);have h2:(eb s).length<=s.length:=mf _ _;simp only [List.length_append,List.length_cons,List.length_nil];omega
theorem r6 {n:Int} (h:iw n):(cQ n).length<=20:=by
 unfold iw at h;have h1:=j3 (N:=n.natAbs) (k:=19) (by show n.natAbs<10000000000000000000;omega) (by decide);unfold cQ;split
 ·rw [List.length_cons];omega
 ·omega
theorem xz {v:JV} (h:cW v):(aF (fI v)).length+9<=40*dj v:=by
 obtain ⟨k,n,s,kids,keys⟩:=v;obtain ⟨_,hn,_⟩:=h.out;have h1:=wg s;have h2:=r6 hn;by_cases k3:k=3
 ·rw [show fI (.mk k n s kids keys)=(3,cQ n,n) from if_pos k3];show (cQ n).length+9<=_;unfold dj;omega
 by_cases k4:k=4
 ·rw [show fI (.mk k n s kids keys)=(4,s,0) from (if_neg k3).trans (if_pos k4)];show (jB s).length+9<=_;unfold dj;omega
 by_cases k1:k=1
 ·rw [show fI (.mk k n s kids keys)=bv pX from (if_neg k3).trans ((if_neg k4).trans (if_pos k1))];show (4:Nat)+9<=_;unfold dj;omega
 by_cases n1:n=1
 ·rw [show fI (.mk k n s kids keys)=bv kj from (if_neg k3).trans ((if_neg k4).trans ((if_neg k1).trans (if_pos n1)))];show (4:Nat)+9<=_;unfold dj;omega
 ·rw [show fI (.mk k n s kids keys)=bv gX from (if_neg k3).trans ((if_neg k4).trans ((if_neg k1).trans (if_neg n1)))];show (5:Nat)+9<=_;unfold dj;omega
theorem ru (f:Nat) (x:Nat × List LX):bt (cU f x)<=bt x.2+4:=by
 unfold cU;split
 ·rw [ai,al];show 2+(bt x.2+2)<=_;omega
 ·omega
theorem nY:∀ l:List (List LX),bt (cm l)<=(l.map λ x=>bt x+2).sum
 | []=>Nat.le_refl _
 | [a]=>by simp [cm]
 |a::b::r=>by
  rw [cm,al,ai,List.map_cons,List.sum_cons];have:=nY (b::r);show bt a+(2+bt (cm (b::r)))<=_
  omega
theorem zz (k:Int):(aF (opK k)).length<=4:=by
 unfold opK
 repeat' split
 all_goals decide
theorem qE:∀ x:EJ,bh x->bt (bM x).2+8<=40*fE x
 | .mk k v s kids,h=>by
  unfold bh at h;obtain ⟨g1,hv,g2,g3,hk⟩:=h;clear g1 g2 g3;have hK:∀ y ∈ kids,∀ f,bt (cU f (bM y))+4<=40*fE y:=λ y hy f=>by
   have h1:=qE y (aK.1 hk y hy);have h2:=ru f (bM y);omega
  have hb:=nS v;have hop:=zz k;have hl:=xz hv;unfold bM fE;rw [gH];simp only;unfold bK;split
  ·rw [ai,bd];omega
  split
  ·rw [ai,bd];show s.length+1+0+8<=_;omega
  split
  ·cases kids with
   | nil=>rw [al,ai,ai,bd];show bt []+(2+(s.length+1+0))+8<=_;rw [bd];omega
   |cons y r =>
    have h1:=hK y List.mem_cons_self 8;rw [al,ai,ai,bd];unfold cZ;show bt (cU 8 (bM y))+(2+(s.length+1+0))+8<=_
    omega
  split
  ·rw [ai,al,ai,bd];have h1:=nY ((kids.map bM).map (cU 1));have h2:(((kids.map bM).map (cU 1)).map λ x=>bt x+2).sum<=40*cZ kids:=by
    clear h1 hl hop hb hv
    induction kids with
    | nil=>simp [cZ]
    |cons y r ih =>
     have g1:=hK y List.mem_cons_self 1;unfold io at hk;have g2:=ih hk.2 λ z hz f=>hK z (List.mem_cons_of_mem _ hz) f
     simp only [List.map_cons,List.sum_cons];unfold cZ;omega
   show 2+(bt (cm ((kids.map bM).map (cU 1)))+(2+0))+8<=_
   omega
  split
  ·rename_i a he
   obtain ⟨y,rfl⟩:∃ y,kids=[y]:=by
    match kids,he with
    | [y],_=>exact ⟨y,rfl⟩
   obtain rfl:bM y=a:=by simpa using he
   have h1:=hK y List.mem_cons_self (ay k);rw [ai];unfold cZ cZ;omega
  ·rename_i a b he
   obtain ⟨y,z,rfl⟩:∃ y z,kids=[y,z]:=by
    match kids,he with
    | [y,z],_=>exact ⟨y,z,rfl⟩
   obtain ⟨rfl,rfl⟩:bM y=a/\bM z=b:=by simpa using he
   have h1:=hK y List.mem_cons_self (gP (ay k));have h2:=hK z (List.mem_cons_of_mem _ List.mem_cons_self) (ay k+1);rw [al,ai];unfold cZ cZ cZ;omega
  ·rw [bd];omega
theorem qF (f:Nat) (x:EJ) (h:bh x):bt (az f x)<=40*fE x:=by
 have h1:=qE x h;have h2:=ru f (bM x);unfold az;omega
mutual
theorem vE:∀ x:SJ,fX x->bt (dy x)<=40*ig x
 | .mk k s a b body els,h=>by
  unfold fX at h;obtain ⟨_,_,ha,hb,_,_,hB,hE⟩:=h;have h1:=qF 1 a ha;have h2:=qF 1 b hb;have h3:=gB body hB;have h4:=gB els hE;unfold dy ig;split
  ·rw [ai,al,ai,al,ai,bd];show 5+(bt (az 1 a)+(2+(bt (az 1 b)+(2+0))))<=_
   omega
  ·have e1:bt (if k=3 then [bv gM,eW s,bv wIn] else [bv wIf])<=8+s.length:=by
    split
    ·rw [ai,ai,ai,bd];show 4+(s.length+1+(3+0))<=_;omega
    ·rw [ai,bd];show 3+0<=_;omega
   have e2:bt (if els.length=0 then [] else bv dE::aA [123]::(aw els++[aA [125]]))<=9+bt (aw els):=by
    split
    ·rw [bd];omega
    ·rw [ai,ai,al,ai,bd];show 5+(2+(bt (aw els)+(2+0)))<=_;omega
   rw [al,al,ai,al,ai];show bt (if k=3 then [bv gM,eW s,bv wIn] else [bv wIf])+(bt (az 1 a)+(2+(bt (aw body)+(2+bt (if els.length=0 then [] else bv dE::aA [123]::(aw els++[aA [125]]))))))<=_
   omega
theorem gB:∀ l:List SJ,a9 l->bt (aw l)<=40*cq l
 | [],_=>by unfold aw;exact Nat.zero_le _
 |x::r,h=>by
  unfold a9 at h;unfold aw cq;rw [al];have h1:=vE x h.1;have h2:=gB r h.2;omega
end
theorem vI {x:LX} (h:jq x):uM (aF x):=by
 obtain ⟨c,r,e,_,_,h1,h2,h3,h4⟩:=oL h;refine ⟨by rw [e];simp,λ h46=>?_⟩;have hc:c=46:=by rw [e] at h46;simpa using h46
 subst hc;rcases h with ⟨hk,_⟩ | ⟨hk,_⟩ | ⟨hk,_⟩ | ⟨hk,_⟩ | ⟨hk,hs,_⟩
 ·exact absurd (h1 (.inl hk)) (by decide)
 ·exact absurd (h1 (.inr hk)) (by decide)
 ·exact absurd (h2 hk).1 (by decide)
 ·exact absurd (h3 hk) (by decide)
 ·have e2:aF x=x.2.1:=by unfold aF;rw [if_neg (by omega)]
  have:∀ t ∈ cn,t.headD 0=46->t=[46]:=by decide
  rw [e2] at h46 ⊢;exact this _ hs h46
theorem jh.all:∀ {l:List LX},jh l->∀ x ∈ l,jq x
 |y::r,h,x,hx=>by
  rcases List.mem_cons.1 hx with rfl | hx
  ·exact h.head
  ·exact h.tail.all x hx
theorem qR {d:Nat} {l:List SJ} (h:bJ d l=true) (hc:a9 l):(((aw l).map aF).foldl bi ([],false)).1=fB l:=by
 refine v8 _ λ s hs=>?_
 obtain ⟨x,hx,rfl⟩:=List.mem_map.1 hs;exact vI ((tC h hc).all x hx)
def dV (l:List SJ):List UInt8 × Int:=if ie l=true then (if 512<(fB l).length then ([],3) else (fB l,0)) else ([],332)
end
section
open Go.RowKit
attribute [local go_sem] aa ac ae ab
theorem ni (s:List UInt8):Lib.strCells ⟨s.toArray⟩=ak s:=by unfold Lib.strCells ak;simp
section
variable {P:Program} (w:World)
theorem lH (base:Nat) (t u ty e:TypeId) (i:TypeInfo) (ht:P.underlying t=some (.slice e)) (hu:P.underlying u=some .string) (hi:P.info? e=some i) (hz:i.zero=some (Zi .u8 0)) (hsize:i.size=1) (hby:i.bytes=1)
  (v:Value) (n:Nat) (xs:List Value) (hown:w.ownsRow base e 1 v n xs) (s:ByteArray) (h63:n+s.size<=maxLen) (hbytes:n+s.size<=140737488355328) (hbase:base<=w.heap.size) :
  ∃ v' w',(Builtin.append_ #[t,u] ty #[v,Zt s]).run P w=.ok v' w'/\w'.ownsRow base e 1 v' (n+s.size) (xs++Lib.strCells s)/\w.grownBy w' v.ownBlock/\(v'.ownBlock=v.ownBlock∨∃ k,v'.ownBlock=some k/\w.heap.size<=k):=by
 obtain ⟨v',w',hr,h1,h2,h3⟩:=Lib.run_append_own_string (P:=P) w base t u ty e i ht hu hi hz hsize hby v n xs hown s h63 hbytes hbase;refine ⟨v',w',hr,h1,h2,?_⟩;rcases hown.2 with ⟨rfl,rfl⟩ | ⟨g,cap,cur,rfl,hbg,hg,hnc,hcm,hcs,htake⟩
 ·obtain ⟨v2,w2,hr2,k1,_,_⟩:=Lib.run_append_own_string (P:=P) w w.heap.size t u ty e i ht hu hi hz hsize hby (Zs none 0 0) 0 [] (World.ownsRow_nil _ _ _ _) s (by omega) (by omega) (Nat.le_refl _);rw [hr] at hr2;injection hr2 with e1 e2
  subst e1 e2;cases ho:v'.ownBlock with
  | none=>exact .inl rfl
  | some k=>exact .inr ⟨k,rfl,(k1.lt k ho).1⟩
 ·have hxl:xs.length=n:=by simpa using hown.1
  by_cases hroom:n+s.size<=cap
  ·have hcs':cur.size=cap:=by simpa using hcs
   have hr2:=Lib.run_append_room_string (P:=P) w t u ty e i ht hu hi hsize g n cap cur hg s hroom (by omega);rw [hr] at hr2;injection hr2 with e1 e2
   subst e1;exact .inl rfl
  ·have holds:∀ j u,xs[j]? = some u->w.cell? ((⟨g,0,none⟩:Addr).add j)=some u:=hown.cells (g:=g) rfl;unfold maxLen at h63;have hr2:=Lib.run_append_grow_string (P:=P) w t u ty e i (Zi .u8 0) ht hu hi hz ⟨g,0,none⟩ n cap xs (by rw [hsize];simpa using hxl) holds s (by omega) (by omega) (by rw [hby];exact growslice_fits (by omega) (by omega));rw [hr] at hr2;injection hr2 with e1 e2
   subst e1;exact .inr ⟨_,rfl,Nat.le_refl _⟩
theorem gi {o:Oper} {a:Act} {K:Act->World->Prop} {Q:Exit->Act->World->Prop} (s x:Operand) (t u:TypeId)
  (ho:o.op=.call { callee:=.builtin .append,args:=#[s,x],argTypes:=#[t,u] })
  (base:Nat) (e:TypeId) (i:TypeInfo) (ht:P.underlying t=some (.slice e)) (hu:P.underlying u=some .string) (hi:P.info? e=some i) (hz:i.zero=some (Zi .u8 0)) (hsize:i.size=1) (hby:i.bytes=1)
  (v:Value) (n:Nat) (xs:List Value) (hs:a.eval s=v) (hown:w.ownsRow base e 1 v n xs) (str:ByteArray) (hx:a.eval x=Zt str)
  (h63:n+str.size<=maxLen) (hbytes:n+str.size<=140737488355328) (hbase:base<=w.heap.size)
  (h:∀ v' w',w'.ownsRow base e 1 v' (n+str.size) (xs++Lib.strCells str)->w.grownBy w' v.ownBlock->(v'.ownBlock=v.ownBlock∨∃ k,v'.ownBlock=some k/\w.heap.size<=k)->K (a.put o.dst v') w'):o.wp P a w K Q:=by
 obtain ⟨v',w',hrun,h2,h3,h4⟩:=lH (P:=P) w base t u o.type e i ht hu hi hz hsize hby v n xs hown str h63 hbytes hbase;unfold Oper.wp execOp;simp only [ho,resolve,invoke,builtin,Sem.run_bind,Sem.run_pure,Result.andThen_ok,List.map_toArray,List.map_cons,List.map_nil,hs,hx,hrun];exact h v' w' h2 h3 h4
end
structure WP (w:World) (g:Nat) (row:Value) (n:Nat) (out:List UInt8) (num:Bool):Prop where
 blk:Blk w g 71 #[row,.bool num]
 own:ji (g+1) row n out w
 gob:∃ w0:World,GOE w0/\w0.heap.size<=g/\Below w0.heap.size w0 w
section
variable {w w':World} {g:Nat} {row row':Value} {n n':Nat} {out out':List UInt8} {num num':Bool}
theorem WP.goe (h:WP w g row n out num):GOE w:=by obtain ⟨w0,h1,_,h2⟩:=h.gob;exact h1.keep h2
theorem WP.keep (h:WP w g row n out num) (hb:Below w.heap.size w w'):WP w' g row n out num:=by
 obtain ⟨w0,h1,h2,h3⟩:=h.gob;exact ⟨h.blk.keep hb,h.own.bel hb,w0,h1,h2,h3.trans (hb.mono (by have:=h.blk.lt;omega))⟩
theorem WP.ge (h:WP w g row n out num):∀ k,row.ownBlock=some k->g+1<=k/\k<w.heap.size:=λ k e=>h.own.2.1.lt k e
theorem WP.step (h:WP w g row n out num) (hg:MG g row w row' w') (hb:Blk w' g 71 #[row',.bool num']) (ho:ji (g+1) row' n' out' w'):WP w' g row' n' out' num':=by
 obtain ⟨w0,h1,h2,h3⟩:=h.gob;exact ⟨hb,ho,w0,h1,h2,h3.trans (hg.below (by have:=h.blk.lt;omega) h2 (λ k e=>by have:=(h.ge k e).1;omega))⟩
theorem WP.ne (h:WP w g row n out num):some g≠row.ownBlock:=λ e=>by have:=(h.ge g e.symm).1;omega
end
theorem aH.mg {L:List (Nat × TypeId × Array Value)} {w0 W W':World} {g:Nat} {a b:Value} (h:aH L w0 W) (hg:MG g a W b W') (hb:w0.heap.size<=g) (ho:∀ k,a.ownBlock=some k->w0.heap.size<=k) (hL:∀ x ∈ L,x.1≠g/\some x.1≠a.ownBlock):aH L w0 W' :=
 ⟨h.1.trans (hg.below h.1.size hb ho),λ x hx=>hg.blk (h.2 x hx) (hL x hx).1 (hL x hx).2⟩
theorem tG (c:UInt8) (w:World):Calls Tryz.prog 111 #[Zi .u8 c.toNat] w λ e w'=>e=.returned (.bool (bE c))/\w'=w:=by
 have hc:=c.toNat_lt;obtain ⟨n,hn⟩:∃ n,c.toNat=n:=⟨_,rfl⟩
 have HB:=aW (show bE c=(decide (97<=n/\n<=122) || decide (48<=n/\n<=57)) by unfold bE aL bc;rw [hn]);rw [hn] at hc ⊢;clear hn;by_cases h1:97<=n
 ·by_cases h2:n<=122
  ·have HT:=aW (show bE c=true by rw [HB.out];simp;omega);go_enter Tryz.func111,Tryz.ntmps111;go_wp2;go_ret;exact ⟨am (by rw [HT.out]),rfl⟩
  ·have HT:=aW (show bE c=false by rw [HB.out];simp;omega);go_enter Tryz.func111,Tryz.ntmps111;go_wp2;go_ret;exact ⟨am (by rw [HT.out];try (simp;omega)),rfl⟩
 ·by_cases h2:48<=n
  ·by_cases h3:n<=57
   ·have HT:=aW (show bE c=true by rw [HB.out];simp;omega);go_enter Tryz.func111,Tryz.ntmps111;go_wp2;go_ret;exact ⟨am (by rw [HT.out];try (simp;omega)),rfl⟩
   ·have HT:=aW (show bE c=false by rw [HB.out];simp;omega);go_enter Tryz.func111,Tryz.ntmps111;go_wp2;go_ret;exact ⟨am (by rw [HT.out];try (simp;omega)),rfl⟩
  ·have HT:=aW (show bE c=false by rw [HB.out];simp;omega);go_enter Tryz.func111,Tryz.ntmps111;go_wp2;go_ret;exact ⟨am (by rw [HT.out];try (simp;omega)),rfl⟩
end
end Go.Proofs.YtgmnmnnoahdjnaaGreatDoor
