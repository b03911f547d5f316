import Derived.Test.YtgmnmnnoahdjnaaGreatDoorY29
import Derived.Test.YtgmnmnnoahdjnaaGreatDoorY28
open Go.Value renaming int → Zi, slice → Zs, string → Zt, pointer → Zp
open Go.IntKind renaming i64 → Zq
set_option maxRecDepth 100000
set_option maxHeartbeats 16000000
set_option linter.unusedVariables false
set_option linter.unusedSimpArgs false
namespace Go.Proofs.YtgmnmnnoahdjnaaGreatDoor
section
theorem mA (l:List UInt8):∀ k a,(dg l k a).length<=k
 | 0,a=>by simp [dg]
 |k+1,a=>by
  unfold dg;split
  ·rw [List.length_cons];have:=mA l k (qsS l a).2.1.toNat;omega
  ·simp
theorem zH (c:Nat):(ah c).length<=4:=by
 unfold ah
 repeat' split
 all_goals simp
theorem kP:∀ xs:List (Int × Int),(bv xs).length<=4*xs.length
 | []=>by simp [bv]
 |x::r=>by
  have h1:=zH x.1.toNat;have h2:=kP r;unfold bv at h2 ⊢;rw [List.flatMap_cons,List.length_append,List.length_cons];omega
theorem rE (l:List UInt8) (a:Int):(bZ l a).1.length<=4*l.length:=by
 unfold bZ;split
 ·simp
 split
 ·simp
 split
 ·simp
 split
 ·show (bv (aC l (a.toNat+1))).length<=_
  have h1:=kP (aC l (a.toNat+1));have h2:=mA l (l.length-(a.toNat+1)) (a.toNat+1);unfold aC at h1 ⊢;omega
 ·simp
theorem ry (l:List UInt8) (a:Int):(cH l a).2.2=0->iw (cH l a).1:=by
 unfold cH;split
 ·intro h;cases h
 ·cases dC l (aQ a.toNat) with
  |mk st q =>
   cases q with
   | some p=>intro h;cases h
   |none =>
    simp only;unfold bg;split
    ·intro h;cases h
    ·rename_i h
     intro _;have h2:¬ ei st.minus<st.size:=λ h3=>h (by simp [h3])
     unfold ei at h2;unfold iw;simp only;cases hm:st.minus
     ·rw [hm] at h2;simp at h2 ⊢;omega
     ·rw [hm] at h2;simp at h2 ⊢;omega
theorem xg {l:List UInt8} {p:Nat} {k n:Int} {t:List UInt8} {m:Nat} (h:cV l p=.inl (k,t,n,m)):t.length<=4*l.length+2/\iw n:=by
 have tw:∀ (x:List UInt8) (q:Nat),((x.drop q).takeWhile cK).length<=x.length:=λ x q=>by
  have h1:=(List.takeWhile_sublist (p:=cK) (l:=x.drop q)).length_le;rw [List.length_drop] at h1;omega
 unfold cV at h;split at h
 ·split at h
  ·unfold cU at h;have h1:=tw l p;simp only at h;split at h
   ·injection h with h;injection h with _ h;injection h with h2 h;injection h with h3 _
    subst h2 h3;exact ⟨by omega,by decide⟩
   split at h
   ·injection h with h;injection h with _ h;injection h with h2 h;injection h with h3 _
    subst h2 h3;exact ⟨by omega,by decide⟩
   ·cases h
  split at h
  ·unfold di at h;simp only at h;split at h
   ·rename_i h0
    injection h with h;injection h with _ h;injection h with h2 h;injection h with h3 _
    subst h2 h3;refine ⟨?_,ry l p h0⟩;rw [List.length_take,List.length_drop];omega
   ·cases h
  split at h
  ·unfold fO at h;simp only at h;split at h
   ·injection h with h;injection h with _ h;injection h with h2 h;injection h with h3 _
    subst h2 h3;have:=rE l p;exact ⟨by omega,by decide⟩
   ·cases h
  ·unfold eU at h;split at h
   ·rename_i s hs
    injection h with h;injection h with _ h;injection h with h2 h;injection h with h3 _
    subst h2 h3;have:∀ x ∈ aF,x.length<=2:=by decide
    have:=this _ (fI hs).1;exact ⟨by omega,by decide⟩
   ·cases h
 ·cases h
theorem vA {l:List UInt8}:∀ (k p:Nat),∀ t ∈ (gI l k p).1,t.2.2.1.length<=4*l.length+2/\iw t.2.2.2
 | 0,_,t,h=>by simp [gI] at h
 |k+1,p,t,h=>by
  unfold gI at h;split at h
  ·cases hv:cV l (bV l p) with
   | inr e=>rw [hv] at h;simp at h
   |inl r =>
    obtain ⟨kd,s,n,m⟩:=r;rw [hv] at h;simp only at h;rcases List.mem_cons.1 h with rfl | h
    ·exact xg hv
    ·exact vA k m t h
  ·obtain rfl:=List.mem_singleton.1 h;exact ⟨by simp,by show iw 0;decide⟩
theorem oy {l:List UInt8}:∀ {k p:Nat} {e:Int × Int},(gI l k p).2=some e->e.2≠0
 | 0,_,_,h=>by cases h
 |k+1,p,e,h=>by
  unfold gI at h;split at h
  ·rename_i hq
   cases hv:cV l (bV l p) with
   | inr e'=>rw [hv] at h;simp only [Option.some.injEq] at h;subst h;exact kC hq hv
   |inl r =>
    obtain ⟨kd,t,n,m⟩:=r;rw [hv] at h;exact oy h
  ·cases h
theorem rq {l:List UInt8} {T:List ap} {a:Int} (h:ey l=(T,a,0)):WT T/\TG T/\T≠[]:=by
 unfold ey at h;split at h
 ·injection h with _ h;injection h with _ h;cases h
 ·rename_i hl
  have hrun:(bH l 0).2=none/\T=(bH l 0).1∨∃ e,(bH l 0).2=some e/\e.2=0:=by
   cases he:(bH l 0).2 with
   | none=>rw [he] at h;injection h with h _;exact .inl ⟨rfl,h.symm⟩
   | some e=>rw [he] at h;injection h with _ h;injection h with _ h;exact .inr ⟨e,rfl,h⟩
  rcases hrun with ⟨h1,h2⟩ | ⟨e,h1,h2⟩
  ·obtain ⟨T',e,hw⟩:=vB (l.length+1-0) 0 (bH l 0).1 (by rw [← h1];rfl) (by omega);rw [h2,e];refine ⟨WT.of hw,⟨?_,λ p=>?_⟩,by simp⟩
   ·rw [← e];have:=oC l 0;omega
   ·rw [← e];unfold tkT tkN;cases hp:(bH l 0).1[p]? with
    | none=>exact ⟨by simp,by decide⟩
    |some t =>
     have:=vA (l:=l) (l.length+1-0) 0 t (List.mem_of_getElem? hp);exact ⟨by have:=this.1;simp only;omega,this.2⟩
  ·exact absurd h2 (oy h1)
end
section
open Go.RowKit
attribute [local go_sem] aa ac ae ab
theorem zm:∀ r,r<=12->xO r
 | 0,h=>xD 0 h (λ h0=>absurd rfl h0)
 | r+1,h=>xD (r+1) h (λ _=>zm r (by omega))
def o6 (l:List SJ):Int:=if lX l=true then 0 else 332
def v9 (q:Int) (w:World) (e:Ending) (w':World):Prop:=e=.returned (Zi Zq q)/\Below w.heap.size w w'
theorem qW (l:List SJ) (css:List (List Value)) (A:Option Addr) (n ca:Nat) (F:Nat->Prop) (w:World) (hG:GOE w) (hS:SRs w F css l) (hln:l.length=n) (hnc:n<=ca) (hR:RdF w F A css.flatten) (hC:bY l) (hn:n<=4194304) :
  Calls Tryz.prog 18 #[.agg #[Zs A n ca]] w (v9 (o6 l) w):=by
 have HM:=aW (λ (W:World) (h:Below w.heap.size w W)=>zm 12 (by omega) l css A n ca F W (hG.keep h) (RR.imp hS λ c x hc=>hc.bel h) hln hnc (hR.keep (af.of_below h)) hC hn);obtain ⟨b,hb⟩:∃ b,bK 12 l=b:=⟨_,rfl⟩
 have HQ:=aW (show o6 l=(if b=true then 0 else 332) by unfold o6 lX;rw [hb]);unfold xP at HM;rw [hb] at HM;obtain ⟨q,hq⟩:∃ q,o6 l=q:=⟨_,rfl⟩
 rw [hq] at HQ ⊢;clear hq;have HH0:=aW ((az.nil w).push 24 #[Zs A n ca] (g:=w.heap.size) rfl);clear hG hS hln hnc hR hC hn hb;go_enter Tryz.func18,Tryz.ntmps18;go_wp2_with fail;refine (HM.out _ HH0.out.1).mono ?_;rintro e w1 ⟨rfl,hb1⟩;have HH1:=aW (HH0.out.keep hb1);clear hb1;cases b
 ·go_wp2;go_ret;exact ⟨by rw [HQ.out];rfl,HH1.out.1⟩
 ·go_wp2;go_ret;exact ⟨by rw [HQ.out];rfl,HH1.out.1⟩
theorem vf (r:Nat) (ih:jy r):kD r (λ k=>1<=k/\k<=15):=by
 intro k v s kids cs f w g row n st hk hW hx hc hd hf hlen;by_cases h1:k=1
 ·exact zt r k v s kids cs f w g row n st h1 hW hx hc hd hf hlen
 by_cases h2:k=2
 ·exact yz r k v s kids cs f w g row n st h2 hW hx hc hd hf hlen
 by_cases h3:k=3
 ·exact yA r ih k v s kids cs f w g row n st h3 hW hx hc hd hf hlen
 by_cases h4:k=4
 ·exact yy r ih k v s kids cs f w g row n st h4 hW hx hc hd hf hlen
 by_cases h5:k<=7
 ·exact wR r ih k v s kids cs f w g row n st ⟨by omega,h5⟩ hW hx hc hd hf hlen
 by_cases h8:11<=k/\k<=13
 ·exact yw r ih k v s kids cs f w g row n st h8 hW hx hc hd hf hlen
 ·refine yx (bt k) ?_ r ih k v s kids cs f w g row n st ⟨rfl,by omega,hk.2⟩ hW hx hc hd hf hlen;obtain rfl | rfl | rfl | rfl | rfl:k=8∨k=9∨k=10∨k=14∨k=15:=by omega
  all_goals decide
theorem zq {k:Int} {v:JV} {s:List UInt8} {n:Nat} (h:okX k v s n=true):1<=k/\k<=15:=by
 apply Decidable.byContradiction;intro hn;unfold okX at h;rw [if_neg (by omega)] at h;split at h
 ·cases h
 ·rw [if_neg (by omega),if_neg (by omega),if_neg (by omega),if_neg (by omega),if_neg (by omega)] at h;cases h
theorem yB (r:Nat) (ih:jy r):jy (r+1):=by
 intro x cs f w g row n st hW hx hc hd hf hlen;obtain ⟨k,v,s,kids⟩:=x;have hk:=zq (cD hd).2.1;by_cases hlf:f<=bt k
 ·have e:bI f (.mk k v s kids)=dE k v s (dW kids):=if_neg (show ¬ bt k<f by omega);rw [e] at hlen ⊢;exact vf r ih k v s kids cs f w g row n st hk hW hx hc hd hlf hlen
 have e:bI f (.mk k v s kids)=aK [40]::(dE k v s (dW kids)++[aK [41]]):=if_pos (show bt k<f by omega);rw [e] at hlen ⊢;rw [cI,ck];rw [aI,bB,aI,dH] at hlen;have h40:(bF (aK [40])).length=1:=rfl;have h41:(bF (aK [41])).length=1:=rfl;have hn:=hW.own.1;subst hn;obtain ⟨k1,n1,s1,A1,na1,ca1,B1,nb1,cb1,A,ca,css,rfl,hv,h1,h2,h3,h4⟩:=hx.out;obtain ⟨S,hS⟩:∃ S:ByteArray,⟨s.toArray⟩=S:=⟨_,rfl⟩
 obtain ⟨nk,hnk⟩:∃ q,kids.length=q:=⟨_,rfl⟩
 rw [hS,hnk] at hx ⊢;have hL1:1<=bt k:=by unfold bt;(repeat' split)<;>omega
 have HH0:=aW ((az.nil w).push 45 #[Zi Zq k,Zi Zq k1,Zi Zq n1,Zt s1,Zs A1 na1 ca1,Zs B1 nb1 cb1,Zt S,Zs A nk ca] (g:=w.heap.size) rfl);have HLV:=aW (λ W (h:Below w.heap.size w W)=>ij k k1 n1 s1 A1 na1 ca1 B1 nb1 cb1 S A nk ca W (hW.goe.keep h));unfold oG at HLV;obtain ⟨L,hL⟩:∃ L,bt k=L:=⟨_,rfl⟩
 rw [hL] at HLV hlf hL1;have hlt:(L:Int)<(f:Int):=by omega
 have HST:=aW (λ (W3:World) hb=>eH (W1:=w) (W3:=W3) (O:=#[]) (X:=#[Zi Zq k,Zi Zq k1,Zi Zq n1,Zt s1,Zs A1 na1 ca1,Zs B1 nb1 cb1,Zt S,Zs A nk ca]) hW h1 h4 hb);have hp1:=cM st [40];simp only [List.length_cons,List.length_nil] at hp1;have hp2:=a9 (dE k v s (dW kids)) (a6 st [40]);have HP0:=aW (λ W p (h:Below w.heap.size w W) (hp:p=W.heap.size)=>(iC [40] W p g row st.1.length st.1 st.2 (hW.keep h) hp (by simp) (by simp only [List.length_cons,List.length_nil];omega)));have HE:=aW (λ W row' (hm:MG g row w row' W) (h:WP W g row' (a6 st [40]).1.length (a6 st [40]).1 (a6 st [40]).2)=>vf r ih k v s kids _ 1 W g row' _ (a6 st [40]) hk h (hx.mg hm) hc hd (by omega) (by omega));have HP9:=aW (λ W p row' (h:WP W g row' (aE (dE k v s (dW kids)) (a6 st [40])).1.length (aE (dE k v s (dW kids)) (a6 st [40])).1 (aE (dE k v s (dW kids)) (a6 st [40])).2) (hp:p=W.heap.size)=>iC [41] W p g row' _ _ _ h hp (by simp) (by simp only [List.length_cons,List.length_nil];omega));have HWP:=aW hW;clear hW hx hc hd hv h1 h2 h3 h4 hlen h40 h41 hp1 hp2 hS hnk hL hk e;obtain ⟨c0,f0,l0⟩:=HH0.out.b0.rules;go_enter Tryz.func74,Tryz.ntmps74;go_wp2_with (first
  | (go_at_call 112;refine (HLV.out _ HH0.out.1).mono ?_;rintro e w1 ⟨rfl,hb1⟩)
  | (go_at_call 73;refine (HP9.out _ _ _ hw4 rfl).mono ?_;rintro e w5 ⟨rfl,row5,n5,hw5,hm5⟩)
  | (go_at_call 74;refine (HE.out _ _ hmw hw2).mono ?_;rintro e w4 ⟨rfl,row4,n4,hw4,hm4⟩;have hn4:=hw4.own.1;subst hn4)
  | (go_at_call 73;refine (HP0.out _ _ (HH0.out.1.trans (hb1.mono HH0.out.1.size)) rfl).mono ?_;rintro e w2 ⟨rfl,row2,n2,hw2,hm2⟩;have hn2:=hw2.own.1;subst hn2;have hmw:=(MG.bel (mb:=g) (a:=row) (HH0.out.1.trans (hb1.mono HH0.out.1.size))).trans hm2;obtain ⟨d0,d1,d2⟩:=(hm2.blk (HH0.out.keep hb1).b0 (by have:=HWP.out.blk.lt;omega) (λ e=>by have:=(HWP.out.ge _ e.symm).2;omega)).rules))
 go_end0;exact ⟨rfl,row5,n5,hw5,(hmw.trans hm4).trans hm5⟩
theorem xG:∀ r,jy r
 | 0=>λ x cs f w g row n st _ _ _ hd=>by obtain ⟨k,v,s,kids⟩:=x;exact absurd rfl (cD hd).1
 | r+1=>yB r (xG r)
end
section
open Go.RowKit Go.Shelf
attribute [local go_sem] aa ac ae ab
theorem oj:∀ {l:List SJ} {x:SJ},x ∈ l->xf x<=oh l
 |y::r,x,h=>by
  unfold oh;rcases List.mem_cons.1 h with rfl | h
  ·omega
  ·have:=oj h;omega
end
section
theorem wA:∀ lvl:Nat,lvl<=7->(kds lvl 11).map (λ k:Nat=>(bF (opK (k:Int)),(k:Int)))=eZ lvl:=by
 intro lvl h;rcases (by omega:lvl=0∨lvl=1∨lvl=2∨lvl=3∨lvl=4∨lvl=5∨lvl=6∨lvl=7) with rfl | rfl | rfl | rfl | rfl | rfl | rfl | rfl
 all_goals kernel_rfl
theorem uK {lvl n k:Nat} (h:k ∈ kds lvl n):5<=k/\k<n+5/\bt (k:Int)=lvl:=by
 unfold kds at h;obtain ⟨h1,h2⟩:=List.mem_filter.1 h;obtain ⟨j,h3,rfl⟩:=List.mem_map.1 h1;have:=List.mem_range.1 h3;exact ⟨by omega,by omega,by simpa using h2⟩
def kj (T:List ap) (p:Nat):List Nat->Option Int
 | []=>none
 | k::r=>if al T p (bF (opK (k:Int)))=true then some (k:Int) else kj T p r
theorem su (T:List ap) (p:Nat):∀ ks:List Nat,kj T p ks=fs T p (ks.map λ k:Nat=>(bF (opK (k:Int)),(k:Int)))
 | []=>rfl
 | k::r=>by rw [kj,List.map_cons,fs,su T p r]
theorem qf (T:List ap) {lvl:Nat} (p:Nat) (h:lvl<=7):eo T lvl p=kj T p (kds lvl 11):=by
 rw [su,wA lvl h];rfl
theorem kl {T:List ap} {p:Nat}:∀ {ks:List Nat} {i:Nat},(∀ j k,j<i->ks[j]? = some k->al T p (bF (opK (k:Int)))=false)->kj T p ks=kj T p (ks.drop i)
 | _,0,_=>rfl
 | [],i+1,_=>by simp
 |k::r,i+1,h=>by
  rw [kj,if_neg (by rw [h 0 k (by omega) rfl];simp),List.drop_succ_cons];exact kl λ j x hj hx=>h (j+1) x (by omega) (by simpa using hx)
def prB {α:Type} (b:Bool) (y:α) (q:Nat):PR α:=if b=true then .bad q else .ok y q
theorem dL {α:Type} {b:Bool} {y:α} {q p:Nat} (h:PR.bad p=prB b y q):b=true/\q=p:=by
 unfold prB at h;cases b
 ·simp at h
 ·simp at h;exact ⟨rfl,h.symm⟩
theorem jZ {T:List ap} (hT:WT T) {q nT:Nat} {s:List UInt8} {b c:Bool} (hl:T.length=nT) (hq:q<nT) (hc:(!b && al T q s)=c):(if c=true then q+1 else q)<nT:=by
 cases c
 ·simpa using hq
 ·have hs:al T q s=true:=by cases b<;>simp_all
  have h9:=hT.next (p:=q) (by rw [hl];exact hq) (ar hs);rw [hl] at h9;simpa using h9
theorem wv {T:List ap} {p q1 q3:Nat} {b1 b3 c2 c4:Bool} {y1 y3:EJ} (h1:eE T 1 p=prB b1 y1 q1) (h2:(!b1 && al T q1 [44])=c2)
  (h3:(if (!c2)=true then .bad (if c2=true then q1+1 else q1) else eE T 1 (if c2=true then q1+1 else q1))=prB b3 y3 q3) (h4:(!b3 && al T q3 [59])=c4) :
  jd T p=prB (!c4) (.mk 1 [] y1 y3 [] []) (if c4=true then q3+1 else q3):=by
 unfold jd;rw [h1];unfold prB;cases b1
 ·simp only [Bool.not_false,Bool.true_and] at h2;simp only [Bool.false_eq_true,if_false];rw [h2];cases c2
  ·simp only [Bool.not_false,if_true,Bool.false_eq_true,if_false] at h3 ⊢;obtain ⟨rfl,rfl⟩:=dL h3;subst h4;simp
  ·simp only [Bool.not_true,Bool.false_eq_true,if_false,if_true] at h3 ⊢;rw [h3];unfold prB;cases b3
   ·simp only [Bool.not_false,Bool.true_and] at h4;simp only [Bool.false_eq_true,if_false];rw [h4];cases c4<;>simp
   ·subst h4;simp
 ·subst h2;simp only [Bool.not_true,Bool.false_and,Bool.not_false,if_true,Bool.false_eq_true,if_false] at h3 ⊢;obtain ⟨rfl,rfl⟩:=dL h3;subst h4;simp
theorem xE {T:List ap} {p q1 q2 q4:Nat} {b1 b2 b4 c3:Bool} {y:EJ} {body els:List SJ} (h1:eE T 1 p=prB b1 y q1) (h2:(if b1=true then .bad q1 else eK T q1)=prB b2 body q2) (h3:(!b2 && al T q2 ep)=c3) (h4:c3=true->eK T (q2+1)=prB b4 els q4) :
  eIf T p=if c3=true then prB b4 (.mk 2 [] y aR body els) q4 else prB b2 (.mk 2 [] y aR body []) q2:=by
 unfold eIf;rw [h1];unfold prB;cases b1
 ·simp only [Bool.false_eq_true,if_false] at h2 ⊢;rw [h2];unfold prB;cases b2
  ·simp only [Bool.not_false,Bool.true_and] at h3;simp only [Bool.false_eq_true,if_false];rw [h3];cases c3
   ·simp
   ·simp only [if_true];rw [h4 rfl];unfold prB;cases b4<;>simp
  ·subst h3;simp
 ·simp only [if_true] at h2 ⊢;obtain ⟨rfl,rfl⟩:=dL h2;subst h3;simp
theorem ya {T:List ap} {p q1 q3 q4:Nat} {b3 b4 c1 c2:Bool} {y:EJ} {body:List SJ} (h1:decide (tkK T p=1)=c1) (hq1:(if c1=true then p+1 else p)=q1) (h2:(!(!c1) && al T q1 wIn)=c2)
  (h3:(if (!c2)=true then .bad (if c2=true then q1+1 else q1) else eE T 1 (if c2=true then q1+1 else q1))=prB b3 y q3) (h4:(if b3=true then .bad q3 else eK T q3)=prB b4 body q4) :
  mU T p=prB b4 (.mk 3 (if c1=true then tkT T p else []) y aR body []) q4:=by
 unfold mU;subst hq1;cases c1
 ·rw [decide_eq_false_iff_not] at h1;rw [if_neg h1];simp only [Bool.not_false,Bool.not_true,Bool.false_and] at h2;subst h2;simp only [Bool.not_false,if_true,Bool.false_eq_true,if_false] at h3;obtain ⟨rfl,rfl⟩:=dL h3;simp only [if_true] at h4;obtain ⟨rfl,rfl⟩:=dL h4;unfold prB;simp
 ·rw [decide_eq_true_eq] at h1;rw [if_pos h1];simp only [Bool.not_true,Bool.not_false,Bool.true_and,if_true] at h2 h3 ⊢;rw [h2];cases c2
  ·simp only [Bool.not_false,if_true,Bool.false_eq_true,if_false] at h3 ⊢;obtain ⟨rfl,rfl⟩:=dL h3;simp only [if_true] at h4;obtain ⟨rfl,rfl⟩:=dL h4;unfold prB;simp
  ·simp only [Bool.not_true,Bool.false_eq_true,if_false,if_true] at h3 ⊢;rw [show p+1+1=p+2 from rfl] at h3;rw [h3];unfold prB;cases b3
   ·simp only [Bool.false_eq_true,if_false] at h4 ⊢;rw [h4];unfold prB;cases b4<;>simp
   ·simp only [if_true] at h4 ⊢;obtain ⟨rfl,rfl⟩:=dL h4;simp
theorem uc {T:List ap} {hT:WT T} {p q2:Nat} {b b2 c1 c3:Bool} {l:List SJ} (hp:p<T.length) (h1:(!b && al T p [123])=c1) (h2:(if (!c1)=true then .bad (if c1=true then p+1 else p) else eS T [] (if c1=true then p+1 else p))=prB b2 l q2) (h3:(!b2 && al T q2 [125])=c3) :
  (if b=true then .bad p else eK T p)=prB (!c3) l (if c3=true then q2+1 else q2):=by
 cases b
 ·simp only [Bool.false_eq_true,if_false];rw [xB hT hp];simp only [Bool.not_false,Bool.true_and] at h1;rw [h1];cases c1
  ·simp only [Bool.not_false,if_true,Bool.false_eq_true,if_false] at h2 ⊢;obtain ⟨rfl,rfl⟩:=dL h2;subst h3;unfold prB;simp
  ·simp only [Bool.not_true,Bool.false_eq_true,if_false,if_true] at h2 ⊢;rw [h2];unfold prB;cases b2
   ·simp only [Bool.not_false,Bool.true_and] at h3;simp only [Bool.false_eq_true,if_false];rw [h3];cases c3<;>simp
   ·subst h3;simp
 ·subst h1;simp only [Bool.not_true,Bool.false_and,Bool.not_false,if_true,Bool.false_eq_true,if_false] at h2 ⊢;obtain ⟨rfl,rfl⟩:=dL h2;subst h3;unfold prB;simp
end
section
open Go.RowKit
attribute [local go_sem] aa ac ae ab
def lq:List UInt8:=[101,109,105,116,32,105,102,32,101,108,115,101,32,102,111,114,32,105,110,32,111,114,32,97,110,100,32,110,111,116,32,115,105,122,101,32,107,105,110,100,32,116,114,117,101,32,102,97,108,115,101,32,110,117,108,108]
theorem nc:eX lq []=cC:=by decide
def kf:List UInt8:=[97,98,99,100,101,102,103,104,105,106,107,108,109,110,111,112,113,114,115,116,117,118,119,120,121,122]
def lD:List UInt8:=[48,49,50,51,52,53,54,55,56,57]
theorem rT {p:UInt8->Bool} (h:(List.range 256).all (λ n=>p (UInt8.ofNat n))=true) (c:UInt8):p c=true:=by
 have:=List.all_eq_true.1 h c.toNat (List.mem_range.2 c.toNat_lt);simpa using this
theorem oW (c:UInt8):kf.contains c=ay c:=by
 have:=rT (p:=λ c=>kf.contains c == ay c) (by decide +kernel) c;simpa using this
theorem pE (c:UInt8):lD.contains c=aJ c:=by
 have:=rT (p:=λ c=>lD.contains c == aJ c) (by decide +kernel) c;simpa using this
theorem eI (c:UInt8) (w:World):Calls Tryz.prog 88 #[Zi .u8 c.toNat,Zt ⟨#[97,98,99,100,101,102,103,104,105,106,107,108,109,110,111,112,113,114,115,116,117,118,119,120,121,122]⟩] w λ e w'=>e=.returned (.bool (ay c))/\w=w':=by
 have:=mr c ⟨kf.toArray⟩ w (by decide);rw [eO,oW] at this;exact this
theorem fy (c:UInt8) (w:World):Calls Tryz.prog 88 #[Zi .u8 c.toNat,Zt ⟨#[48,49,50,51,52,53,54,55,56,57]⟩] w λ e w'=>e=.returned (.bool (aJ c))/\w=w':=by
 have:=mr c ⟨lD.toArray⟩ w (by decide);rw [eO,pE] at this;exact this
theorem kt (s:ByteArray) (w:World):Calls Tryz.prog 118 #[Zt s] w λ e w'=>e=.returned (.bool (cO (sl s)))/\w=w':=by
 have h:=mo s ⟨lq.toArray⟩ w (by decide);rw [eO,nc] at h;have H:=aW (show Calls Tryz.prog 144 #[Zt s,Zt ⟨lq.toArray⟩] w λ e w'=>e=.returned (.bool (cO (sl s)))/\w=w' from h);clear h;obtain ⟨b,hb⟩:∃ b,cO (sl s)=b:=⟨_,rfl⟩
 rw [hb] at H ⊢;clear hb;unfold lq at H;go_enter Tryz.func118,Tryz.ntmps118;go_wp2_with fail;refine H.out.mono ?_;rintro e w1 ⟨rfl,rfl⟩;go_wp2_with fail;go_ret;exact ⟨rfl,rfl⟩
theorem iM (s:ByteArray) (w:World):Calls Tryz.prog 78 #[Zt s] w λ e w'=>e=.returned (.bool (bc s))/\w=w':=by
 have HW:=aW (kt s);have HL:=aW eI;have HD:=aW fy;by_cases h1:s.size<1
 ·have HN:=aW (show bc s=false by rw [bc,decide_eq_false (show ¬ (1<=s.size/\s.size<=12) by omega)];simp);go_enter Tryz.func78,Tryz.ntmps78;go_wp2;go_ret;exact ⟨am HN.out.symm,rfl⟩
 ·by_cases h2:12<s.size
  ·have HN:=aW (show bc s=false by rw [bc,decide_eq_false (show ¬ (1<=s.size/\s.size<=12) by omega)];simp);go_enter Tryz.func78,Tryz.ntmps78;go_wp2;go_ret;exact ⟨am HN.out.symm,rfl⟩
  ·cases hw:cO (sl s) with
   |true =>
    have HN:=aW (show bc s=false by rw [bc,hw];simp);rw [hw] at HW;clear hw;go_enter Tryz.func78,Tryz.ntmps78;go_wp2_with (go_at_call 118;refine (HW.out _).mono ?_;rintro e w1 ⟨rfl,rfl⟩);go_ret;exact ⟨am HN.out.symm,rfl⟩
   |false =>
    have hN0:bc s=aN 0 (sl s):=by rw [bc,hw,decide_eq_true (show 1<=s.size/\s.size<=12 by omega)];simp
    rw [hw] at HW;have h0:0<s.size:=by omega
    have hd0:sl s=s[0]::(sl s).drop 1:=by
     have:=List.drop_eq_getElem_cons (l:=sl s) (i:=0) (by rw [bL];exact h0);rw [List.drop_zero] at this;exact this
    obtain ⟨c,hc⟩:∃ c,s[0]=c:=⟨_,rfl⟩
    rw [hc] at hd0;cases hl:ay c with
    |false =>
     have HN:=aW (show bc s=false by rw [hN0,hd0,aN,hl];simp);have HC:=aW (HL.out c);rw [hl] at HC;clear hw hN0 hd0 hl HL;go_enter Tryz.func78,Tryz.ntmps78;go_wp2_with (first | (go_at_call 118;refine (HW.out _).mono ?_;rintro e w1 ⟨rfl,rfl⟩) | (go_at_call 88;refine (HC.out _).mono ?_;rintro e w1 ⟨rfl,rfl⟩));go_ret;exact ⟨am HN.out.symm,rfl⟩
    |true =>
     have hN1:bc s=aN 1 ((sl s).drop 1):=by rw [hN0,hd0,aN,hl];simp
     obtain ⟨b,hb⟩:∃ b,bc s=b:=⟨_,rfl⟩
     rw [hb] at hN1 ⊢;have HN1:=aW hN1;have HC:=aW (HL.out c);rw [hl] at HC;have hs12:s.size<=12:=by omega
     clear hw hN0 hd0 hl hN1 hb h1 h2;go_enter Tryz.func78,Tryz.ntmps78;go_wp2_with (first | (go_at_call 118;refine (HW.out _).mono ?_;rintro e w1 ⟨rfl,rfl⟩) | (go_at_call 88;refine (HC.out _).mono ?_;rintro e w1 ⟨rfl,rfl⟩));clear hc;go_loopw [3] (λ i wr => ∃ k:Nat,k<=s.size/\1<=k/\i=Zi Zq k/\wr=w/\Hid (b=aN k ((sl s).drop k))) (λ i _=>s.size-(intOf i).toNat)
     case atStart=>exact ⟨1,by omega,by omega,rfl,rfl,HN1⟩
     case round =>
      obtain ⟨k,hk,hk1,rfl,rfl,hrb⟩:=hrel;by_cases hlt:k<s.size
      ·have hd:(sl s).drop k=s[k]::(sl s).drop (k+1):=List.drop_eq_getElem_cons (by rw [bL];exact hlt);obtain ⟨x,hx⟩:∃ x,s[k]=x:=⟨_,rfl⟩
       rw [hx] at hd;cases hxl:ay x with
       |true =>
        have HX:=aW (HL.out x);rw [hxl] at HX;have HR:=aW (show b=aN (k+1) ((sl s).drop (k+1)) by rw [hrb.out,hd,aN,hxl];simp);clear hd hxl hrb;go_wp2_with (go_at_call 88;refine (HX.out _).mono ?_;rintro e w1 ⟨rfl,rfl⟩);go_roundw
        case rel=>exact ⟨k+1,hlt,by omega,by go_num,by trivial,HR⟩
        case measure=>simp [intOf];omega
       |false =>
        have HX:=aW (HL.out x);rw [hxl] at HX;cases hxd:aJ x with
        |true =>
         have HY:=aW (HD.out x);rw [hxd] at HY;have HR:=aW (show b=aN (k+1) ((sl s).drop (k+1)) by rw [hrb.out,hd,aN,hxl,hxd,decide_eq_true (show 0<k by omega)];simp);clear hd hxl hrb hxd;go_wp2_with fail;refine (HX.out _).mono ?_;rintro e w1 ⟨rfl,rfl⟩;go_wp2_with fail;refine (HY.out _).mono ?_;rintro e w1 ⟨rfl,rfl⟩;go_wp2_with fail;go_roundw
         case rel=>exact ⟨k+1,hlt,by omega,by go_num,by trivial,HR⟩
         case measure=>simp [intOf];omega
        |false =>
         have HY:=aW (HD.out x);rw [hxd] at HY;have HR:=aW (show b=false by rw [hrb.out,hd,aN,hxl,hxd];simp);clear hd hxl hrb hxd;go_wp2_with fail;refine (HX.out _).mono ?_;rintro e w1 ⟨rfl,rfl⟩;go_wp2_with fail;refine (HY.out _).mono ?_;rintro e w1 ⟨rfl,rfl⟩;go_wp2_with fail;go_ret;exact ⟨am HR.out.symm,rfl⟩
      ·obtain rfl:k=s.size:=by omega
       have HR:=aW (show b=true by rw [hrb.out,List.drop_eq_nil_of_le (by rw [bL];exact Nat.le_refl _),aN]);clear hrb;go_wp2;go_ret;exact ⟨am HR.out.symm,rfl⟩
theorem vy (v:JV) (cs:List Value) (F:Nat->Prop) (w:World) (hv:VR w F cs v):Calls Tryz.prog 117 #[.agg cs.toArray] w (dl (dj v) w):=by
 obtain ⟨k,n,s,kids,keys⟩:=v;obtain ⟨A,B,a,b,css,rfl,_⟩:=hv.out;obtain ⟨nk,hnk⟩:∃ q,kids.length=q:=⟨_,rfl⟩
 obtain ⟨ny,hny⟩:∃ q,keys.length=q:=⟨_,rfl⟩
 obtain ⟨g,hg⟩:∃ g,dj (.mk k n s kids keys)=g:=⟨_,rfl⟩
 have hz:g=decide (k=0/\n=0/\s=[]/\nk+ny=0):=by rw [← hg,dj,hnk,hny]
 obtain ⟨sv,hsv⟩:∃ b:ByteArray,(⟨s.toArray⟩:ByteArray)=b:=⟨_,rfl⟩
 have hse:sv.toList=s:=by rw [← hsv,ByteArray.toList_eq]
 rw [hg,hnk,hny,hsv];clear hv hnk hny hsv hg;by_cases h1:k=0;rotate_left
 ·have e1:(k == 0)=false:=by simp [h1]
  obtain rfl:g=false:=by rw [hz];exact decide_eq_false λ h=>h1 h.1
  have HH0:=aW ((az.nil w).push 42 #[Zi Zq k,Zi Zq n,Zt sv,Zs A nk a,Zs B ny b] (g:=w.heap.size) rfl);obtain ⟨c0,f0,l0⟩:=HH0.out.b0.rules;clear h1 hse hz;go_enter Tryz.func117,Tryz.ntmps117;go_wp2;go_ret;exact ⟨rfl,HH0.out.1⟩
 subst h1;by_cases h2:n=0;rotate_left
 ·have e1:(n == 0)=false:=by simp [h2]
  obtain rfl:g=false:=by rw [hz];exact decide_eq_false λ h=>h2 h.2.1
  have HH0:=aW ((az.nil w).push 42 #[Zi Zq 0,Zi Zq n,Zt sv,Zs A nk a,Zs B ny b] (g:=w.heap.size) rfl);obtain ⟨c0,f0,l0⟩:=HH0.out.b0.rules;clear h2 hse hz;go_enter Tryz.func117,Tryz.ntmps117;go_wp2;go_ret;exact ⟨rfl,HH0.out.1⟩
 subst h2;by_cases h3:s=[];rotate_left
 ·have hsn:¬ sv.toList=[]:=by rw [hse];exact h3
  obtain rfl:g=false:=by rw [hz];exact decide_eq_false λ h=>h3 h.2.2.1
  have HH0:=aW ((az.nil w).push 42 #[Zi Zq 0,Zi Zq 0,Zt sv,Zs A nk a,Zs B ny b] (g:=w.heap.size) rfl);obtain ⟨c0,f0,l0⟩:=HH0.out.b0.rules;clear h3 hz hse;go_enter Tryz.func117,Tryz.ntmps117;go_wp2;go_ret;exact ⟨rfl,HH0.out.1⟩
 have hsy:sv.toList=[]:=by rw [hse];exact h3
 clear hse;by_cases h4:nk=0;rotate_left
 ·have e1:((nk:Int) == 0)=false:=by simp;omega
  obtain rfl:g=false:=by rw [hz];exact decide_eq_false λ h=>by omega
  have HH0:=aW ((az.nil w).push 42 #[Zi Zq 0,Zi Zq 0,Zt sv,Zs A nk a,Zs B ny b] (g:=w.heap.size) rfl);obtain ⟨c0,f0,l0⟩:=HH0.out.b0.rules;clear h3 hz;go_enter Tryz.func117,Tryz.ntmps117;go_wp2;go_ret;exact ⟨rfl,HH0.out.1⟩
 subst h4;by_cases h5:ny=0;rotate_left
 ·have e1:((ny:Int) == 0)=false:=by simp;omega
  obtain rfl:g=false:=by rw [hz];exact decide_eq_false λ h=>by omega
  have HH0:=aW ((az.nil w).push 42 #[Zi Zq 0,Zi Zq 0,Zt sv,Zs A 0 a,Zs B ny b] (g:=w.heap.size) rfl);obtain ⟨c0,f0,l0⟩:=HH0.out.b0.rules;clear h3 hz;go_enter Tryz.func117,Tryz.ntmps117;go_wp2;go_ret;exact ⟨rfl,HH0.out.1⟩
 subst h5;obtain rfl:g=true:=by rw [hz];exact decide_eq_true ⟨rfl,rfl,h3,rfl⟩
 have HH0:=aW ((az.nil w).push 42 #[Zi Zq 0,Zi Zq 0,Zt sv,Zs A 0 a,Zs B 0 b] (g:=w.heap.size) rfl);obtain ⟨c0,f0,l0⟩:=HH0.out.b0.rules;clear h3 hz;go_enter Tryz.func117,Tryz.ntmps117;go_wp2;go_ret;exact ⟨rfl,HH0.out.1⟩
theorem zw (k:Int) (q:Int) (hq:fJ k=q) (w:World):Calls Tryz.prog 160 #[Zi Zq k] w λ e w'=>e=.returned (Zi Zq q)/\w=w':=by
 have HQ:=aW hq;clear hq;have hk:k=1∨k=2∨k=3∨k=5∨k=6∨k=7∨k=4∨((k == 1)=false/\(k == 2)=false/\(k == 3)=false/\(k == 5)=false/\(k == 6)=false/\(k == 7)=false/\(k == 4)=false):=by
  simp only [beq_eq_false_iff_ne];omega
 rcases hk with rfl | rfl | rfl | rfl | rfl | rfl | rfl | ⟨h1,h2,h3,h5,h6,h7,h4⟩
 rotate_right
 ·obtain rfl:q=2:=by
   have g1:=beq_eq_false_iff_ne.1 h1;have g2:=beq_eq_false_iff_ne.1 h2;have g3:=beq_eq_false_iff_ne.1 h3;have g4:=beq_eq_false_iff_ne.1 h4;have g5:=beq_eq_false_iff_ne.1 h5;have g6:=beq_eq_false_iff_ne.1 h6;have g7:=beq_eq_false_iff_ne.1 h7;rw [← HQ.out];unfold fJ;rw [if_neg (by omega),if_neg (by omega),if_neg (by omega)]
  clear HQ;go_enter Tryz.func160,Tryz.ntmps160;go_wp2;go_ret;exact ⟨rfl,rfl⟩
 all_goals
  obtain rfl:=HQ.out.symm.trans (by rfl:fJ _=_);clear HQ;go_enter Tryz.func160,Tryz.ntmps160;go_wp2;go_ret;exact ⟨rfl,rfl⟩
theorem rh {v:JV} (h:dX v=true):1<=v.kind/\v.kind<=6:=by
 obtain ⟨k,n,s,kids,keys⟩:=v;have h1:=(fl (rg h).1).1;show 1<=k/\k<=6
 unfold cz at h1;split at h1
 ·omega
 split at h1
 ·omega
 split at h1
 ·omega
 split at h1
 ·omega
 split at h1
 ·omega
 split at h1
 ·omega
 cases h1
theorem zL (v:JV) (cs:List Value) (F:Nat->Prop) (w:World) (hv:VR w F cs v) (hc:dc v):Calls Tryz.prog 161 #[.agg cs.toArray] w (dl (ee v) w):=by
 have HRI:=aW (λ (W:World) (h:Below w.heap.size w W)=>wW v cs F W (hv.bel h) hc);have HK:=aW (λ (h:dX v=true)=>rh h);have HLT:=aW (show ee v=(dX v && (decide (v.kind=3/\0<=v.num) || decide (v.kind=1∨v.kind=2∨v.kind=4))) from rfl);obtain ⟨g,hg⟩:∃ g,ee v=g:=⟨_,rfl⟩
 obtain ⟨k,n,s,kids,keys⟩:=v;obtain ⟨A,B,a,b,css,rfl,_⟩:=hv.out;have HH0:=aW ((az.nil w).push 42 #[Zi Zq k,Zi Zq n,Zt ⟨s.toArray⟩,Zs A kids.length a,Zs B keys.length b] (g:=w.heap.size) rfl);rw [hg] at HLT ⊢;clear hv hc hg;obtain ⟨c0,f0,l0⟩:=HH0.out.b0.rules;obtain ⟨gd,hgd⟩:∃ q,dX (.mk k n s kids keys)=q:=⟨_,rfl⟩
 rw [hgd] at HRI HLT HK;clear hgd;cases gd with
 |false =>
  obtain rfl:g=false:=HLT.out;clear HLT HK;go_enter Tryz.func161,Tryz.ntmps161;go_wp2_with fail;refine (HRI.out _ HH0.out.1).mono ?_;rintro e w1 ⟨rfl,hb1⟩;have HH1:=aW (HH0.out.keep hb1);clear hb1 c0 f0 l0;go_wp2;go_ret;exact ⟨rfl,HH1.out.1⟩
 |true =>
  have hk:1<=k/\k<=6:=HK.out rfl;have hgv:g=(decide (k=3/\0<=n) || decide (k=1∨k=2∨k=4)):=HLT.out;clear HLT HK;by_cases h4:4<k
  ·have e4:¬ k<=4:=by omega
   have e5:decide (k<=4)=false:=decide_eq_false e4;obtain rfl:g=false:=by rw [hgv,decide_eq_false (by omega),decide_eq_false (by omega)];rfl
   clear hgv;go_enter Tryz.func161,Tryz.ntmps161;go_wp2_with fail;refine (HRI.out _ HH0.out.1).mono ?_;rintro e w1 ⟨rfl,hb1⟩;have HH1:=aW (HH0.out.keep hb1);clear hb1 c0 f0 l0;obtain ⟨c0,f0,l0⟩:=HH1.out.b0.rules;go_wp2;go_ret;exact ⟨rfl,HH1.out.1⟩
  have e4:k<=4:=by omega
  have e5:decide (k<=4)=true:=decide_eq_true e4;by_cases h3:k=3;rotate_left
  ·have e3:(k != 3)=true:=by simp [h3]
   obtain rfl:g=true:=by rw [hgv,decide_eq_true (p:=k=1∨k=2∨k=4) (by omega),Bool.or_true]
   clear hgv;go_enter Tryz.func161,Tryz.ntmps161;go_wp2_with fail;refine (HRI.out _ HH0.out.1).mono ?_;rintro e w1 ⟨rfl,hb1⟩;have HH1:=aW (HH0.out.keep hb1);clear hb1 c0 f0 l0;obtain ⟨c0,f0,l0⟩:=HH1.out.b0.rules;go_wp2;go_ret;exact ⟨rfl,HH1.out.1⟩
  subst h3;have HGV:=aW (show g=decide (0<=n) by rw [hgv];simp);by_cases h0:0<=n
  ·obtain rfl:g=true:=by rw [HGV.out];exact decide_eq_true h0
   have e0:decide (0<=n)=true:=decide_eq_true h0;clear hgv HGV;go_enter Tryz.func161,Tryz.ntmps161;go_wp2_with fail;refine (HRI.out _ HH0.out.1).mono ?_;rintro e w1 ⟨rfl,hb1⟩;have HH1:=aW (HH0.out.keep hb1);clear hb1 c0 f0 l0;obtain ⟨c0,f0,l0⟩:=HH1.out.b0.rules;go_wp2;go_ret;exact ⟨rfl,HH1.out.1⟩
  ·obtain rfl:g=false:=by rw [HGV.out];exact decide_eq_false h0
   have e0:decide (0<=n)=false:=decide_eq_false h0;clear hgv HGV;go_enter Tryz.func161,Tryz.ntmps161;go_wp2_with fail;refine (HRI.out _ HH0.out.1).mono ?_;rintro e w1 ⟨rfl,hb1⟩;have HH1:=aW (HH0.out.keep hb1);clear hb1 c0 f0 l0;obtain ⟨c0,f0,l0⟩:=HH1.out.b0.rules;go_wp2;go_ret;exact ⟨rfl,HH1.out.1⟩
mutual
theorem uo:∀ (r:Nat) (x:EJ),dpR r x<=13+r
 |r,.mk k v s kids=>by
  unfold dpR;split
  ·omega
  ·split
   ·split
    ·omega
    ·rename_i hr _ _ m hm
     have:=un (r-1) kids m hm;show m+1<=13+r
     omega
   ·omega
theorem un:∀ (r:Nat) (l:List EJ) (m:Nat),dpL r l=some m->m<=13+r
 |r,[],m,h=>by
  rw [dpL] at h;obtain rfl:=Option.some.inj h;omega
 |r,x::l,m,h=>by
  rw [dpL] at h;split at h
  ·cases h
  ·split at h
   ·cases h
   ·rename_i q hq
    obtain rfl:=Option.some.inj h;have h1:=uo r x;have h2:=un r l q hq;omega
end
theorem pG (r:Nat) (l:List EJ) (x:EJ):dpF r (l++[x])=if dpF r l<dpR r x then dpR r x else dpF r l:=by
 unfold dpF;rw [List.foldl_append];rfl
def DpS (n:Int) (w:World) (e:Ending) (w':World):Prop:=e=.returned (Zi Zq n)/\Below w.heap.size w w'
theorem zv:∀ (r:Nat) (x:EJ) (cs:List Value) (q:Int) (w:World),q=r->r<=13->ER w TT cs x->cj x->Calls Tryz.prog 116 #[.agg cs.toArray,Zi Zq q] w (DpS (dpR r x:Nat) w):=by
 intro r
 induction r with
 |zero =>
  rintro ⟨k,v,s,kids⟩ cs q w rfl hr hx hcx;obtain ⟨k1,n1,s1,A1,na1,ca1,B1,nb1,cb1,A,ca,css0,rfl,_⟩:=hx.out;clear hx hcx hr;obtain ⟨g,hg⟩:∃ g:Int,((dpR 0 (.mk k v s kids):Nat):Int)=g:=⟨_,rfl⟩
  obtain rfl:g=13:=by rw [← hg,dpR,if_pos rfl];rfl
  rw [hg];clear hg;go_enter Tryz.func116,Tryz.ntmps116;go_wp2;go_ret;exact ⟨rfl,by go_grown⟩
 |succ r ih =>
  rintro ⟨k,v,s,kids⟩ cs q w hq hr hx hcx;obtain ⟨k1,n1,s1,A1,na1,ca1,B1,nb1,cb1,A,ca,css0,rfl,hv,h1,h2,h3,h4⟩:=hx.out;unfold cj at hcx;obtain ⟨_,hcv,_,hkl,hkc⟩:=hcx;have HCK:=aW (bU.1 hkc);have HKD:=aW (And.intro h1 h4);have HLI:=aW (λ (W:World) (h:Below w.heap.size w W)=>zL v _ TT W (hv.bel h) hcv);have HZE:=aW (λ (W:World) (h:Below w.heap.size w W)=>vy v _ TT W (hv.bel h));have HIH:=aW (show ∀ (x:EJ) (cs:List Value) (w:World),ER w TT cs x->cj x->Calls Tryz.prog 116 #[.agg cs.toArray,Zi Zq (q-1)] w (DpS (dpR r x:Nat) w) from λ x cs w h1 h2=>ih x cs (q-1) w (by omega) (by omega) h1 h2);obtain ⟨nr,hnr⟩:∃ n,kids.length=n:=⟨_,rfl⟩
  have HNR:=aW hnr;obtain ⟨gn,hgn⟩:∃ g:Int,((dpR (r+1) (.mk k v s kids):Nat):Int)=g:=⟨_,rfl⟩
  have HGN:=aW (show gn=((if okX k v s nr=true then (match dpL r kids with | none=>0 | some m=>m+1) else 0:Nat):Int) by rw [← hgn,dpR,if_neg (by omega),hnr];rfl);have HXN:=aW (show okX k v s nr≠true->gn=0 from λ h=>by rw [HGN.out,if_neg h];rfl);have HAB:=aW (wM k v s nr);rw [hnr] at hkl h2 ⊢;rw [hgn];have HH0:=aW ((az.nil w).push 45 #[Zi Zq k,Zi Zq k1,Zi Zq n1,Zt s1,Zs A1 na1 ca1,Zs B1 nb1 cb1,Zt ⟨s.toArray⟩,Zs A nr ca] (g:=w.heap.size) rfl);have hq1:1<=q:=by omega
  have hq14:q<=13:=by omega
  have hq0:(q == 0)=false:=by simp;omega
  have hq0':¬ q=0:=by omega
  have hqw:IntKind.i64.wrap (q-1)=q-1:=by rw [IntKind.wrap_i64];omega
  have HRR:=aW hr;obtain ⟨kn,hkn⟩:∃ z,fJ k=z:=⟨_,rfl⟩
  have HKN:=aW (λ (W:World)=>zw k kn hkn W);clear hx hv h1 h4 hkc hnr ih hgn hq hr hcv;obtain ⟨c0,f0,l0⟩:=HH0.out.b0.rules;obtain ⟨oa,hoa⟩:∃ b,okA k nr=b:=⟨_,rfl⟩
  cases oa with
  |false =>
   obtain rfl:gn=0:=HXN.out (by rw [HAB.out,hoa];simp);have hcase:k<1∨(1<=k/\15<k)∨(1<=k/\k<=15/\0<=kn/\(nr:Int)≠kn):=by
    unfold okA at hoa;rw [Bool.and_eq_false_iff,decide_eq_false_iff_not,Bool.or_eq_false_iff,decide_eq_false_iff_not,decide_eq_false_iff_not,hkn] at hoa;omega
   clear hoa HXN HAB HGN hkn;rcases hcase with hk | ⟨hk,hk2⟩ | ⟨hk,hk2,hk3,hk4⟩
   ·have e1:decide (k<1)=true:=decide_eq_true hk;go_enter Tryz.func116,Tryz.ntmps116;go_upto_region 3 with fail;go_quiet (fail);go_wp2;go_ret;exact ⟨rfl,(HH0.out.drewN _).1⟩
   ·have e1:decide (k<1)=false:=decide_eq_false (by omega);have e1':¬ k<1:=by omega
    have e2:decide (15<k)=true:=decide_eq_true hk2;go_enter Tryz.func116,Tryz.ntmps116;go_upto_region 3 with fail;go_quiet (fail);go_wp2;go_ret;exact ⟨rfl,(HH0.out.drewN _).1⟩
   ·have e1:decide (k<1)=false:=decide_eq_false (by omega);have e1':¬ k<1:=by omega
    have e2:decide (15<k)=false:=decide_eq_false (by omega);have e2':¬ 15<k:=by omega
    have e3:decide (0<=kn)=true:=decide_eq_true hk3;have e4:((nr:Int) != kn)=true:=by simp [hk4]
    go_enter Tryz.func116,Tryz.ntmps116;go_upto_region 3 with fail;go_quiet ((go_at_call 160;exact (HKN.out _).mono λ e w' h=>⟨h.1,_,h.2.symm⟩));go_wp2;go_ret;exact ⟨rfl,(HH0.out.drewN _).1⟩
  | true =>
  have hcase:1<=k/\k<=15/\(kn<0∨0<=kn/\(nr:Int)=kn):=by
   unfold okA at hoa;rw [Bool.and_eq_true,decide_eq_true_eq,Bool.or_eq_true,decide_eq_true_eq,decide_eq_true_eq,hkn] at hoa;omega
  obtain ⟨hk,hk2,hk3⟩:=hcase;have HAB2:=aW (show okX k v s nr=(okB k v && okC k s) by rw [HAB.out,hoa];rfl);have e1:decide (k<1)=false:=decide_eq_false (by omega);have e1':¬ k<1:=by omega
  have e2:decide (15<k)=false:=decide_eq_false (by omega);have e2':¬ 15<k:=by omega
  clear hoa HAB hkn;go_enter Tryz.func116,Tryz.ntmps116;go_upto_region 3 with fail;go_cut [33] (λ s33 wx=>s33=.bool false/\∃ W,W=wx/\Hid (az [(w.heap.size,45,#[Zi Zq k,Zi Zq k1,Zi Zq n1,Zt s1,Zs A1 na1 ca1,Zs B1 nb1 cb1,Zt ⟨s.toArray⟩,Zs A nr ca])] w W))
  case first =>
   rcases hk3 with hk3 | ⟨hk3,hk4⟩
   ·have e3:decide (0<=kn)=false:=decide_eq_false (by omega);have e3':¬ 0<=kn:=by omega
    go_quiet ((go_at_call 160;exact (HKN.out _).mono λ e w' h=>⟨h.1,_,h.2.symm⟩));go_wp2;go_meet
    case rel=>exact ⟨rfl,_,rfl,aW (HH0.out.drewN _)⟩
   ·have e3:decide (0<=kn)=true:=decide_eq_true hk3;have e4:((nr:Int) != kn)=false:=by simp [hk4]
    go_quiet ((go_at_call 160;exact (HKN.out _).mono λ e w' h=>⟨h.1,_,h.2.symm⟩));go_wp2;go_meet
    case rel=>exact ⟨rfl,_,rfl,aW (HH0.out.drewN _)⟩
  case rest =>
   obtain ⟨rfl,W1,rfl,HH1⟩:=hcut;clear c0 f0 l0 HH0 HKN e1 e1' e2 e2' hk3;obtain ⟨c0,f0,l0⟩:=HH1.out.b0.rules;obtain ⟨ob,hob⟩:∃ b,okB k v=b:=⟨_,rfl⟩
   cases ob with
   |false =>
    obtain rfl:gn=0:=HXN.out (by rw [HAB2.out,hob];simp);clear HXN HAB2 HGN;by_cases h1:k=1
    ·subst h1;have hl:ee v=false:=by unfold okB at hob;rwa [if_pos rfl] at hob
     rw [hl] at HLI;clear hob hl HZE;go_wp2_with fail;refine (HLI.out _ HH1.out.1).mono ?_;rintro e w2 ⟨rfl,hb2⟩;have HH2:=aW (HH1.out.keep hb2);clear hb2 c0 f0 l0;obtain ⟨c0,f0,l0⟩:=HH2.out.b0.rules;go_wp2;go_ret;exact ⟨rfl,HH2.out.1⟩
    ·have hl:dj v=false:=by unfold okB at hob;rwa [if_neg h1] at hob
     have g1:(k == 1)=false:=by simp [h1]
     have g2:(k != 1)=true:=by simp [h1]
     rw [hl] at HZE;clear hob hl HLI h1;go_wp2_with fail;refine (HZE.out _ HH1.out.1).mono ?_;rintro e w2 ⟨rfl,hb2⟩;have HH2:=aW (HH1.out.keep hb2);clear hb2 c0 f0 l0;obtain ⟨c0,f0,l0⟩:=HH2.out.b0.rules;go_wp2;go_ret;exact ⟨rfl,HH2.out.1⟩
   | true =>
   have HAB3:=aW (show okX k v s nr=okC k s by rw [HAB2.out,hob];rfl);clear HAB2;go_upto_region 5 with fail;go_cut [53] (λ s53 wx=>s53=.bool false/\∃ W,W=wx/\Hid (az [(w.heap.size,45,#[Zi Zq k,Zi Zq k1,Zi Zq n1,Zt s1,Zs A1 na1 ca1,Zs B1 nb1 cb1,Zt ⟨s.toArray⟩,Zs A nr ca])] w W))
   case first =>
    by_cases h1:k=1
    ·subst h1;have hl:ee v=true:=by unfold okB at hob;rwa [if_pos rfl] at hob
     rw [hl] at HLI;clear hob hl HZE;go_wp2_with fail;refine (HLI.out _ HH1.out.1).mono ?_;rintro e w2 ⟨rfl,hb2⟩;have HH2:=aW (HH1.out.keep hb2);clear hb2 c0 f0 l0;obtain ⟨c0,f0,l0⟩:=HH2.out.b0.rules;go_wp2;go_meet
     case rel=>exact ⟨rfl,_,rfl,HH2⟩
    ·have hl:dj v=true:=by unfold okB at hob;rwa [if_neg h1] at hob
     have g1:(k == 1)=false:=by simp [h1]
     have g2:(k != 1)=true:=by simp [h1]
     rw [hl] at HZE;clear hob hl HLI h1;go_wp2_with fail;refine (HZE.out _ HH1.out.1).mono ?_;rintro e w2 ⟨rfl,hb2⟩;have HH2:=aW (HH1.out.keep hb2);clear hb2 c0 f0 l0;obtain ⟨c0,f0,l0⟩:=HH2.out.b0.rules;go_wp2;go_meet
     case rel=>exact ⟨rfl,_,rfl,HH2⟩
   case rest =>
   obtain ⟨rfl,W2,rfl,HH2⟩:=hcut;clear c0 f0 l0 HH1 HLI HZE hob;obtain ⟨c0,f0,l0⟩:=HH2.out.b0.rules;obtain ⟨nb,hnb⟩:∃ b,decide (k=2∨k=3)=b:=⟨_,rfl⟩
   go_upto_region 7 with fail;go_cut [5] (λ s5 wx=>s5=.bool nb/\∃ W,W=wx/\Hid (az [(w.heap.size,45,#[Zi Zq k,Zi Zq k1,Zi Zq n1,Zt s1,Zs A1 na1 ca1,Zs B1 nb1 cb1,Zt ⟨s.toArray⟩,Zs A nr ca])] w W))
   case first =>
    by_cases h2:k=2
    ·subst h2;obtain rfl:nb=true:=by rw [← hnb];decide
     clear hnb;go_wp2;go_meet
     case rel=>exact ⟨rfl,_,rfl,HH2⟩
    ·have g2:(k == 2)=false:=by simp [h2]
     by_cases h3:k=3
     ·subst h3;obtain rfl:nb=true:=by rw [← hnb];decide
      clear hnb;go_wp2;go_meet
      case rel=>exact ⟨rfl,_,rfl,HH2⟩
     ·have g3:(k == 3)=false:=by simp [h3]
      obtain rfl:nb=false:=by rw [← hnb];exact decide_eq_false (by omega)
      clear hnb h2 h3;go_wp2;go_meet
      case rel=>exact ⟨rfl,_,rfl,HH2⟩
   case rest =>
   clear c0 f0 l0 HH2;obtain ⟨rfl,W3,rfl,HH2⟩:=hcut;obtain ⟨c0,f0,l0⟩:=HH2.out.b0.rules;obtain ⟨nm,hnm⟩:∃ b,dB s=b:=⟨_,rfl⟩
   have HNA:=aW (λ (W:World)=>show Calls Tryz.prog 78 #[Zt ⟨s.toArray⟩] W (λ e w'=>e=.returned (.bool nm)/\W=w') by rw [← hnm];exact iM _ W);have HOC:=aW (show okX k v s nr=if nb=true then nm else decide (s=[]) by
    rw [HAB3.out,okC,hnm,← hnb];simp only [decide_eq_true_eq])
   clear HAB3 hnm hnb;by_cases hok:okX k v s nr=true;rotate_left
   ·obtain rfl:gn=0:=HXN.out hok;clear HXN HGN;cases nb with
    |true =>
     have hnf:nm=false:=by
      rw [HOC.out,if_pos rfl] at hok;simpa using hok
     subst hnf;clear HOC hok;go_wp2_with fail;refine (HNA.out _).mono ?_;rintro e w3 ⟨rfl,rfl⟩;go_wp2;go_ret;exact ⟨rfl,HH2.out.1⟩
    |false =>
     have hs:¬ s=[]:=by
      rw [HOC.out] at hok;simpa using hok
     have hs2:s.isEmpty=false:=by simpa using hs
     clear HOC hok;go_wp2;go_ret;exact ⟨rfl,HH2.out.1⟩
   have HGL:=aW (show gn=((match dpL r kids with | none=>0 | some m=>m+1:Nat):Int) by rw [HGN.out,if_pos hok]);clear HXN HGN;go_upto_region 8 with fail;go_cut [77] (λ s77 wx=>s77=.bool false/\∃ W,W=wx/\Hid (az [(w.heap.size,45,#[Zi Zq k,Zi Zq k1,Zi Zq n1,Zt s1,Zs A1 na1 ca1,Zs B1 nb1 cb1,Zt ⟨s.toArray⟩,Zs A nr ca])] w W))
   case first =>
    cases nb with
    |true =>
     have hnf:nm=true:=by rw [HOC.out,if_pos rfl] at hok;exact hok
     subst hnf;clear HOC hok;go_wp2_with fail;refine (HNA.out _).mono ?_;rintro e w3 ⟨rfl,rfl⟩;go_wp2;go_meet
     case rel=>exact ⟨rfl,_,rfl,HH2⟩
    |false =>
     have hs:s=[]:=by
      rw [HOC.out] at hok;simpa using hok
     clear HOC hok;subst hs;go_wp2;go_meet
     case rel=>exact ⟨rfl,_,rfl,HH2⟩
   case rest =>
   clear c0 f0 l0 HH2;obtain ⟨rfl,W4,rfl,HH2⟩:=hcut;obtain ⟨c0,f0,l0⟩:=HH2.out.b0.rules;clear HNA HOC hok;go_upto_region 12 with fail;go_loopg [6,7] nr (λ gk s6 s7 wr => ∃ (i:Nat) (m:Int),s6=Zi Zq m/\i<=nr/\gk=nr-i/\s7=Zi Zq (i:Int)/\0<=m/\m<=26/\Hid (m=(dpF r (kids.take i):Nat))/\Hid (∀ x ∈ kids.take i,dpR r x≠0)/\Hid (az [(w.heap.size,45,#[Zi Zq k,Zi Zq k1,Zi Zq n1,Zt s1,Zs A1 na1 ca1,Zs B1 nb1 cb1,Zt ⟨s.toArray⟩,Zs A nr ca])] w wr))
   case atStart=>exact ⟨0,0,rfl,Nat.zero_le _,by go_num,rfl,Int.le_refl _,by decide,aW (by rw [List.take_zero];rfl),aW (by simp),HH2⟩
   case round =>
    obtain ⟨i,m,rfl,hin,hgk,rfl,hm0,hm26,HM,HNO,HH⟩:=hrel;have HGK:=aW hgk;clear hgk HH2 c0 f0 l0;obtain ⟨c0,f0,l0⟩:=HH.out.b0.rules;by_cases hlt:i<nr
    ·obtain ⟨x,hx⟩:∃ x,kids[i]? = some x:=⟨_,List.getElem?_eq_getElem (by rw [HNR.out];omega)⟩
     have hxm:=List.mem_of_getElem? hx;obtain ⟨b,o,k',k1',n1',s1',A1',na1',ca1',B1',nb1',cb1',s',A2',n2',ca2',rfl,hb,hER,hz⟩:=fq HKD.out.1 HKD.out.2 hx;obtain ⟨z0,z1,z2,z3,z4,z5,z6,z7⟩:=hz wr HH.out.1;have HTK:=aW (show kids.take (i+1)=kids.take i++[x] by rw [List.take_add_one,hx];rfl);have hlb:b<wr.heap.size:=Nat.lt_of_lt_of_le hb HH.out.1.size;obtain ⟨d,hd⟩:∃ d:Nat,dpR r x=d:=⟨_,rfl⟩
     have HDD:=aW hd;have HXM:=aW hxm;have HDL:=aW (show d<=26 by rw [← hd];have:=uo r x;have:=HRR.out;omega);have HE:=aW (λ (W:World) (h:Below w.heap.size w W)=>show Calls Tryz.prog 116 #[.agg #[Zi Zq k',Zi Zq k1',Zi Zq n1',Zt s1',Zs A1' na1' ca1',Zs B1' nb1' cb1',Zt s',Zs A2' n2' ca2'],Zi Zq (q-1)] W (DpS (d:Nat) W) by rw [← hd];exact HIH.out x _ W (hER.bel h) (HCK.out x hxm));clear hz hER hx hxm hb hd;go_wp2_with fail;refine (HE.out _ HH.out.1).mono ?_;rintro e w4 ⟨rfl,hb4⟩;have HH4:=aW (HH.out.keep hb4);clear hb4 z0 z1 z2 z3 z4 z5 z6 z7 c0 f0 l0;by_cases hd0:d=0
     ·subst hd0;obtain rfl:gn=0:=by rw [HGL.out,lF HXM.out HDD.out];rfl
      clear HGL;go_wp2;go_ret;exact ⟨rfl,HH4.out.1⟩
     ·have e0:((d:Int) == 0)=false:=by simp;omega
      have HN2:=aW (show ∀ y ∈ kids.take (i+1),dpR r y≠0 by
       rw [HTK.out];intro y hy;rcases List.mem_append.1 hy with hy | hy
       ·exact HNO.out y hy
       ·obtain rfl:=List.mem_singleton.1 hy;rw [HDD.out];exact hd0)
      by_cases hmd:m<(d:Int)
      ·have e1:decide (m<(d:Int))=true:=decide_eq_true hmd;have HM2:=aW (show (d:Int)=(dpF r (kids.take (i+1)):Nat) by
        rw [HTK.out,pG,HDD.out,if_pos (by have:=HM.out;omega)])
       have hd26:(d:Int)<=26:=by have:=HDL.out;omega
       have hd00:(0:Int)<=(d:Int):=by omega
       go_wp2;go_roundg (nr-(i+1))
       case measure=>have:=HGK.out;omega
       case rel=>exact ⟨i+1,d,rfl,by omega,rfl,by go_num,hd00,hd26,HM2,HN2,HH4⟩
      ·have e1:decide (m<(d:Int))=false:=decide_eq_false hmd;have HM2:=aW (show m=(dpF r (kids.take (i+1)):Nat) by
        rw [HTK.out,pG,HDD.out,if_neg (by have:=HM.out;omega)];exact HM.out)
       go_wp2;go_roundg (nr-(i+1))
       case measure=>have:=HGK.out;omega
       case rel=>exact ⟨i+1,m,rfl,by omega,rfl,by go_num,hm0,hm26,HM2,HN2,HH4⟩
    ·obtain rfl:i=nr:=by omega
     have hgm:gn=m+1:=by
      have h1:kids.take i=kids:=by rw [← HNR.out,List.take_length]
      have h2:=HM.out;have h3:=HNO.out;rw [h1] at h2 h3;rw [HGL.out,lG h3,h2];rfl
     have hw1:IntKind.i64.wrap (m+1)=m+1:=by rw [IntKind.wrap_i64];omega
     clear HGL;subst hgm;go_wp2;go_ret;exact ⟨rfl,HH.out.1⟩
theorem xH (x:EJ) (cs:List Value) (w:World) (hx:ER w TT cs x) (hc:cj x):Calls Tryz.prog 76 #[.agg cs.toArray] w (dl (decide (gW x)) w):=by
 obtain ⟨d,hd⟩:∃ d:Nat,dpR 13 x=d:=⟨_,rfl⟩
 have HDP:=aW (λ (W:World) (h:Below w.heap.size w W)=>show Calls Tryz.prog 116 #[.agg cs.toArray,Zi Zq 13] W (DpS (d:Nat) W) by rw [← hd];exact zv 13 x cs 13 W rfl (Nat.le_refl _) (hx.bel h) hc);have HMY:=aW (show (1<=d/\d<=12) ↔ gW x by rw [← hd];exact ul x);obtain ⟨g,hg⟩:∃ g,decide (gW x)=g:=⟨_,rfl⟩
 have hgd:g=decide (1<=d/\d<=12):=by rw [← hg,decide_eq_decide];exact HMY.out.symm
 rw [hg];obtain ⟨k,k1,n1,s1,A1,na1,ca1,B1,nb1,cb1,s,A,nr,ca,rfl⟩:=hx.form;have HH0:=aW ((az.nil w).push 45 #[Zi Zq k,Zi Zq k1,Zi Zq n1,Zt s1,Zs A1 na1 ca1,Zs B1 nb1 cb1,Zt s,Zs A nr ca] (g:=w.heap.size) rfl);clear hx hc hd hg HMY;obtain ⟨c0,f0,l0⟩:=HH0.out.b0.rules;go_enter Tryz.func76,Tryz.ntmps76;go_wp2_with fail;refine (HDP.out _ HH0.out.1).mono ?_;rintro e w1 ⟨rfl,hb1⟩;have HH1:=aW (HH0.out.keep hb1);clear hb1 c0 f0 l0;by_cases h1:1<=d
 ·have e1:decide ((1:Int)<=(d:Int))=true:=decide_eq_true (by omega);have e1':(1:Int)<=(d:Int):=by omega
  by_cases h2:d<=12
  ·have e2:decide ((d:Int)<=12)=true:=decide_eq_true (by omega);have e2':(d:Int)<=12:=by omega
   obtain rfl:g=true:=by rw [hgd];exact decide_eq_true ⟨h1,h2⟩
   clear hgd;go_wp2;go_ret;exact ⟨rfl,HH1.out.1⟩
  ·have e2:decide ((d:Int)<=12)=false:=decide_eq_false (by omega);have e2':¬ (d:Int)<=12:=by omega
   obtain rfl:g=false:=by rw [hgd];exact decide_eq_false (by omega)
   clear hgd;go_wp2;go_ret;exact ⟨rfl,HH1.out.1⟩
 ·have e1:decide ((1:Int)<=(d:Int))=false:=decide_eq_false (by omega);have e1':¬ (1:Int)<=(d:Int):=by omega
  obtain rfl:g=false:=by rw [hgd];exact decide_eq_false (by omega)
  clear hgd;go_wp2;go_ret;exact ⟨rfl,HH1.out.1⟩
theorem yE (x:EJ) (cs:List Value) (w:World) (hx:ER w TT cs x):Calls Tryz.prog 77 #[.agg cs.toArray] w (dl (dN x) w):=by
 obtain ⟨k,v,s,kids⟩:=x;obtain ⟨k1,n1,s1,A1,na1,ca1,B1,nb1,cb1,A,ca,css0,rfl,hv,_⟩:=hx.out;have HZE:=aW (λ (W:World) (h:Below w.heap.size w W)=>vy v _ TT W (hv.bel h));obtain ⟨nr,hnr⟩:∃ q,kids.length=q:=⟨_,rfl⟩
 obtain ⟨g,hg⟩:∃ g,dN (.mk k v s kids)=g:=⟨_,rfl⟩
 have hgv:g=(decide (k=0/\s=[]/\nr=0) && dj v):=by rw [← hg,dN,hnr]
 rw [hg,hnr];clear hx hv hg hnr;obtain ⟨z,hz⟩:∃ z,dj v=z:=⟨_,rfl⟩
 rw [hz] at HZE hgv;clear hz;by_cases h1:k=0;rotate_left
 ·have e1:(k == 0)=false:=by simp [h1]
  obtain rfl:g=false:=by rw [hgv,decide_eq_false (λ h=>h1 h.1)];rfl
  have HH0:=aW ((az.nil w).push 45 #[Zi Zq k,Zi Zq k1,Zi Zq n1,Zt s1,Zs A1 na1 ca1,Zs B1 nb1 cb1,Zt ⟨s.toArray⟩,Zs A nr ca] (g:=w.heap.size) rfl);obtain ⟨c0,f0,l0⟩:=HH0.out.b0.rules;clear h1 hgv;go_enter Tryz.func77,Tryz.ntmps77;go_wp2;go_ret;exact ⟨rfl,HH0.out.1⟩
 subst h1;by_cases h2:s=[];rotate_left
 ·have hse:s.isEmpty=false:=by simpa using h2
  obtain rfl:g=false:=by rw [hgv,decide_eq_false (λ h=>h2 h.2.1)];rfl
  have HH0:=aW ((az.nil w).push 45 #[Zi Zq 0,Zi Zq k1,Zi Zq n1,Zt s1,Zs A1 na1 ca1,Zs B1 nb1 cb1,Zt ⟨s.toArray⟩,Zs A nr ca] (g:=w.heap.size) rfl);obtain ⟨c0,f0,l0⟩:=HH0.out.b0.rules;clear hgv;go_enter Tryz.func77,Tryz.ntmps77;go_wp2;go_ret;exact ⟨rfl,HH0.out.1⟩
 subst h2;by_cases h3:nr=0;rotate_left
 ·have e3:((nr:Int) == 0)=false:=by simp;omega
  obtain rfl:g=false:=by rw [hgv,decide_eq_false (λ h=>h3 h.2.2)];rfl
  have HH0:=aW ((az.nil w).push 45 #[Zi Zq 0,Zi Zq k1,Zi Zq n1,Zt s1,Zs A1 na1 ca1,Zs B1 nb1 cb1,Zt ⟨([]:List UInt8).toArray⟩,Zs A nr ca] (g:=w.heap.size) rfl);obtain ⟨c0,f0,l0⟩:=HH0.out.b0.rules;clear hgv;go_enter Tryz.func77,Tryz.ntmps77;go_wp2;go_ret;exact ⟨rfl,HH0.out.1⟩
 subst h3;obtain rfl:g=z:=by rw [hgv,decide_eq_true ⟨rfl,rfl,rfl⟩];rfl
 have HH0:=aW ((az.nil w).push 45 #[Zi Zq 0,Zi Zq k1,Zi Zq n1,Zt s1,Zs A1 na1 ca1,Zs B1 nb1 cb1,Zt ⟨([]:List UInt8).toArray⟩,Zs A 0 ca] (g:=w.heap.size) rfl);obtain ⟨c0,f0,l0⟩:=HH0.out.b0.rules;clear hgv;go_enter Tryz.func77,Tryz.ntmps77;go_wp2_with fail;refine (HZE.out _ HH0.out.1).mono ?_;rintro e w1 ⟨rfl,hb1⟩;have HH1:=aW (HH0.out.keep hb1);clear hb1 c0 f0 l0;go_wp2;go_ret;exact ⟨rfl,HH1.out.1⟩
end
end Go.Proofs.YtgmnmnnoahdjnaaGreatDoor
