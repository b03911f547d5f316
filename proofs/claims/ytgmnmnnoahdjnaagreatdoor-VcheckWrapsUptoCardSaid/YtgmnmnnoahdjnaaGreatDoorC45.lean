import Derived.Test.YtgmnmnnoahdjnaaGreatDoorC43
import Derived.Test.YtgmnmnnoahdjnaaGreatDoorC44
open Go.Value renaming int → Zi, slice → Zs, string → Zt, pointer → Zp
open Go.IntKind renaming i64 → Zq
set_option maxRecDepth 100000
set_option maxHeartbeats 16000000
set_option linter.unusedVariables false
set_option linter.unusedSimpArgs false
namespace Go.Proofs.YtgmnmnnoahdjnaaGreatDoor
section
open Go.RowKit
attribute [local go_sem] aa ac ae ab
theorem wJ:∀ d,uV d
 | 0=>tu 0 λ h=>absurd rfl h
 | d+1=>tu (d+1) λ _=>yr d (wJ d)
def zl (l:List SJ) (w:World) (e:Ending) (w':World):Prop:=e=.returned (.tuple #[Zt ⟨(eD l).1.toArray⟩,Zi Zq (eD l).2])/\Below w.heap.size w w'
theorem An (l:List SJ) (css:List (List Value)) (A:Option Addr) (n ca:Nat) (F:Nat->Prop) (w:World) (hG:GOE w) (hS:SRs w F css l) (hln:l.length=n) (hnc:n<=ca) (hR:RdF w F A css.flatten) (hC:aK l) (hn:n<=4194304) (hlen:bT (aq l)<=100000000000) :
  Calls Tryz.prog 16 #[.agg #[Zs A n ca]] w (zl l w):=by
 have HH0:=aW ((aT.nil w).push 24 #[Zs A n ca] (g:=w.heap.size) rfl);have HCK:=aW (λ (W:World) (h:Below w.heap.size w W)=>lX l css A n ca F W (hG.keep h) (RR.imp hS λ c x hc=>hc.bel h) hln hnc (hR.keep (ah.of_below h)) hC hn);obtain ⟨b,hb⟩:∃ b,fG l=b:=⟨_,rfl⟩
 have hq:eq l=(if b=true then 0 else 332):=by unfold eq;rw [hb]
 unfold rx at HCK;rw [hq] at HCK;clear hq;obtain ⟨c0,f0,l0⟩:=HH0.out.b0.rules;have HGG:=aW hG;cases b with
 |false =>
  have HP:=aW (show eD l=([],332) by unfold eD;rw [hb];rfl);simp only [Bool.false_eq_true,if_false] at HCK;clear hS hR hC hG hb hlen;go_enter Tryz.func16,Tryz.ntmps16;go_wp2_with (go_at_call 18;refine (HCK.out _ HH0.out.1).mono ?_;rintro e w1 ⟨rfl,hb1⟩);go_ret2;exact ⟨by rw [HP.out];rfl,HH0.out.1.trans (hb1.mono HH0.out.1.size)⟩
 |true =>
  simp only [if_true] at HCK;have HM:=aW hb;have HPG:=aW (show (aH (aq l) ([],false)).1=ff l from wM hb hC);have HST:=aW (λ (w1:World) (h:Below w.heap.size w w1)=>show WP (w1.alloc (.cells #[Zs none 0 0,.bool false] 71)) w1.heap.size (Zs none 0 0) 0 [] false from
   ⟨Blk.new _ _ _,(by have h1:=jh.nil (w1.alloc (.cells #[Zs none 0 0,.bool false] 71));rw [World.size_alloc] at h1;exact h1),w,hG,h.size,h.alloc h.size _⟩)
  have HSS:=aW (λ (w1:World) (h:Below w.heap.size w w1)=>show SRs (w1.alloc (.cells #[Zs none 0 0,.bool false] 71)) (PbM w1.heap.size (Zs none 0 0) (w1.alloc (.cells #[Zs none 0 0,.bool false] 71))) css l/\RdF (w1.alloc (.cells #[Zs none 0 0,.bool false] 71)) (PbM w1.heap.size (Zs none 0 0) (w1.alloc (.cells #[Zs none 0 0,.bool false] 71))) A css.flatten from by
   have hbb:Below w.heap.size w (w1.alloc (.cells #[Zs none 0 0,.bool false] 71)):=h.alloc h.size _;have hs:=h.size;have hk:ah (λ k=>F k/\k<w.heap.size) w (w1.alloc (.cells #[Zs none 0 0,.bool false] 71)):=ah.of_below hbb;have hm:∀ k,k<(w1.alloc (.cells #[Zs none 0 0,.bool false] 71)).heap.size->F k/\k<w.heap.size->PbM w1.heap.size (Zs none 0 0) (w1.alloc (.cells #[Zs none 0 0,.bool false] 71)) k:=λ k hk hF=>⟨hk,by omega,λ e=>by cases e⟩
   exact ⟨RR.imp hS λ c x hc=>((hc.mono (F':=λ k=>F k/\k<w.heap.size) λ k hk hF=>⟨hF,hk⟩).keep hk).mono hm,((hR.mono (F':=λ k=>F k/\k<w.heap.size) λ k hk hF=>⟨hF,hk⟩).keep hk).mono hm⟩)
  have HIH:=aW (λ (w1:World) (h:Below w.heap.size w w1)=>wJ 12 l css A n ca (w1.alloc (.cells #[Zs none 0 0,.bool false] 71)) w1.heap.size (Zs none 0 0) 0 ([],false) (HST.out w1 h) (HSS.out w1 h).1 hln hnc (HSS.out w1 h).2 hb hC hn (by show 0+_<=_;omega));clear hS hR hC hG hb hlen HSS hln;go_enter Tryz.func16,Tryz.ntmps16;go_upto_region 4 with (go_at_call 18;refine (HCK.out _ HH0.out.1).mono ?_;rintro e w1 ⟨rfl,hb1⟩;obtain ⟨c1,f1,l1⟩:=((HH0.out.keep hb1).alloc (.cells #[Zs none 0 0,.bool false] 71)).b0.rules);have HB1:=aW (HH0.out.1.trans (hb1.mono HH0.out.1.size));have HC:=aW (HIH.out _ HB1.out);go_upto_region 6 with (go_at_call 44;refine HC.out.mono ?_;rintro e w2 ⟨rfl,row,n2,hw2,hm2⟩);have hn2:=hw2.own.1;rw [HPG.out] at hw2 hn2;have HBF:=aW (show Below w.heap.size w w2 from (HB1.out.alloc HB1.out.size _).trans (hm2.below (by have:=HB1.out.size;simp;omega) HB1.out.size (λ k e=>by cases e)));have hcv:=(BS.of_own (l:=ff l) (by rw [hn2];exact hw2.own.2.1)).conv;obtain ⟨RA,rc,rfl,hrc,_,_⟩:=bW hw2.own.2.1;obtain ⟨d0,g0,k0⟩:=hw2.blk.rules;have HN2:=aW hn2;clear hm2 hw2 hn2 c0 f0 l0 c1 f1 l1;by_cases h512:512<n2
  ·have HP:=aW (show eD l=([],3) by unfold eD;rw [HM.out,HN2.out];simp [h512]);have h5:(512:Int)<(n2:Int):=by omega
   go_wp2;go_ret2;exact ⟨by rw [HP.out];rfl,HBF.out⟩
  ·have HP:=aW (show eD l=(ff l,0) by unfold eD;rw [HM.out,HN2.out];simp [h512]);have h5:¬ (512:Int)<(n2:Int):=by omega
   go_wp2;go_ret2;exact ⟨by rw [HP.out];rfl,HBF.out⟩
theorem ut (l:List UInt8):aK (cO l).1/\(cO l).1.length<=1000:=by
 unfold cO;split
 ·exact ⟨trivial,Nat.zero_le _⟩
 ·rename_i h
  obtain ⟨T,a,e,hl⟩:∃ T a e,gh l=(T,a,e):=⟨_,_,_,rfl⟩
  rw [hl] at h ⊢;have h0:e=0:=Decidable.byContradiction λ hn=>h hn
  subst h0;obtain ⟨hT,hG,hne⟩:=r4 hl;simp only;cases hp:gJ T with
  | bad p=>exact ⟨trivial,Nat.zero_le _⟩
  |ok b q =>
   have h1:=oc hT hG (List.length_pos_iff.2 hne) hp;simp only;split
   ·exact h1
   ·exact ⟨trivial,Nat.zero_le _⟩
theorem SR.zero {W:World} {F:Nat->Prop}:SR W F [Zi Zq 0,Zt ⟨#[]⟩,Zi Zq 0,Zi Zq 0,Zi Zq 0,Zt ⟨#[]⟩,Zs none 0 0,Zs none 0 0,Zt ⟨#[]⟩,Zs none 0 0,Zi Zq 0,Zi Zq 0,Zi Zq 0,Zt ⟨#[]⟩,Zs none 0 0,Zs none 0 0,Zt ⟨#[]⟩,Zs none 0 0,Zs none 0 0,Zs none 0 0] (.mk 0 [] aM aM [] []) :=
 SR.into (k:=0) (s:=[]) (acs:=[Zi Zq 0,Zi Zq 0,Zi Zq 0,Zt ⟨#[]⟩,Zs none 0 0,Zs none 0 0,Zt ⟨#[]⟩,Zs none 0 0]) (bcs:=[Zi Zq 0,Zi Zq 0,Zi Zq 0,Zt ⟨#[]⟩,Zs none 0 0,Zs none 0 0,Zt ⟨#[]⟩,Zs none 0 0]) (css:=[]) (dss:=[]) ER.zero ER.zero RR.nil rfl (Nat.le_refl _) (λ _=>rfl) RdF.nil RR.nil rfl (Nat.le_refl _) (λ _=>rfl) RdF.nil
mutual
theorem lP:∀ (x:EJ),kC 4194304 x->cd x
 | .mk k v s kids,h=>by
  unfold kC at h;obtain ⟨_,h1,h2,h3,h4,h5,h6⟩:=h;unfold cd;exact ⟨h1,dq.of h2 h3,h4,h5,nD kids h6⟩
theorem nD:∀ (l:List EJ),jk 4194304 l->ic l
 | [],_=>trivial
 | x::r,h=>by unfold jk at h;unfold ic;exact ⟨lP x h.1,nD r h.2⟩
end
mutual
theorem vm:∀ (x:SJ),jz 4194304 x->fy x
 | .mk k s a b body els,h=>by
  unfold jz at h;obtain ⟨_,h1,h2,h3,h4,h5,h6,h7,h8⟩:=h;unfold fy;exact ⟨h1,h2,lP a h3,lP b h4,h5,h6,iO body h7,iO els h8⟩
theorem iO:∀ (l:List SJ),iD 4194304 l->aK l
 | [],_=>trivial
 | x::r,h=>by unfold iD at h;unfold aK;exact ⟨vm x h.1,iO r h.2⟩
end
theorem tT {l:List SJ} (h:∀ v ∈ l,jz 4194304 v):aK l:=iO l (iW.2 h)
def dX (W:World) (A:Option Addr) (n ca:Nat) (p:List SJ):Prop:=∃ css,SRs W TT css p/\RdF W TT A css.flatten/\p.length=n/\n<=ca
section
variable {w W W':World} {A A':Option Addr} {n n' ca ca':Nat} {p q:List SJ} {F:Nat->Prop} {e:Ending}
theorem dX.bel (h:dX W A n ca p) (hb:Below W.heap.size W W'):dX W' A n ca p:=by
 obtain ⟨css,h1,h2,h3⟩:=h;exact ⟨css,RR.imp h1 λ c x hc=>hc.bel hb,h2.keep (ah.of_below hb),h3⟩
theorem oM.has {o:List SJ × Int × Int} (h:oM o w e W):∃ A n ca,e=.returned (.tuple #[.agg #[Zs A n ca],Zi Zq o.2.1,Zi Zq o.2.2])/\dX W A n ca o.1/\Below w.heap.size w W:=by
 obtain ⟨A,n,ca,css,rfl,h1,h2,_,h3,h4,h5⟩:=h;exact ⟨A,n,ca,rfl,⟨css,RR.imp h3 λ c x hc=>hc.mono λ _ _ _=>trivial,h4.mono λ _ _ _=>trivial,h1.symm,h2⟩,h5⟩
theorem tl:∀ l:List SJ,l.length<=aA l
 | []=>Nat.le_refl _
 |x::r=>by
  have h1:=tl r;have h2:=rf x;unfold aA;rw [List.length_cons];omega
theorem zG (h:dX W A n ca p) (hG:GOE W) (hC:aK p) (hs:aA p<=4194304):Calls Tryz.prog 16 #[.agg #[Zs A n ca]] W (zl p W):=by
 obtain ⟨css,h1,h2,h3,h4⟩:=h;have hl:=tl p;have ht:=iV p hC;exact An p css A n ca TT W hG h1 h3 h4 h2 hC (by omega) (by omega)
theorem AU (h:dX W A n ca p) (h':dX W A' n' ca' q) (hC:aK p) (hC':aK q) (hl:p.length<=4194304) (hl':q.length<=4194304):Calls Tryz.prog 24 #[.agg #[Zs A n ca],.agg #[Zs A' n' ca']] W (EqX (p=q) W):=by
 obtain ⟨css,h1,h2,h3,h4⟩:=h;obtain ⟨css',h1',h2',h3',h4'⟩:=h';exact Ar p q css css' A A' n n' ca ca' TT TT W h1 h2 h3 h4 h1' h2' h3' h4' hC hC' (by omega) (by omega)
theorem vO (h:dX W A n ca p) (h':dX W A' n' ca' p) (hC:aK p) (hl:p.length<=4194304):Calls Tryz.prog 24 #[.agg #[Zs A n ca],.agg #[Zs A' n' ca']] W (λ e W'=>e=.returned (.bool true)/\Below W.heap.size W W') :=
 (AU h h' hC hC hl hl).mono λ e W' ⟨t,h1,h2,h3⟩=>⟨by rw [h1,h2.2 rfl],h3⟩
end
theorem pr (p:List SJ):(fG p=false/\eD p=([],332))∨(fG p=true/\512<(ff p).length/\eD p=([],3))∨(fG p=true/\(ff p).length<=512/\eD p=(ff p,0)):=by
 unfold eD;cases h:fG p with
 | false=>exact .inl ⟨rfl,by simp⟩
 |true =>
  by_cases h5:512<(ff p).length
  ·exact .inr (.inl ⟨rfl,h5,by simp [h5]⟩)
  ·exact .inr (.inr ⟨rfl,by omega,by simp [h5]⟩)
end
section
open Go.RowKit Go.Shelf
attribute [local go_sem] aa ac ae ab
def js (o:List SJ × Int × Int):List SJ × Int × Int:=if o.2.2=0 then (if dQ o.1=0 then (o.1,0,0) else ([],o.2.1,dQ o.1)) else ([],o.2.1,o.2.2)
section
variable {W:World} {A:Option Addr} {n ca:Nat} {p:List SJ}
theorem iS (h:dX W A n ca p) (hG:GOE W) (hC:aK p) (hs:aA p<4194304):Calls Tryz.prog 27 #[.agg #[Zs A n ca]] W (rx (dQ p) W):=by
 obtain ⟨css,h1,h2,h3,h4⟩:=h;exact xN p css A n ca TT W hG h1 h3 h4 h2 hC hs
theorem vP (h:dX W A n ca p) (hG:GOE W) (hC:aK p) (hs:aA p<4194304):Calls Tryz.prog 29 #[.agg #[Zs A n ca]] W (xD p W):=by
 obtain ⟨css,h1,h2,h3,h4⟩:=h;exact zp p css A n ca TT W hG h1 h3 h4 h2 hC hs
theorem sY (h:dX W A n ca p) (hG:GOE W) (hC:aK p) (hs:aA p<4194304):Calls Tryz.prog 30 #[.agg #[Zs A n ca]] W (sQ p W):=by
 obtain ⟨css,h1,h2,h3,h4⟩:=h;exact xP p css A n ca TT W hG h1 h3 h4 h2 hC hs
end
theorem dX.nil_ (W:World):dX W none 0 0 []:=⟨[],RR.nil,RdF.nil,rfl,Nat.le_refl _⟩
def Bv (o:List SJ × Int × Int) (w:World) (e:Ending) (w':World):Prop:=∃ A n ca,e=.returned (.tuple #[.agg #[Zs A n ca],Zi Zq o.2.1,Zi Zq o.2.2])/\dX w' A n ca o.1/\Below w.heap.size w w'
theorem oT {w w2:World} {A:Option Addr} {n ca:Nat} {css:List (List Value)} {p:List SJ} {v:Value} (h1:SRs w2 (λ b=>w.heap.size<b) css p) (h2:RdF w2 (λ b=>w.heap.size<b) A css.flatten) (h3:p.length=n) (h4:n<=ca) (hb:Below w.heap.size w w2) (hk:Blk w2 w.heap.size 24 #[v]) (u:Value) :
  dX (w2.setCell ⟨w.heap.size,0,none⟩ u) A n ca p/\Below w.heap.size w (w2.setCell ⟨w.heap.size,0,none⟩ u)/\Blk (w2.setCell ⟨w.heap.size,0,none⟩ u) w.heap.size 24 #[u]:=by
 have hkf:ah (λ b=>w.heap.size<b) w2 (w2.setCell ⟨w.heap.size,0,none⟩ u):=ah.set ah.refl (λ k hk=>by omega) 0 _;exact ⟨⟨css,RR.imp h1 λ c x hc=>(hc.keep hkf).mono λ _ _ _=>trivial,(h2.keep hkf).mono λ _ _ _=>trivial,h3,h4⟩,hb.setCell (p:=⟨w.heap.size,0,none⟩) (Nat.le_refl _) _,by simpa using hk.set_ 0 u⟩
theorem kj (s:ByteArray) (w:World) (hG:GOE w) (hs:s.size<=4194304):Calls Tryz.prog 34 #[Zt s] w (Bv (js (cO (sl s))) w):=by
 obtain ⟨o,ho⟩:∃ o,cO (sl s)=o:=⟨_,rfl⟩
 have hcam:=(ut (sl s)).1;have hsum:=uu (sl s);rw [ho] at hcam hsum;have HP:=aW (λ W (h:Below w.heap.size w W)=>show Calls Tryz.prog 22 #[Zt s] W (oM o W) from ho ▸ uJ s W (hG.keep h) hs);have HC:=aW (λ W A n ca (h:Below w.heap.size w W) (hp:dX W A n ca o.1)=>iS hp (hG.keep h) hcam (by omega));have HH0:=aW ((aT.nil w).push 24 #[Zs none 0 0] (g:=w.heap.size) rfl);obtain ⟨⟨p,at_,er⟩,rfl⟩:∃ z,z=o:=⟨_,rfl⟩
 rw [ho];clear hG hs ho hcam hsum;go_enter Tryz.func34,Tryz.ntmps34;go_wp2_with fail;refine (HP.out _ HH0.out.1).mono ?_;rintro e w1 ⟨A,n,ca,css,rfl,hn,hnc,_,hS,hR,hb1⟩;have HH1:=aW ((HH0.out.keep hb1).push 24 #[Zs A n ca] (g:=w1.heap.size) rfl);have hb1a:Below w1.heap.size w1 (w1.alloc (.cells #[Zs A n ca] 24)):=(Below.refl _ _).alloc (Nat.le_refl _) _;have hS1:SRs (w1.alloc (.cells #[Zs A n ca] 24)) (λ b=>w.heap.size<b) css p:=RR.imp hS λ c x hc=>(hc.mono (F':=λ b=>w.heap.size<b) λ b _ hb=>by unfold NW at hb;simp at hb;omega).bel hb1a
 have hR1:RdF (w1.alloc (.cells #[Zs A n ca] 24)) (λ b=>w.heap.size<b) A css.flatten:=(hR.mono (F':=λ b=>w.heap.size<b) λ b _ hb=>by unfold NW at hb;simp at hb;omega).keep (ah.of_below hb1a);have hne2:w1.heap.size≠w.heap.size:=by have:=HH0.out.b0.lt;have:=hb1.size;omega
 have hne1:=Ne.symm hne2;have HC1:=aW (HC.out _ A n ca HH1.out.1 ⟨css,RR.imp hS1 λ c x hc=>hc.mono λ _ _ _=>trivial,hR1.mono λ _ _ _=>trivial,hn.symm,hnc⟩);have HSR:=aW (And.intro hS1 (And.intro hR1 (And.intro hn.symm hnc)));obtain ⟨q,hq⟩:∃ q,dQ p=q:=⟨_,rfl⟩
 try simp only at HC1
 rw [hq] at HC1;have HQ:=aW hq;clear hS hR hb1 hS1 hR1 hb1a hn hnc hq
 try simp only
 by_cases he:er=0
 ·subst he;by_cases hq0:q=0
  ·subst hq0;have HO:=aW (show js (p,at_,0)=(p,0,0) by unfold js;rw [if_pos rfl,if_pos HQ.out]);go_wp2_with fail;refine HC1.out.mono ?_;rintro e w2 ⟨rfl,hb2⟩;have HH2:=aW (HH1.out.keep hb2);obtain ⟨c0,f0,l0⟩:=HH2.out.b0.rules;obtain ⟨c1,f1,l1⟩:=HH2.out.b1.rules;have HE:=aW (oT (RR.imp HSR.out.1 λ c x hc=>hc.bel hb2) (HSR.out.2.1.keep (ah.of_below hb2)) HSR.out.2.2.1 HSR.out.2.2.2 HH2.out.1 HH2.out.b1 (Zs A n ca));clear hb2;go_wp2;obtain ⟨d0,d1,d2⟩:=HE.out.2.2.rules;refine bodyPost_ret (v:=.tuple #[.agg #[Zs A n ca],Zi Zq 0,Zi Zq 0]) (by simp only [results,Tryz.results34];go_simp) rfl ?_;rw [HO.out];exact ⟨A,n,ca,rfl,HE.out.1,HE.out.2.1⟩
  ·have HO:=aW (show js (p,at_,0)=([],at_,q) by unfold js;rw [if_pos rfl,if_neg (by rw [HQ.out];exact hq0),HQ.out]);have hqb:(q != 0)=true:=by simpa using hq0
   clear hq0;go_wp2_with fail;refine HC1.out.mono ?_;rintro e w2 ⟨rfl,hb2⟩;have HH2:=aW (HH1.out.keep hb2);obtain ⟨c0,f0,l0⟩:=HH2.out.b0.rules;obtain ⟨c1,f1,l1⟩:=HH2.out.b1.rules;have HE:=aW (oT (RR.nil (R:=SR w2 (λ b=>w.heap.size<b))) (A:=none) (RdF.nil) (n:=0) rfl (Nat.le_refl 0) HH2.out.1 HH2.out.b1 (Zs none 0 0));clear hb2;go_wp2;obtain ⟨d0,d1,d2⟩:=HE.out.2.2.rules;refine bodyPost_ret (v:=.tuple #[.agg #[Zs none 0 0],Zi Zq at_,Zi Zq q]) (by simp only [results,Tryz.results34];go_simp) rfl ?_;rw [HO.out];exact ⟨none,0,0,rfl,HE.out.1,HE.out.2.1⟩
 ·have HO:=aW (show js (p,at_,er)=([],at_,er) by unfold js;rw [if_neg he]);have heb:(er != 0)=true:=by simpa using he
  have heb2:(er == 0)=false:=by simpa using he
  obtain ⟨c0,f0,l0⟩:=HH1.out.b0.rules;obtain ⟨c1,f1,l1⟩:=HH1.out.b1.rules;have HE:=aW (oT (RR.nil (R:=SR (w1.alloc (.cells #[Zs A n ca] 24)) (λ b=>w.heap.size<b))) (A:=none) (RdF.nil) (n:=0) rfl (Nat.le_refl 0) HH1.out.1 HH1.out.b1 (Zs none 0 0));clear he;go_wp2;obtain ⟨d0,d1,d2⟩:=HE.out.2.2.rules;refine bodyPost_ret (v:=.tuple #[.agg #[Zs none 0 0],Zi Zq at_,Zi Zq er]) (by simp only [results,Tryz.results34];go_simp) rfl ?_;rw [HO.out];exact ⟨none,0,0,rfl,HE.out.1,HE.out.2.1⟩
def xB (cs:Array Value) (w:World) (e:Ending) (w':World):Prop:=e=.returned (.agg cs)/\Below w.heap.size w w'
theorem jB (s:ByteArray) (w:World):Calls Tryz.prog 40 #[Zt s] w (xB #[Zi Zq 2,Zi Zq 0,Zi Zq 0,Zt ⟨#[]⟩,Zs none 0 0,Zs none 0 0,Zt s,Zs none 0 0] w):=by
 go_enter Tryz.func40,Tryz.ntmps40;go_wp2;refine bodyPost_ret (v:=.agg #[Zi Zq 2,Zi Zq 0,Zi Zq 0,Zt ⟨#[]⟩,Zs none 0 0,Zs none 0 0,Zt s,Zs none 0 0]) (by simp only [results,Tryz.results40];go_simp) rfl ?_;exact ⟨rfl,by go_grown⟩
theorem r8 (A:Option Addr) (n ca:Nat) (w:World):Calls Tryz.prog 35 #[Zs A n ca] w (xB #[Zs A n ca] w):=by
 go_enter Tryz.func35,Tryz.ntmps35;go_wp2;refine bodyPost_ret (v:=.agg #[Zs A n ca]) (by simp only [results,Tryz.results35];go_simp) rfl ?_;exact ⟨rfl,by go_grown⟩
theorem mz (s:ByteArray) (k k1 n1:Int) (s1:ByteArray) (A1:Option Addr) (na1 ca1:Nat) (B1:Option Addr) (nb1 cb1:Nat) (s2:ByteArray) (A2:Option Addr) (n2 ca2:Nat) (A:Option Addr) (n ca:Nat) (w:World) :
  Calls Tryz.prog 39 #[Zt s,.agg #[Zi Zq k,Zi Zq k1,Zi Zq n1,Zt s1,Zs A1 na1 ca1,Zs B1 nb1 cb1,Zt s2,Zs A2 n2 ca2],Zs A n ca] w
   (xB #[Zi Zq 3,Zt s,Zi Zq k,Zi Zq k1,Zi Zq n1,Zt s1,Zs A1 na1 ca1,Zs B1 nb1 cb1,Zt s2,Zs A2 n2 ca2,Zi Zq 0,Zi Zq 0,Zi Zq 0,Zt ⟨#[]⟩,Zs none 0 0,Zs none 0 0,Zt ⟨#[]⟩,Zs none 0 0,Zs A n ca,Zs none 0 0] w):=by
 have hWX:∃ W',(w.alloc (.cells #[Zi Zq k,Zi Zq k1,Zi Zq n1,Zt s1,Zs A1 na1 ca1,Zs B1 nb1 cb1,Zt s2,Zs A2 n2 ca2] 45)).alloc (.cells #[Zi Zq 3,Zt s,Zi Zq k,Zi Zq k1,Zi Zq n1,Zt s1,Zs A1 na1 ca1,Zs B1 nb1 cb1,Zt s2,Zs A2 n2 ca2,Zi Zq 0,Zi Zq 0,Zi Zq 0,Zt ⟨#[]⟩,Zs none 0 0,Zs none 0 0,Zt ⟨#[]⟩,Zs none 0 0,Zs A n ca,Zs none 0 0] 48)=W':=⟨_,rfl⟩
 obtain ⟨WE,hWE⟩:=hWX;have hb:Below w.heap.size w WE:=by rw [← hWE];exact ((Below.refl _ w).alloc (Nat.le_refl _) _).alloc (by simp) _
 have hk:Blk WE (w.heap.size+1) 48 #[Zi Zq 3,Zt s,Zi Zq k,Zi Zq k1,Zi Zq n1,Zt s1,Zs A1 na1 ca1,Zs B1 nb1 cb1,Zt s2,Zs A2 n2 ca2,Zi Zq 0,Zi Zq 0,Zi Zq 0,Zt ⟨#[]⟩,Zs none 0 0,Zs none 0 0,Zt ⟨#[]⟩,Zs none 0 0,Zs A n ca,Zs none 0 0]:=by
  have h9:=Blk.new (w.alloc (.cells #[Zi Zq k,Zi Zq k1,Zi Zq n1,Zt s1,Zs A1 na1 ca1,Zs B1 nb1 cb1,Zt s2,Zs A2 n2 ca2] 45)) 48 #[Zi Zq 3,Zt s,Zi Zq k,Zi Zq k1,Zi Zq n1,Zt s1,Zs A1 na1 ca1,Zs B1 nb1 cb1,Zt s2,Zs A2 n2 ca2,Zi Zq 0,Zi Zq 0,Zi Zq 0,Zt ⟨#[]⟩,Zs none 0 0,Zs none 0 0,Zt ⟨#[]⟩,Zs none 0 0,Zs A n ca,Zs none 0 0];simp only [World.size_alloc] at h9;rw [← hWE];exact h9
 have HRS:=aW (show WE.rangeAt (w.heap.size+1) 0 [Zi Zq 3,Zt s,Zi Zq k,Zi Zq k1,Zi Zq n1,Zt s1,Zs A1 na1 ca1,Zs B1 nb1 cb1,Zt s2,Zs A2 n2 ca2,Zi Zq 0,Zi Zq 0,Zi Zq 0,Zt ⟨#[]⟩,Zs none 0 0,Zs none 0 0,Zt ⟨#[]⟩,Zs none 0 0,Zs A n ca,Zs none 0 0] from hk.rangeD 0 20);have HB:=aW hb;have HWE:=aW hWE;clear hWE hb hk;go_enter Tryz.func39,Tryz.ntmps39;go_upto_region 1 with fail
 iterate 13 go_step
 refine cz rfl 48 (.tmp 6) (.tmp 10) rfl _ _ (by simp only [World.size_alloc];rfl) rfl (by kernel_rfl) (by kernel_rfl) (by first | kernel_rfl | simp [Value.oneCell']) ?_;rw [HWE.out];go_wp2_with (refine bodyPost_ret (v:=.agg #[Zi Zq 3,Zt s,Zi Zq k,Zi Zq k1,Zi Zq n1,Zt s1,Zs A1 na1 ca1,Zs B1 nb1 cb1,Zt s2,Zs A2 n2 ca2,Zi Zq 0,Zi Zq 0,Zi Zq 0,Zt ⟨#[]⟩,Zs none 0 0,Zs none 0 0,Zt ⟨#[]⟩,Zs none 0 0,Zs A n ca,Zs none 0 0]) (cP Tryz.results39 rfl (run_loadVar_mid WE (w.heap.size+1) 0 48 _ _ HRS.out Tryz.underlying48 rfl (by kernel_rfl))) rfl ?_);exact ⟨rfl,HB.out⟩
theorem zR (k k1 n1:Int) (s1:ByteArray) (A1:Option Addr) (na1 ca1:Nat) (B1:Option Addr) (nb1 cb1:Nat) (s2:ByteArray) (A2:Option Addr) (n2 ca2:Nat) (k' k1' n1':Int) (s1':ByteArray) (A1':Option Addr) (na1' ca1':Nat) (B1':Option Addr) (nb1' cb1':Nat) (s2':ByteArray) (A2':Option Addr) (n2' ca2':Nat) (w:World) :
  Calls Tryz.prog 56 #[.agg #[Zi Zq k,Zi Zq k1,Zi Zq n1,Zt s1,Zs A1 na1 ca1,Zs B1 nb1 cb1,Zt s2,Zs A2 n2 ca2],.agg #[Zi Zq k',Zi Zq k1',Zi Zq n1',Zt s1',Zs A1' na1' ca1',Zs B1' nb1' cb1',Zt s2',Zs A2' n2' ca2']] w (xB #[Zi Zq 1,Zt ⟨#[]⟩,Zi Zq k,Zi Zq k1,Zi Zq n1,Zt s1,Zs A1 na1 ca1,Zs B1 nb1 cb1,Zt s2,Zs A2 n2 ca2,Zi Zq k',Zi Zq k1',Zi Zq n1',Zt s1',Zs A1' na1' ca1',Zs B1' nb1' cb1',Zt s2',Zs A2' n2' ca2',Zs none 0 0,Zs none 0 0] w):=by
 have hWX:∃ W',((w.alloc (.cells #[Zi Zq k,Zi Zq k1,Zi Zq n1,Zt s1,Zs A1 na1 ca1,Zs B1 nb1 cb1,Zt s2,Zs A2 n2 ca2] 45)).alloc (.cells #[Zi Zq k',Zi Zq k1',Zi Zq n1',Zt s1',Zs A1' na1' ca1',Zs B1' nb1' cb1',Zt s2',Zs A2' n2' ca2'] 45)).alloc (.cells #[Zi Zq 1,Zt ⟨#[]⟩,Zi Zq k,Zi Zq k1,Zi Zq n1,Zt s1,Zs A1 na1 ca1,Zs B1 nb1 cb1,Zt s2,Zs A2 n2 ca2,Zi Zq k',Zi Zq k1',Zi Zq n1',Zt s1',Zs A1' na1' ca1',Zs B1' nb1' cb1',Zt s2',Zs A2' n2' ca2',Zs none 0 0,Zs none 0 0] 48)=W':=⟨_,rfl⟩
 obtain ⟨WE,hWE⟩:=hWX;have hb:Below w.heap.size w WE:=by rw [← hWE];exact (((Below.refl _ w).alloc (Nat.le_refl _) _).alloc (by simp) _).alloc (by simp;omega) _
 have hk:Blk WE (w.heap.size+1+1) 48 #[Zi Zq 1,Zt ⟨#[]⟩,Zi Zq k,Zi Zq k1,Zi Zq n1,Zt s1,Zs A1 na1 ca1,Zs B1 nb1 cb1,Zt s2,Zs A2 n2 ca2,Zi Zq k',Zi Zq k1',Zi Zq n1',Zt s1',Zs A1' na1' ca1',Zs B1' nb1' cb1',Zt s2',Zs A2' n2' ca2',Zs none 0 0,Zs none 0 0]:=by
  have h9:=Blk.new ((w.alloc (.cells #[Zi Zq k,Zi Zq k1,Zi Zq n1,Zt s1,Zs A1 na1 ca1,Zs B1 nb1 cb1,Zt s2,Zs A2 n2 ca2] 45)).alloc (.cells #[Zi Zq k',Zi Zq k1',Zi Zq n1',Zt s1',Zs A1' na1' ca1',Zs B1' nb1' cb1',Zt s2',Zs A2' n2' ca2'] 45)) 48 #[Zi Zq 1,Zt ⟨#[]⟩,Zi Zq k,Zi Zq k1,Zi Zq n1,Zt s1,Zs A1 na1 ca1,Zs B1 nb1 cb1,Zt s2,Zs A2 n2 ca2,Zi Zq k',Zi Zq k1',Zi Zq n1',Zt s1',Zs A1' na1' ca1',Zs B1' nb1' cb1',Zt s2',Zs A2' n2' ca2',Zs none 0 0,Zs none 0 0];simp only [World.size_alloc] at h9;rw [← hWE];exact h9
 have HRS:=aW (show WE.rangeAt (w.heap.size+1+1) 0 [Zi Zq 1,Zt ⟨#[]⟩,Zi Zq k,Zi Zq k1,Zi Zq n1,Zt s1,Zs A1 na1 ca1,Zs B1 nb1 cb1,Zt s2,Zs A2 n2 ca2,Zi Zq k',Zi Zq k1',Zi Zq n1',Zt s1',Zs A1' na1' ca1',Zs B1' nb1' cb1',Zt s2',Zs A2' n2' ca2',Zs none 0 0,Zs none 0 0] from hk.rangeD 0 20);have HB:=aW hb;have HWE:=aW hWE;clear hWE hb hk;go_enter Tryz.func56,Tryz.ntmps56;go_upto_region 1 with fail
 iterate 10 go_step
 refine cz rfl 48 (.tmp 4) (.tmp 7) rfl _ _ (by simp only [World.size_alloc];rfl) rfl (by kernel_rfl) (by kernel_rfl) (by first | kernel_rfl | simp [Value.oneCell']) ?_;rw [HWE.out];go_wp2_with (refine bodyPost_ret (v:=.agg #[Zi Zq 1,Zt ⟨#[]⟩,Zi Zq k,Zi Zq k1,Zi Zq n1,Zt s1,Zs A1 na1 ca1,Zs B1 nb1 cb1,Zt s2,Zs A2 n2 ca2,Zi Zq k',Zi Zq k1',Zi Zq n1',Zt s1',Zs A1' na1' ca1',Zs B1' nb1' cb1',Zt s2',Zs A2' n2' ca2',Zs none 0 0,Zs none 0 0]) (cP Tryz.results56 rfl (run_loadVar_mid WE (w.heap.size+1+1) 0 48 _ _ HRS.out Tryz.underlying48 rfl (by kernel_rfl))) rfl ?_);exact ⟨rfl,HB.out⟩
end
section
open Go.RowKit
abbrev tD4:List UInt8:=[100,111,99]
abbrev tX4:List UInt8:=[120]
abbrev tY4:List UInt8:=[121]
abbrev tZ4:List UInt8:=[122]
def w4P:List SJ:=[.mk 3 tX4 (nmE tD4) aM [.mk 1 [] (nmE tX4) (nmE tY4) [] []] []]
def w4T:List SJ:=[.mk 3 tD4 (nmE tD4) aM [] []]
def w4L:List SJ:=[.mk 3 tX4 (nmE tD4) aM [.mk 3 tY4 (nmE tX4) aM [.mk 3 tZ4 (nmE tY4) aM [] []] []] []]
def As:List UInt8:=[101,109,105,116,32,105,100,44,100,111,99,46,118,59]
def Au:List UInt8:=[101,109,105,116,32,49,59]
theorem xw:fG w4P=true:=by kernel_rfl
theorem Br:dQ w4P=340:=by kernel_rfl
theorem Bt:dQ w4T=341:=by kernel_rfl
theorem Bs:dQ w4L=342:=by kernel_rfl
theorem yQ:kX w4P=[tD4,tY4]:=by rw [← t7];kernel_rfl
theorem xv:fd w4P=1:=by kernel_rfl
theorem Bm:(js (cO As)).2.2=0/\(js (cO As)).1.length=1:=⟨by kernel_rfl,by kernel_rfl⟩
theorem Bq:(js (cO Au)).2.2=330/\(js (cO Au)).2.1=6:=⟨by kernel_rfl,by kernel_rfl⟩
theorem ng (s:List UInt8) (h:s.length<=100):cd (nmE s):=by unfold nmE cd ic;exact ⟨by decide,im,by omega,by simp,trivial⟩
theorem pH:aK w4P:=by
 unfold w4P aK fy aK fy aK;exact ⟨⟨by decide,by decide,ng _ (by decide),dS,by decide,by decide,⟨⟨by decide,by decide,ng _ (by decide),ng _ (by decide),by decide,by decide,trivial,trivial⟩,trivial⟩,trivial⟩,trivial⟩
theorem yP:aK w4T:=by
 unfold w4T aK fy aK;exact ⟨⟨by decide,by decide,ng _ (by decide),dS,by decide,by decide,trivial,trivial⟩,trivial⟩
theorem yO:aK w4L:=by
 unfold w4L aK fy aK fy aK fy aK;exact ⟨⟨by decide,by decide,ng _ (by decide),dS,by decide,by decide,⟨⟨by decide,by decide,ng _ (by decide),dS,by decide,by decide,⟨⟨by decide,by decide,ng _ (by decide),dS,by decide,by decide,trivial,trivial⟩,trivial⟩,trivial⟩,trivial⟩,trivial⟩,trivial⟩
theorem nh:aA w4P<4194304/\aA w4T<4194304/\aA w4L<4194304:=by decide
end
section
open Go.RowKit Go.Shelf
attribute [local go_sem] aa ac ae ab
abbrev nmC (s:ByteArray):List Value:=[Zi Zq 2,Zi Zq 0,Zi Zq 0,Zt ⟨#[]⟩,Zs none 0 0,Zs none 0 0,Zt s,Zs none 0 0]
theorem mD (W:World) (s:List UInt8):ER W TT (nmC ⟨s.toArray⟩) (nmE s):=ER.leaf 2 s VR.zero
theorem iT {W:World} {cs:List Value} {x:SJ} (h:SR W TT cs x):dX (W.alloc (.cells cs.toArray 48)) (some ⟨W.heap.size,0,none⟩) 1 1 [x]:=by
 have hb:Below W.heap.size W (W.alloc (.cells cs.toArray 48)):=(Below.refl _ _).alloc (Nat.le_refl _) _;refine ⟨[cs],RR.nil.snoc (h.bel hb),?_,rfl,Nat.le_refl _⟩;rw [List.flatten_singleton];exact RdF.blkN (Blk.new W 48 cs.toArray) trivial
theorem j2 {W:World} {s:List UInt8} {acs:List Value} {a:EJ} {A:Option Addr} {n ca:Nat} {l:List SJ} (ha:ER W TT acs a) (h:dX W A n ca l) (hA:A=none->ca=0) :
  SR W TT ([Zi Zq 3,Zt ⟨s.toArray⟩]++acs++[Zi Zq 0,Zi Zq 0,Zi Zq 0,Zt ⟨#[]⟩,Zs none 0 0,Zs none 0 0,Zt ⟨#[]⟩,Zs none 0 0]++[Zs A n ca,Zs none 0 0]) (.mk 3 s a aM l []):=by
 obtain ⟨css,h1,h2,h3,h4⟩:=h;exact SR.into ha ER.zero h1 h3.symm (by rw [h3];exact h4) hA h2 RR.nil rfl (Nat.le_refl _) (λ _=>rfl) RdF.nil
theorem yB {W:World} {acs bcs:List Value} {a b:EJ} (ha:ER W TT acs a) (hb:ER W TT bcs b):SR W TT ([Zi Zq 1,Zt ⟨#[]⟩]++acs++bcs++[Zs none 0 0,Zs none 0 0]) (.mk 1 [] a b [] []) :=
 SR.into (s:=[]) ha hb RR.nil rfl (Nat.le_refl _) (λ _=>rfl) RdF.nil RR.nil rfl (Nat.le_refl _) (λ _=>rfl) RdF.nil
theorem yk (w:World) (hG:GOE w):Calls Tryz.prog 26 #[] w (λ e w'=>e=.returned (.bool true)/\Below w.heap.size w w'):=by
 have HW:=aW (Below.refl w.heap.size w);have HG:=aW hG;have HC1:=aW (show ∀ W,Below w.heap.size w W->Calls Tryz.prog 34 #[Zt ⟨#[101,109,105,116,32,105,100,44,100,111,99,46,118,59]⟩] W (λ e W' => ∃ A ca at_,e=.returned (.tuple #[.agg #[Zs A 1 ca],Zi Zq at_,Zi Zq 0])/\Below W.heap.size W W') from λ W h=>(kj ⟨#[101,109,105,116,32,105,100,44,100,111,99,46,118,59]⟩ W (HG.out.keep h) (by decide)).mono λ e W' ⟨A,n,ca,he,⟨css,_,_,hl,_⟩,hb⟩=>by
  have h1:=Bm;rw [show cO As=cO (sl ⟨#[101,109,105,116,32,105,100,44,100,111,99,46,118,59]⟩) from rfl] at h1;rw [h1.1] at he;rw [h1.2] at hl;subst hl;exact ⟨A,ca,_,he,hb⟩)
 have HC2:=aW (show ∀ W,Below w.heap.size w W->Calls Tryz.prog 34 #[Zt ⟨#[101,109,105,116,32,49,59]⟩] W (λ e W' => ∃ A n ca,e=.returned (.tuple #[.agg #[Zs A n ca],Zi Zq 6,Zi Zq 330])/\Below W.heap.size W W') from λ W h=>(kj ⟨#[101,109,105,116,32,49,59]⟩ W (HG.out.keep h) (by decide)).mono λ e W' ⟨A,n,ca,he,_,hb⟩=>by
  have h1:=Bq;rw [show cO Au=cO (sl ⟨#[101,109,105,116,32,49,59]⟩) from rfl] at h1;rw [h1.1,h1.2] at he;exact ⟨A,n,ca,he,hb⟩)
 clear hG;go_enter Tryz.func26,Tryz.ntmps26;go_wp2_with fail;refine (jB _ w).mono ?_;rintro e w1 ⟨rfl,hb1⟩;go_wp2_with fail;refine (jB _ w1).mono ?_;rintro e w2 ⟨rfl,hb2⟩;go_wp2_with fail;refine (jB _ w2).mono ?_;rintro e w3 ⟨rfl,hb3⟩;go_wp2_with fail;refine (zR _ _ _ _ _ _ _ _ _ _ _ _ _ _ _ _ _ _ _ _ _ _ _ _ _ _ _ _ w3).mono ?_;rintro e w4 ⟨rfl,hb4⟩;have hw4:Below w.heap.size w w4:=((hb1.trans (hb2.mono hb1.size)).trans (hb3.mono (hb1.trans (hb2.mono hb1.size)).size)).trans (hb4.mono ((hb1.trans (hb2.mono hb1.size)).trans (hb3.mono (hb1.trans (hb2.mono hb1.size)).size)).size);obtain ⟨W5,hW5⟩:∃ W5,w4.alloc (.cells #[Zi Zq 1,Zt ⟨#[]⟩,Zi Zq 2,Zi Zq 0,Zi Zq 0,Zt ⟨#[]⟩,Zs none 0 0,Zs none 0 0,Zt ⟨#[120]⟩,Zs none 0 0,Zi Zq 2,Zi Zq 0,Zi Zq 0,Zt ⟨#[]⟩,Zs none 0 0,Zs none 0 0,Zt ⟨#[121]⟩,Zs none 0 0,Zs none 0 0,Zs none 0 0] 48)=W5:=⟨_,rfl⟩
 have hp5:dX W5 (some ⟨w4.heap.size,0,none⟩) 1 1 [.mk 1 [] (nmE [120]) (nmE [121]) [] []]:=by
  rw [← hW5];exact iT (yB (mD w4 [120]) (mD w4 [121]))
 have hb5:Below w.heap.size w W5:=by rw [← hW5];exact hw4.alloc hw4.size _
 have HP5:=aW hp5;have HB5:=aW hb5;have HW5:=aW hW5;clear hp5 hb5 hW5 hw4 hb1 hb2 hb3 hb4;go_wp2_with fail;rw [HW5.out];refine (mz _ _ _ _ _ _ _ _ _ _ _ _ _ _ _ _ _ _ W5).mono ?_;rintro e w6 ⟨rfl,hb6⟩;have hw6:Below w.heap.size w w6:=HB5.out.trans (hb6.mono HB5.out.size);obtain ⟨W7,hW7⟩:∃ W7,w6.alloc (.cells #[Zi Zq 3,Zt ⟨#[120]⟩,Zi Zq 2,Zi Zq 0,Zi Zq 0,Zt ⟨#[]⟩,Zs none 0 0,Zs none 0 0,Zt ⟨#[100,111,99]⟩,Zs none 0 0,Zi Zq 0,Zi Zq 0,Zi Zq 0,Zt ⟨#[]⟩,Zs none 0 0,Zs none 0 0,Zt ⟨#[]⟩,Zs none 0 0,Zs (some ⟨w4.heap.size,0,none⟩) 1 1,Zs none 0 0] 48)=W7:=⟨_,rfl⟩
 have HP7:=aW (show dX W7 (some ⟨w6.heap.size,0,none⟩) 1 1 w4P by
  rw [← hW7];exact iT (j2 (s:=[120]) (mD w6 [100,111,99]) (HP5.out.bel hb6) (λ e=>by cases e)))
 have hb7:Below w.heap.size w W7:=by rw [← hW7];exact hw6.alloc hw6.size _
 have HB7:=aW hb7;have HW7:=aW hW7;clear hb7 hW7 hw6 hb6 HP5 HB5 HW5;go_wp2_with fail;rw [HW7.out];obtain ⟨b6,hb6⟩:∃ b,w6.heap.size=b:=⟨_,rfl⟩
 rw [hb6] at HP7;have HB6:=aW hb6;clear hb6;refine (r8 _ _ _ W7).mono ?_;rintro e w8 ⟨rfl,hb8⟩;rw [HB6.out];have hw8:Below w.heap.size w w8:=HB7.out.trans (hb8.mono HB7.out.size);have HH:=aW (show aT [(w8.heap.size,24,#[Zs (some ⟨b6,0,none⟩) 1 1])] w (w8.alloc (.cells #[Zs (some ⟨b6,0,none⟩) 1 1] 24)) from ⟨hw8.alloc hw8.size _,λ x hx=>by
  obtain rfl:=List.mem_singleton.1 hx;exact Blk.new _ _ _⟩)
 have HP9:=aW ((HP7.out.bel hb8).bel (W':=w8.alloc (.cells #[Zs (some ⟨b6,0,none⟩) 1 1] 24)) ((Below.refl _ _).alloc (Nat.le_refl _) _));clear hw8 hb8 HP7 HB7 HW7;obtain ⟨W9,hW9⟩:∃ W9,w8.alloc (.cells #[Zs (some ⟨b6,0,none⟩) 1 1] 24)=W9:=⟨_,rfl⟩
 rw [hW9] at HH HP9;have HW9:=aW hW9;clear hW9;go_upto_region 2 with fail;rw [HW9.out];obtain ⟨g1,hg1⟩:∃ z,w8.heap.size=z:=⟨_,rfl⟩
 try rw [hg1]
 rw [hg1] at HH;clear hg1 HW9;obtain ⟨c0,f0,l0⟩:=HH.out.b0.rules;go_wp2_with fail;refine (vP HP9.out (HG.out.keep HH.out.1) pH nh.1).mono ?_;rintro e wA ⟨A2,n2,c2,rfl,hrow,hbA⟩;rw [show eq w4P=0 from rfl];rw [xw,if_pos rfl,yQ] at hrow;have HHA:=aW (HH.out.keep hbA);have HPA:=aW (HP9.out.bel hbA);have hn2:n2=2:=hrow.1.symm;subst hn2;have HRA:=aW (show RdF wA (λ _=>True) A2 (bY [[100,111,99],[121]]) from hrow.2.2.2.mono λ _ _ _=>trivial);have hc2:2<=c2:=hrow.2.1;clear hbA hrow c0 f0 l0 HH HP9;obtain ⟨c0,f0,l0⟩:=HHA.out.b0.rules;go_wp2_with fail;refine (sY HPA.out (HG.out.keep HHA.out.1) pH nh.1).mono ?_;rintro e wB ⟨rfl,hbB⟩;rw [show eq w4P=0 from rfl,xw,if_pos rfl,xv];have HHB:=aW (HHA.out.keep hbB);have HPB:=aW (HPA.out.bel hbB);have HRB:=aW (HRA.out.keep (ah.of_below hbB));clear hbB c0 f0 l0 HHA HPA HRA;go_wp2_with fail;refine (HC1.out wB HHB.out.1).mono ?_;rintro e wC ⟨A3,c3,at3,rfl,hbC⟩;have HHC:=aW ((HHB.out.keep hbC).push 24 #[Zs A3 1 c3] (g:=wC.heap.size) rfl);have HPC:=aW ((HPB.out.bel hbC).bel (W':=wC.alloc (.cells #[Zs A3 1 c3] 24)) ((Below.refl _ _).alloc (Nat.le_refl _) _));have HRC:=aW ((HRB.out.keep (ah.of_below hbC)).keep (ah.of_below ((Below.refl _ wC).alloc (Nat.le_refl _) (.cells #[Zs A3 1 c3] 24))));obtain ⟨WC,hWC⟩:∃ W,wC.alloc (.cells #[Zs A3 1 c3] 24)=W:=⟨_,rfl⟩
 obtain ⟨g6,hg6⟩:∃ z,wC.heap.size=z:=⟨_,rfl⟩
 rw [hWC] at HHC HPC HRC;rw [hg6] at HHC;have HWC:=aW hWC;have HG6:=aW hg6;clear hbC hWC hg6 HHB HPB HRB;go_upto_region 5 with fail;rw [HWC.out]
 try rw [HG6.out]
 clear HWC HG6;go_wp2_with fail;refine (HC2.out WC HHC.out.1).mono ?_;rintro e wD ⟨A4,n4,c4,rfl,hbD⟩;have HHD:=aW ((HHC.out.keep hbD).alloc (.cells #[Zs A4 n4 c4] 24));have HPD:=aW ((HPC.out.bel hbD).bel (W':=wD.alloc (.cells #[Zs A4 n4 c4] 24)) ((Below.refl _ _).alloc (Nat.le_refl _) _));have HRD:=aW ((HRC.out.keep (ah.of_below hbD)).keep (ah.of_below ((Below.refl _ wD).alloc (Nat.le_refl _) (.cells #[Zs A4 n4 c4] 24))));obtain ⟨WD,hWD⟩:∃ W,wD.alloc (.cells #[Zs A4 n4 c4] 24)=W:=⟨_,rfl⟩
 rw [hWD] at HHD HPD HRD;have HWD:=aW hWD;clear hbD hWD HHC HPC HRC;go_upto_region 6 with fail;rw [HWD.out];clear HWD;obtain ⟨c0,f0,l0⟩:=HHD.out.b1.rules;go_wp2_with fail;refine (iS HPD.out (HG.out.keep HHD.out.1) pH nh.1).mono ?_;rw [Br];rintro e wE ⟨rfl,hbE⟩;have HHE:=aW (HHD.out.keep hbE);have HRE:=aW (HRD.out.keep (ah.of_below hbE));clear hbE c0 f0 l0 HHD HPD HRD;go_wp2_with fail;have hbE:=HHE.out.alloc (.cells #[Zt ⟨#[100,111,99]⟩,Zt ⟨#[121]⟩] 9);have hrE:Rd (wE.alloc (.cells #[Zt ⟨#[100,111,99]⟩,Zt ⟨#[121]⟩] 9)) (some ⟨wE.heap.size,0,none⟩) (bY [[100,111,99],[121]]):=Rd.of_blk (Blk.new wE 9 #[Zt ⟨#[100,111,99]⟩,Zt ⟨#[121]⟩]);refine (j4 A2 _ 2 2 c2 2 [[100,111,99],[121]] [[100,111,99],[121]] _ rfl rfl (HRE.out.rd.alloc _) hrE hc2 (Nat.le_refl _) (by decide) (by decide)).mono ?_;rintro e wF ⟨rfl,q,rfl⟩;rw [decide_eq_true (show ([[100,111,99],[121]]:List (List UInt8))=[[100,111,99],[121]] from rfl)];have HHF:=aW (hbE.drewN q);obtain ⟨WF,hWF⟩:∃ W,(wE.alloc (.cells #[Zt ⟨#[100,111,99]⟩,Zt ⟨#[121]⟩] 9)).drewN q=W:=⟨_,rfl⟩
 rw [hWF] at HHF ⊢;clear hWF hbE hrE HRE HHE;obtain ⟨c0,f0,l0⟩:=HHF.out.b0.rules;have HB:=aW HHF.out.1;go_wp2_with fail;clear c0 f0 l0 HHF;refine (jB _ WF).mono ?_;rintro e v1 ⟨rfl,hb⟩;replace HB:=aW (HB.out.trans (hb.mono HB.out.size));clear hb;go_wp2_with fail;refine (mz _ _ _ _ _ _ _ _ _ _ _ _ _ _ _ _ _ _ v1).mono ?_;rintro e v2 ⟨rfl,hb⟩;obtain ⟨V2,hV2⟩:∃ W,v2.alloc (.cells #[Zi Zq 3,Zt ⟨#[100,111,99]⟩,Zi Zq 2,Zi Zq 0,Zi Zq 0,Zt ⟨#[]⟩,Zs none 0 0,Zs none 0 0,Zt ⟨#[100,111,99]⟩,Zs none 0 0,Zi Zq 0,Zi Zq 0,Zi Zq 0,Zt ⟨#[]⟩,Zs none 0 0,Zs none 0 0,Zt ⟨#[]⟩,Zs none 0 0,Zs none 0 0,Zs none 0 0] 48)=W:=⟨_,rfl⟩
 have HV2:=aW hV2;have PV2:=aW (show dX V2 (some ⟨v2.heap.size,0,none⟩) 1 1 _ by
  rw [← hV2];exact iT (j2 (s:=[100,111,99]) (mD v2 [100,111,99]) (dX.nil_ _) (λ _=>rfl)))
 replace HB:=aW (show Below w.heap.size w V2 by rw [← hV2];exact (HB.out.trans (hb.mono HB.out.size)).alloc (HB.out.trans (hb.mono HB.out.size)).size _);clear hb hV2;go_wp2_with fail;rw [HV2.out];obtain ⟨bV2,hbV2⟩:∃ b,v2.heap.size=b:=⟨_,rfl⟩
 rw [hbV2] at PV2
 try rw [hbV2]
 have HSV2:=aW hbV2;clear hbV2 HV2;refine (r8 _ _ _ V2).mono ?_;rintro e v3 ⟨rfl,hb⟩
 try rw [HSV2.out]
 replace HB:=aW (HB.out.trans (hb.mono HB.out.size));have Pv3:=aW (show dX v3 (some ⟨bV2,0,none⟩) 1 1 w4T from PV2.out.bel hb);clear hb;go_wp2_with fail
 try rw [HSV2.out]
 refine (iS Pv3.out (HG.out.keep HB.out) yP nh.2.1).mono ?_;rw [Bt];rintro e v4 ⟨rfl,hb⟩;replace HB:=aW (HB.out.trans (hb.mono HB.out.size));clear hb;go_wp2_with fail;refine (jB _ v4).mono ?_;rintro e v5 ⟨rfl,hb⟩;replace HB:=aW (HB.out.trans (hb.mono HB.out.size));clear hb;go_wp2_with fail;refine (jB _ v5).mono ?_;rintro e v6 ⟨rfl,hb⟩;replace HB:=aW (HB.out.trans (hb.mono HB.out.size));clear hb;go_wp2_with fail;refine (jB _ v6).mono ?_;rintro e v7 ⟨rfl,hb⟩;replace HB:=aW (HB.out.trans (hb.mono HB.out.size));clear hb;go_wp2_with fail;refine (mz _ _ _ _ _ _ _ _ _ _ _ _ _ _ _ _ _ _ v7).mono ?_;rintro e v8 ⟨rfl,hb⟩;obtain ⟨V8,hV8⟩:∃ W,v8.alloc (.cells #[Zi Zq 3,Zt ⟨#[122]⟩,Zi Zq 2,Zi Zq 0,Zi Zq 0,Zt ⟨#[]⟩,Zs none 0 0,Zs none 0 0,Zt ⟨#[121]⟩,Zs none 0 0,Zi Zq 0,Zi Zq 0,Zi Zq 0,Zt ⟨#[]⟩,Zs none 0 0,Zs none 0 0,Zt ⟨#[]⟩,Zs none 0 0,Zs none 0 0,Zs none 0 0] 48)=W:=⟨_,rfl⟩
 have HV8:=aW hV8;have PV8:=aW (show dX V8 (some ⟨v8.heap.size,0,none⟩) 1 1 _ by
  rw [← hV8];exact iT (j2 (s:=[122]) (mD v8 [121]) (dX.nil_ _) (λ _=>rfl)))
 replace HB:=aW (show Below w.heap.size w V8 by rw [← hV8];exact (HB.out.trans (hb.mono HB.out.size)).alloc (HB.out.trans (hb.mono HB.out.size)).size _);clear hb hV8;go_wp2_with fail;rw [HV8.out];obtain ⟨bV8,hbV8⟩:∃ b,v8.heap.size=b:=⟨_,rfl⟩
 rw [hbV8] at PV8
 try rw [hbV8]
 have HSV8:=aW hbV8;clear hbV8 HV8
 try rw [HSV8.out]
 refine (mz _ _ _ _ _ _ _ _ _ _ _ _ _ _ _ _ _ _ V8).mono ?_;rintro e v9 ⟨rfl,hb⟩;obtain ⟨V9,hV9⟩:∃ W,v9.alloc (.cells #[Zi Zq 3,Zt ⟨#[121]⟩,Zi Zq 2,Zi Zq 0,Zi Zq 0,Zt ⟨#[]⟩,Zs none 0 0,Zs none 0 0,Zt ⟨#[120]⟩,Zs none 0 0,Zi Zq 0,Zi Zq 0,Zi Zq 0,Zt ⟨#[]⟩,Zs none 0 0,Zs none 0 0,Zt ⟨#[]⟩,Zs none 0 0,Zs (some ⟨bV8,0,none⟩) 1 1,Zs none 0 0] 48)=W:=⟨_,rfl⟩
 have HV9:=aW hV9;have PV9:=aW (show dX V9 (some ⟨v9.heap.size,0,none⟩) 1 1 _ by
  rw [← hV9];exact iT (j2 (s:=[121]) (mD v9 [120]) (PV8.out.bel hb) (λ e=>by cases e)))
 replace HB:=aW (show Below w.heap.size w V9 by rw [← hV9];exact (HB.out.trans (hb.mono HB.out.size)).alloc (HB.out.trans (hb.mono HB.out.size)).size _);clear hb hV9;go_wp2_with fail;rw [HV9.out];obtain ⟨bV9,hbV9⟩:∃ b,v9.heap.size=b:=⟨_,rfl⟩
 rw [hbV9] at PV9
 try rw [hbV9]
 have HSV9:=aW hbV9;clear hbV9 HV9;refine (mz _ _ _ _ _ _ _ _ _ _ _ _ _ _ _ _ _ _ V9).mono ?_;rintro e v10 ⟨rfl,hb⟩;obtain ⟨V10,hV10⟩:∃ W,v10.alloc (.cells #[Zi Zq 3,Zt ⟨#[120]⟩,Zi Zq 2,Zi Zq 0,Zi Zq 0,Zt ⟨#[]⟩,Zs none 0 0,Zs none 0 0,Zt ⟨#[100,111,99]⟩,Zs none 0 0,Zi Zq 0,Zi Zq 0,Zi Zq 0,Zt ⟨#[]⟩,Zs none 0 0,Zs none 0 0,Zt ⟨#[]⟩,Zs none 0 0,Zs (some ⟨bV9,0,none⟩) 1 1,Zs none 0 0] 48)=W:=⟨_,rfl⟩
 have HV10:=aW hV10;have PV10:=aW (show dX V10 (some ⟨v10.heap.size,0,none⟩) 1 1 _ by
  rw [← hV10];exact iT (j2 (s:=[120]) (mD v10 [100,111,99]) (PV9.out.bel hb) (λ e=>by cases e)))
 replace HB:=aW (show Below w.heap.size w V10 by rw [← hV10];exact (HB.out.trans (hb.mono HB.out.size)).alloc (HB.out.trans (hb.mono HB.out.size)).size _);clear hb hV10;go_wp2_with fail;rw [HV10.out];obtain ⟨bV10,hbV10⟩:∃ b,v10.heap.size=b:=⟨_,rfl⟩
 rw [hbV10] at PV10
 try rw [hbV10]
 have HSV10:=aW hbV10;clear hbV10 HV10;refine (r8 _ _ _ V10).mono ?_;rintro e v11 ⟨rfl,hb⟩
 try rw [HSV10.out]
 replace HB:=aW (HB.out.trans (hb.mono HB.out.size));have Pv11:=aW (show dX v11 (some ⟨bV10,0,none⟩) 1 1 w4L from PV10.out.bel hb);clear hb;go_wp2_with fail
 try rw [HSV10.out]
 refine (iS Pv11.out (HG.out.keep HB.out) yO nh.2.2).mono ?_;rw [Bs];rintro e v12 ⟨rfl,hb⟩;replace HB:=aW (HB.out.trans (hb.mono HB.out.size));clear hb;go_wp2;go_ret;exact ⟨rfl,HB.out⟩
end
section
open Go.RowKit
attribute [local go_sem] aa ac ae ab
theorem zH {w:World} {A:Option Addr} {ca:Nat} {l:List SJ} (h:zn w A ca l):dX w A l.length ca l/\(A=none->ca=0):=by
 obtain ⟨css,h1,hc,hA,h2⟩:=h;exact ⟨⟨css,RR.imp h1 λ c x hx=>hx.mono λ _ _ _=>trivial,h2.mono λ _ _ _=>trivial,rfl,hc⟩,hA⟩
theorem kR (A:Option Addr) (ca:Nat) (l:List SJ) (w:World) (hG:GOE w) (hS0:zn w A ca l) (hL:∀ v ∈ l,jz 4194304 v) (hn0:l.length<=4194304) (hm:aA l<=1048576) :
  Calls Tryz.prog 13 #[.agg #[Zs A l.length ca]] w (λ e w'=>e=.returned (.bool true)/\Below w.heap.size w w'):=by
 obtain ⟨hP,_⟩:=zH hS0;have hcam:aK l:=tT hL;have HM:=aW hm;have HC:=aW hcam;obtain ⟨n,hn⟩:∃ n,l.length=n:=⟨_,rfl⟩
 rw [hn] at hP ⊢;have HP:=aW hP;have HG:=aW (λ (W:World) (hb:Below w.heap.size w W)=>hG.keep hb);have HH0:=aW ((aT.nil w).push 24 #[Zs A n ca] (g:=w.heap.size) rfl);have HWK:=aW (λ (W:World) (hb:Below w.heap.size w W)=>yk W (hG.keep hb));clear hS0 hL hn0 hm hn hG hP hcam;go_enter Tryz.func13,Tryz.ntmps13;go_wp2_with fail;refine (HWK.out _ HH0.out.1).mono ?_;rintro e w1 ⟨rfl,hb1⟩;have HH1:=aW (HH0.out.keep hb1);clear hb1 HH0;obtain ⟨c0,f0,l0⟩:=HH1.out.b0.rules;go_wp2_with fail;obtain ⟨⟨t,q⟩,hpr⟩:∃ r,eD l=r:=⟨_,rfl⟩
 have HPT:=aW (zG (HP.out.bel HH1.out.1) (HG.out _ HH1.out.1) HC.out (by have:=HM.out;omega));unfold zl at HPT;rw [hpr] at HPT;simp only at HPT;have HJ:=aW (pr l);rw [hpr] at HJ;clear hpr;refine HPT.out.mono ?_;rintro e w2 ⟨rfl,hb2⟩;have HH2:=aW (HH1.out.keep hb2);clear hb2 HH1 HPT c0 f0 l0;rcases HJ.out with ⟨hm,he⟩ | ⟨hm,_,he⟩ | ⟨hm,hl5,he⟩
 ·injection he with he1 he2
  subst he1 he2;clear hm HJ;go_wp2;go_ret;exact ⟨rfl,HH2.out.1⟩
 ·injection he with he1 he2
  subst he1 he2;clear hm HJ;go_wp2;go_ret;exact ⟨rfl,HH2.out.1⟩
 ·injection he with he1 he2
  subst he2;subst he1;have hpp:cO (sl ⟨(ff l).toArray⟩)=(l,0,0):=by rw [oq];exact qP hm HC.out hl5
  obtain ⟨src,hsrc⟩:∃ s:ByteArray,⟨(ff l).toArray⟩=s:=⟨_,rfl⟩
  have hsz:src.size<=4194304:=by rw [← hsrc];show (ff l).toArray.size<=_;simp;omega
  rw [hsrc] at hpp ⊢;have HCM:=aW (λ (W:World) (hb:Below w.heap.size w W)=>kj src W (HG.out _ hb) hsz);rw [hpp] at HCM;have HMY:=aW hm;clear hpp hsz hsrc hl5 HJ hm;obtain ⟨q,hq⟩:∃ q,dQ l=q:=⟨_,rfl⟩
  by_cases hq0:q=0
  ·subst hq0;rw [show js (l,0,0)=(l,0,0) by unfold js;rw [if_pos rfl,if_pos hq]] at HCM;go_wp2_with fail;refine (HCM.out _ HH2.out.1).mono ?_;rintro e w3 ⟨A3,n3,c3,rfl,hp3,hb3⟩;have HH3:=aW ((HH2.out.keep hb3).push 24 #[Zs A3 n3 c3] (g:=w3.heap.size) rfl);have HP3:=aW (hp3.bel (W':=w3.alloc (.cells #[Zs A3 n3 c3] 24)) ((Below.refl _ _).alloc (Nat.le_refl _) _));obtain ⟨W3,hW3⟩:∃ W,w3.alloc (.cells #[Zs A3 n3 c3] 24)=W:=⟨_,rfl⟩
   obtain ⟨g3,hg3⟩:∃ z,w3.heap.size=z:=⟨_,rfl⟩
   rw [hW3] at HH3 HP3;rw [hg3] at HH3;have HW3:=aW hW3;have HG3:=aW hg3;clear hp3 hb3 hW3 hg3 HH2 HCM;go_upto_region 7 with fail;rw [HW3.out]
   try rw [HG3.out]
   clear HW3 HG3;obtain ⟨c1,f1,l1⟩:=HH3.out.b1.rules;go_wp2_with fail;have HCK:=aW (iS (HP.out.bel HH3.out.1) (HG.out _ HH3.out.1) HC.out (by have:=HM.out;omega));unfold rx at HCK;rw [hq] at HCK;have HCF:=aW (rC hq);refine HCK.out.mono ?_;rintro e w4 ⟨rfl,hb4⟩;have HH4:=aW (HH3.out.keep hb4);have HP4:=aW (HP3.out.bel hb4);clear hb4 HH3 HP3 HCK hq c1 f1 l1;obtain ⟨c0,f0,l0⟩:=HH4.out.b0.rules;go_wp2_with fail;refine (vP HP4.out (HG.out _ HH4.out.1) HC.out (by have:=HM.out;omega)).mono ?_;rintro e w5 ⟨A5,n5,c5,rfl,hrow,hb5⟩;have hpg:eq l=0:=by unfold eq;rw [HMY.out];rfl
   rw [hpg];rw [HMY.out,if_pos rfl] at hrow;have HH5:=aW (HH4.out.keep hb5);have HP5:=aW (HP4.out.bel hb5);have HR5:=aW hrow.2.2.2.rd;have HN5:=aW hrow.1;have hn5:n5<=4194304:=by have h1:=hrow.1;have h2:=qr l;have h3:=wV (fX [] l);rw [iy] at h1;have:=HM.out;omega
   clear hb5 hrow HH4 HP4 c0 f0 l0 hpg;have HCM2:=aW (And.intro (sY HP5.out (HG.out _ HH5.out.1) HC.out (by have:=HM.out;omega)) HCF.out.2);go_wp2_with fail;go_loopg [60] n5 (λ gk s60 wr => ∃ i:Nat,i<=n5/\gk=n5-i/\s60=Zi Zq (i:Int)/\wr=w5)
   case atStart=>exact ⟨0,Nat.zero_le _,rfl,by go_num,rfl⟩
   case round =>
    obtain ⟨i,hi,hgk,rfl,rfl⟩:=hrel;have HGK:=aW hgk;clear hgk;by_cases hlt:i<n5
    ·obtain ⟨t,ht⟩:∃ t,(kX l)[i]? = some t:=⟨_,List.getElem?_eq_getElem (by rw [HN5.out];exact hlt)⟩
     have hgv:=HCF.out.1 t (List.mem_of_getElem? ht);obtain ⟨b,o,rfl,hb,hz⟩:=HR5.out (by intro e;have h9:=congrArg List.length e;rw [di,HN5.out] at h9;simp at h9;omega);have x0:wr.cell? ⟨b,o+i,none⟩=some (Zt ⟨t.toArray⟩):=by
      rw [hz i (by rw [di,HN5.out];exact hlt)];have ht9:=(List.getElem?_eq_some_iff.1 ht).2;simp [bY,ht9]
     obtain ⟨x,hx⟩:∃ x,(t == [100,111,99])=x:=⟨_,rfl⟩
     obtain ⟨y,hy⟩:∃ y,(t == [105,100])=y:=⟨_,rfl⟩
     have hg2:(x || y)=true:=by unfold giv at hgv;rw [hx,hy] at hgv;exact hgv
     have h1:((⟨t.toArray⟩:ByteArray).toList == [100,111,99])=x:=by rw [je t [100,111,99]];exact hx
     have h2:((⟨t.toArray⟩:ByteArray).toList == [105,100])=y:=by rw [je t [105,100]];exact hy
     obtain ⟨S,hS⟩:∃ S:ByteArray,⟨t.toArray⟩=S:=⟨_,rfl⟩
     rw [hS] at h1 h2 x0;clear hS hx hy hgv ht hz;cases x
     ·cases y
      ·cases hg2
      ·clear hg2;go_wp2_with fail;go_roundg (n5-(i+1))
       case measure=>rw [HGK.out];omega
       case rel=>exact ⟨i+1,hlt,rfl,by go_num,rfl⟩
     ·clear hg2;go_wp2_with fail;go_roundg (n5-(i+1))
      case measure=>rw [HGK.out];omega
      case rel=>exact ⟨i+1,hlt,rfl,by go_num,rfl⟩
    ·obtain rfl:i=n5:=by omega
     obtain ⟨c1,f1,l1⟩:=HH5.out.b0.rules;go_wp2_with fail;refine HCM2.out.1.mono ?_;rintro e w6 ⟨rfl,hb6⟩;have hpg:eq l=0:=by unfold eq;rw [HMY.out];rfl
     rw [hpg,HMY.out,if_pos rfl];obtain ⟨d,hd⟩:∃ d,fd l=d:=⟨_,rfl⟩
     have hd2:(d:Int)<=2:=by have:=HCM2.out.2;omega
     rw [hd];have HH6:=aW (HH5.out.keep hb6);have HP6:=aW (HP5.out.bel hb6);have HSM:=aW (vO (HP.out.bel HH6.out.1) HP6.out HC.out (by have h1:=fx l;have:=HM.out;omega));clear hb6 HH5 HP5 hpg hd c1 f1 l1;obtain ⟨c0,f0,l0⟩:=HH6.out.b1.rules;obtain ⟨c1,f1,l1⟩:=HH6.out.b0.rules;go_wp2_with fail;refine HSM.out.mono ?_;rintro e w7 ⟨rfl,hb7⟩;have HB7:=aW (HH6.out.1.trans (hb7.mono HH6.out.1.size));clear c0 f0 l0 c1 f1 l1 hb7;go_wp2_with fail;go_ret;exact ⟨rfl,HB7.out⟩
  ·rw [show js (l,0,0)=([],0,q) by unfold js;rw [if_pos rfl,if_neg (by rw [hq];exact hq0),hq]] at HCM;have hqb:(q != 0)=true:=by simpa using hq0
   go_wp2_with fail;refine (HCM.out _ HH2.out.1).mono ?_;rintro e w3 ⟨A3,n3,c3,rfl,hp3,hb3⟩;have hn3:n3=0:=by obtain ⟨_,_,_,h,_⟩:=hp3;exact h.symm
   subst hn3;have HH3:=aW ((HH2.out.keep hb3).push 24 #[Zs A3 0 c3] (g:=w3.heap.size) rfl);obtain ⟨W3,hW3⟩:∃ W,w3.alloc (.cells #[Zs A3 0 c3] 24)=W:=⟨_,rfl⟩
   obtain ⟨g3,hg3⟩:∃ z,w3.heap.size=z:=⟨_,rfl⟩
   rw [hW3] at HH3;rw [hg3] at HH3;have HW3:=aW hW3;have HG3:=aW hg3;clear hp3 hb3 hW3 hg3 HH2 HCM;go_upto_region 7 with fail;rw [HW3.out]
   try rw [HG3.out]
   clear HW3 HG3;obtain ⟨c1,f1,l1⟩:=HH3.out.b1.rules;go_wp2_with fail;have HCK:=aW (iS (HP.out.bel HH3.out.1) (HG.out _ HH3.out.1) HC.out (by have:=HM.out;omega));unfold rx at HCK;rw [hq] at HCK;refine HCK.out.mono ?_;rintro e w4 ⟨rfl,hb4⟩;have HH4:=aW (HH3.out.keep hb4);clear hb4 HH3 HCK hq c1 f1 l1 hq0;obtain ⟨c0,f0,l0⟩:=HH4.out.b0.rules;go_wp2_with fail;go_ret;exact ⟨rfl,HH4.out.1⟩
end
end Go.Proofs.YtgmnmnnoahdjnaaGreatDoor
