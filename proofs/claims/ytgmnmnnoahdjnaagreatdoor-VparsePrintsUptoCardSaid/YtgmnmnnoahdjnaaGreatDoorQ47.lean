import Derived.Test.YtgmnmnnoahdjnaaGreatDoorQ45
import Derived.Test.YtgmnmnnoahdjnaaGreatDoorQ46
open Go.Value renaming int → Zi, slice → Zs, string → Zt, pointer → Zp
open Go.IntKind renaming i64 → Zq
set_option maxRecDepth 100000
set_option maxHeartbeats 16000000
set_option linter.unusedVariables false
set_option linter.unusedSimpArgs false
namespace Go.Proofs.YtgmnmnnoahdjnaaGreatDoor
section
open Go.RowKit
attribute [local go_sem] aa ac ae ab
mutual
theorem lZ:∀ (x:EJ),kH 4194304 x->bh x
 | .mk k v s kids,h=>by
  unfold kH at h;obtain ⟨_,h1,h2,h3,h4,h5,h6⟩:=h;unfold bh;exact ⟨h1,cW.of h2 h3,h4,h5,nW kids h6⟩
theorem nW:∀ (l:List EJ),jl 4194304 l->io l
 | [],_=>trivial
 | x::r,h=>by unfold jl at h;unfold io;exact ⟨lZ x h.1,nW r h.2⟩
end
mutual
theorem uV:∀ (x:SJ),iy 4194304 x->fX x
 | .mk k s a b body els,h=>by
  unfold iy at h;obtain ⟨_,h1,h2,h3,h4,h5,h6,h7,h8⟩:=h;unfold fX;exact ⟨h1,h2,lZ a h3,lZ b h4,h5,h6,iN body h7,iN els h8⟩
theorem iN:∀ (l:List SJ),iz 4194304 l->a9 l
 | [],_=>trivial
 | x::r,h=>by unfold iz at h;unfold a9;exact ⟨uV x h.1,iN r h.2⟩
end
theorem nX {l:List SJ} (h:∀ v ∈ l,iy 4194304 v):a9 l:=iN l (iT.2 h)
def jK (W:World) (A:Option Addr) (n ca:Nat) (p:List SJ):Prop:=∃ css,SRs W TT css p/\RdF W TT A css.flatten/\p.length=n/\n<=ca
section
variable {w W W':World} {A A':Option Addr} {n n' ca ca':Nat} {p q:List SJ} {F:Nat->Prop} {e:Ending}
theorem jK.bel (h:jK W A n ca p) (hb:Below W.heap.size W W'):jK W' A n ca p:=by
 obtain ⟨css,h1,h2,h3⟩:=h;exact ⟨css,RR.imp h1 λ c x hc=>hc.bel hb,h2.keep (ah.of_below hb),h3⟩
theorem wV.has (h:wV p F w e W):∃ A n ca,e=.returned (.agg #[Zs A n ca])/\jK W A n ca p/\Below w.heap.size w W:=by
 obtain ⟨A,n,ca,css,rfl,h1,h2,_,h3,h4,h5⟩:=h;exact ⟨A,n,ca,rfl,⟨css,RR.imp h3 λ c x hc=>hc.mono λ _ _ _=>trivial,h4.mono λ _ _ _=>trivial,h1.symm,h2⟩,h5⟩
theorem pc.has {o:List SJ × Int × Int} (h:pc o w e W):∃ A n ca,e=.returned (.tuple #[.agg #[Zs A n ca],Zi Zq o.2.1,Zi Zq o.2.2])/\jK W A n ca o.1/\Below w.heap.size w W:=by
 obtain ⟨A,n,ca,css,rfl,h1,h2,_,h3,h4,h5⟩:=h;exact ⟨A,n,ca,rfl,⟨css,RR.imp h3 λ c x hc=>hc.mono λ _ _ _=>trivial,h4.mono λ _ _ _=>trivial,h1.symm,h2⟩,h5⟩
theorem j1:∀ l:List SJ,l.length<=cq l
 | []=>Nat.le_refl _
 |x::r=>by
  have h1:=j1 r;have h2:=wE x;unfold cq;rw [List.length_cons];omega
theorem zi (h:jK W A n ca p) (hG:GOE W) (hC:a9 p) (hs:cq p<=4194304):Calls Tryz.prog 16 #[.agg #[Zs A n ca]] W (wZ p W):=by
 obtain ⟨css,h1,h2,h3,h4⟩:=h;have hl:=j1 p;have ht:=gB p hC;exact wJ p css A n ca TT W hG h1 h3 h4 h2 hC (by omega) (by omega)
theorem zh (h:jK W A n ca p) (hG:GOE W) (hC:a9 p) (hs:cq p<=4194304):Calls Tryz.prog 18 #[.agg #[Zs A n ca]] W (tM (mS p) W):=by
 obtain ⟨css,h1,h2,h3,h4⟩:=h;have hl:=j1 p;exact pm p css A n ca TT W hG h1 h3 h4 h2 hC (by omega)
theorem Bq {l:List SJ} (hS:yS w A ca l) (hL:∀ v ∈ l,iy 4194304 v) (hn:l.length<=4194304) (hln:l.length=n) (hb:Below w.heap.size w W) :
  Calls Tryz.prog 15 #[.agg #[Zs A n ca]] W (λ e W' => ∃ A n ca,e=.returned (.agg #[Zs A n ca])/\jK W' A n ca (dJ 14 l)/\Below W.heap.size W W'):=by
 obtain ⟨css,h1,hc,_,h2⟩:=hS;subst hln;exact (AD (λ b=>b<w.heap.size) l A l.length ca css W (λ b h=>Nat.lt_of_lt_of_le h hb.size) (RR.imp h1 λ c x hx=>(hx.mono (F':=λ b=>b<w.heap.size) λ b hb' _=>hb').bel hb) ((h2.mono (F':=λ b=>b<w.heap.size) λ b hb' _=>hb').keep (ah.of_below hb)) rfl hc (nX hL) hn).mono λ e W' h=>h.has
end
theorem pK (p:List SJ):(ie p=false/\dV p=([],332))∨(ie p=true/\512<(fB p).length/\dV p=([],3))∨(ie p=true/\(fB p).length<=512/\dV p=(fB p,0)):=by
 unfold dV;cases h:ie p with
 | false=>exact .inl ⟨rfl,by simp⟩
 |true =>
  by_cases h5:512<(fB p).length
  ·exact .inr (.inl ⟨rfl,h5,by simp [h5]⟩)
  ·exact .inr (.inr ⟨rfl,by omega,by simp [h5]⟩)
structure yM (l:List SJ) (p:List SJ):Prop where
 cam:a9 p
 sum:cq p<=1048576
 len:p.length<=5
theorem yM.of {l:List SJ} (hL:∀ v ∈ l,iy 4194304 v) (hs:cq l<=1048576):yM l (dJ 14 l) :=
 ⟨lY 14 l (nX hL),Nat.le_trans (nu 14 l) hs,mh 14 l⟩
end
section
open Go.RowKit
def RFv (w Z:World) (P Q:Array Value):Prop:=Below w.heap.size w Z/\Blk Z w.heap.size 24 P/\Blk Z (w.heap.size+1) 24 Q
def NBv (w Z:World) (b:Nat) (v:Value):Prop:=w.heap.size+2<=b/\Blk Z b 24 #[v]
def GRv (L:List Nat):Nat->Prop:=λ b=>b ∉ L
def RWv (Z:World) (F:Nat->Prop) (A:Option Addr) (n ca:Nat) (css:List (List Value)) (l:List SJ):Prop:=(n=l.length/\n<=ca/\(A=none->ca=0))/\SRs Z F css l/\RdF Z F A css.flatten
section
variable {w Z Z':World} {P Q:Array Value} {A:Option Addr} {n ca:Nat} {css:List (List Value)} {l:List SJ} {L:List Nat} {F:Nat->Prop}
theorem RFv.bel (h:RFv w Z P Q) (hb:Below Z.heap.size Z Z'):RFv w Z' P Q:=⟨h.1.trans (hb.mono h.1.size),h.2.1.keep hb,h.2.2.keep hb⟩
theorem RFv.p (h:RFv w Z P Q):Blk Z w.heap.size 24 P:=h.2.1
theorem RFv.q (h:RFv w Z P Q):Blk Z (w.heap.size+1) 24 Q:=h.2.2
theorem RFv.new (h:RFv w Z P Q) {Y:World} (hY:Y=Z.alloc (.cells #[Zs none 0 0] 24)):NBv w Y Z.heap.size (Zs none 0 0):=⟨by have:=h.q.lt;omega,by rw [hY];exact Blk.new _ _ _⟩
theorem RFv.st (h:RFv w Z P Q) {b:Nat} (hb:w.heap.size+2<=b) (u:Value):RFv w (Z.setCell ⟨b,0,none⟩ u) P Q :=
 ⟨h.1.setCell (p:=⟨b,0,none⟩) (by show w.heap.size<=b;omega) u,h.p.far (p:=⟨b,0,none⟩) (by show w.heap.size≠b;omega) u,h.q.far (p:=⟨b,0,none⟩) (by show w.heap.size+1≠b;omega) u⟩
theorem NBv.bel {b:Nat} {v:Value} (h:NBv w Z b v) (hb:Below Z.heap.size Z Z'):NBv w Z' b v:=⟨h.1,h.2.keep hb⟩
theorem RWv.bel (h:RWv Z F A n ca css l) (hb:Below Z.heap.size Z Z'):RWv Z' F A n ca css l:=⟨h.1,RR.imp h.2.1 λ c x hc=>hc.bel hb,h.2.2.keep (ah.of_below hb)⟩
theorem RWv.add (h:RWv Z (GRv L) A n ca css l) {b:Nat} (hb:Z.heap.size<=b):RWv Z (GRv (b::L)) A n ca css l:=by
 have hm:∀ k,k<Z.heap.size->GRv L k->GRv (b::L) k:=λ k hk hg hm=>by
  rcases List.mem_cons.1 hm with rfl | hm
  ·omega
  ·exact hg hm
 exact ⟨h.1,RR.imp h.2.1 λ c x hc=>hc.mono hm,h.2.2.mono hm⟩
theorem RWv.two (h:RWv Z (GRv L) A n ca css l) {b7 b8:Nat} (hs:∀ x,x ∈ [b7,b8]->x ∈ L):RWv Z (GRv [b7,b8]) A n ca css l:=by
 have hm:∀ k,k<Z.heap.size->GRv L k->GRv [b7,b8] k:=λ k _ hg hm=>hg (hs k hm)
 exact ⟨h.1,RR.imp h.2.1 λ c x hc=>hc.mono hm,h.2.2.mono hm⟩
theorem RWv.tt (h:RWv Z F A n ca css l):jK Z A n ca l:=⟨css,RR.imp h.2.1 λ c x hc=>hc.mono λ _ _ _=>trivial,h.2.2.mono λ _ _ _=>trivial,h.1.1.symm,h.1.2.1⟩
theorem RWv.st (h:RWv Z (GRv L) A n ca css l) {b:Nat} (hb:b ∈ L) (u:Value):RWv (Z.setCell ⟨b,0,none⟩ u) (GRv L) A n ca css l:=by
 have hk:ah (GRv L) Z (Z.setCell ⟨b,0,none⟩ u):=ah.set ah.refl (λ k hg e=>hg (by rw [e];exact hb)) 0 u;exact ⟨h.1,RR.imp h.2.1 λ c x hc=>hc.keep hk,h.2.2.keep hk⟩
end
end
section
open Go.RowKit
attribute [local go_sem] aa ac ae ab
theorem EqX.dec {p:Prop} {d:Bool} {w w':World} {e:Ending} (h:EqX p w e w') (hd:d=true ↔ p):e=.returned (.bool d)/\Below w.heap.size w w':=by
 obtain ⟨t,rfl,ht,hb⟩:=h;refine ⟨?_,hb⟩;have:t=d:=by
  rw [Bool.eq_iff_iff];exact ht.trans hd.symm
 rw [this]
theorem vv {W:World} {A A':Option Addr} {n n' ca ca':Nat} {p q:List SJ} (h:jK W A n ca p) (h':jK W A' n' ca' q) (hC:a9 p) (hC':a9 q) (hl:p.length<=4194304) (hl':q.length<=4194304):Calls Tryz.prog 20 #[Zs A n ca,Zs A' n' ca'] W (EqX (p=q) W):=by
 obtain ⟨css,h1,h2,h3,h4⟩:=h;obtain ⟨css',h1',h2',h3',h4'⟩:=h';exact tr _ p q (Nat.lt_succ_self _) css css' A A' n n' ca ca' TT TT W h3 h3' (by omega) (by omega) h1 h2 h1' h2' h4 h4' hC hC'
theorem yD {W:World} {A:Option Addr} {n ca:Nat} {p:List SJ} (h:jK W A n ca p) (hC:a9 p) (hs:cq p<=4194304) (hm:ie p=true):Calls Tryz.prog 19 #[.agg #[Zs A n ca]] W λ e W'=>e=.returned (Zt ⟨(fB p).toArray⟩)/\Below W.heap.size W W':=by
 obtain ⟨css,h1,h2,h3,h4⟩:=h;have hl:=j1 p;have ht:=gB p hC;exact xW p css A n ca TT W h1 h3 h4 (by omega) h2 hm hC (by omega)
theorem zj {W:World} {A:Option Addr} {n ca:Nat} {p:List SJ} (h:jK W A n ca p) (hC:a9 p) (hs:cq p<=4194304):Calls Tryz.prog 17 #[.agg #[Zs A n ca]] W λ e W'=>e=.returned (.bool (ie p))/\Below W.heap.size W W':=by
 obtain ⟨css,h1,h2,h3,h4⟩:=h;have hl:=j1 p;exact xU p css A n ca W h1 h3 h4 h2 hC (by omega)
theorem kT (A:Option Addr) (ca:Nat) (l:List SJ) (w:World) (hG:GOE w) (hS0:yS w A ca l) (hL:∀ v ∈ l,iy 4194304 v) (hn0:l.length<=4194304) (hm:cq l<=1048576) :
  Calls Tryz.prog 3 #[.agg #[Zs A l.length ca]] w (λ e w'=>e=.returned (.bool true)/\Below w.heap.size w w'):=by
 obtain ⟨n,hn⟩:∃ n,l.length=n:=⟨_,rfl⟩
 have HCV:=aW (yM.of hL hm);have HFX:=aW (λ (W:World) (hb:Below w.heap.size w W)=>Bq (n:=n) hS0 hL hn0 hn hb);rw [hn];obtain ⟨p,hp⟩:∃ p,dJ 14 l=p:=⟨_,rfl⟩
 rw [hp] at HCV HFX;have HG:=aW (λ (W:World) (hb:Below w.heap.size w W)=>hG.keep hb);have HH0:=aW ((aH.nil w).push 24 #[Zs A n ca] (g:=w.heap.size) rfl);have HWK:=aW (λ (W:World) (hb:Below w.heap.size w W)=>xC W (hG.keep hb));clear hS0 hL hn0 hm hn hp hG;go_enter Tryz.func3,Tryz.ntmps3;go_upto_region 3 with (go_at_call 14;refine (HWK.out _ HH0.out.1).mono ?_;rintro e w1 ⟨rfl,hb1⟩);have HH1:=aW (HH0.out.keep hb1);obtain ⟨c1,f1,l1⟩:=HH1.out.b0.rules;clear HH0 hb1;go_upto_region 4 with (go_at_call 15;refine (HFX.out _ HH1.out.1).mono ?_;rintro e w2 ⟨A2,n2,ca2,rfl,hh2,hb2⟩);have HB2:=aW (HH1.out.1.trans (hb2.mono HH1.out.1.size));obtain ⟨W3,hW3⟩:∃ W',w2.alloc (.cells #[Zs A2 n2 ca2] 24)=W':=⟨_,rfl⟩
 have hb3:Below w2.heap.size w2 W3:=by rw [← hW3];exact (Below.refl _ _).alloc (Nat.le_refl _) _
 have HB3:=aW (HB2.out.trans (hb3.mono HB2.out.size));have HP3:=aW (hh2.bel hb3);have HX3:=aW (show Blk W3 w2.heap.size 24 #[Zs A2 n2 ca2] by rw [← hW3];exact Blk.new _ _ _);have HZ3:=aW ((HH1.out.b0.keep hb2).keep hb3);rw [hW3];obtain ⟨bp,hbp⟩:∃ b,w2.heap.size=b:=⟨_,rfl⟩
 rw [hbp] at HX3 ⊢;clear hW3 hb3 hh2 hb2 c1 f1 l1 HB2 HH1 hbp;obtain ⟨c3,f3,l3⟩:=HX3.out.rules;have hs4:cq p<=4194304:=Nat.le_trans HCV.out.sum (by decide);obtain ⟨⟨t,q⟩,hpr⟩:∃ r,dV p=r:=⟨_,rfl⟩
 have HPT:=aW (zi HP3.out (HG.out _ HB3.out) HCV.out.cam hs4);unfold wZ at HPT;rw [hpr] at HPT;simp only at HPT;have HJ:=aW (pK p);rw [hpr] at HJ;clear hpr;go_upto_region 5 with (go_at_call 16;refine HPT.out.mono ?_;rintro e w4 ⟨rfl,hb4⟩);have HB4:=aW (HB3.out.trans (hb4.mono HB3.out.size));have HP4:=aW (HP3.out.bel hb4);have HX4:=aW (HX3.out.keep hb4);have HZ4:=aW (HZ3.out.keep hb4);clear hb4 c3 f3 l3 HX3 HP3 HB3 HPT HZ3;obtain ⟨c4,f4,l4⟩:=HX4.out.rules;have HRI:=aW (zj HP4.out HCV.out.cam hs4);have HCK:=aW (λ (W:World) (h:Below w4.heap.size w4 W)=>zh (HP4.out.bel h) (HG.out _ (HB4.out.trans (h.mono HB4.out.size))) HCV.out.cam hs4);unfold tM at HCK;have hpg:mS p=(if ie p=true then 0 else 332):=rfl;rw [hpg] at HCK;clear hpg;rcases HJ.out with ⟨hm,he⟩ | ⟨hm,hl5,he⟩ | ⟨hm,hl5,he⟩
 ·injection he with he1 he2
  subst he1 he2;rw [hm] at HCK HRI;simp only [Bool.false_eq_true,if_false] at HCK;clear hm HJ;go_upto_region 6 with (go_at_call 17;refine HRI.out.mono ?_;rintro e w5 ⟨rfl,hb5⟩);have HB5:=aW hb5;obtain ⟨c5,f5,l5⟩:=(HX4.out.keep HB5.out).rules;clear hb5 c4 f4 l4;go_wp2_with (go_at_call 18;refine (HCK.out _ HB5.out).mono ?_;rintro e w6 ⟨rfl,hb6⟩);go_ret;exact ⟨rfl,HB4.out.trans ((HB5.out.trans (hb6.mono HB5.out.size)).mono HB4.out.size)⟩
 ·injection he with he1 he2
  subst he1 he2;rw [hm] at HCK HRI;simp only [if_true] at HCK;have HTX:=aW (λ (W:World) (h:Below w4.heap.size w4 W)=>yD (HP4.out.bel h) HCV.out.cam hs4 hm);have h6:(512:Int)<((fB p).length:Int):=by omega
  clear HJ;go_upto_region 7 with (go_at_call 17;refine HRI.out.mono ?_;rintro e w5 ⟨rfl,hb5⟩);have HB5:=aW hb5;obtain ⟨c5,f5,l5⟩:=(HX4.out.keep HB5.out).rules;clear hb5 c4 f4 l4;go_upto_region 8 with (go_at_call 19;refine (HTX.out _ HB5.out).mono ?_;rintro e w6 ⟨rfl,hb6⟩);have HB6:=aW (HB5.out.trans (hb6.mono HB5.out.size));obtain ⟨c6,f6,l6⟩:=(HX4.out.keep HB6.out).rules;clear hb6 c5 f5 l5;go_wp2_with (go_at_call 18;refine (HCK.out _ HB6.out).mono ?_;rintro e w7 ⟨rfl,hb7⟩);go_ret;exact ⟨rfl,HB4.out.trans ((HB6.out.trans (hb7.mono HB6.out.size)).mono HB4.out.size)⟩
 ·injection he with he1 he2
  subst he2;rw [hm] at HCK HRI;simp only [if_true] at HCK;have HTX:=aW (λ (W:World) (h:Below w4.heap.size w4 W)=>yD (HP4.out.bel h) HCV.out.cam hs4 hm);rw [← he1] at HTX hl5;obtain ⟨T,hT⟩:∃ T:ByteArray,⟨t.toArray⟩=T:=⟨_,rfl⟩
  have hTs:T.size<=512:=by rw [← hT];show t.toArray.size<=_;simpa using hl5
  rw [hT] at HTX ⊢;have h6:¬ (512:Int)<(T.size:Int):=by omega
  clear HJ hm he1 hl5 hT;go_upto_region 7 with (go_at_call 17;refine HRI.out.mono ?_;rintro e w5 ⟨rfl,hb5⟩);have HB5:=aW hb5;obtain ⟨c5,f5,l5⟩:=(HX4.out.keep HB5.out).rules;clear hb5 c4 f4 l4;go_upto_region 8 with (go_at_call 19;refine (HTX.out _ HB5.out).mono ?_;rintro e w6 ⟨rfl,hb6⟩);have HB6:=aW (HB5.out.trans (hb6.mono HB5.out.size));obtain ⟨c6,f6,l6⟩:=(HX4.out.keep HB6.out).rules;clear hb6 c5 f5 l5;go_upto_region 12 with (go_at_call 18;refine (HCK.out _ HB6.out).mono ?_;rintro e W6 ⟨rfl,hb7⟩);have hb9:=HB6.out.trans (hb7.mono HB6.out.size);have HX6:=aW (HX4.out.keep hb9);have HZ6:=aW (HZ4.out.keep hb9);have HP6:=aW (HP4.out.bel hb9);have HX9:=HB6;clear HB6 ;have HB6:=aW (HB4.out.trans (hb9.mono HB4.out.size));have HK:=aW (λ (W:World) (h:Below W6.heap.size W6 W)=>show (λ W'=>Blk W' bp 24 #[Zs A2 n2 ca2]/\Blk W' w.heap.size 24 #[Zs A n ca]) W from ⟨HX6.out.keep h,HZ6.out.keep h⟩);have hl4:p.length<=4194304:=by have:=HCV.out.len;omega
  have HSM:=aW (λ (W:World) (A9:Option Addr) (n9 ca9:Nat) (h:Below W6.heap.size W6 W) (h9:jK W A9 n9 ca9 p)=>(vv (HP6.out.bel h) h9 HCV.out.cam HCV.out.cam hl4 hl4).mono λ e W' h=>h.dec (d:=true) (by simp));clear hb7 hb9 c6 f6 l6 HX9 HTX HCK HRI HX4 HZ4 HP4 HB5 hl4 hs4;refine wp_region_held_drew (S:=λ W'=>Blk W' bp 24 #[Zs A2 n2 ca2]/\Blk W' w.heap.size 24 #[Zs A n ca]) (by kernel_rfl) (by exact ⟨HX6.out.drew,HZ6.out.drew⟩) (λ hHeld=>?_);refine ap (λ Y0 hw=>?_);have HZ:=aW (show Below W6.heap.size W6 Y0 by rw [hw];exact (Below.refl _ _).drew);clear hw hHeld;have hHeld:=HK.out _ HZ.out;refine tA 0 44 (Zt T) rfl ?_;refine tA 1 45 (Zt T) rfl ?_;refine tA 2 46 (.bool true) rfl ?_;refine tA 3 47 (.bool true) rfl ?_;refine tA 4 48 (Zi Zq 0) rfl ?_;refine tA 5 49 (.bool true) rfl ?_;refine tA 6 50 (.bool true) rfl ?_;refine tA 7 51 (.bool true) rfl ?_;refine tA 8 52 (Zp (some ⟨bp,0,none⟩)) rfl ?_;refine aY 9 53 (Zs A2 n2 ca2) rfl ?_ ?_
  ·intro W hSw;obtain ⟨c8,f8,l8⟩:=hSw.1.rules;go_simp
  refine aY 10 54 (.agg #[Zs A n ca]) rfl ?_ ?_
  ·intro W hSw;obtain ⟨c8,f8,l8⟩:=hSw.2.rules;go_simp
  refine aV 11 55 rfl (λ K hK=>?_);go_simp;refine (HFX.out _ (HB6.out.trans (HZ.out.mono HB6.out.size))).mono ?_;rintro e Y1 ⟨A9,n9,ca9,rfl,hh9,hb⟩;have hz:=aW (HZ.out.trans (hb.mono HZ.out.size));have HP9:=aW hh9;clear HZ hb hh9;have HZ:=hz;clear hz;refine hK.out _ _ (by exact HK.out _ HZ.out) (λ hHeld2=>?_);clear hK K hHeld;have hHeld:=hHeld2;clear hHeld2
  try simp only [pU]
  replace hHeld:=HK.out _ HZ.out;refine tA 12 56 (Zs A9 n9 ca9) rfl ?_;refine aV 13 57 rfl (λ K hK=>?_);go_simp;refine (HSM.out _ _ _ _ HZ.out HP9.out).mono ?_;rintro e Y2 ⟨rfl,hb⟩;have hz:=aW (HZ.out.trans (hb.mono HZ.out.size));clear HZ hb;have HZ:=hz;clear hz;refine hK.out _ _ (by exact HK.out _ HZ.out) (λ hHeld2=>?_);clear hK K hHeld;have hHeld:=hHeld2;clear hHeld2
  try simp only [pU]
  replace hHeld:=HK.out _ HZ.out;refine tA 14 58 (.bool true) rfl ?_;refine tA 15 2 (.bool true) rfl ?_;refine aX ?_;go_wp2;go_ret;exact ⟨rfl,HB6.out.trans (HZ.out.mono HB6.out.size)⟩
end
end Go.Proofs.YtgmnmnnoahdjnaaGreatDoor
