import Derived.Test.YtgmnmnnoahdjnaaGreatDoorY10
import Derived.Test.YtgmnmnnoahdjnaaGreatDoorY11
open Go.Value renaming int → Zi, slice → Zs, string → Zt, pointer → Zp
open Go.IntKind renaming i64 → Zq
set_option maxRecDepth 100000
set_option maxHeartbeats 16000000
set_option linter.unusedVariables false
set_option linter.unusedSimpArgs false
namespace Go.Proofs.YtgmnmnnoahdjnaaGreatDoor
section
open Go.RowKit
attribute [local go_sem] aa ac ae ab
def di (l:List UInt8) (p:Nat):lu :=
 let r:=cH l p
 if r.2.2=0 then .inl (3,(l.drop p).take (r.2.1.toNat-p),r.1,r.2.1.toNat) else .inr (r.2.1,r.2.2)
def fO (l:List UInt8) (p:Nat):lu :=
 let r:=bZ l p
 if r.2.2=0 then .inl (4,r.1,0,r.2.1.toNat) else .inr (r.2.1,r.2.2)
theorem vL (w:World) (g:Nat) (A:Option Addr) (cap:Nat) (l:List UInt8) (p:Nat) (hG:GOK w) (hV:VB w g A cap l p 0) (hp:p<l.length) (hcap:l.length<=cap) (hlen:l.length<=4194304) :
  Calls Tryz.prog 131 #[Zp (some ⟨g,0,none⟩)] w (fD (fO l p) p w g A cap l):=by
 obtain ⟨hc,hf,hlt⟩:=hV.1.rules;have hgw:g<w.heap.size:=hV.1.lt;have HV:=aW hV;have HG:=aW hG;have hbs:=λ W (hr:Rd W A (aq l)) hg=>tB (Zs A l.length cap) l p W hg ⟨A,cap,rfl,hcap,hr⟩ hlen
 obtain ⟨⟨t,m,er⟩,hr⟩:∃ r,bZ l p=r:=⟨_,rfl⟩
 rw [hr] at hbs;have HO:=aW (show er=0->∃ n:Nat,m=n/\p<n/\n<=l.length from λ h=>by have:=mn (l:=l) (a:=p);rw [hr] at this;exact this h);have HS:=aW (show fO l p=if er=0 then .inl (4,t,0,m.toNat) else .inr (m,er) by unfold fO;rw [hr]);have HQ:=aW hbs;clear hV hG hbs hr;unfold cq at hc;have HQ1:=aW (HQ.out ((w.alloc (.cells #[Zi Zq 0,Zi Zq 0,Zt ⟨#[]⟩,Zi Zq 0] 86)).drew) (HV.out.2.alloc _) ((HG.out.alloc _).drewN 1));have hst0:aP w g A cap l p 0 ((w.alloc (.cells #[Zi Zq 0,Zi Zq 0,Zt ⟨#[]⟩,Zi Zq 0] 86)).drew):=((aP.refl HV.out).alloc _).drewN 1;have hr0:Blk (w.alloc (.cells #[Zi Zq 0,Zi Zq 0,Zt ⟨#[]⟩,Zi Zq 0] 86)) w.heap.size 86 #[Zi Zq 0,Zi Zq 0,Zt ⟨#[]⟩,Zi Zq 0]:=Blk.new _ _ _;go_enter Tryz.func131,Tryz.ntmps131;go_wp2;go_region_held3 (λ w'=>w'.cell? ⟨g,0,none⟩=some (Zi Zq (p:Int))/\w'.cell? ⟨g,2,none⟩=some (Zs A l.length cap)) (go_keep) ((go_at_call 169;refine HQ1.out.mono ?_;rintro e w1 ⟨rfl,hb1⟩;have hst1:=hst0.keep hb1;have hR1:=(hr0.drew).keep hb1;have h10:=hst1.1.1.cell 0;have h12:=hst1.1.1.cell 2;unfold cq at h10 h12;simp at h10 h12));have hn:=hR1.lt;have hg1:=hst1.1.1.lt;have hf1:=hst1.1.1.frozen;have hfr:=hR1.frozen;have hcr:=hR1.cell;by_cases her:er=0
 ·obtain ⟨n,hn1,hn2,hn3⟩:=HO.out her;subst her;subst hn1;have hz:((0:Int) != 0)=false:=rfl;go_wp2;have hR2:=hR1.far (p:=⟨g,0,none⟩) (show w.heap.size≠g by omega) (Zi Zq n);obtain ⟨cf,_,_⟩:=((Blk.put4 hR2 (Zi Zq 4) (Zi Zq p) (Zt ⟨t.toArray⟩) (Zi Zq 0)).alloc (.cells #[Zi Zq 4,Zi Zq p,Zt ⟨t.toArray⟩,Zi Zq 0] 86)).rules;refine bodyPost_ret (v:=.agg #[Zi Zq 4,Zi Zq p,Zt ⟨t.toArray⟩,Zi Zq 0]) (by simp only [results,Tryz.results131];go_simp) rfl ?_;rw [HS.out,if_pos trivial,Int.toNat_natCast];exact ⟨rfl,((hst1.set0 n).put4 hR2 (Nat.le_refl _) hgw _ _ _ _).alloc _⟩
 ·have hz:(er != 0)=true:=by simp;omega
  go_wp2_with (go_at_call 167;refine (gq _ g _ cap l _ _ _ _ hst1.1).mono ?_;rintro e w3 ⟨rfl,hst5⟩;have hR3:=hR1.grown hst5.2 (by simp;omega);obtain ⟨cr3,fr3,lr3⟩:=hR3.rules;unfold fh);obtain ⟨cf,_,_⟩:=(Blk.put4 hR3 (Zi Zq 0) (Zi Zq 0) (Zt ⟨#[]⟩) (Zi Zq 0)).rules;refine bodyPost_ret (v:=.agg #[Zi Zq 0,Zi Zq 0,Zt ⟨#[]⟩,Zi Zq 0]) (by simp only [results,Tryz.results131];go_simp) rfl ?_;rw [HS.out,if_neg her];exact ⟨rfl,(hst1.trans hst5).put4 hR3 (Nat.le_refl _) hgw _ _ _ _⟩
theorem rz (w:World) (g:Nat) (A:Option Addr) (cap:Nat) (l:List UInt8) (p:Nat) (hV:VB w g A cap l p 0) (hp:p<l.length) (hcap:l.length<=cap) (hlen:l.length<=4194304) :
  Calls Tryz.prog 129 #[Zp (some ⟨g,0,none⟩)] w (fD (di l p) p w g A cap l):=by
 obtain ⟨hc,hf,hlt⟩:=hV.1.rules;have hgw:g<w.heap.size:=hV.1.lt;obtain ⟨b,o,rfl,hb,_⟩:=hV.byte (List.getElem?_eq_getElem hp);have HV:=aW hV;have hbs:=λ W (hr:Rd W (some ⟨b,o,none⟩) (aq l))=>qc W (Zs (some ⟨b,o,none⟩) l.length cap) l p ⟨_,cap,rfl,hcap,hr⟩ hlen
 obtain ⟨⟨v,m,er⟩,hr⟩:∃ r,cH l p=r:=⟨_,rfl⟩
 rw [hr] at hbs;have HO:=aW (show er=0->∃ n:Nat,m=n/\p<=n/\n<=l.length from λ h=>by have:=mh (l:=l) (a:=p);rw [hr] at this;exact this h);have HS:=aW (show di l p=if er=0 then .inl (3,(l.drop p).take (m.toNat-p),v,m.toNat) else .inr (m,er) by unfold di;rw [hr]);have HQ:=aW hbs;clear hV hbs hr;unfold cq at hc;have HQ1:=aW (HQ.out ((w.alloc (.cells #[Zi Zq 0,Zi Zq 0,Zt ⟨#[]⟩,Zi Zq 0] 86)).drew) (HV.out.2.alloc _));have hst0:aP w g (some ⟨b,o,none⟩) cap l p 0 ((w.alloc (.cells #[Zi Zq 0,Zi Zq 0,Zt ⟨#[]⟩,Zi Zq 0] 86)).drew):=((aP.refl HV.out).alloc _).drewN 1;have hr0:Blk (w.alloc (.cells #[Zi Zq 0,Zi Zq 0,Zt ⟨#[]⟩,Zi Zq 0] 86)) w.heap.size 86 #[Zi Zq 0,Zi Zq 0,Zt ⟨#[]⟩,Zi Zq 0]:=Blk.new _ _ _;go_enter Tryz.func129,Tryz.ntmps129;go_wp2;go_region_held3 (λ w'=>w'.cell? ⟨g,0,none⟩=some (Zi Zq (p:Int))/\w'.cell? ⟨g,2,none⟩=some (Zs (some ⟨b,o,none⟩) l.length cap)) (go_keep) ((go_at_call 168;refine HQ1.out.mono ?_;rintro e w1 ⟨rfl,hb1⟩;have hst1:=hst0.keep hb1;have hR1:=(hr0.drew).keep hb1;have h10:=hst1.1.1.cell 0;have h12:=hst1.1.1.cell 2;unfold cq at h10 h12;simp at h10 h12));have hn:=hR1.lt;have hg1:=hst1.1.1.lt;by_cases her:er=0
 ·obtain ⟨n,hn1,hn2,hn3⟩:=HO.out her;have HS2:=aW (HS.out.trans (if_pos her));have HE:=aW her;subst hn1;have hz:(er != 0)=false:=by simp [her]
  have hw1r:Rd w1 (some ⟨b,o,none⟩) (aq l):=hst1.1.2;obtain ⟨RQ,hRQ⟩:∃ RQ:World->Prop,RQ=λ w'=>Rd w' (some ⟨b,o+p,none⟩) (aq ((l.drop p).take (n-p))):=⟨_,rfl⟩
  have hq':∀ w',RQ w'->(convert 67 9 (Zs (some ⟨b,o+p,none⟩) (n-p) (cap-p))).run Tryz.prog w'=.ok (Zt ⟨((l.drop p).take (n-p)).toArray⟩) w':=by rw [hRQ];exact λ w' h=>eT hn2 hn3 hcap h
  have hka':∀ (w':World) (o':Obj),RQ w'->RQ (w'.alloc o'):=by rw [hRQ];exact λ w' o' h=>h.alloc o'
  have hkd':∀ (w':World),RQ w'->RQ w'.drew:=by rw [hRQ];exact λ w' h=>h
  have hs2:RQ w1:=by rw [hRQ];exact gP hw1r
  have hkc:n<=cap:=by omega
  have hpc':¬ cap=p:=by omega
  clear hRQ her hst0 hr0 hw1r;go_wp2;go_region_held3 (λ w'=>w'.cell? ⟨g,0,none⟩=some (Zi Zq (p:Int))/\w'.cell? ⟨g,2,none⟩=some (Zs (some ⟨b,o,none⟩) l.length cap)/\RQ w') (go_keep) ((fail));obtain ⟨t,ht⟩:∃ t,(l.drop p).take (n-p)=t:=⟨_,rfl⟩
  rw [ht];obtain ⟨Wx,hWx⟩:∃ Wx,(w1.alloc (.cells #[Zi Zq 3,Zi Zq p,Zt ⟨t.toArray⟩,Zi Zq v] 86)).drew=Wx:=⟨_,rfl⟩
  have hT:Blk Wx w1.heap.size 86 #[Zi Zq 3,Zi Zq p,Zt ⟨t.toArray⟩,Zi Zq v]:=by rw [← hWx];exact Blk.new w1 _ _
  have hR2:Blk Wx w.heap.size 86 #[Zi Zq 0,Zi Zq 0,Zt ⟨#[]⟩,Zi Zq 0]:=by rw [← hWx];exact hR1.alloc _
  have hst2:aP w g (some ⟨b,o,none⟩) cap l p 0 Wx:=by rw [← hWx];exact (hst1.alloc _).drewN 1
  rw [hWx];obtain ⟨N,hN⟩:∃ N,w1.heap.size=N:=⟨_,rfl⟩
  rw [hN] at hT hn hg1 ⊢;have HT:=aW ht;clear hWx hN hs2 hq' hka' hkd' hR1 hst1 ht hb h10 h12;obtain ⟨ct,ft,lt⟩:=hT.rules;obtain ⟨cr,fr,lr⟩:=hR2.rules;have hgf:=hst2.1.1.frozen;have hgc:=hst2.1.1.cell;unfold cq at hgc;go_wp2;have hR3:=hR2.far (p:=⟨g,0,none⟩) (show w.heap.size≠g by omega) (Zi Zq n);obtain ⟨cf,_,_⟩:=(Blk.put4 hR3 (Zi Zq 3) (Zi Zq p) (Zt ⟨t.toArray⟩) (Zi Zq v)).rules;refine bodyPost_ret (v:=.agg #[Zi Zq 3,Zi Zq p,Zt ⟨t.toArray⟩,Zi Zq v]) (by simp only [results,Tryz.results129];go_simp) rfl ?_;rw [HS2.out,Int.toNat_natCast,HT.out];exact ⟨rfl,(hst2.set0 n).put4 hR3 (Nat.le_refl _) hgw _ _ _ _⟩
 ·have hz:(er != 0)=true:=by simp;omega
  have HS2:=aW (HS.out.trans (if_neg her));clear her hst0 hr0;go_wp2_with (go_at_call 167;refine (gq _ g _ cap l _ _ _ _ hst1.1).mono ?_;rintro e w3 ⟨rfl,hst5⟩;have hR3:=hR1.grown hst5.2 (by simp;omega);obtain ⟨cr3,fr3,lr3⟩:=hR3.rules;unfold fh);obtain ⟨cf,_,_⟩:=(Blk.put4 hR3 (Zi Zq 0) (Zi Zq 0) (Zt ⟨#[]⟩) (Zi Zq 0)).rules;refine bodyPost_ret (v:=.agg #[Zi Zq 0,Zi Zq 0,Zt ⟨#[]⟩,Zi Zq 0]) (by simp only [results,Tryz.results129];go_simp) rfl ?_;rw [HS2.out];exact ⟨rfl,(hst1.trans hst5).put4 hR3 (Nat.le_refl _) hgw _ _ _ _⟩
def aF:List (List UInt8):=[[61,61],[60,61],[60],[59],[46],[44],[91],[93],[40],[41],[123],[125],[43],[45],[42]]
def vF:Value:=.agg (aF.map λ l=>Value.string ⟨l.toArray⟩).toArray
theorem rX (w:World):Calls Tryz.prog 170 #[] w λ e w'=>e=.returned vF/\Below w.heap.size w w':=by
 go_enter Tryz.func170,Tryz.ntmps170;go_wp2;go_returns;exact ⟨rfl,by go_grown⟩
theorem vG (k:Nat) (h:k<15) (w:World):(Instr.index 205 vF (Zi Zq (k:Int))).run Tryz.prog w=.ok (Zt ⟨(aF.getD k []).toArray⟩) w:=by
 rcases (by omega:k=0∨k=1∨k=2∨k=3∨k=4∨k=5∨k=6∨k=7∨k=8∨k=9∨k=10∨k=11∨k=12∨k=13∨k=14) with rfl | rfl | rfl | rfl | rfl | rfl | rfl | rfl | rfl | rfl | rfl | rfl | rfl | rfl | rfl<;>kernel_rfl
def cP (l:List UInt8) (p:Nat) (s:List UInt8):Bool:=decide ((l.drop p).take s.length=s)
def cE (l:List UInt8) (p:Nat):List (List UInt8)->Option (List UInt8)
 | []=>none
 | s::r=>if cP l p s then some s else cE l p r
def eU (l:List UInt8) (p:Nat):lu:=match cE l p aF with | some s=>.inl (5,s,0,p+s.length) | none=>.inr (p,320)
theorem rL {k:Nat} (h:k<15):1<=(aF.getD k []).length/\(aF.getD k []).length<=2:=by
 have:∀ k:Fin 15,1<=(aF.getD k []).length/\(aF.getD k []).length<=2:=by decide
 exact this ⟨k,h⟩
theorem tS (w:World) (g:Nat) (A:Option Addr) (cap:Nat) (l:List UInt8) (p:Nat) (hV:VB w g A cap l p 0) (hp:p<l.length) (hcap:l.length<=cap) (hlen:l.length<=4194304) :
  Calls Tryz.prog 133 #[Zp (some ⟨g,0,none⟩)] w (fD (eU l p) p w g A cap l):=by
 obtain ⟨hc,hf,hlt⟩:=hV.1.rules;have hgw:g<w.heap.size:=hV.1.lt;obtain ⟨b,o,rfl,hb,_⟩:=hV.byte (List.getElem?_eq_getElem hp);have HV:=aW hV;clear hV;unfold cq at hc;obtain ⟨W0,hW0⟩:∃ W0,w.alloc (.cells #[Zi Zq 0,Zi Zq 0,Zt ⟨#[]⟩,Zi Zq 0] 86)=W0:=⟨_,rfl⟩
 have hst0:aP w g (some ⟨b,o,none⟩) cap l p 0 W0:=by rw [← hW0];exact (aP.refl HV.out).alloc _
 have hr0:Blk W0 w.heap.size 86 #[Zi Zq 0,Zi Zq 0,Zt ⟨#[]⟩,Zi Zq 0]:=by rw [← hW0];exact Blk.new _ _ _
 go_enter Tryz.func133,Tryz.ntmps133;go_wp2_with (go_at_call 170;refine (rX _).mono ?_;rintro e w1 ⟨rfl,hb1⟩);have hst1:=hst0.keep hb1;have hr1:=hr0.keep hb1;clear hW0 hc hf hlt hst0 hr0 hb;go_loopw [4,5,8] (λ _ _ i wr => ∃ k:Nat,k<=15/\i=Zi Zq k/\cE l p aF=cE l p (aF.drop k)/\∃ j,wr=w1.drewN j) (λ _ _ i _=>15-(intOf i).toNat)
 case atStart=>exact ⟨0,by omega,rfl,rfl,0,rfl⟩
 case round =>
  obtain ⟨k,hk,rfl,hfa,j,rfl⟩:=hrel;obtain ⟨hc,hf,hlt⟩:=hst1.1.1.rules;unfold cq at hc;by_cases h15:k<15
  ·have hix:=vG k h15 (w1.drewN j);have hsl:=rL h15;have hd:aF.drop k=aF.getD k []::aF.drop (k+1):=by
    rw [List.drop_eq_getElem_cons (show k<aF.length from h15),List.getD_eq_getElem?_getD,List.getElem?_eq_getElem (show k<aF.length from h15)];rfl
   rw [hd] at hfa;obtain ⟨s,hs⟩:∃ s,aF.getD k []=s:=⟨_,rfl⟩
   rw [hs] at hix hfa hsl;have hsz:(⟨s.toArray⟩:ByteArray).size=s.length:=by simp [ByteArray.size]
   have HF:=aW hfa;clear hs hd hfa;by_cases hend:p+s.length<=l.length
   ·have hcv:∀ j,(convert 67 9 (Zs (some ⟨b,o+p,none⟩) s.length (cap-p))).run Tryz.prog (w1.drewN j)=.ok (Zt ⟨((l.drop p).take s.length).toArray⟩) (w1.drewN j):=λ j=>by
     have h:=eT (w:=w1.drewN j) (p:=p) (k:=p+s.length) (by omega) hend hcap (by rw [show p+s.length-p=s.length from by omega];exact (gP hst1.1.2).drewN j);rw [show p+s.length-p=s.length from by omega] at h;exact h
    have hgt:decide ((p:Int)+(s.length:Int)<=(l.length:Int))=true:=by rw [decide_eq_true_eq];omega
    have h1:p+s.length-p=s.length:=by omega
    have h2:p+s.length<=cap:=by omega
    have h3:¬ cap=p:=by omega
    obtain ⟨x,hx⟩:∃ x,(l.drop p).take s.length=x:=⟨_,rfl⟩
    rw [hx] at hcv;have HX:=aW hx;clear hx;by_cases hxs:x=s
    ·subst hxs;have HY:=aW (show cP l p x=true by unfold cP;rw [HX.out];simp);go_wp2;go_quiet (fail);obtain ⟨W2,hW2⟩:∃ W2,(w1.drewN j).drewN nq=W2:=⟨_,rfl⟩
     have hst2:aP w g (some ⟨b,o,none⟩) cap l p 0 W2:=by rw [← hW2];exact (hst1.drewN _).drewN _
     have hr2:Blk W2 w.heap.size 86 #[Zi Zq 0,Zi Zq 0,Zt ⟨#[]⟩,Zi Zq 0]:=by rw [← hW2];exact (hr1.drewN _).drewN _
     rw [hW2];clear hW2 hcv hix hc hf hlt hgt h1 h2 h3 hst1 hr1;obtain ⟨hc,hf,hlt⟩:=hst2.1.1.rules;unfold cq at hc;obtain ⟨cr,fr,lr⟩:=hr2.rules;go_wp2;have hR3:=hr2.far (p:=⟨g,0,none⟩) (show w.heap.size≠g by omega) (Zi Zq ((p:Int)+(x.length:Int)));obtain ⟨cf,_,_⟩:=((Blk.put4 hR3 (Zi Zq 5) (Zi Zq p) (Zt ⟨x.toArray⟩) (Zi Zq 0)).alloc (.cells #[Zi Zq 5,Zi Zq p,Zt ⟨x.toArray⟩,Zi Zq 0] 86)).rules;refine bodyPost_ret (v:=.agg #[Zi Zq 5,Zi Zq p,Zt ⟨x.toArray⟩,Zi Zq 0]) (by simp only [results,Tryz.results133];go_simp) rfl ?_;have hv:eU l p=.inl (5,x,0,p+x.length):=by unfold eU;rw [HF.out,cE,HY.out];rfl
     rw [hv];exact ⟨rfl,((hst2.set0 _).put4 hR3 (Nat.le_refl _) hgw _ _ _ _).alloc _⟩
    ·have HY:=aW (show cP l p s=false by unfold cP;rw [HX.out];simpa using hxs);have hbe:(x == s)=false:=by simpa using hxs
     go_wp2;go_quiet (fail);go_wp2;go_roundw
     case rel=>exact ⟨k+1,by omega,by go_num,by rw [HF.out,cE,HY.out];rfl,_,rfl⟩
     case measure=>simp [intOf];omega
   ·have HN:=aW (show cP l p s=false by
     unfold cP;rw [decide_eq_false_iff_not];intro e;have:=congrArg List.length e;simp at this;omega)
    have hgt:decide ((p:Int)+(s.length:Int)<=(l.length:Int))=false:=by rw [decide_eq_false_iff_not];omega
    go_wp2;go_quiet (fail);go_wp2;go_roundw
    case rel=>exact ⟨k+1,by omega,by go_num,by rw [HF.out,cE,HN.out];rfl,_,rfl⟩
    case measure=>simp [intOf];omega
  ·obtain rfl:k=15:=by omega
   have hv:eU l p=.inr (p,320):=by unfold eU;rw [hfa,List.drop_eq_nil_of_le (by decide)];rfl
   have HVV:=aW hv;clear hfa hv;go_wp2_with (go_at_call 167;refine (gq _ g _ cap l _ _ _ _ (hst1.drewN _).1).mono ?_;rintro e w3 ⟨rfl,hst5⟩;have hR3:=(hr1.drewN j).grown hst5.2 (by simp;omega);obtain ⟨cr3,fr3,lr3⟩:=hR3.rules;unfold fh);obtain ⟨cf,_,_⟩:=(Blk.put4 hR3 (Zi Zq 0) (Zi Zq 0) (Zt ⟨#[]⟩) (Zi Zq 0)).rules;refine bodyPost_ret (v:=.agg #[Zi Zq 0,Zi Zq 0,Zt ⟨#[]⟩,Zi Zq 0]) (by simp only [results,Tryz.results133];go_simp) rfl ?_;rw [HVV.out];exact ⟨rfl,((hst1.drewN j).trans hst5).put4 hR3 (Nat.le_refl _) hgw _ _ _ _⟩
def kU (g:Nat):Array Value:=#[.func (.func 122) #[] #[],.func (.func 128) #[Zp (some ⟨g,0,none⟩)] #[],
 .func (.func 123) #[] #[],.func (.func 129) #[Zp (some ⟨g,0,none⟩)] #[],
 .func (.func 130) #[] #[],.func (.func 131) #[Zp (some ⟨g,0,none⟩)] #[],
 .func (.func 132) #[] #[],.func (.func 133) #[Zp (some ⟨g,0,none⟩)] #[]]
theorem rR (g:Nat) (w:World) :
  Calls Tryz.prog 84 #[Zp (some ⟨g,0,none⟩)] w λ e w'=>e=.returned (.func (.func 134) #[] #[Zp (some ⟨w.heap.size,0,none⟩),Zp (some ⟨w.heap.size+1,0,none⟩)]) /\
   Blk w' w.heap.size 109 #[Zp (some ⟨g,0,none⟩)]/\Blk w' (w.heap.size+1) 165 (kU g)/\w'.heap.size=w.heap.size+2/\Below w.heap.size w w':=by
 have hmf:∀ (fn:Fn) (first cap:Array Value) (w:World),(Instr.makeFunc fn first cap).run Tryz.prog w=.ok (.func fn first cap) w:=λ _ _ _ _=>rfl
 go_enter Tryz.func84,Tryz.ntmps84;go_wp2;go_ret;refine ⟨rfl,(Blk.new w _ _).alloc _,?_,by simp,by go_grown⟩;have:=Blk.new (w.alloc (.cells #[Zp (some ⟨g,0,none⟩)] 109)) 165 (kU g);rw [World.size_alloc] at this;exact this
end
section
open Go.RowKit
def cV (l:List UInt8) (p:Nat):lu :=
 match l[p]? with
 | some c=>if ay c then cU l p else if aJ c then di l p else if c.toNat=34 then fO l p else eU l p
 | none=>.inr (0,0)
theorem fI {l:List UInt8} {p:Nat}:∀ {ss:List (List UInt8)} {s:List UInt8},cE l p ss=some s->s ∈ ss/\cP l p s=true
 | [],s,h=>by cases h
 |x::r,s,h=>by
  unfold cE at h;split at h
  ·rename_i hx;cases h;exact ⟨List.mem_cons_self,hx⟩
  ·have:=fI h;exact ⟨List.mem_cons_of_mem _ this.1,this.2⟩
theorem iA {l:List UInt8} {p:Nat} {k n:Int} {t:List UInt8} {m:Nat} (hp:p<l.length) (h:cV l p=.inl (k,t,n,m)):p<m/\m<=l.length:=by
 unfold cV at h;rw [List.getElem?_eq_getElem hp] at h;simp only at h;split at h
 ·rename_i hc
  have hld:cK l[p]=true:=by rw [cK,hc];rfl
  have ht:=jL (List.getElem?_eq_getElem hp) hld;have hlen:((l.drop p).takeWhile cK).length<=l.length-p:=by
   have:=(List.takeWhile_sublist cK (l:=l.drop p)).length_le;simpa using this
  have hpos:0<((l.drop p).takeWhile cK).length:=by rw [ht];simp
  unfold cU at h;simp only at h;split at h
  ·simp only [Sum.inl.injEq,Prod.mk.injEq] at h;omega
  ·split at h
   ·simp only [Sum.inl.injEq,Prod.mk.injEq] at h;omega
   ·cases h
 ·split at h
  ·unfold di at h;simp only at h;split at h
   ·rename_i he
    obtain ⟨m',h1,h2,h3⟩:=oY he;simp only [Sum.inl.injEq,Prod.mk.injEq] at h;rw [h1] at h;simp only [Int.toNat_natCast] at h;omega
   ·cases h
  ·split at h
   ·unfold fO at h;simp only at h;split at h
    ·rename_i he
     obtain ⟨m',h1,h2,h3⟩:=mn he;simp only [Sum.inl.injEq,Prod.mk.injEq] at h;rw [h1] at h;simp only [Int.toNat_natCast] at h;omega
    ·cases h
   ·unfold eU at h;cases hf:cE l p aF with
    | none=>rw [hf] at h;cases h
    |some s =>
     rw [hf] at h;simp only [Sum.inl.injEq,Prod.mk.injEq] at h;obtain ⟨hmem,hst⟩:=fI hf;have h1:1<=s.length:=by
      have:∀ x ∈ aF,1<=x.length:=by decide
      exact this s hmem
     unfold cP at hst;have h2:=congrArg List.length (of_decide_eq_true hst);simp at h2;omega
def gI (l:List UInt8):Nat->Nat->List ap × Option (Int × Int)
 | 0,_=>([],none)
 |k+1,p =>
  if bV l p<l.length then
   match cV l (bV l p) with
   | .inl (kd,t,n,m)=>((kd,bV l p,t,n)::(gI l k m).1,(gI l k m).2)
   | .inr e=>([],some e)
  else ([(6,l.length,[],0)],none)
theorem oz (l:List UInt8):∀ (k k' p:Nat),l.length-p<k->l.length-p<k'->gI l k p=gI l k' p
 | 0,_,_,h,_=>by omega
 | _,0,_,_,h=>by omega
 |k+1,k'+1,p,h,h'=>by
  unfold gI;split
  ·rename_i hq
   cases hv:cV l (bV l p) with
   | inr e=>rfl
   |inl r =>
    obtain ⟨kd,t,n,m⟩:=r;have:=iA hq hv;have hg:=iv l p;simp only;rw [oz l k k' m (by omega) (by omega)]
  ·rfl
def bH (l:List UInt8) (p:Nat):List ap × Option (Int × Int):=gI l (l.length+1-p) p
theorem oA {l:List UInt8} {p:Nat} (hp:p<=l.length) (h:¬ bV l p<l.length):bH l p=([(6,l.length,[],0)],none):=by
 unfold bH;obtain ⟨k,hk⟩:∃ k,l.length+1-p=k+1:=⟨l.length-p,by omega⟩
 rw [hk,gI,if_neg h]
theorem oB {l:List UInt8} {p:Nat} (hp:p<=l.length) (h:bV l p<l.length) {e:Int × Int} (hv:cV l (bV l p)=.inr e):bH l p=([],some e):=by
 unfold bH;obtain ⟨k,hk⟩:∃ k,l.length+1-p=k+1:=⟨l.length-p,by omega⟩
 rw [hk,gI,if_pos h,hv]
theorem oD {l:List UInt8} {p:Nat} (hp:p<=l.length) (h:bV l p<l.length) {kd n:Int} {t:List UInt8} {m:Nat} (hv:cV l (bV l p)=.inl (kd,t,n,m)) :
  bH l p=((kd,bV l p,t,n)::(bH l m).1,(bH l m).2):=by
 unfold bH;obtain ⟨k,hk⟩:∃ k,l.length+1-p=k+1:=⟨l.length-p,by omega⟩
 have h1:=iA h hv;have h2:=iv l p;rw [hk,gI,if_pos h,hv];simp only;rw [oz l k (l.length+1-m) m (by omega) (by omega)]
def cT (c:UInt8):Nat:=if ay c then 0 else if aJ c then 1 else if c.toNat=34 then 2 else 3
theorem mP {l:List UInt8} {p:Nat} {c:UInt8} (h:l[p]? = some c):cV l p=if cT c=0 then cU l p else if cT c=1 then di l p else if cT c=2 then fO l p else eU l p:=by
 unfold cV cT;rw [h];simp only;by_cases h1:ay c=true
 ·simp [h1]
 ·by_cases h2:aJ c=true
  ·simp [h1,h2]
  ·by_cases h3:c.toNat=34
   ·simp [h1,h2,h3]
   ·simp [h1,h2,h3]
def mI (r:lu) (p:Nat):Int × Int × ByteArray × Int × Int × Int :=
 match r with
 | .inl (k,t,n,m)=>(k,p,⟨t.toArray⟩,n,m,0)
 | .inr (q,er)=>(0,0,⟨#[]⟩,0,q,er)
theorem fD.uni {r:lu} {p:Nat} {w:World} {g:Nat} {A:Option Addr} {cap:Nat} {l:List UInt8} {e:Ending} {w':World} (h:fD r p w g A cap l e w') :
  e=.returned (k8 (mI r p).1 (mI r p).2.1 (mI r p).2.2.1 (mI r p).2.2.2.1)/\aP w g A cap l (mI r p).2.2.2.2.1 (mI r p).2.2.2.2.2 w':=by
 unfold fD at h;unfold mI;rcases r with ⟨k,t,n,m⟩ | ⟨q,er⟩
 ·exact h
 ·exact h
theorem kC {l:List UInt8} {p:Nat} (hp:p<l.length) {q er:Int} (h:cV l p=.inr (q,er)):er≠0:=by
 obtain ⟨c,hc⟩:∃ c,l[p]? = some c:=⟨_,List.getElem?_eq_getElem hp⟩
 rw [mP hc] at h;split at h
 ·unfold cU at h;simp only at h;split at h
  ·cases h
  ·split at h
   ·cases h
   ·simp only [Sum.inr.injEq,Prod.mk.injEq] at h;omega
 ·split at h
  ·unfold di at h;simp only at h;split at h
   ·cases h
   ·rename_i hn;simp only [Sum.inr.injEq,Prod.mk.injEq] at h;rw [← h.2];exact hn
  ·split at h
   ·unfold fO at h;simp only at h;split at h
    ·cases h
    ·rename_i hn;simp only [Sum.inr.injEq,Prod.mk.injEq] at h;rw [← h.2];exact hn
   ·unfold eU at h;split at h
    ·cases h
    ·simp only [Sum.inr.injEq,Prod.mk.injEq] at h;omega
theorem uL (c:UInt8):cT c<=3:=by unfold cT;(repeat' split)<;>omega
theorem ye {c:UInt8} (h:cT c=0):ay c=true:=by
 unfold cT at h;split at h
 ·assumption
 ·(repeat' split at h)<;>omega
theorem oV {c:UInt8} (h:¬ cT c=0):ay c=false:=by
 unfold cT at h;split at h
 ·omega
 ·rename_i hn;simpa using hn
theorem yf {c:UInt8} (h:cT c=1):aJ c=true:=by
 unfold cT at h;split at h
 ·omega
 ·split at h
  ·assumption
  ·split at h<;>omega
theorem si {c:UInt8} (h:¬ cT c=1) (h0:¬ cT c=0):aJ c=false:=by
 have h2:=oV h0;unfold cT at h;rw [h2,if_neg (by simp)] at h;split at h
 ·exact absurd rfl h
 ·rename_i hn;simpa using hn
theorem yg {c:UInt8} (h:cT c=2):decide (c.toNat=34)=true:=by
 unfold cT at h;split at h
 ·omega
 ·split at h
  ·omega
  ·split at h
   ·simpa
   ·omega
theorem wC {c:UInt8} (h:¬ cT c=2) (h0:¬ cT c=0) (h1:¬ cT c=1):decide (c.toNat=34)=false:=by
 have h3:=oV h0;have h4:=si h1 h0;unfold cT at h;rw [h3,h4] at h;rw [decide_eq_false_iff_not];intro e;rw [if_neg (by simp),if_neg (by simp),if_pos e] at h;exact h rfl
theorem jV {fk:Nat} {g:Nat} {A:Option Addr} {cap:Nat} {l:List UInt8} {q:Nat} (r:lu) (h:∀ W,GOK W->VB W g A cap l q 0->Calls Tryz.prog fk #[Zp (some ⟨g,0,none⟩)] W (fD r q W g A cap l)) :
  ∃ (a bb:Int) (s:ByteArray) (d m y:Int),(a,bb,s,d,m,y)=mI r q/\∀ W,GOK W->VB W g A cap l q 0->Calls Tryz.prog fk #[Zp (some ⟨g,0,none⟩)] W λ e w' =>
   e=.returned (.agg #[Zi Zq a,Zi Zq bb,Zt s,Zi Zq d])/\aP W g A cap l m y w' :=
 ⟨_,_,_,_,_,_,rfl,λ W hG hV=>(h W hG hV).mono λ _ _ hp=>hp.uni⟩
end
section
open Go.RowKit Go.Shelf
attribute [local go_sem] aa ac ae ab Oper.semAt_some
def StV (g:Nat) (A:Option Addr) (cap:Nat) (l:List UInt8) (X Y:World):Prop:=World.grownBy X Y (some g)/\((∃ p why,VB X g A cap l p why)->∃ p why,VB Y g A cap l p why)
theorem StV.of_below {g:Nat} {A:Option Addr} {cap:Nat} {l:List UInt8} {X Y:World} (h:Below X.heap.size X Y):StV g A cap l X Y :=
 ⟨⟨h.os,h.tape,h.output,h.size,λ i hi _=>h.block i hi⟩,λ ⟨p,why,hv⟩=>⟨p,why,hv.keep h⟩⟩
theorem StV.of_step {g:Nat} {A:Option Addr} {cap:Nat} {l:List UInt8} {X Y:World} {p why:Int} (h:aP X g A cap l p why Y):StV g A cap l X Y:=⟨h.2,λ _=>⟨p,why,h.1⟩⟩
def uA (x:ap):Array Value:=#[k8 x.1 x.2.1 ⟨x.2.2.1.toArray⟩ x.2.2.2]
def KpV (B0 g rb wb:Nat):World->World->Prop:=aO λ k=>k<B0∨k=g∨k=rb∨k=wb
def xv (g:Nat) (A:Option Addr) (cap:Nat) (l:List UInt8) (p0:Nat) (xs:List ap) (W:World):Prop :=
 xs=(bH l p0).1/\∃ q er:Int,VB W g A cap l q er/\(bH l p0).2=if er=0 then none else some (q,er)
theorem VB.keepOn {S:Nat->Prop} {w W:World} {g:Nat} {A:Option Addr} {cap:Nat} {l:List UInt8} {p why:Int} (h:VB w g A cap l p why) (k:aO S w W) (hg:S g) (hr:Rd W A (aq l)):VB W g A cap l p why:=⟨k.blk h.1 hg,hr⟩
theorem qy (w0:World) (g rb wb:Nat) (A:Option Addr) (cap:Nat) (l:List UInt8) (p0:Nat) (k:Nat) (J Jx:List ap->World->Prop) (W:World) (hG:GOK w0) (hr:Rd w0 A (aq l)) (hcap:l.length<=cap) (hlen:l.length<=4194304)
  (hp0:p0<=l.length) (hgr:g≠rb) (hgw:g≠wb) (hg0:w0.heap.size<=g) (hW:aO (· < w0.heap.size) w0 W)
  (hJ:∀ s X Y,StV g A cap l X Y->J s X->J s Y)
  (hY:∀ pre x W1,J pre W1->pre++[x] <+: (bH l p0).1->YieldAt Fence.wide 1 Tryz.prog k (uA x) W1 λ e W' =>
   (e=.returned (.bool true)/\J (pre++[x]) W'/\KpV w0.heap.size g rb wb W1 W')∨(e=.returned (.bool false)/\Jx (pre++[x]) W'/\KpV w0.heap.size g rb wb W1 W'))
  (hV:VB W g A cap l p0 0) (hrb:Blk W rb 109 #[Zp (some ⟨g,0,none⟩)]) (hwb:Blk W wb 165 (kU g)) (h0:J [] W) :
  CallsIn Fence.wide 2 Tryz.prog 134 #[.func (.yield k) #[] #[],Zp (some ⟨rb,0,none⟩),Zp (some ⟨wb,0,none⟩)] W λ e W'=>(∃ v,e=.returned v) /\
   ((∃ xs,xv g A cap l p0 xs W'/\J xs W')∨(∃ pre,pre <+: (bH l p0).1/\Jx pre W')):=by
 have HY:=aW hY;have HJ:=aW hJ;have HP:=aW (qh W g A cap l p0 0 hV hp0 hcap hlen);clear hY hJ;obtain ⟨c1,f1,l1⟩:=hrb.rules;refine callsIn_of_wp Tryz.func134 rfl trivial ?_ rfl;simp only [Tryz.ntmps134,List.size_toArray,List.length_cons,List.length_nil,Nat.reduceAdd,Nat.reduceSub,Array.replicate_succ,Array.replicate_zero,List.push_toArray,List.append_toArray,List.nil_append,List.cons_append];gi_wp2;refine ⟨trivial,CallsIn.mono (callsIn_wide.2 HP.out) ?_⟩;rintro e w1 ⟨rfl,hst1⟩;have hrb1:=hrb.grown hst1.2 (by simpa using hgr.symm);have hwb1:=hwb.grown hst1.2 (by simpa using hgw.symm);have hW1:aO (· < w0.heap.size) w0 w1:=hW.trans ⟨hst1.2.size,λ i hi=>hst1.2.block i (Nat.lt_of_lt_of_le hi hW.1) (by simp;omega)⟩;have hJ1:=HJ.out _ _ _ (StV.of_step hst1) h0;have hV1:=hst1.1;clear hrb hwb hW h0 hV hst1 HP c1 f1 l1;gi_wp2
 gi_loopg [4] (l.length-p0+1) (λ gk _ wr => ∃ (p:Nat) (pre:List ap),bV l p<=l.length/\gk=l.length-p+1/\p<=l.length/\(bH l p0).1=pre++(bH l p).1/\(bH l p0).2=(bH l p).2/\J pre wr/\VB wr g A cap l (bV l p) 0 /\
  Blk wr rb 109 #[Zp (some ⟨g,0,none⟩)]/\Blk wr wb 165 (kU g)/\aO (· < w0.heap.size) w0 wr)
 case atStart=>exact ⟨p0,[],mB hp0,rfl,hp0,rfl,rfl,hJ1,hV1,hrb1,hwb1,hW1⟩
 case round =>
  obtain ⟨p,pre,hq,hgk,hp,hpre,hend,hJs,hV,hrb,hwb,hK⟩:=hrel;clear hV1 hrb1 hwb1 hW1 hJ1;obtain ⟨wo,rfl⟩:∃ wo:World,wo=wr:=⟨_,rfl⟩
  obtain ⟨c1,f1,l1⟩:=hrb.rules;obtain ⟨c2,f2,l2⟩:=hwb.rules;obtain ⟨c3,f3,l3⟩:=hV.1.rules;unfold cq at c3;unfold kU at c2;have HQ:=aW hq;have HGK:=aW hgk;have HPRE:=aW hpre;have HEND:=aW hend;clear hq hgk hpre hend;obtain ⟨q,hqq⟩:∃ q,bV l p=q:=⟨_,rfl⟩
  have HQQ:=aW hqq;rw [hqq] at hV c3;clear hqq;by_cases hlt:q<l.length
  ·obtain ⟨c,hc⟩:∃ c,l[q]? = some c:=⟨_,List.getElem?_eq_getElem hlt⟩
   have HC:=aW hc;clear hc;gi_wp2;refine wpIn_wide.2 ?_;go_quiet (fail);gi_wp2;refine wpIn_wide.2 ?_;go_step3;go_wp2;go_step3;obtain ⟨W2,hW2⟩:∃ W2,(wo.drewN nq).alloc (.cells #[Zi Zq 0,Zi Zq 0,Zt ⟨#[]⟩,Zi Zq 0] 86)=W2:=⟨_,rfl⟩
   have hb2:Below wo.heap.size wo W2:=by rw [← hW2];exact (aj (Below.refl _ wo) nq).alloc (Nat.le_refl _) _
   have ht2:Blk W2 wo.heap.size 86 #[Zi Zq 0,Zi Zq 0,Zt ⟨#[]⟩,Zi Zq 0]:=by rw [← hW2];exact Blk.new (wo.drewN nq) _ _
   rw [hW2];have HB2:=aW (And.intro hb2 ht2);clear hW2 c1 f1 l1 c2 f2 l2 c3 f3 l3 hb2 ht2;have HWR:=aW (And.intro hJs (And.intro hV (And.intro hrb (And.intro hwb hK))));clear hJs hV hrb hwb hK;obtain ⟨cw,fw,lw⟩:=(HWR.out.2.2.2.1.keep HB2.out.1).rules;unfold kU at cw;go_upto_block 2 with fail;go_cut [4] (λ s4 wx => ∃ (a bb:Int) (s:ByteArray) (d m y:Int),s4=Zp (some ⟨wo.heap.size,0,none⟩)/\Hid ((a,bb,s,d,m,y)=mI (cV l q) q)/\Blk wx wo.heap.size 86 #[Zi Zq a,Zi Zq bb,Zt s,Zi Zq d]/\VB wx g A cap l m y/\wo.grownBy wx (some g))
   case first =>
    clear cw fw lw;have hV0:=HWR.out.2.1;obtain ⟨b,o,rfl,hbb,hx0⟩:=hV0.byte HC.out;have hGw:GOK wo:=hG.keepOn HWR.out.2.2.2.2 (λ i h=>h);have hk3:=uL c;have hvk:=mP HC.out;have hgl:=hV0.1.lt;have hl0:∀ w,Calls Tryz.prog 122 #[Zi .u8 (c.toNat:Int)] w λ e w'=>e=.returned (.bool (ay c))/\w=w':=λ w=>jp c.toNat w
    have hl1:∀ w,Calls Tryz.prog 123 #[Zi .u8 (c.toNat:Int)] w λ e w'=>e=.returned (.bool (aJ c))/\w=w':=λ w=>j4 c.toNat w
    have hl2:∀ w,Calls Tryz.prog 130 #[Zi .u8 (c.toNat:Int)] w λ e w'=>e=.returned (.bool (decide (c.toNat=34)))/\w=w':=λ w=>uO c.toNat w
    have hl3:∀ w,Calls Tryz.prog 132 #[Zi .u8 (c.toNat:Int)] w λ e w'=>e=.returned (.bool true)/\w=w':=λ w=>td c.toNat w
    have HVK:=aW hvk;have HL:=aW (And.intro hl0 (And.intro hl1 (And.intro hl2 hl3)));have HX0:=aW hx0;have HVG:=aW (And.intro hV0 hGw);clear hvk hl0 hl1 hl2 hl3 hx0 hV0 hGw;go_wp2;go_loopg [23] 4 (λ gk i wr => ∃ k:Nat,k<=cT c/\gk=4-k/\i=Zi Zq k/\Below wo.heap.size wo wr/\Blk wr wo.heap.size 86 #[Zi Zq 0,Zi Zq 0,Zt ⟨#[]⟩,Zi Zq 0])
    case atStart=>exact ⟨0,Nat.zero_le _,rfl,rfl,HB2.out.1,HB2.out.2⟩
    case round =>
     obtain ⟨k,hk,hgk,rfl,hbx,htx⟩:=hrel;obtain ⟨c1,f1,l1⟩:=(HWR.out.2.2.1.keep hbx).rules;have hVx:=HVG.out.1.keep hbx;obtain ⟨c3,f3,l3⟩:=hVx.1.rules;unfold cq at c3;have hx:wr.cell? ⟨b,o+q,none⟩=some (Zi .u8 c.toNat):=(hbx.cell (p:=⟨b,o+q,none⟩) hbb).trans HX0.out;have hb3:b<wr.heap.size:=Nat.lt_of_lt_of_le hbb hbx.size;have HGK2:=aW hgk;have HT:=aW (And.intro htx hVx);clear hgk htx hVx;rcases (by omega:k=0∨k=1∨k=2∨k=3) with rfl | rfl | rfl | rfl
     ·by_cases hkk:cT c=0
      ·obtain ⟨a,bb,s,d,m,y,hR,hN⟩:=jV (A:=some ⟨b,o,none⟩) (fk:=128) (cU l q) (λ W hG hV=>uR W g _ cap l q hV hlt hcap hlen);have hv:cV l q=cU l q:=by rw [HVK.out,hkk];rfl
       rw [← hv] at hR;have hlt2:=HL.out.1;rw [show ay c=true from ye hkk] at hlt2;have HR:=aW hR;have HN:=aW hN;have HLT:=aW hlt2;clear hv hR hN hlt2;go_wp2;go_quiet ((go_at_call 122;exact Calls.quiet_of_same ((HLT.out _).mono λ e w' h=>⟨h.1,h.2.symm⟩)));obtain ⟨W5,hW5⟩:∃ W5,(wr.alloc (.cells #[.func (.func 122) #[] #[],.func (.func 128) #[Zp (some ⟨g,0,none⟩)] #[]] 164)).drewN nq=W5:=⟨_,rfl⟩
       have hb5:Below wo.heap.size wo W5:=by rw [← hW5];exact aj (hbx.alloc hbx.size _) _
       have ht5:Blk W5 wo.heap.size 86 #[Zi Zq 0,Zi Zq 0,Zt ⟨#[]⟩,Zi Zq 0]:=by rw [← hW5];exact (HT.out.1.alloc _).drewN _
       have hw5:Blk W5 wr.heap.size 164 #[.func (.func 122) #[] #[],.func (.func 128) #[Zp (some ⟨g,0,none⟩)] #[]]:=by rw [← hW5];exact (Blk.new wr _ _).drewN _
       rw [hW5];have H5:=aW (And.intro hb5 ht5);have HC5:=aW (HN.out W5 (HVG.out.2.keep hb5) (HVG.out.1.keep hb5));clear hW5 hb5 ht5 c1 f1 l1 c3 f3 l3 hx hb3;obtain ⟨c6,f6,l6⟩:=hw5.rules;go_wp2_with (go_at_call 128;refine HC5.out.mono ?_;rintro e w6 ⟨rfl,hst⟩;have ht6:=H5.out.2.grown hst.2 (by simp;omega);obtain ⟨c7,f7,l7⟩:=ht6.rules);go_meet
       case rel =>
        have hstR:=(((aP.refl HVG.out.1).keep H5.out.1).trans hst).put4 ht6 (Nat.le_refl _) hgl (Zi Zq a) (Zi Zq bb) (Zt s) (Zi Zq d);exact ⟨a,bb,s,d,m,y,rfl,HR,ht6.put4 _ _ _ _,hstR.1,hstR.2⟩
      ·have hlt2:=HL.out.1;rw [show ay c=false from oV hkk] at hlt2;have HLT:=aW hlt2;clear hlt2;go_wp2;go_quiet ((go_at_call 122;exact Calls.quiet_of_same ((HLT.out _).mono λ e w' h=>⟨h.1,h.2.symm⟩)));go_wp2;go_roundg (4-1)
       case measure=>rw [HGK2.out];omega
       case rel=>exact ⟨1,by omega,rfl,rfl,aj (hbx.alloc hbx.size _) _,(HT.out.1.alloc _).drewN _⟩
     ·by_cases hkk:cT c=1
      ·obtain ⟨a,bb,s,d,m,y,hR,hN⟩:=jV (A:=some ⟨b,o,none⟩) (fk:=129) (di l q) (λ W hG hV=>rz W g _ cap l q hV hlt hcap hlen);have hv:cV l q=di l q:=by rw [HVK.out,hkk];rfl
       rw [← hv] at hR;have hlt2:=HL.out.2.1;rw [show aJ c=true from yf hkk] at hlt2;have HR:=aW hR;have HN:=aW hN;have HLT:=aW hlt2;clear hv hR hN hlt2;go_wp2;go_quiet ((go_at_call 123;exact Calls.quiet_of_same ((HLT.out _).mono λ e w' h=>⟨h.1,h.2.symm⟩)));obtain ⟨W5,hW5⟩:∃ W5,(wr.alloc (.cells #[.func (.func 123) #[] #[],.func (.func 129) #[Zp (some ⟨g,0,none⟩)] #[]] 164)).drewN nq=W5:=⟨_,rfl⟩
       have hb5:Below wo.heap.size wo W5:=by rw [← hW5];exact aj (hbx.alloc hbx.size _) _
       have ht5:Blk W5 wo.heap.size 86 #[Zi Zq 0,Zi Zq 0,Zt ⟨#[]⟩,Zi Zq 0]:=by rw [← hW5];exact (HT.out.1.alloc _).drewN _
       have hw5:Blk W5 wr.heap.size 164 #[.func (.func 123) #[] #[],.func (.func 129) #[Zp (some ⟨g,0,none⟩)] #[]]:=by rw [← hW5];exact (Blk.new wr _ _).drewN _
       rw [hW5];have H5:=aW (And.intro hb5 ht5);have HC5:=aW (HN.out W5 (HVG.out.2.keep hb5) (HVG.out.1.keep hb5));clear hW5 hb5 ht5 c1 f1 l1 c3 f3 l3 hx hb3;obtain ⟨c6,f6,l6⟩:=hw5.rules;go_wp2_with (go_at_call 129;refine HC5.out.mono ?_;rintro e w6 ⟨rfl,hst⟩;have ht6:=H5.out.2.grown hst.2 (by simp;omega);obtain ⟨c7,f7,l7⟩:=ht6.rules);go_meet
       case rel =>
        have hstR:=(((aP.refl HVG.out.1).keep H5.out.1).trans hst).put4 ht6 (Nat.le_refl _) hgl (Zi Zq a) (Zi Zq bb) (Zt s) (Zi Zq d);exact ⟨a,bb,s,d,m,y,rfl,HR,ht6.put4 _ _ _ _,hstR.1,hstR.2⟩
      ·have hlt2:=HL.out.2.1;rw [show aJ c=false from si hkk (by omega)] at hlt2;have HLT:=aW hlt2;clear hlt2;go_wp2;go_quiet ((go_at_call 123;exact Calls.quiet_of_same ((HLT.out _).mono λ e w' h=>⟨h.1,h.2.symm⟩)));go_wp2;go_roundg (4-2)
       case measure=>rw [HGK2.out];omega
       case rel=>exact ⟨2,by omega,rfl,rfl,aj (hbx.alloc hbx.size _) _,(HT.out.1.alloc _).drewN _⟩
     ·by_cases hkk:cT c=2
      ·obtain ⟨a,bb,s,d,m,y,hR,hN⟩:=jV (A:=some ⟨b,o,none⟩) (fk:=131) (fO l q) (λ W hG hV=>vL W g _ cap l q hG hV hlt hcap hlen);have hv:cV l q=fO l q:=by rw [HVK.out,hkk];rfl
       rw [← hv] at hR;have hlt2:=HL.out.2.2.1;rw [show decide (c.toNat=34)=true from yg hkk] at hlt2;have HR:=aW hR;have HN:=aW hN;have HLT:=aW hlt2;clear hv hR hN hlt2;go_wp2;go_quiet ((go_at_call 130;exact Calls.quiet_of_same ((HLT.out _).mono λ e w' h=>⟨h.1,h.2.symm⟩)));obtain ⟨W5,hW5⟩:∃ W5,(wr.alloc (.cells #[.func (.func 130) #[] #[],.func (.func 131) #[Zp (some ⟨g,0,none⟩)] #[]] 164)).drewN nq=W5:=⟨_,rfl⟩
       have hb5:Below wo.heap.size wo W5:=by rw [← hW5];exact aj (hbx.alloc hbx.size _) _
       have ht5:Blk W5 wo.heap.size 86 #[Zi Zq 0,Zi Zq 0,Zt ⟨#[]⟩,Zi Zq 0]:=by rw [← hW5];exact (HT.out.1.alloc _).drewN _
       have hw5:Blk W5 wr.heap.size 164 #[.func (.func 130) #[] #[],.func (.func 131) #[Zp (some ⟨g,0,none⟩)] #[]]:=by rw [← hW5];exact (Blk.new wr _ _).drewN _
       rw [hW5];have H5:=aW (And.intro hb5 ht5);have HC5:=aW (HN.out W5 (HVG.out.2.keep hb5) (HVG.out.1.keep hb5));clear hW5 hb5 ht5 c1 f1 l1 c3 f3 l3 hx hb3;obtain ⟨c6,f6,l6⟩:=hw5.rules;go_wp2_with (go_at_call 131;refine HC5.out.mono ?_;rintro e w6 ⟨rfl,hst⟩;have ht6:=H5.out.2.grown hst.2 (by simp;omega);obtain ⟨c7,f7,l7⟩:=ht6.rules);go_meet
       case rel =>
        have hstR:=(((aP.refl HVG.out.1).keep H5.out.1).trans hst).put4 ht6 (Nat.le_refl _) hgl (Zi Zq a) (Zi Zq bb) (Zt s) (Zi Zq d);exact ⟨a,bb,s,d,m,y,rfl,HR,ht6.put4 _ _ _ _,hstR.1,hstR.2⟩
      ·have hlt2:=HL.out.2.2.1;rw [show decide (c.toNat=34)=false from wC hkk (by omega) (by omega)] at hlt2;have HLT:=aW hlt2;clear hlt2;go_wp2;go_quiet ((go_at_call 130;exact Calls.quiet_of_same ((HLT.out _).mono λ e w' h=>⟨h.1,h.2.symm⟩)));go_wp2;go_roundg (4-3)
       case measure=>rw [HGK2.out];omega
       case rel=>exact ⟨3,by omega,rfl,rfl,aj (hbx.alloc hbx.size _) _,(HT.out.1.alloc _).drewN _⟩
     ·by_cases hkk:cT c=3
      ·obtain ⟨a,bb,s,d,m,y,hR,hN⟩:=jV (A:=some ⟨b,o,none⟩) (fk:=133) (eU l q) (λ W hG hV=>tS W g _ cap l q hV hlt hcap hlen);have hv:cV l q=eU l q:=by rw [HVK.out,hkk];rfl
       rw [← hv] at hR;have hlt2:=HL.out.2.2.2;have HR:=aW hR;have HN:=aW hN;have HLT:=aW hlt2;clear hv hR hN hlt2;go_wp2;go_quiet ((go_at_call 132;exact Calls.quiet_of_same ((HLT.out _).mono λ e w' h=>⟨h.1,h.2.symm⟩)));obtain ⟨W5,hW5⟩:∃ W5,(wr.alloc (.cells #[.func (.func 132) #[] #[],.func (.func 133) #[Zp (some ⟨g,0,none⟩)] #[]] 164)).drewN nq=W5:=⟨_,rfl⟩
       have hb5:Below wo.heap.size wo W5:=by rw [← hW5];exact aj (hbx.alloc hbx.size _) _
       have ht5:Blk W5 wo.heap.size 86 #[Zi Zq 0,Zi Zq 0,Zt ⟨#[]⟩,Zi Zq 0]:=by rw [← hW5];exact (HT.out.1.alloc _).drewN _
       have hw5:Blk W5 wr.heap.size 164 #[.func (.func 132) #[] #[],.func (.func 133) #[Zp (some ⟨g,0,none⟩)] #[]]:=by rw [← hW5];exact (Blk.new wr _ _).drewN _
       rw [hW5];have H5:=aW (And.intro hb5 ht5);have HC5:=aW (HN.out W5 (HVG.out.2.keep hb5) (HVG.out.1.keep hb5));clear hW5 hb5 ht5 c1 f1 l1 c3 f3 l3 hx hb3;obtain ⟨c6,f6,l6⟩:=hw5.rules;go_wp2_with (go_at_call 133;refine HC5.out.mono ?_;rintro e w6 ⟨rfl,hst⟩;have ht6:=H5.out.2.grown hst.2 (by simp;omega);obtain ⟨c7,f7,l7⟩:=ht6.rules);go_meet
       case rel =>
        have hstR:=(((aP.refl HVG.out.1).keep H5.out.1).trans hst).put4 ht6 (Nat.le_refl _) hgl (Zi Zq a) (Zi Zq bb) (Zt s) (Zi Zq d);exact ⟨a,bb,s,d,m,y,rfl,HR,ht6.put4 _ _ _ _,hstR.1,hstR.2⟩
      ·omega
   case rest =>
    obtain ⟨a,bb,s,d,m,y,rfl,HR,htb,hV3,hg3⟩:=hcut;obtain ⟨hJs,hV,hrb,hwb,hK⟩:=HWR.out;have hrb3:=hrb.grown hg3 (by simpa using hgr.symm);have hwb3:=hwb.grown hg3 (by simpa using hgw.symm);have hK3:aO (· < w0.heap.size) w0 wc:=hK.trans ⟨hg3.size,λ i hi=>hg3.block i (Nat.lt_of_lt_of_le hi hK.1) (by simp;omega)⟩;have hJ3:=HJ.out _ _ _ ⟨hg3,λ _=>⟨m,y,hV3⟩⟩ hJs;clear hJs hV hrb hwb hK HB2 cw fw lw HWR W2;obtain ⟨c1,f1,l1⟩:=hrb3.rules;obtain ⟨c3,f3,l3⟩:=hV3.1.rules;obtain ⟨c4,f4,l4⟩:=htb.rules;unfold cq at c3;cases hvt:cV l q with
    |inr e =>
     obtain ⟨pq,er⟩:=e;have her:=kC hlt hvt;rw [hvt] at HR;obtain ⟨rfl,rfl,rfl,rfl,rfl,rfl⟩:a=0/\bb=0/\s=⟨#[]⟩/\d=0/\m=pq/\y=er:=by simpa [mI] using HR.out
     have hE:=oB hp (by rw [HQQ.out];exact hlt) (by rw [HQQ.out];exact hvt);have HEE:=aW hE;have HRR:=aW hvt;have her':(y != 0)=true:=by simpa using her
     clear hE hvt HR;go_wp2;rw [Exit.noGoto_ret];gi_wp2;refine bodyPost_ret (results_none rfl _ _ _) rfl ?_;refine ⟨⟨_,rfl⟩,.inl ⟨pre,⟨?_,m,y,hV3,?_⟩,hJ3⟩⟩
     ·rw [HPRE.out,HEE.out,List.append_nil]
     ·rw [HEND.out,HEE.out,if_neg her]
    |inl r =>
     obtain ⟨kd,t,n,m'⟩:=r;rw [hvt] at HR;obtain ⟨rfl,rfl,rfl,rfl,rfl,rfl⟩:a=kd/\bb=q/\s=⟨t.toArray⟩/\d=n/\m=m'/\y=0:=by simpa [mI] using HR.out
     have hok:=iA hlt hvt;have hE:=oD hp (by rw [HQQ.out];exact hlt) (by rw [HQQ.out];exact hvt);have HEE:=aW hE;have HRR:=aW hvt;clear hE hvt HR;have hadm:pre++[(a,q,t,d)] <+: (bH l p0).1:=by rw [HPRE.out,HEE.out,HQQ.out];exact ⟨(bH l m').1,by simp⟩
     obtain ⟨fn,tmps,assign,body,hy,hR⟩:=HY.out pre _ wc hJ3 hadm;have HAD:=aW hadm;clear hadm;unfold uA k8 at hy;simp only at hy;go_upto_region 10 with fail;refine (wpIn_wide (n:=2)).1 ?_;gi_wp2;refine hR.mono ?_;rintro e W4 (⟨rfl,hJ4,hk4⟩ | ⟨rfl,hJx4,hk4⟩)
     ·have hrb4:=hk4.blk hrb3 (.inr (.inr (.inl rfl)));have hwb4:=hk4.blk hwb3 (.inr (.inr (.inr rfl)));have hK4:aO (· < w0.heap.size) w0 W4:=hK3.trans ⟨hk4.1,λ i hi=>hk4.2 i (.inl hi)⟩;have hV4:=hV3.keepOn hk4 (.inr (.inl rfl)) (hr.keepOn hK4 (λ i h=>h));have HP4:=aW (qh W4 g A cap l m' 0 hV4 hok.2 hcap hlen);obtain ⟨c5,f5,l5⟩:=hrb4.rules;clear c1 f1 l1 c3 f3 l3 c4 f4 l4;gi_wp2;go_wp2;rw [Exit.noGoto_normal];gi_wp2;refine ⟨trivial,CallsIn.mono (callsIn_wide.2 HP4.out) ?_⟩;rintro e w5 ⟨rfl,hst5⟩;have hrb5:=hrb4.grown hst5.2 (by simpa using hgr.symm);have hwb5:=hwb4.grown hst5.2 (by simpa using hgw.symm);have hK5:aO (· < w0.heap.size) w0 w5:=hK4.trans ⟨hst5.2.size,λ i hi=>hst5.2.block i (Nat.lt_of_lt_of_le hi hK4.1) (by simp;omega)⟩;have hJ5:=HJ.out _ _ _ (StV.of_step hst5) hJ4;gi_wp2
      gi_roundg (l.length-m'+1)
      case measure=>rw [HGK.out];have:=iv l p;have:=HQQ.out;omega
      case rel=>exact ⟨m',pre++[(a,q,t,d)],mB hok.2,rfl,hok.2,by rw [HPRE.out,HEE.out,HQQ.out];simp,by rw [HEND.out,HEE.out],hJ5,hst5.1,hrb5,hwb5,hK5⟩
     ·gi_wp2;go_wp2;rw [Exit.noGoto_ret];gi_wp2;refine bodyPost_ret (results_none rfl _ _ _) rfl ?_;exact ⟨⟨_,rfl⟩,.inr ⟨_,HAD.out,hJx4⟩⟩
  ·have hE:=oA hp (by rw [HQQ.out];exact hlt);have hql:=HQ.out;rw [HQQ.out] at hql;obtain rfl:q=l.length:=by omega
   have HEE:=aW hE;have HQL:=aW hql;clear hE hlt hql;gi_wp2;refine wpIn_wide.2 ?_;go_quiet (fail);obtain ⟨fn,tmps,assign,body,hy,hR⟩:=HY.out pre ((6,l.length,[],0):ap) (wo.drewN nq) (HJ.out _ _ _ (StV.of_below (aj (Below.refl _ wo) nq)) hJs) (by rw [HPRE.out,HEE.out];exact List.prefix_refl _);unfold uA k8 at hy;simp only at hy;gi_wp2;refine hR.mono ?_;rintro e W4 (⟨rfl,hJ4,hk4⟩ | ⟨rfl,hJx4,hk4⟩)
   ·have hK4:aO (· < w0.heap.size) w0 W4:=hK.trans ⟨hk4.1,λ i hi=>hk4.2 i (.inl hi)⟩;have hV4:=(hV.drewN nq).keepOn hk4 (.inr (.inl rfl)) (hr.keepOn hK4 (λ i h=>h));have HF:=aW (And.intro hV4 hJ4);clear hK4 hV4 hk4 hJ4;gi_wp2;go_end0;refine ⟨⟨_,rfl⟩,.inl ⟨_,⟨?_,_,0,HF.out.1,?_⟩,HF.out.2⟩⟩
    ·rw [HPRE.out,HEE.out]
    ·rw [HEND.out,HEE.out,if_pos rfl]
   ·gi_wp2;go_end0;exact ⟨⟨_,rfl⟩,.inr ⟨_,by rw [HPRE.out,HEE.out];exact List.prefix_refl _,hJx4⟩⟩
theorem rS (w0:World) (g rb wb:Nat) (A:Option Addr) (cap:Nat) (l:List UInt8) (p0:Nat) (w:World) (hG:GOK w0) (hr:Rd w0 A (aq l)) (hcap:l.length<=cap) (hlen:l.length<=4194304)
  (hp0:p0<=l.length) (hgr:g≠rb) (hgw:g≠wb) (hg0:w0.heap.size<=g) (hW:aO (· < w0.heap.size) w0 w)
  (hV:VB w g A cap l p0 0) (hrb:Blk w rb 109 #[Zp (some ⟨g,0,none⟩)]) (hwb:Blk w wb 165 (kU g)) :
  ng Fence.wide 2 Tryz.prog 134 #[Zp (some ⟨rb,0,none⟩),Zp (some ⟨wb,0,none⟩)] uA
   (StV g A cap l) (KpV w0.heap.size g rb wb) (λ pre x=>pre++[x] <+: (bH l p0).1) (xv g A cap l p0) (λ pre _=>pre <+: (bH l p0).1) w:=by
 intro k J Jx W hW2 hJ _ hY h0;exact qy w0 g rb wb A cap l p0 k J Jx W hG hr hcap hlen hp0 hgr hgw hg0 (hW.trans (aO.of_below hW2 (λ i hi=>Nat.lt_of_lt_of_le hi hW.1))) hJ hY (hV.keep hW2) (hrb.keep hW2) (hwb.keep hW2) h0
def ey (l:List UInt8):List ap × Int × Int :=
 if 512<l.length then ([],0,3) else match (bH l 0).2 with | none=>((bH l 0).1,0,0) | some e=>([],e.1,e.2)
def fC (r:List ap × Int × Int) (w:World) (e:Ending) (w':World):Prop :=
 ∃ v,e=.returned (.tuple #[v,Zi Zq r.2.1,Zi Zq r.2.2])/\TS w' v r.1/\Below w.heap.size w w'
theorem qD (l:List UInt8):∀ (k p:Nat),(gI l k p).1.length<=k
 | 0,_=>by simp [gI]
 |k+1,p=>by
  unfold gI;split
  ·cases hv:cV l (bV l p) with
   | inr e=>simp
   |inl r =>
    obtain ⟨kd,t,n,m⟩:=r;have:=qD l k m;simp;omega
  ·simp
theorem oC (l:List UInt8) (p:Nat):(bH l p).1.length<=l.length+1-p:=qD l _ p
theorem Rd.below_at {W W':World} {b o N:Nat} {xs:List Value} (h:Rd W (some ⟨b,o,none⟩) xs) (hb:Below N W W') (hN:b<N):Rd W' (some ⟨b,o,none⟩) xs:=λ hn=>by
 obtain ⟨b',o',e,hlt,hx⟩:=h hn;obtain ⟨rfl,rfl⟩:b=b'/\o=o':=by simpa using e
 exact ⟨b,o,rfl,Nat.lt_of_lt_of_le hlt hb.size,λ i hi=>by rw [← hx i hi];exact World.cell?_of_block (w:=W) (hb.block b hN)⟩
def kV (w:World) (A:Option Addr) (cap:Nat) (l:List UInt8) (pre:List ap) (W:World):Prop :=
 (∃ v,Boxed W (w.heap.size+2) 77 v/\W.ownsRow (w.heap.size+1) 86 4 v pre.length (aG pre))/\Below w.heap.size w W/\(∃ p why,VB W (w.heap.size+1) A cap l p why) /\
  Blk W (w.heap.size+3) 109 #[Zp (some ⟨w.heap.size+1,0,none⟩)]/\Blk W (w.heap.size+4) 165 (kU (w.heap.size+1))/\w.heap.size+5<=W.heap.size
theorem VB.putObj {W:World} {g:Nat} {A:Option Addr} {cap:Nat} {l:List UInt8} {p why:Int} {k:Nat} {o:Obj} (o':Obj) (h:VB W g A cap l p why) (ho:W.heap[k]? = some o) (hc:o.isCells=false):VB (W.putObj k o') g A cap l p why :=
 ⟨h.1.putObj o' ho hc,h.2.putObj o' ho hc⟩
theorem kV.putObj {w:World} {A:Option Addr} {cap:Nat} {l:List UInt8} {pre:List ap} {W:World} {k:Nat} {o:Obj} (o':Obj) (h:kV w A cap l pre W) (hk:w.heap.size<=k) (ho:W.heap[k]? = some o) (hc:o.isCells=false):kV w A cap l pre (W.putObj k o'):=by
 obtain ⟨⟨v,hv,hr⟩,hb,⟨p,why,hV⟩,h1,h2,h3⟩:=h;exact ⟨⟨v,Blk.putObj o' hv ho hc,ownsRow_putObj hr o' ho hc⟩,bj hb k o' hk,⟨p,why,hV.putObj o' ho hc⟩,h1.putObj o' ho hc,h2.putObj o' ho hc,by simpa [World.putObj] using h3⟩
theorem kV.alloc {w:World} {A:Option Addr} {cap:Nat} {l:List UInt8} {pre:List ap} {W:World} (h:kV w A cap l pre W) (o:Obj):kV w A cap l pre (W.alloc o):=by
 obtain ⟨⟨v,hv,hr⟩,hb,⟨p,why,hV⟩,h1,h2,h3⟩:=h;exact ⟨⟨v,Blk.alloc hv o,hr.alloc o⟩,hb.alloc hb.size o,⟨p,why,hV.keep ((Below.refl _ W).alloc (Nat.le_refl _) o)⟩,h1.alloc o,h2.alloc o,by simp;omega⟩
theorem kV.step {w:World} {A:Option Addr} {cap:Nat} {l:List UInt8} {pre:List ap} {W W':World} (h:kV w A cap l pre W) (hs:StV (w.heap.size+1) A cap l W W'):kV w A cap l pre W':=by
 obtain ⟨⟨v,hv,hr⟩,hb,⟨p,why,hV⟩,h1,h2,h3⟩:=h;have hne:=dq hr hV.1 (by decide);exact ⟨⟨v,hv.kept hs.1 (by simp),hr.kept hs.1 (.inr (Ne.symm hne))⟩,hb.grown hs.1 hb.size (λ k e=>by cases e;omega),hs.2 ⟨p,why,hV⟩,h1.grown hs.1 (by simp),h2.grown hs.1 (by simp),Nat.le_trans h3 hs.1.size⟩
theorem yh (s:ByteArray) (w:World) (hG:GOK w) (hs:s.size<=512):Calls Tryz.prog 50 #[Zt s] w (fC (ey (sl s)) w):=by
 obtain ⟨i0,hi,hz0,hz1,hz2⟩:=info_parts se;refine (callsIn_wide (n:=3)).1 ?_;refine callsIn_of_wp_marks Tryz.func50 rfl trivial ?_ rfl;simp only [Tryz.ntmps50,List.size_toArray,List.length_cons,List.length_nil,Nat.reduceAdd,Nat.reduceSub,Array.replicate_succ,Array.replicate_zero,List.push_toArray,List.append_toArray,List.nil_append,List.cons_append];refine wpIn_wide.2 ?_;obtain ⟨cap,W1,hcv,hcap,hb1,hs1,hr1⟩:=fm (P:=Tryz.prog) w 9 67 5 s Tryz.underlying9 Tryz.underlying67 Tryz.underlying5;rw [← bL s] at hcap;have hlen:(sl s).length<=512:=by rw [bL];exact hs
 obtain ⟨l,hl⟩:∃ l,sl s=l:=⟨_,rfl⟩
 have hsz:s.size=l.length:=by rw [← hl,bL]
 rw [hl] at hr1 hcap hlen;rw [hsz] at hcv;have HSZ:=aW hsz;have HSL:=aW hl;have hsi:(512:Int)<(s.size:Int)->False:=by omega
 have hs512:(s.size:Int)<=512:=by omega
 clear hsz hl hs;have HR:=aW hr1;have HB1:=aW hb1;have HG:=aW hG;clear hr1 hb1 hG;go_wp2_with (go_at_call 84;refine (rR _ _).mono ?_;rintro e w2 ⟨rfl,hrb,hwb,hs2,hb2⟩);rw [show w.heap.size+1+1+1+1=w.heap.size+4 from rfl,show w.heap.size+1+1+1=w.heap.size+3 from rfl,show w.heap.size+1+1=w.heap.size+2 from rfl];have hbr:=Blk.new W1 113 (cq (some ⟨w.heap.size,0,none⟩) l.length cap 0 0);have hbo:=Blk.new (W1.alloc (.cells (cq (some ⟨w.heap.size,0,none⟩) l.length cap 0 0) 113)) 77 #[Zs none 0 0];rw [hs1] at hbr;simp only [World.size_alloc,hs1] at hrb hwb hs2 hb2 hbo;have hb3:Below W1.heap.size W1 w2:=(((Below.refl _ W1).alloc (Nat.le_refl _) _).alloc (by simp) _).trans (hb2.mono (by omega));have hV2:VB w2 (w.heap.size+1) (some ⟨w.heap.size,0,none⟩) cap l 0 0:=⟨((hbr.alloc _).below hb2 (by omega)),(HR.out.below hb3)⟩
 have hI0:kV w (some ⟨w.heap.size,0,none⟩) cap l [] w2:=⟨⟨_,hbo.below hb2 (by omega),World.ownsRow_nil _ _ _ _⟩,HB1.out.trans (hb3.mono HB1.out.size),⟨0,0,hV2⟩,hrb,hwb,by omega⟩
 clear hbr hbo hb2;refine (wpIn_wide (n:=3)).1 ?_;refine qJ rfl (by omega) (gf:=134) (lb:=#[Zp (some ⟨w.heap.size+3,0,none⟩),Zp (some ⟨w.heap.size+4,0,none⟩)]) rfl trivial (enters_of Tryz.func134 (by kernel_rfl) rfl)
  (rS W1 (w.heap.size+1) (w.heap.size+3) (w.heap.size+4) (some ⟨w.heap.size,0,none⟩) cap l 0 w2 (HG.out.keep HB1.out) HR.out hcap (by omega) (Nat.zero_le _) (by omega) (by omega) (by omega) (aO.of_below hb3 (λ _ h=>h)) hV2 hrb hwb) (Below.refl _ _) (λ _=>rfl)
  (λ A B k o hs hk ho _=>(hs.1.block k (Array.getElem?_eq_some_iff.1 ho).1 (by simp;omega)).trans ho)
  (λ h k=>h.trans k) (λ W k o o' hk _ _=>aO.putObj (N:=w2.heap.size) (by intro j hj;omega) W k o' hk)
  (λ xs W k o o' _ ho hc h=>by obtain ⟨h1,q,er,h2,h3⟩:=h;exact ⟨h1,q,er,h2.putObj o' ho hc,h3⟩) (λ _ _ _ _ _ _ _ _ h=>h)
  (kV w (some ⟨w.heap.size,0,none⟩) cap l) (λ _ _ _=>False) (λ s A B hs h=>h.step hs) (λ _ _ _ _ _ h=>h) (λ s W k o o' hk ho hc h=>h.putObj o' (by omega) ho hc) (λ _ _ _ _ _ _ _ _ _ h=>h) (λ o o'=>(hI0.alloc o).alloc o')
  (λ pre x a1 W => ∃ tb,a1={ tmps:=#[Zt s,undef,Zs none 0 0,Zi Zq 0,Zi Zq 0,Zp (some ⟨w.heap.size+1,0,none⟩),Zp (some ⟨w.heap.size+2,0,none⟩),Zp (some ⟨tb,0,none⟩),Zt s,Zi Zq s.size,.bool (decide (512<(s.size:Int))),Zt s,Zs (some ⟨w.heap.size,0,none⟩) l.length cap,
   .agg #[Zi Zq 0,Zi Zq 0,Zs (some ⟨w.heap.size,0,none⟩) l.length cap],Zp (some ⟨w.heap.size+1,0,none⟩),Zp (some ⟨w.heap.size+1,0,none⟩),.func (.func 134) #[] #[Zp (some ⟨w.heap.size+3,0,none⟩),Zp (some ⟨w.heap.size+4,0,none⟩)],.agg #[Zi Zq x.1,Zi Zq x.2.1,Zt ⟨x.2.2.1.toArray⟩,Zi Zq x.2.2.2],undef,undef,undef,undef,undef,undef,undef,undef,undef,undef,undef,undef,undef,undef,undef,undef,undef,undef,undef,undef,undef],defers:=[] }/\Blk W tb 86 #[Zi Zq x.1,Zi Zq x.2.1,Zt ⟨x.2.2.1.toArray⟩,Zi Zq x.2.2.2]/\kV w (some ⟨w.heap.size,0,none⟩) cap l pre W)
  ?hI1p ?assign ?body ?done ?stop
 case hI1p =>
  rintro pre x a1 W k o o' hk ho hc ⟨tb,e,h1,h2⟩;exact ⟨tb,e,h1.putObj o' ho hc,h2.putObj o' (by omega) ho hc⟩
 case assign =>
  intro k pre x W hI hadm;have hIA:=hI.alloc (.cells #[Zi Zq x.1,Zi Zq x.2.1,Zt ⟨x.2.2.1.toArray⟩,Zi Zq x.2.2.2] 86);have HIA:=aW hIA;clear hIA;simp only [uA,k8];gi_wp2;have hba:Below W.heap.size W (W.alloc (.cells #[Zi Zq x.1,Zi Zq x.2.1,Zt ⟨x.2.2.1.toArray⟩,Zi Zq x.2.2.2] 86)):=(Below.refl _ W).alloc (Nat.le_refl _) _;exact ⟨⟨W.heap.size,rfl,Blk.new _ _ _,HIA.out⟩,KeepsFrom.below_ hba,aO.of_below hba (λ k hk=>by have:=hI.2.2.2.2.2;omega)⟩
 case body =>
  rintro k pre x a1 W ⟨tb,rfl,htb,hI⟩ hadm;obtain ⟨⟨v,hv,hrow⟩,hB,⟨p,why,hV⟩,h1,h2,h3⟩:=hI;have hpl:pre.length+1<=513:=by have:=hadm.length_le;have:=oC l 0;simp at *;omega
  have hc:=hv.cell;have hlt:=hv.lt;obtain ⟨c1,f1,l1⟩:=htb.rules;have hnews:∀ j u,(gX x)[j]? = some u->(W.alloc (.cells #[Zi Zq x.1,Zi Zq x.2.1,Zt ⟨x.2.2.1.toArray⟩,Zi Zq x.2.2.2] 86)).cell? ((⟨W.heap.size,0,none⟩:Addr).add j)=some u:=by
   obtain ⟨ad,e,h⟩:=(Rd.of_blk (Blk.new W 86 #[Zi Zq x.1,Zi Zq x.2.1,Zt ⟨x.2.2.1.toArray⟩,Zi Zq x.2.2.2])).at_ (by simp);cases e
   exact h
  have HW:=aW (And.intro hnews (And.intro hV (And.intro h1 (And.intro h2 hB))));clear hnews hV h1 h2 hB;gi_wp2_with (gi_at_builtin;refine wpListIn_append_own _ rfl _ _ 77 rfl (w.heap.size+1) 86 i0 _ 4 40 Tryz.underlying77 hi hz0 hz1 hz2 rfl (by decide) _ _ _ rfl (hrow.alloc _) ⟨W.heap.size,0,none⟩ 1 1 (gX x) rfl rfl HW.out.1 (by have:=jY [x];simpa [aG] using this) (by unfold maxLen;omega) (by omega) (by simp;omega) ?_;intro v' w1 hown' hgrow _;obtain ⟨g',cap',rfl⟩:=ownsRow_succ hown';obtain ⟨hv1,hv2,hr2,hk2,hb2⟩:=hv.appended (by decide) hrow (by omega) (by omega) hown' hgrow;have hc1:=hv1.cell;have hf1:=hv1.frozen);obtain ⟨_,hV,h1,h2,hB⟩:=HW.out;have hV':Blk (w1.setCell ⟨w.heap.size+2,0,none⟩ (Zs (some ⟨g',0,none⟩) (pre.length+1) cap')) (w.heap.size+1) 113 _:=((hV.1.alloc _).grown hgrow (dq hrow hV.1 (by decide))).far (by simp) _;have h1':Blk (w1.setCell ⟨w.heap.size+2,0,none⟩ (Zs (some ⟨g',0,none⟩) (pre.length+1) cap')) (w.heap.size+3) 109 _:=((h1.alloc _).grown hgrow (dq hrow h1 (by decide))).far (by simp) _;have h2':Blk (w1.setCell ⟨w.heap.size+2,0,none⟩ (Zs (some ⟨g',0,none⟩) (pre.length+1) cap')) (w.heap.size+4) 165 _:=((h2.alloc _).grown hgrow (dq hrow h2 (by decide))).far (by simp) _;refine ⟨hk2.from _,⟨hb2.size,?_⟩,⟨_,hv2,?_⟩,hB.trans (hb2.mono (by omega)),⟨p,why,hV',hV.2.below_at hb2 (by omega)⟩,h1',h2',Nat.le_trans h3 hb2.size⟩
  ·rintro k (hk | rfl | rfl | rfl)
   ·exact hb2.block k (by omega)
   ·exact io hV.1 hV'
   ·exact io h1 h1'
   ·exact io h2 h2'
  ·have e:aG (pre++[x])=aG pre++gX x:=by rw [gQ];simp [aG]
   rw [e,List.length_append,List.length_singleton];exact hr2
 case done =>
  rintro D xs W hD ⟨rfl,q,er,hV,hend⟩ hI hK;obtain ⟨⟨v,hv,hrow⟩,hB,_,_,_,h3⟩:=hI;obtain ⟨c1,f1,l1⟩:=hV.1.rules;unfold cq at c1;have c2:=hv.cell;by_cases her:er=0
  ·subst her;rw [if_pos rfl] at hend;have HS:=aW (show ey l=((bH l 0).1,0,0) by unfold ey;rw [if_neg (by omega),hend]);clear hend;go_wp2;refine ⟨by simp,.inl ⟨_,_,rfl,run_takeDeferred hK,?_⟩⟩;refine ⟨.tuple #[v,Zi Zq 0,Zi Zq 0],by simp only [results,Tryz.results50];go_simp,?_⟩;rw [HSL.out,HS.out];exact ⟨v,rfl,TS.of_own (ownsRow_putObj hrow (.deferred none) hK rfl),bj hB D _ (by omega)⟩
  ·have her':(er != 0)=true:=by simpa using her
   rw [if_neg her] at hend;have HS:=aW (show ey l=([],q,er) by unfold ey;rw [if_neg (by omega),hend]);clear hend;go_wp2;go_quiet (fail);go_wp2;have hK1:(W.drewN nq).heap[D]? = some (.deferred (some [])):=hK;refine ⟨by simp,.inl ⟨_,_,rfl,run_takeDeferred hK1,?_⟩⟩;refine ⟨.tuple #[Zs none 0 0,Zi Zq q,Zi Zq er],by simp only [results,Tryz.results50];go_simp,?_⟩;rw [HSL.out,HS.out];exact ⟨_,rfl,TS.nil,bj (aj hB _) D _ (by omega)⟩
 case stop =>
  rintro D c pre W _ _ h _;exact h.elim
theorem wD (s:ByteArray) (w:World) (hG:GOK w) (hs:s.size<=4194304):Calls Tryz.prog 50 #[Zt s] w (fC (ey (sl s)) w):=by
 by_cases h:s.size<=512
 ·exact yh s w hG h
 ·have HS:=aW (show ey (sl s)=([],0,3) by unfold ey;rw [if_pos (by rw [bL];omega)]);go_enter Tryz.func50,Tryz.ntmps50;go_wp2;go_ret3;rw [HS.out];exact ⟨_,rfl,TS.nil,Below.refl _ _⟩
end
section
open Go.RowKit
theorem rj {s:List UInt8} {i:Nat} {a:UInt8} (ha:s[i]? = some a) (W:World):(Instr.index 9 (Zt ⟨s.toArray⟩) (Zi Zq (i:Int))).run Tryz.prog W=.ok (Zi .u8 a.toNat) W:=by
 obtain ⟨hi,e⟩:=List.getElem?_eq_some_iff.1 ha;have hsz:(ByteArray.mk s.toArray).size=s.length:=by simp [ByteArray.size]
 rw [run_index_string W 9 ⟨s.toArray⟩ .i64 (i:Int) Tryz.underlying9,dif_pos ⟨by omega,by rw [hsz];omega⟩];subst e;rfl
theorem tl:(Tryz.prog.info? 5).map (λ i=>(i.zero,i.size,i.bytes))=some (some (Zi .u8 0),1,1):=by kernel_rfl
def iV (base:Nat) (row:Value) (n:Nat) (l:List UInt8) (w:World):Prop:=l.length=n/\w.ownsRow base 5 1 row n (aq l)/\base<=w.heap.size
theorem iV.nil (w:World):iV w.heap.size (Zs none 0 0) 0 [] w:=⟨rfl,World.ownsRow_nil _ _ _ _,Nat.le_refl _⟩
theorem iV.bel {base n:Nat} {row:Value} {l:List UInt8} {w w':World} (h:iV base row n l w) (hb:Below w.heap.size w w'):iV base row n l w':=⟨h.1,rC h.2.1 hb,Nat.le_trans h.2.2 hb.size⟩
def Gr (row:Value) (w:World) (row':Value) (w':World):Prop:=w.grownBy w' row.ownBlock/\(row'.ownBlock=row.ownBlock∨∃ k,row'.ownBlock=some k/\w.heap.size<=k)
theorem Gr.refl (row:Value) (w:World):Gr row w row w:=⟨World.grownBy.refl w _,.inl rfl⟩
theorem Gr.trans {a b c:Value} {w w1 w2:World} (h:Gr a w b w1) (k:Gr b w1 c w2):Gr a w c w2:=by
 obtain ⟨h1,h2⟩:=h;obtain ⟨k1,k2⟩:=k;refine ⟨⟨k1.os.trans h1.os,k1.tape.trans h1.tape,k1.output.trans h1.output,Nat.le_trans h1.size k1.size,λ i hi hne=>(k1.block i (Nat.lt_of_lt_of_le hi h1.size) ?_).trans (h1.block i hi hne)⟩,?_⟩
 ·rcases h2 with h2 | ⟨q,h2,h3⟩
  ·rw [h2];exact hne
  ·rw [h2];intro e;injection e with e;omega
 ·rcases k2 with k2 | ⟨q,k2,k3⟩
  ·rcases h2 with h2 | ⟨q',h2,h3⟩
   ·exact .inl (k2.trans h2)
   ·exact .inr ⟨q',k2.trans h2,h3⟩
  ·exact .inr ⟨q,k2,Nat.le_trans h1.size k3⟩
theorem Gr.bel {row:Value} {w w':World} (h:Below w.heap.size w w'):Gr row w row w':=⟨aw h _,.inl rfl⟩
theorem Gr.size {a b:Value} {w w':World} (h:Gr a w b w'):w.heap.size<=w'.heap.size:=h.1.size
theorem Gr.keepF {a b:Value} {w w':World} {F:Nat->Prop} (h:Gr a w b w') (hF:∀ k,F k->some k≠a.ownBlock):af F w w':=⟨h.1.size,λ k hf hk=>h.1.block k hk (hF k hf)⟩
theorem Gr.blk {a b:Value} {w w':World} {g:Nat} {t:TypeId} {cs:Array Value} (h:Gr a w b w') (hb:Blk w g t cs) (hg:some g≠a.ownBlock):Blk w' g t cs:=(h.1.block g hb.lt hg).trans hb
theorem Gr.below {a b:Value} {w w':World} {base:Nat} (h:Gr a w b w') (hb:base<=w.heap.size) (ho:∀ k,a.ownBlock=some k->base<=k):Below base w w':=(Below.refl base w).grown h.1 hb ho
theorem iV.post {base n M:Nat} {row row2:Value} {l m:List UInt8} {w w6:World} {o:Obj} (h:iV base row n l w) (hown:w6.ownsRow base 5 1 row2 (n+M) (aq l++aq m)) (hM:m.length=M) (hgr:(w.alloc o).grownBy w6 row.ownBlock) (hob:row2.ownBlock=row.ownBlock∨row2.ownBlock=some (w.alloc o).heap.size):iV base row2 (n+M) (l++m) w6/\Gr row w row2 w6:=by
 have hg:Gr row w row2 w6:=(Gr.bel ((Below.refl _ w).alloc (Nat.le_refl _) o)).trans ⟨hgr,hob.imp id λ e=>⟨_,e,Nat.le_refl _⟩⟩;exact ⟨⟨by rw [List.length_append,h.1,hM],by rw [gh];exact hown,Nat.le_trans h.2.2 hg.size⟩,hg⟩
theorem rY {l:List UInt8} {p:Nat} {c:UInt8} (h:l[p]? = some c) (hd:aJ c=true):∃ st:NSt,ez l (aQ p)=(st,none)/\st.pos=(if aB l p [48] then p+1 else a0 l p)/\st.part=false/\st.minus=false /\
  ((st.over=true/\18446744073709551615<a8 ((l.drop p).take (st.pos-p)))∨(st.over=false/\st.size=a8 ((l.drop p).take (st.pos-p))/\a8 ((l.drop p).take (st.pos-p))<=18446744073709551615)):=by
 have hc:48<=c.toNat/\c.toNat<=57:=of_decide_eq_true hd;have hlt:=(List.getElem?_eq_some_iff.1 h).1;unfold ez;have hpos:(aQ p).pos=p:=rfl;rw [hpos];by_cases hz:aB l p [48]=true
 ·rw [if_pos hz,if_pos hz];refine ⟨_,rfl,rfl,rfl,rfl,.inr ⟨rfl,?_,?_⟩⟩
  ·have hc0:c=48:=by rw [ew h] at hz;simpa using hz
   show 0=_
   rw [show p+1-p=1 from by omega,List.drop_eq_getElem_cons hlt];have:l[p]=c:=(List.getElem?_eq_some_iff.1 h).2;rw [this,hc0];rfl
  ·have hc0:c=48:=by rw [ew h] at hz;simpa using hz
   show a8 ((l.drop p).take (p+1-p))<=_
   rw [show p+1-p=1 from by omega,List.drop_eq_getElem_cons hlt];have:l[p]=c:=(List.getElem?_eq_some_iff.1 h).2;rw [this,hc0];simp [a8,fo]
 ·rw [if_neg hz,if_neg hz];unfold gF;rw [hpos];have hne:cv l p≠[]:=by
   have hs:aB l p [48,49,50,51,52,53,54,55,56,57]=true:=by
    rw [ew h];have:=rU c;rw [this];exact hd
   obtain ⟨c',_,_,_,e⟩:=iG hs;rw [e];simp
  rw [if_neg hne];refine ⟨_,rfl,rfl,(jJ _ _).1,(jJ _ _).2,?_⟩;have hk:=nF (cv l p) [] (aQ p) (pF l p) (.inr ⟨rfl,rfl,by decide⟩);show ((cu (cv l p) (aQ p)).over=true/\_<a8 ((l.drop p).take (p+(cv l p).length-p)))∨((cu (cv l p) (aQ p)).over=false/\(cu (cv l p) (aQ p)).size=a8 ((l.drop p).take (p+(cv l p).length-p))/\a8 ((l.drop p).take (p+(cv l p).length-p))<=_)
  rw [show p+(cv l p).length-p=(cv l p).length from by omega,nt];simpa using hk
theorem pK {l:List UInt8} {st:NSt}:∃ st' q,j6 l st=(st',q) /\
  (match q with
   | some e=>fp l (!st.part) st.pos=(e,false,false)
   | none=>fp l (!st.part) st.pos=(st'.pos,!st'.part,true)/\(st'.part=false->st'=st))/\(st.part=true->q=none->st'.part=true):=by
 unfold j6 fp;by_cases he:aB l st.pos [101,69]=true
 ·rw [if_pos he,if_pos he];unfold gF cQ;simp only;by_cases hs:aB l (st.pos+1) [43,45]=true
  ·rw [if_pos hs,if_pos hs];simp only;by_cases hd:cv l (st.pos+1+1)=[]
   ·rw [if_pos hd,if_pos (by unfold a0;rw [hd];rfl)];exact ⟨_,_,rfl,rfl,λ _ h=>by cases h⟩
   ·have hne:¬ a0 l (st.pos+1+1)=st.pos+1+1:=by
     unfold a0;have:=List.length_pos_iff.2 hd;omega
    rw [if_neg hd,if_neg hne];refine ⟨_,_,rfl,⟨?_,λ h=>?_⟩,λ _ _=>rfl⟩
    ·rfl
    ·cases h
  ·rw [if_neg hs,if_neg hs];simp only;by_cases hd:cv l (st.pos+1)=[]
   ·rw [if_pos hd,if_pos (by unfold a0;rw [hd];rfl)];exact ⟨_,_,rfl,rfl,λ _ h=>by cases h⟩
   ·have hne:¬ a0 l (st.pos+1)=st.pos+1:=by
     unfold a0;have:=List.length_pos_iff.2 hd;omega
    rw [if_neg hd,if_neg hne];refine ⟨_,_,rfl,⟨?_,λ h=>?_⟩,λ _ _=>rfl⟩
    ·rfl
    ·cases h
 ·rw [if_neg he,if_neg he];exact ⟨_,_,rfl,⟨rfl,λ _=>rfl⟩,λ h _=>h⟩
theorem tf {l:List UInt8} {st:NSt} (hp:st.part=false):∃ st' q,ja l [2,3] st=(st',q) /\
  (match q with
   | some e=>d9 l st.pos=(e,false,false)
   | none=>d9 l st.pos=(st'.pos,!st'.part,true)/\(st'.part=false->st'=st)):=by
 show ∃ st' q,(match ik l st with | (st',none)=>ja l [3] st' | r=>r)=(st',q)/\_
 unfold ik d9;by_cases hf:aB l st.pos [46]=true
 ·rw [if_pos hf,if_pos hf];unfold gF;simp only;by_cases hd:cv l (st.pos+1)=[]
  ·rw [if_pos hd,if_pos (by unfold a0;rw [hd];rfl)];exact ⟨_,_,rfl,rfl⟩
  ·have hne:¬ a0 l (st.pos+1)=st.pos+1:=by
    unfold a0;have:=List.length_pos_iff.2 hd;omega
   rw [if_neg hd,if_neg hne];obtain ⟨st2,hst2⟩:∃ s,jE false (cv l (st.pos+1)) { st with pos:=st.pos+1,part:=true }=s:=⟨_,rfl⟩
   have h1:st2.pos=a0 l (st.pos+1):=by rw [← hst2];rfl
   have h2:st2.part=true:=by rw [← hst2];rfl
   obtain ⟨st',q,e1,e2,e3⟩:=pK (l:=l) (st:=st2);rw [h1,h2] at e2;refine ⟨st',q,?_,?_⟩
   ·rw [hst2];show (match j6 l st2 with | (st',none)=>ja l [] st' | r=>r)=_
    rw [e1];cases q<;>rfl
   ·cases q with
    | some e=>exact e2
    | none=>exact ⟨e2.1,λ h=>by rw [e3 h2 rfl] at h;cases h⟩
 ·rw [if_neg hf,if_neg hf];obtain ⟨st',q,e1,e2,e3⟩:=pK (l:=l) (st:=st);rw [hp] at e2;refine ⟨st',q,?_,?_⟩
  ·show (match j6 l st with | (st',none)=>ja l [] st' | r=>r)=_
   rw [e1];cases q<;>rfl
  ·cases q with
   | some e=>exact e2
   | none=>exact e2
def yq (q:Option Nat) (st:NSt) (p:Int):Int × Int × Int:=match q with | some e=>(0,(e:Int),7) | none=>bg st p
theorem qd {l:List UInt8} {p:Nat} {st':NSt} {q:Option Nat} (hp:p<=l.length) (h:dC l (aQ p)=(st',q)):cH l (p:Int)=yq q st' (p:Int):=by
 unfold cH;rw [if_neg (by omega),Int.toNat_natCast,h];cases q<;>rfl
def pa (l:List UInt8) (p:Nat):lu :=
 if (jF l p).2.2=false then .inr ((jF l p).1,7)
 else if (jF l p).2.1=false then .inr (p,130)
 else match dP false (a8 ((l.drop p).take ((jF l p).1-p))) with
  | some n=>.inl (3,(l.drop p).take ((jF l p).1-p),n,(jF l p).1)
  | none=>.inr (p,130)
theorem uU {l:List UInt8} {p:Nat} {c:UInt8} (h:l[p]? = some c) (hd:aJ c=true):di l p=pa l p:=by
 have hlt:=(List.getElem?_eq_some_iff.1 h).1;have hc:48<=c.toNat/\c.toNat<=57:=of_decide_eq_true hd;have hm:aB l p [45]=false:=by
  rw [ew h];have:c≠45:=λ e=>by rw [e] at hc;exact absurd hc (by decide)
  simpa using this
 obtain ⟨st,w1,w2,w3,w4,w5⟩:=rY h hd;obtain ⟨st',q,f1,f2⟩:=tf (l:=l) w3;have hrun:dC l (aQ p)=(st',q):=by
  unfold dC;have s0:eQ 0 l (aQ p)=(aQ p,none):=by
   show n8 l (aQ p)=_
   unfold n8 cQ;have:(aQ p).pos=p:=rfl;rw [this,hm];rfl
  rw [cZ s0,cZ (k:=1) w1];exact f1
 have hde:¬ a0 l p=p:=by
  have hs:aB l p [48,49,50,51,52,53,54,55,56,57]=true:=by rw [ew h,rU c];exact hd
  rw [ii hs];have:=(fj l (p+1)).1;omega
 have hend:jF l p=d9 l st.pos:=by
  unfold jF gm;rw [hm];simp only [Bool.false_eq_true,if_false];rw [if_neg hde,w2]
 have hnr:=qd (by omega) hrun;unfold di pa;rw [hnr,hend];cases q with
 |some e =>
  simp only at f2;rw [f2];simp [yq]
 |none =>
  obtain ⟨g1,g2⟩:=f2;rw [g1];unfold yq;simp only [Bool.true_eq_false,if_false];cases hpart:st'.part with
  |true =>
   have:bg st' (p:Int)=(0,(p:Int),130):=by unfold bg;rw [hpart];simp
   rw [this];simp
  |false =>
   obtain rfl:=g2 hpart;have hnb:ei st'.minus=9223372036854775807:=by rw [w4];rfl
   obtain ⟨D,hD⟩:∃ D,a8 ((l.drop p).take (st'.pos-p))=D:=⟨_,rfl⟩
   rw [hD] at w5 ⊢;rcases w5 with ⟨o1,o2⟩ | ⟨o1,o2,o3⟩
   ·have h1:bg st' (p:Int)=(0,(p:Int),130):=by unfold bg;rw [o1];simp
    have h2:dP false D=none:=by unfold dP;rw [if_neg (by simp),if_neg (by omega)]
    rw [h1,h2];simp
   ·by_cases hf:D<=9223372036854775807
    ·have h1:bg st' (p:Int)=((st'.size:Int),(st'.pos:Int),0):=by
      unfold bg;rw [hpart,o1,hnb,w4,decide_eq_false (by omega)];simp
     have h2:dP false D=some (D:Int):=by unfold dP;rw [if_neg (by simp),if_pos hf]
     rw [h1,h2];simp [o2]
    ·have h1:bg st' (p:Int)=(0,(p:Int),130):=by
      unfold bg;rw [hpart,o1,hnb,decide_eq_true (by omega)];simp
     have h2:dP false D=none:=by unfold dP;rw [if_neg (by simp),if_neg hf]
     rw [h1,h2];simp
end
end Go.Proofs.YtgmnmnnoahdjnaaGreatDoor
