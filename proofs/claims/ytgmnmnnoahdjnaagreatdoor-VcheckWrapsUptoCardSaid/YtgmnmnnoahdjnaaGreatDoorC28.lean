import Derived.Test.YtgmnmnnoahdjnaaGreatDoorC25
open Go.Value renaming int → Zi, slice → Zs, string → Zt, pointer → Zp
open Go.IntKind renaming i64 → Zq
set_option maxRecDepth 100000
set_option maxHeartbeats 16000000
set_option linter.unusedVariables false
set_option linter.unusedSimpArgs false
namespace Go.Proofs.YtgmnmnnoahdjnaaGreatDoor
section
open Go.RowKit
attribute [local go_sem] aa ac ae ab
def nt (lvl:Int) (l:List (List UInt8 × Int × Int)):List (List UInt8 × Int):=(l.filter λ o=>decide (o.2.2=lvl)).map λ o=>(o.1,o.2.1)
theorem ww {lvl:Nat} (h:lvl<=9):nt lvl gc=eU lvl:=by
 rcases (by omega:lvl=0∨lvl=1∨lvl=2∨lvl=3∨lvl=4∨lvl=5∨lvl=6∨lvl=7∨lvl=8∨lvl=9) with rfl | rfl | rfl | rfl | rfl | rfl | rfl | rfl | rfl | rfl<;>rfl
theorem uq {T:List ak} {p:Nat} {lvl:Int} {k:Nat} {t:List UInt8} {q1 q2:Int} (h:k<11) (hx:gc.getD k fH=(t,q1,q2)) :
  ga T p (nt lvl (gc.drop k))=if q2=lvl/\al T p t=true then some q1 else ga T p (nt lvl (gc.drop (k+1))):=by
 have e:gc.drop k=(t,q1,q2)::gc.drop (k+1):=by
  have hk:k<gc.length:=h;rw [List.drop_eq_getElem_cons hk,← hx];simp [List.getD,hk]
 rw [e];unfold nt;rw [List.filter_cons];by_cases hq:q2=lvl
 ·rw [if_pos (by simpa using hq),List.map_cons,ga];by_cases hs:al T p t=true
  ·rw [if_pos hs,if_pos ⟨hq,hs⟩]
  ·rw [if_neg hs,if_neg (λ h=>hs h.2)]
 ·rw [if_neg (by simpa using hq),if_neg (λ h=>hq h.1)]
theorem wz {T:List ak} {p:Nat} {lvl:Int}:ga T p (nt lvl (gc.drop 11))=none:=rfl
theorem zX {k:Nat} {t:List UInt8} {q1 q2:Int} (h:k<11) (hx:gc.getD k fH=(t,q1,q2)):ofJ q1=(t,q1,q2):=by
 rcases (by omega:k=0∨k=1∨k=2∨k=3∨k=4∨k=5∨k=6∨k=7∨k=8∨k=9∨k=10) with rfl | rfl | rfl | rfl | rfl | rfl | rfl | rfl | rfl | rfl | rfl <;>
  (injection hx with h1 h2;injection h2 with h2 h3;subst h1 h2 h3;rfl)
def tQ (o:Option Int) (g:Nat) (A:Option Addr) (nT cap:Nat) (T:List ak) (p:Nat) (W:World) (e:Ending) (W':World):Prop:=match o with
 | none=>e=.returned (.agg #[Zt ⟨#[]⟩,Zi Zq 0,Zi Zq 0])/\Below W.heap.size W W'
 | some k=>e=.returned (.agg (cT (ofJ k)).toArray)/\VP W' g A nT cap T (p+1)/\W.grownBy W' (some g)
theorem ri {w W:World} {g:Nat} (h:w.grownBy W (some g)) {b:Nat} (hb:w.heap.size<=b) (x y z:Value):w.grownBy (((W.setCell ⟨b,0,none⟩ x).setCell ⟨b,1,none⟩ y).setCell ⟨b,2,none⟩ z) (some g) :=
 dG (dG (dG h ⟨b,0,none⟩ x hb) ⟨b,1,none⟩ y hb) ⟨b,2,none⟩ z hb
theorem Blk.far3 {w:World} {g b:Nat} {t:TypeId} {cs:Array Value} (h:Blk w g t cs) (hb:g≠b) (x y z:Value):Blk (((w.setCell ⟨b,0,none⟩ x).setCell ⟨b,1,none⟩ y).setCell ⟨b,2,none⟩ z) g t cs :=
 ((h.far (p:=⟨b,0,none⟩) hb x).far (p:=⟨b,1,none⟩) hb y).far (p:=⟨b,2,none⟩) hb z
theorem xq (lvl:Nat) (q:Int) (w:World) (g:Nat) (A:Option Addr) (nT cap:Nat) (T:List ak) (p:Nat) (hV:VP w g A nT cap T p) (hp:p<nT) (hn:nT<=1000) (hq:q=lvl) (hl:lvl<=9) :
  Calls Tryz.prog 197 #[Zp (some ⟨g,0,none⟩),Zi Zq q] w (tQ (dx T lvl p) g A nT cap T p w):=by
 obtain ⟨r,hr⟩:∃ r,dx T lvl p=r:=⟨_,rfl⟩
 have HR:=aW (show ga T p (nt q (gc.drop 0))=r by rw [← hr,hq];show ga T p (nt lvl gc)=_;rw [ww hl];rfl);rw [hr];have HV:=aW hV;have HH0:=aW ((aT.nil w).push 154 #[Zt ⟨#[]⟩,Zi Zq 0,Zi Zq 0] (g:=w.heap.size) rfl);have hgw:g<w.heap.size:=hV.blk.lt;have hq9:q<=9/\0<=q:=by omega
 have HTN:=aW (λ (s:List UInt8) W (h:Below w.heap.size w W) (hs:al T p s=false)=>fp s W g A nT cap T p (hV.keep h) hp hn hs);have HTY:=aW (λ (s:List UInt8) W (h:Below w.heap.size w W) (hs:al T p s=true)=>fq s W g A nT cap T p (hV.keep h) hp hn hs);clear hV hr hq hl hp hn;go_enter Tryz.func197,Tryz.ntmps197;go_wp2_with fail;refine (lZ _).mono ?_;rintro e w1 ⟨rfl,hb1⟩;have HH1:=aW (HH0.out.keep hb1);clear hb1 HH0;go_wp2;go_loopw [6,8] (λ _ i wr => ∃ k:Nat,k<=11/\i=Zi Zq k/\Hid (aT [(w.heap.size,154,#[Zt ⟨#[]⟩,Zi Zq 0,Zi Zq 0])] w wr)/\Hid (ga T p (nt q (gc.drop k))=r)) (λ _ i _=>11-(intOf i).toNat)
 case atStart=>exact ⟨0,by omega,rfl,HH1,HR⟩
 case round =>
  obtain ⟨k,hk,rfl,HH,HN⟩:=hrel;by_cases h11:k<11
  ·have hix:=λ W=>wG k h11 W
   obtain ⟨⟨t,q1,q2⟩,hx⟩:∃ x,gc.getD k fH=x:=⟨_,rfl⟩
   rw [hx] at hix;unfold cT at hix;simp only at hix;have HST:=aW (uq (T:=T) (p:=p) (lvl:=q) h11 hx);have HAT:=aW (zX h11 hx);clear hx;have HH2:=aW (HH.out.push 154 #[Zt ⟨t.toArray⟩,Zi Zq q1,Zi Zq q2] (g:=wr.heap.size) rfl);by_cases hqq:q2=q
   ·have hqe:(q2 == q)=true:=by simp [hqq]
    by_cases hs:al T p t=true
    ·have HRR:=aW (show r=some q1 by rw [← HN.out,HST.out,if_pos ⟨hqq,hs⟩]);have HTA:=aW (HTY.out t _ HH2.out.1 hs);clear hqq hs;go_wp2_with (go_at_call 139;refine HTA.out.mono ?_;rintro e w3 ⟨rfl,hv3,hg3⟩;have hne:some wr.heap.size≠some g:=(by have:=HH.out.1.size;simp;omega);have hne0:some w.heap.size≠some g:=(by simp;omega);obtain ⟨c1,f1,l1⟩:=(HH2.out.b0.grown hg3 hne).rules;obtain ⟨c2,f2,l2⟩:=(HH2.out.b1.grown hg3 hne0).rules;have HV3:=aW hv3;have HG3:=aW hg3;clear hv3 hg3);refine bodyPost_ret (v:=.agg #[Zt ⟨t.toArray⟩,Zi Zq q1,Zi Zq q2]) (by simp only [results,Tryz.results197];go_simp) rfl ?_;rw [HRR.out];have hg9:=af (aD HH2.out.1 (some g)) HG3.out;refine ⟨by rw [HAT.out];rfl,HV.out.step (ri hg9 (Nat.le_refl _) _ _ _) (Blk.far3 HV3.out.blk (by omega) _ _ _),ri hg9 (Nat.le_refl _) _ _ _⟩
    ·have hs':al T p t=false:=by simpa using hs
     have HRR:=aW (show ga T p (nt q (gc.drop (k+1)))=r by rw [← HN.out,HST.out,if_neg (λ h=>hs h.2)]);have HTA:=aW (HTN.out t _ HH2.out.1 hs');clear hqq hs hs';go_wp2_with (go_at_call 139;refine HTA.out.mono ?_;rintro e w3 ⟨rfl,hb3⟩;have HH3:=aW (HH2.out.keep hb3);clear hb3);go_roundw
     case rel=>exact ⟨k+1,by omega,by go_num,aW HH3.out.pop,HRR⟩
     case measure=>simp [intOf];omega
   ·have hqe:(q2 == q)=false:=by simp [hqq]
    have HRR:=aW (show ga T p (nt q (gc.drop (k+1)))=r by rw [← HN.out,HST.out,if_neg (λ h=>hqq h.1)]);clear hqq;go_wp2;go_roundw
    case rel=>exact ⟨k+1,by omega,by go_num,aW HH2.out.pop,HRR⟩
    case measure=>simp [intOf];omega
  ·obtain rfl:k=11:=by omega
   have HRR:=aW (show r=none by rw [← HN.out,wz]);have hg:=HV.out.goe.keep HH.out.1;have hg0:=hg.c0;have hg1:=hg.c1;have hg2:=hg.c2;clear hg;obtain ⟨c0,f0,l0⟩:=HH.out.b0.rules;go_wp2;refine bodyPost_ret (v:=.agg #[Zt ⟨#[]⟩,Zi Zq 0,Zi Zq 0]) (by simp only [results,Tryz.results197];go_simp) rfl ?_;rw [HRR.out];exact ⟨rfl,kP HH.out.1 (Nat.le_refl _) _ _ _⟩
end
end Go.Proofs.YtgmnmnnoahdjnaaGreatDoor
