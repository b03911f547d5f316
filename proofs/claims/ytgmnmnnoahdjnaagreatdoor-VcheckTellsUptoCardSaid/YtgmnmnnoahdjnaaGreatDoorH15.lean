import Derived.Test.YtgmnmnnoahdjnaaGreatDoorH12
open Go.Value renaming int → Zi, slice → Zs, string → Zt, pointer → Zp
open Go.IntKind renaming i64 → Zq
set_option maxRecDepth 100000
set_option maxHeartbeats 16000000
set_option linter.unusedVariables false
set_option linter.unusedSimpArgs false
namespace Go.Proofs.YtgmnmnnoahdjnaaGreatDoor
section
open Go.RowKit
attribute [local go_sem] ab ae af ac
abbrev mo:=Sum (Int × List UInt8 × Int × Nat) (Int × Int)
def ex (r:mo) (p:Nat) (w:World) (g:Nat) (A:Option Addr) (cap:Nat) (l:List UInt8) (e:Ending) (w':World):Prop :=
 match r with
 | .inl (k,t,n,m)=>e=.returned (rz k p ⟨t.toArray⟩ n)/\aJ w g A cap l m 0 w'
 | .inr (q,er)=>e=.returned fA/\aJ w g A cap l q er w'
def dS (c:UInt8):Bool:=bi c || cD c
def fl (l:List UInt8) (p:Nat):mo :=
 let t:=(l.drop p).takeWhile dS
 if dp t then .inl (2,t,0,p+t.length) else if bm ⟨t.toArray⟩ then .inl (1,t,0,p+t.length) else .inr (p,320)
theorem mH {l:List UInt8} {p:Nat} {c:UInt8} (h:l[p]? = some c) (hb:dS c=true):(l.drop p).takeWhile dS=c::(l.drop (p+1)).takeWhile dS:=by
 obtain ⟨hlt,e⟩:=List.getElem?_eq_some_iff.1 h;rw [List.drop_eq_getElem_cons hlt,e,List.takeWhile_cons,hb];rfl
theorem uK {l:List UInt8} {p:Nat} {c:UInt8} (h:l[p]? = some c) (hb:dS c=false):(l.drop p).takeWhile dS=[]:=by
 obtain ⟨hlt,e⟩:=List.getElem?_eq_some_iff.1 h;rw [List.drop_eq_getElem_cons hlt,e,List.takeWhile_cons,hb];rfl
theorem ww {l:List UInt8} {p:Nat} (h:l.length<=p):(l.drop p).takeWhile dS=[]:=by rw [List.drop_eq_nil_of_le h];rfl
theorem lZ {l:List UInt8} {p k:Nat} {c:UInt8} (h:(l.drop p).takeWhile dS=(l.drop p).take (k-p)++(l.drop k).takeWhile dS) (hc:l[k]? = some c)
  (hs:(l.drop k).takeWhile dS=c::(l.drop (k+1)).takeWhile dS) (hpk:p<=k):(l.drop p).takeWhile dS=(l.drop p).take (k+1-p)++(l.drop (k+1)).takeWhile dS:=by
 rw [h,hs,show k+1-p=(k-p)+1 from by omega,List.take_add_one,List.getElem?_drop,show p+(k-p)=k from by omega,hc];simp
theorem pQ {a b d:Int} {s:ByteArray}:∀ (i:Nat) (c:Int),(#[Value.int .i64 a,Zi Zq b,Zt s,Zi Zq d]:Array Value)[i]? = some (Value.int .u8 c)->False:=by
 intro i c h
 match i with
 | 0 | 1 | 2 | 3=>simp at h
 | i+4=>simp at h
theorem Blk.put4 {W:World} {k:Nat} {t:TypeId} {z0 z1 z2 z3:Value} (hb:Blk W k t #[z0,z1,z2,z3]) (a b s d:Value) :
  Blk ((((W.setCell ⟨k,0,none⟩ a).setCell ⟨k,1,none⟩ b).setCell ⟨k,2,none⟩ s).setCell ⟨k,3,none⟩ d) k t #[a,b,s,d]:=by
 have:=(((hb.set_ 0 a).set_ 1 b).set_ 2 s).set_ 3 d;simpa using this
theorem aJ.put4 {w w':World} {g:Nat} {A:Option Addr} {cap:Nat} {l:List UInt8} {p why:Int} (h:aJ w g A cap l p why w') {k:Nat} {t:TypeId} {a b d:Int} {s:ByteArray} (hb:Blk w' k t #[Zi Zq a,Zi Zq b,Zt s,Zi Zq d]) (hk:w.heap.size<=k) (hg:g<w.heap.size)
  (a' b':Value) (s' d':Value):aJ w g A cap l p why ((((w'.setCell ⟨k,0,none⟩ a').setCell ⟨k,1,none⟩ b').setCell ⟨k,2,none⟩ s').setCell ⟨k,3,none⟩ d'):=by
 have hne:=h.1.2.ne_blk hb pQ;have hgk:g≠k:=by omega
 refine ⟨⟨(((h.1.1.far (p:=⟨k,0,none⟩) hgk a').far (p:=⟨k,1,none⟩) hgk b').far (p:=⟨k,2,none⟩) hgk s').far (p:=⟨k,3,none⟩) hgk d',?_⟩,cR (cR (cR (cR h.2 _ _ hk) _ _ hk) _ _ hk) _ _ hk⟩;exact (((h.1.2.setCell hne 0 a').setCell hne 1 b').setCell hne 2 s').setCell hne 3 d'
theorem mT {w:World} {b o:Nat} {l:List UInt8} {p n:Nat} (h:Rd w (some ⟨b,o,none⟩) (aq l)):Rd w (some ⟨b,o+p,none⟩) (aq ((l.drop p).take n)):=by
 have h1:=(h.drop p).take n;have e:((some (⟨b,o,none⟩:Addr)).map λ a=>a.add p)=some ⟨b,o+p,none⟩:=by simp [Addr.add]
 rw [e] at h1;simpa [aq,List.map_drop,List.map_take] using h1
theorem iN {w:World} {b o cap p k:Nat} {l:List UInt8} (hpk:p<=k) (hk:k<=l.length) (hcap:l.length<=cap) (h:Rd w (some ⟨b,o+p,none⟩) (aq ((l.drop p).take (k-p)))) :
  (convert 67 9 (Zs (some ⟨b,o+p,none⟩) (k-p) (cap-p))).run Tryz.prog w=.ok (Zt ⟨((l.drop p).take (k-p)).toArray⟩) w:=by
 have e:((l.drop p).take (k-p)).length=k-p:=by simp;omega
 have h1:BS w (Zs (some ⟨b,o+p,none⟩) (k-p) (cap-p)) ((l.drop p).take (k-p)):=⟨_,_,by rw [e],by omega,h⟩
 exact h1.conv
theorem td (w:World) (g:Nat) (A:Option Addr) (cap:Nat) (l:List UInt8) (p:Nat) (hV:VB w g A cap l p 0) (hp:p<l.length) (hcap:l.length<=cap) (hlen:l.length<=4194304) :
  Calls Tryz.prog 128 #[Zp (some ⟨g,0,none⟩)] w (ex (fl l p) p w g A cap l):=by
 obtain ⟨hc,hf,hlt⟩:=hV.1.rules;have hpc:p<cap:=by omega
 have HV:=aW hV;clear hV;unfold bN at hc;go_enter Tryz.func128,Tryz.ntmps128;go_wp2;go_loopg [] (l.length-p) (λ gk wr => ∃ k:Nat,p<=k/\k<=l.length/\gk=l.length-k/\(l.drop p).takeWhile dS=(l.drop p).take (k-p)++(l.drop k).takeWhile dS/\aJ w g A cap l k 0 wr/\Blk wr w.heap.size 86 #[Zi Zq 0,Zi Zq 0,Zt ⟨#[]⟩,Zi Zq 0])
 case atStart=>exact ⟨p,Nat.le_refl _,Nat.le_of_lt hp,rfl,by simp,(aJ.refl HV.out).alloc _,Blk.new _ _ _⟩
 case round =>
  obtain ⟨k,hpk,hk,hgk,hs,hst,hbt⟩:=hrel;clear hc hf hlt;obtain ⟨hc,hf,hlt⟩:=hst.1.1.rules;unfold bN at hc;have HS:=aW hs;have HG:=aW hgk;clear hs hgk;by_cases hkl:k<l.length
  ·obtain ⟨c,hcc⟩:∃ c,l[k]? = some c:=⟨_,List.getElem?_eq_getElem hkl⟩
   obtain ⟨b,o,rfl,hb,hx⟩:=hst.1.byte hcc;obtain ⟨b1,hb1⟩:∃ b,bi c=b:=⟨_,rfl⟩
   obtain ⟨b2,hb2⟩:∃ b,cD c=b:=⟨_,rfl⟩
   have hl:=λ w=>gV c.toNat w
   have hg:=λ w=>iY c.toNat w
   rw [show decide (97<=c.toNat/\c.toNat<=122)=b1 from hb1] at hl;rw [show decide (48<=c.toNat/\c.toNat<=57)=b2 from hb2] at hg;have HL:=aW hl;have HD:=aW hg;have HB:=aW (show dS c=(b1 || b2) by rw [dS,hb1,hb2]);have HC:=aW hcc;clear hl hg hb1 hb2 hcc;cases b1
   ·cases b2
    ·have HE:=aW (show (l.drop p).takeWhile dS=(l.drop p).take (k-p) by rw [HS.out,uK HC.out HB.out,List.append_nil]);go_wp2;go_quiet (first | (go_at_call 122;refine Calls.quiet_of_same ((HL.out _).mono λ e w' h=>⟨h.1,h.2.symm⟩)) | (go_at_call 123;refine Calls.quiet_of_same ((HD.out _).mono λ e w' h=>⟨h.1,h.2.symm⟩)));go_wp2;have hq:∀ w',Rd w' (some ⟨b,o+p,none⟩) (aq ((l.drop p).take (k-p)))->(convert 67 9 (Zs (some ⟨b,o+p,none⟩) (k-p) (cap-p))).run Tryz.prog w'=.ok (Zt ⟨((l.drop p).take (k-p)).toArray⟩) w':=λ w' h=>iN hpk hk hcap h
     have hka:∀ (w':World) (o':Obj),Rd w' (some ⟨b,o+p,none⟩) (aq ((l.drop p).take (k-p)))->Rd (w'.alloc o') (some ⟨b,o+p,none⟩) (aq ((l.drop p).take (k-p))):=λ w' o' h=>h.alloc o'
     have hs0:Rd wr (some ⟨b,o+p,none⟩) (aq ((l.drop p).take (k-p))):=mT hst.1.2;obtain ⟨RQ,hRQ⟩:∃ RQ:World->Prop,RQ=λ w'=>Rd w' (some ⟨b,o+p,none⟩) (aq ((l.drop p).take (k-p))):=⟨_,rfl⟩
     have hq':∀ w',RQ w'->(convert 67 9 (Zs (some ⟨b,o+p,none⟩) (k-p) (cap-p))).run Tryz.prog w'=.ok (Zt ⟨((l.drop p).take (k-p)).toArray⟩) w':=by rw [hRQ];exact hq
     have hka':∀ (w':World) (o':Obj),RQ w'->RQ (w'.alloc o'):=by rw [hRQ];exact hka
     have hkd':∀ (w':World),RQ w'->RQ w'.drew:=by rw [hRQ];exact λ w' h=>h
     have hs1:∀ j,RQ (wr.drewN j):=by rw [hRQ];exact λ j=>hs0.drewN j
     clear hq hka hs0;have HRQ:=aW hRQ;clear hRQ;obtain ⟨wq,hwq⟩:∃ wq,wr.drewN nq=wq:=⟨_,rfl⟩
     have hc0:wq.cell? ⟨g,0,none⟩=some (Zi Zq (k:Int)):=by rw [← hwq];exact hc 0
     have hc2:wq.cell? ⟨g,2,none⟩=some (Zs (some ⟨b,o,none⟩) l.length cap):=by rw [← hwq];exact hc 2
     have hlq:g<wq.heap.size:=by rw [← hwq];exact hlt
     have hkc:k<=cap:=by omega
     have hpc':¬ cap=p:=by omega
     have hs2:RQ wq:=by rw [← hwq];exact hs1 nq
     rw [hwq];go_region_held3 (λ w'=>w'.cell? ⟨g,0,none⟩=some (Zi Zq (k:Int))/\w'.cell? ⟨g,2,none⟩=some (Zs (some ⟨b,o,none⟩) l.length cap)/\RQ w') (go_keep) ((fail))
     all_goals
      obtain ⟨Wx,hWx⟩:∃ Wx,(wq.alloc (.cells #[Zi Zq 1,Zi Zq p,Zt ⟨((l.drop p).take (k-p)).toArray⟩,Zi Zq 0] 86)).drew=Wx:=⟨_,rfl⟩
      have hT:Blk Wx wq.heap.size 86 #[Zi Zq 1,Zi Zq p,Zt ⟨((l.drop p).take (k-p)).toArray⟩,Zi Zq 0]:=by rw [← hWx];exact Blk.new wq _ _
      have hR:Blk Wx w.heap.size 86 #[Zi Zq 0,Zi Zq 0,Zt ⟨#[]⟩,Zi Zq 0]:=by rw [← hWx,← hwq];exact (hbt.drewN nq).alloc _
      have hst2:aJ w g (some ⟨b,o,none⟩) cap l k 0 Wx:=by rw [← hWx,← hwq];exact ((hst.drewN nq).alloc _).drewN 1
      have hn0:w.heap.size<wq.heap.size:=by rw [← hwq];exact hbt.lt
      rw [hWx];obtain ⟨N,hN⟩:∃ N,wq.heap.size=N:=⟨_,rfl⟩
      rw [hN] at hT hn0 ⊢;clear hWx hN hc0 hc2 hlq hs2 hs1 hq' hka' hkd' hwq hx hb hc hf hlt hst hbt;obtain ⟨t,ht⟩:∃ t,(l.drop p).take (k-p)=t:=⟨_,rfl⟩
      have htl:k=p+t.length:=by rw [← ht];simp;omega
      rw [ht] at hT;have hE2:=HE.out;rw [ht] at hE2;have HE2:=aW hE2;have HTL:=aW htl;clear hE2 ht htl;have hspec:fl l p=if dp t then .inl (2,t,0,p+t.length) else if bm ⟨t.toArray⟩ then .inl (1,t,0,p+t.length) else .inr (p,320):=by
       unfold fl;rw [HE2.out]
      have HSP:=aW hspec;obtain ⟨b1,hb1⟩:∃ b,dp t=b:=⟨_,rfl⟩
      obtain ⟨b2,hb2⟩:∃ b,bm ⟨t.toArray⟩=b:=⟨_,rfl⟩
      have hw1:=λ w=>jZ ⟨t.toArray⟩ w
      rw [jG,hb1] at hw1;have hw2:=λ w=>fG ⟨t.toArray⟩ w
      rw [hb2] at hw2;have HW1:=aW hw1;have HW2:=aW hw2;rw [hb1,hb2] at hspec;have HSQ:=aW hspec;clear hspec hb1 hb2 hw1 hw2;obtain ⟨ct,ft,lt⟩:=hT.rules;obtain ⟨cr,fr,lr⟩:=hR.rules;have hgw:g<w.heap.size:=HV.out.1.lt;cases b1
      ·cases b2
       ·go_wp2_with (first | (go_at_call 124;refine (HW1.out _).mono ?_;rintro e w1 ⟨rfl,hb1⟩;have hT1:=hT.keep hb1;have hR1:=hR.keep hb1;have hst3:=hst2.keep hb1;obtain ⟨ct1,ft1,lt1⟩:=hT1.rules;obtain ⟨cr1,fr1,lr1⟩:=hR1.rules) | (go_at_call 81;refine (HW2.out _).mono ?_;rintro e w2 ⟨rfl,hb2⟩;have hT2:=hT1.keep hb2;have hR2:=hR1.keep hb2;have hst4:=hst3.keep hb2;obtain ⟨ct2,ft2,lt2⟩:=hT2.rules;obtain ⟨cr2,fr2,lr2⟩:=hR2.rules) | (go_at_call 167;refine (eY _ g _ cap l _ _ _ _ hst4.1).mono ?_;rintro e w3 ⟨rfl,hst5⟩;have hR3:=hR2.grown hst5.2 (by have:=HV.out.1.lt;simp;omega);obtain ⟨cr3,fr3,lr3⟩:=hR3.rules;unfold fA));obtain ⟨cf,_,_⟩:=(Blk.put4 hR3 (Zi Zq 0) (Zi Zq 0) (Zt ⟨#[]⟩) (Zi Zq 0)).rules;refine bodyPost_ret (v:=.agg #[(Zi Zq 0),(Zi Zq 0),(Zt ⟨#[]⟩),(Zi Zq 0)]) (by simp only [results,Tryz.results128];go_simp) rfl ?_;rw [HSQ.out];exact ⟨rfl,(hst4.trans hst5).put4 hR3 (Nat.le_refl _) hgw _ _ _ _⟩
       ·go_wp2_with (first | (go_at_call 124;refine (HW1.out _).mono ?_;rintro e w1 ⟨rfl,hb1⟩;have hT1:=hT.keep hb1;have hR1:=hR.keep hb1;have hst3:=hst2.keep hb1;obtain ⟨ct1,ft1,lt1⟩:=hT1.rules;obtain ⟨cr1,fr1,lr1⟩:=hR1.rules) | (go_at_call 81;refine (HW2.out _).mono ?_;rintro e w2 ⟨rfl,hb2⟩;have hT2:=hT1.keep hb2;have hR2:=hR1.keep hb2;have hst4:=hst3.keep hb2;obtain ⟨ct2,ft2,lt2⟩:=hT2.rules;obtain ⟨cr2,fr2,lr2⟩:=hR2.rules));obtain ⟨cf,_,_⟩:=(Blk.put4 hR2 (Zi Zq 1) (Zi Zq p) (Zt ⟨t.toArray⟩) (Zi Zq 0)).rules;refine bodyPost_ret (v:=.agg #[(Zi Zq 1),(Zi Zq p),(Zt ⟨t.toArray⟩),(Zi Zq 0)]) (by simp only [results,Tryz.results128];go_simp) rfl ?_;rw [HSQ.out];exact ⟨rfl,by have:=hst4.put4 hR2 (Nat.le_refl _) hgw (Zi Zq 1) (Zi Zq p) (Zt ⟨t.toArray⟩) (Zi Zq 0);rw [HTL.out] at this;exact this⟩
      ·go_wp2_with (go_at_call 124;refine (HW1.out _).mono ?_;rintro e w1 ⟨rfl,hb1⟩;have hT1:=hT.keep hb1;have hR1:=hR.keep hb1;have hst3:=hst2.keep hb1;obtain ⟨ct1,ft1,lt1⟩:=hT1.rules;obtain ⟨cr1,fr1,lr1⟩:=hR1.rules);obtain ⟨cf,_,_⟩:=(Blk.put4 (hR1.far (p:=⟨N,0,none⟩) (show w.heap.size≠N by omega) (Zi Zq 2)) (Zi Zq 2) (Zi Zq p) (Zt ⟨t.toArray⟩) (Zi Zq 0)).rules;refine bodyPost_ret (v:=.agg #[(Zi Zq 2),(Zi Zq p),(Zt ⟨t.toArray⟩),(Zi Zq 0)]) (by simp only [results,Tryz.results128];go_simp) rfl ?_;rw [HSQ.out];exact ⟨rfl,by have:=(hst3.new hT1 pQ (Nat.le_of_lt hn0) hgw 0 (Zi Zq 2)).put4 (hR1.far (p:=⟨N,0,none⟩) (by simp;omega) _) (Nat.le_refl _) hgw (Zi Zq 2) (Zi Zq p) (Zt ⟨t.toArray⟩) (Zi Zq 0);rw [HTL.out] at this;exact this⟩
    ·have HSt:=aW (mH HC.out (HB.out));go_wp2;go_quiet (first | (go_at_call 122;refine Calls.quiet_of_same ((HL.out _).mono λ e w' h=>⟨h.1,h.2.symm⟩)) | (go_at_call 123;refine Calls.quiet_of_same ((HD.out _).mono λ e w' h=>⟨h.1,h.2.symm⟩)));go_wp2;go_roundg (l.length-(k+1))
     case measure=>rw [HG.out];omega
     case rel=>exact ⟨k+1,by omega,hkl,rfl,lZ HS.out HC.out HSt.out hpk,(hst.drewN _).set0 _,hbt.far (p:=⟨g,0,none⟩) (by have:=HV.out.1.lt;simp;omega) _⟩
   ·skip
    ·have HSt:=aW (mH HC.out (HB.out));go_wp2;go_quiet (first | (go_at_call 122;refine Calls.quiet_of_same ((HL.out _).mono λ e w' h=>⟨h.1,h.2.symm⟩)) | (go_at_call 123;refine Calls.quiet_of_same ((HD.out _).mono λ e w' h=>⟨h.1,h.2.symm⟩)));go_wp2;go_roundg (l.length-(k+1))
     case measure=>rw [HG.out];omega
     case rel=>exact ⟨k+1,by omega,hkl,rfl,lZ HS.out HC.out HSt.out hpk,(hst.drewN _).set0 _,hbt.far (p:=⟨g,0,none⟩) (by have:=HV.out.1.lt;simp;omega) _⟩
  ·obtain rfl:k=l.length:=by omega
   obtain ⟨c,hcc⟩:∃ c,l[p]? = some c:=⟨_,List.getElem?_eq_getElem hp⟩
   obtain ⟨b,o,rfl,hb,hx⟩:=hst.1.byte hcc;have HE:=aW (show (l.drop p).takeWhile dS=(l.drop p).take (l.length-p) by rw [HS.out,ww (Nat.le_refl _),List.append_nil]);clear hcc hkl;go_wp2;go_quiet (fail);go_wp2;have hq:∀ w',Rd w' (some ⟨b,o+p,none⟩) (aq ((l.drop p).take (l.length-p)))->(convert 67 9 (Zs (some ⟨b,o+p,none⟩) (l.length-p) (cap-p))).run Tryz.prog w'=.ok (Zt ⟨((l.drop p).take (l.length-p)).toArray⟩) w':=λ w' h=>iN hpk hk hcap h
   have hka:∀ (w':World) (o':Obj),Rd w' (some ⟨b,o+p,none⟩) (aq ((l.drop p).take (l.length-p)))->Rd (w'.alloc o') (some ⟨b,o+p,none⟩) (aq ((l.drop p).take (l.length-p))):=λ w' o' h=>h.alloc o'
   have hs0:Rd wr (some ⟨b,o+p,none⟩) (aq ((l.drop p).take (l.length-p))):=mT hst.1.2;obtain ⟨RQ,hRQ⟩:∃ RQ:World->Prop,RQ=λ w'=>Rd w' (some ⟨b,o+p,none⟩) (aq ((l.drop p).take (l.length-p))):=⟨_,rfl⟩
   have hq':∀ w',RQ w'->(convert 67 9 (Zs (some ⟨b,o+p,none⟩) (l.length-p) (cap-p))).run Tryz.prog w'=.ok (Zt ⟨((l.drop p).take (l.length-p)).toArray⟩) w':=by rw [hRQ];exact hq
   have hka':∀ (w':World) (o':Obj),RQ w'->RQ (w'.alloc o'):=by rw [hRQ];exact hka
   have hkd':∀ (w':World),RQ w'->RQ w'.drew:=by rw [hRQ];exact λ w' h=>h
   have hs1:∀ j,RQ (wr.drewN j):=by rw [hRQ];exact λ j=>hs0.drewN j
   clear hq hka hs0;have HRQ:=aW hRQ;clear hRQ;obtain ⟨wq,hwq⟩:∃ wq,wr.drewN nq=wq:=⟨_,rfl⟩
   have hc0:wq.cell? ⟨g,0,none⟩=some (Zi Zq (l.length:Int)):=by rw [← hwq];exact hc 0
   have hc2:wq.cell? ⟨g,2,none⟩=some (Zs (some ⟨b,o,none⟩) l.length cap):=by rw [← hwq];exact hc 2
   have hlq:g<wq.heap.size:=by rw [← hwq];exact hlt
   have hkc:l.length<=cap:=by omega
   have hpc':¬ cap=p:=by omega
   have hs2:RQ wq:=by rw [← hwq];exact hs1 nq
   rw [hwq];go_region_held3 (λ w'=>w'.cell? ⟨g,0,none⟩=some (Zi Zq (l.length:Int))/\w'.cell? ⟨g,2,none⟩=some (Zs (some ⟨b,o,none⟩) l.length cap)/\RQ w') (go_keep) ((fail))
   all_goals
    obtain ⟨Wx,hWx⟩:∃ Wx,(wq.alloc (.cells #[Zi Zq 1,Zi Zq p,Zt ⟨((l.drop p).take (l.length-p)).toArray⟩,Zi Zq 0] 86)).drew=Wx:=⟨_,rfl⟩
    have hT:Blk Wx wq.heap.size 86 #[Zi Zq 1,Zi Zq p,Zt ⟨((l.drop p).take (l.length-p)).toArray⟩,Zi Zq 0]:=by rw [← hWx];exact Blk.new wq _ _
    have hR:Blk Wx w.heap.size 86 #[Zi Zq 0,Zi Zq 0,Zt ⟨#[]⟩,Zi Zq 0]:=by rw [← hWx,← hwq];exact (hbt.drewN nq).alloc _
    have hst2:aJ w g (some ⟨b,o,none⟩) cap l l.length 0 Wx:=by rw [← hWx,← hwq];exact ((hst.drewN nq).alloc _).drewN 1
    have hn0:w.heap.size<wq.heap.size:=by rw [← hwq];exact hbt.lt
    rw [hWx];obtain ⟨N,hN⟩:∃ N,wq.heap.size=N:=⟨_,rfl⟩
    rw [hN] at hT hn0 ⊢;clear hWx hN hc0 hc2 hlq hs2 hs1 hq' hka' hkd' hwq hx hb hc hf hlt hst hbt;obtain ⟨t,ht⟩:∃ t,(l.drop p).take (l.length-p)=t:=⟨_,rfl⟩
    have htl:l.length=p+t.length:=by rw [← ht];simp;omega
    rw [ht] at hT;have hE2:=HE.out;rw [ht] at hE2;have HE2:=aW hE2;have HTL:=aW htl;clear hE2 ht htl;have hspec:fl l p=if dp t then .inl (2,t,0,p+t.length) else if bm ⟨t.toArray⟩ then .inl (1,t,0,p+t.length) else .inr (p,320):=by
     unfold fl;rw [HE2.out]
    have HSP:=aW hspec;obtain ⟨b1,hb1⟩:∃ b,dp t=b:=⟨_,rfl⟩
    obtain ⟨b2,hb2⟩:∃ b,bm ⟨t.toArray⟩=b:=⟨_,rfl⟩
    have hw1:=λ w=>jZ ⟨t.toArray⟩ w
    rw [jG,hb1] at hw1;have hw2:=λ w=>fG ⟨t.toArray⟩ w
    rw [hb2] at hw2;have HW1:=aW hw1;have HW2:=aW hw2;rw [hb1,hb2] at hspec;have HSQ:=aW hspec;clear hspec hb1 hb2 hw1 hw2;obtain ⟨ct,ft,lt⟩:=hT.rules;obtain ⟨cr,fr,lr⟩:=hR.rules;have hgw:g<w.heap.size:=HV.out.1.lt;cases b1
    ·cases b2
     ·go_wp2_with (first | (go_at_call 124;refine (HW1.out _).mono ?_;rintro e w1 ⟨rfl,hb1⟩;have hT1:=hT.keep hb1;have hR1:=hR.keep hb1;have hst3:=hst2.keep hb1;obtain ⟨ct1,ft1,lt1⟩:=hT1.rules;obtain ⟨cr1,fr1,lr1⟩:=hR1.rules) | (go_at_call 81;refine (HW2.out _).mono ?_;rintro e w2 ⟨rfl,hb2⟩;have hT2:=hT1.keep hb2;have hR2:=hR1.keep hb2;have hst4:=hst3.keep hb2;obtain ⟨ct2,ft2,lt2⟩:=hT2.rules;obtain ⟨cr2,fr2,lr2⟩:=hR2.rules) | (go_at_call 167;refine (eY _ g _ cap l _ _ _ _ hst4.1).mono ?_;rintro e w3 ⟨rfl,hst5⟩;have hR3:=hR2.grown hst5.2 (by have:=HV.out.1.lt;simp;omega);obtain ⟨cr3,fr3,lr3⟩:=hR3.rules;unfold fA));obtain ⟨cf,_,_⟩:=(Blk.put4 hR3 (Zi Zq 0) (Zi Zq 0) (Zt ⟨#[]⟩) (Zi Zq 0)).rules;refine bodyPost_ret (v:=.agg #[(Zi Zq 0),(Zi Zq 0),(Zt ⟨#[]⟩),(Zi Zq 0)]) (by simp only [results,Tryz.results128];go_simp) rfl ?_;rw [HSQ.out];exact ⟨rfl,(hst4.trans hst5).put4 hR3 (Nat.le_refl _) hgw _ _ _ _⟩
     ·go_wp2_with (first | (go_at_call 124;refine (HW1.out _).mono ?_;rintro e w1 ⟨rfl,hb1⟩;have hT1:=hT.keep hb1;have hR1:=hR.keep hb1;have hst3:=hst2.keep hb1;obtain ⟨ct1,ft1,lt1⟩:=hT1.rules;obtain ⟨cr1,fr1,lr1⟩:=hR1.rules) | (go_at_call 81;refine (HW2.out _).mono ?_;rintro e w2 ⟨rfl,hb2⟩;have hT2:=hT1.keep hb2;have hR2:=hR1.keep hb2;have hst4:=hst3.keep hb2;obtain ⟨ct2,ft2,lt2⟩:=hT2.rules;obtain ⟨cr2,fr2,lr2⟩:=hR2.rules));obtain ⟨cf,_,_⟩:=(Blk.put4 hR2 (Zi Zq 1) (Zi Zq p) (Zt ⟨t.toArray⟩) (Zi Zq 0)).rules;refine bodyPost_ret (v:=.agg #[(Zi Zq 1),(Zi Zq p),(Zt ⟨t.toArray⟩),(Zi Zq 0)]) (by simp only [results,Tryz.results128];go_simp) rfl ?_;rw [HSQ.out];exact ⟨rfl,by have:=hst4.put4 hR2 (Nat.le_refl _) hgw (Zi Zq 1) (Zi Zq p) (Zt ⟨t.toArray⟩) (Zi Zq 0);rw [HTL.out] at this;exact this⟩
    ·go_wp2_with (go_at_call 124;refine (HW1.out _).mono ?_;rintro e w1 ⟨rfl,hb1⟩;have hT1:=hT.keep hb1;have hR1:=hR.keep hb1;have hst3:=hst2.keep hb1;obtain ⟨ct1,ft1,lt1⟩:=hT1.rules;obtain ⟨cr1,fr1,lr1⟩:=hR1.rules);obtain ⟨cf,_,_⟩:=(Blk.put4 (hR1.far (p:=⟨N,0,none⟩) (show w.heap.size≠N by omega) (Zi Zq 2)) (Zi Zq 2) (Zi Zq p) (Zt ⟨t.toArray⟩) (Zi Zq 0)).rules;refine bodyPost_ret (v:=.agg #[(Zi Zq 2),(Zi Zq p),(Zt ⟨t.toArray⟩),(Zi Zq 0)]) (by simp only [results,Tryz.results128];go_simp) rfl ?_;rw [HSQ.out];exact ⟨rfl,by have:=(hst3.new hT1 pQ (Nat.le_of_lt hn0) hgw 0 (Zi Zq 2)).put4 (hR1.far (p:=⟨N,0,none⟩) (by simp;omega) _) (Nat.le_refl _) hgw (Zi Zq 2) (Zi Zq p) (Zt ⟨t.toArray⟩) (Zi Zq 0);rw [HTL.out] at this;exact this⟩
end
end Go.Proofs.YtgmnmnnoahdjnaaGreatDoor
