import Derived.Test.YtgmnmnnoahdjnaaGreatDoorB11
import Derived.Test.YtgmnmnnoahdjnaaGreatDoorB10
set_option maxRecDepth 100000
set_option maxHeartbeats 16000000
set_option linter.unusedVariables false
set_option linter.unusedSimpArgs false
namespace Go.Proofs.YtgmnmnnoahdjnaaGreatDoor
section
open Go.RowKit
attribute [local go_sem] aa ac ae ab
abbrev nJ:=Sum (Int × List UInt8 × Int × Nat) (Int × Int)
def fl (r:nJ) (p:Nat) (w:World) (g:Nat) (A:Option Addr) (cap:Nat) (l:List UInt8) (e:Ending) (w':World):Prop :=
 match r with
 | .inl (k,t,n,m)=>e=.returned (sW k p ⟨t.toArray⟩ n)∧aO w g A cap l m 0 w'
 | .inr (q,er)=>e=.returned gD∧aO w g A cap l q er w'
def cU (c:UInt8):Bool:=aM c || aR c
def fg (l:List UInt8) (p:Nat):nJ :=
 let t:=(l.drop p).takeWhile cU
 if d9 t then .inl (2,t,0,p+t.length) else if cV ⟨t.toArray⟩ then .inl (1,t,0,p+t.length) else .inr (p,320)
theorem oc {l:List UInt8} {p:Nat} {c:UInt8} (h:l[p]? = some c) (hb:cU c=true):(l.drop p).takeWhile cU=c::(l.drop (p+1)).takeWhile cU:=by
 obtain ⟨hlt,e⟩:=List.getElem?_eq_some_iff.1 h;rw [List.drop_eq_getElem_cons hlt,e,List.takeWhile_cons,hb];rfl
theorem vL {l:List UInt8} {p:Nat} {c:UInt8} (h:l[p]? = some c) (hb:cU c=false):(l.drop p).takeWhile cU=[]:=by
 obtain ⟨hlt,e⟩:=List.getElem?_eq_some_iff.1 h;rw [List.drop_eq_getElem_cons hlt,e,List.takeWhile_cons,hb];rfl
theorem xu {l:List UInt8} {p:Nat} (h:l.length≤p):(l.drop p).takeWhile cU=[]:=by rw [List.drop_eq_nil_of_le h];rfl
theorem nt {l:List UInt8} {p k:Nat} {c:UInt8} (h:(l.drop p).takeWhile cU=(l.drop p).take (k-p)++(l.drop k).takeWhile cU) (hc:l[k]? = some c)
  (hs:(l.drop k).takeWhile cU=c::(l.drop (k+1)).takeWhile cU) (hpk:p≤k):(l.drop p).takeWhile cU=(l.drop p).take (k+1-p)++(l.drop (k+1)).takeWhile cU:=by
 rw [h,hs,show k+1-p=(k-p)+1 from by omega,List.take_add_one,List.getElem?_drop,show p+(k-p)=k from by omega,hc];simp
theorem rh {a b d:Int} {s:ByteArray}:∀ (i:Nat) (c:Int),(#[Value.int .i64 a,.int .i64 b,.string s,.int .i64 d]:Array Value)[i]? = some (Value.int .u8 c)→False:=by
 intro i c h
 match i with
 | 0 | 1 | 2 | 3=>simp at h
 | i+4=>simp at h
theorem Blk.put4 {W:World} {k:Nat} {t:TypeId} {z0 z1 z2 z3:Value} (hb:Blk W k t #[z0,z1,z2,z3]) (a b s d:Value) :
  Blk ((((W.setCell ⟨k,0,none⟩ a).setCell ⟨k,1,none⟩ b).setCell ⟨k,2,none⟩ s).setCell ⟨k,3,none⟩ d) k t #[a,b,s,d]:=by
 have:=(((hb.set_ 0 a).set_ 1 b).set_ 2 s).set_ 3 d;simpa using this
theorem aO.put4 {w w':World} {g:Nat} {A:Option Addr} {cap:Nat} {l:List UInt8} {p why:Int} (h:aO w g A cap l p why w') {k:Nat} {t:TypeId} {a b d:Int} {s:ByteArray} (hb:Blk w' k t #[.int .i64 a,.int .i64 b,.string s,.int .i64 d]) (hk:w.heap.size≤k) (hg:g<w.heap.size)
  (a' b':Value) (s' d':Value):aO w g A cap l p why ((((w'.setCell ⟨k,0,none⟩ a').setCell ⟨k,1,none⟩ b').setCell ⟨k,2,none⟩ s').setCell ⟨k,3,none⟩ d'):=by
 have hne:=h.1.2.ne_blk hb rh;have hgk:g≠k:=by omega
 refine ⟨⟨(((h.1.1.far (p:=⟨k,0,none⟩) hgk a').far (p:=⟨k,1,none⟩) hgk b').far (p:=⟨k,2,none⟩) hgk s').far (p:=⟨k,3,none⟩) hgk d',?_⟩,dw (dw (dw (dw h.2 _ _ hk) _ _ hk) _ _ hk) _ _ hk⟩;exact (((h.1.2.setCell hne 0 a').setCell hne 1 b').setCell hne 2 s').setCell hne 3 d'
theorem oA {w:World} {b o:Nat} {l:List UInt8} {p n:Nat} (h:Rd w (some ⟨b,o,none⟩) (al l)):Rd w (some ⟨b,o+p,none⟩) (al ((l.drop p).take n)):=by
 have h1:=(h.drop p).take n;have e:((some (⟨b,o,none⟩:Addr)).map fun a=>a.add p)=some ⟨b,o+p,none⟩:=by simp [Addr.add]
 rw [e] at h1;simpa [al,List.map_drop,List.map_take] using h1
theorem jF {w:World} {b o cap p k:Nat} {l:List UInt8} (hpk:p≤k) (hk:k≤l.length) (hcap:l.length≤cap) (h:Rd w (some ⟨b,o+p,none⟩) (al ((l.drop p).take (k-p)))) :
  (convert 67 9 (.slice (some ⟨b,o+p,none⟩) (k-p) (cap-p))).run Tryz.prog w=.ok (.string ⟨((l.drop p).take (k-p)).toArray⟩) w:=by
 have e:((l.drop p).take (k-p)).length=k-p:=by simp;omega
 have h1:BS w (.slice (some ⟨b,o+p,none⟩) (k-p) (cap-p)) ((l.drop p).take (k-p)):=⟨_,_,by rw [e],by omega,h⟩
 exact h1.conv
theorem uk (w:World) (g:Nat) (A:Option Addr) (cap:Nat) (l:List UInt8) (p:Nat) (hV:VB w g A cap l p 0) (hp:p<l.length) (hcap:l.length≤cap) (hlen:l.length≤4194304) :
  Calls Tryz.prog 128 #[.pointer (some ⟨g,0,none⟩)] w (fl (fg l p) p w g A cap l):=by
 obtain ⟨hc,hf,hlt⟩:=hV.1.rules;have hpc:p<cap:=by omega
 have HV:=aW hV;clear hV;unfold cA at hc;go_enter Tryz.func128,Tryz.ntmps128;go_wp2;go_loopg [] (l.length-p) (fun gk wr => ∃ k:Nat,p≤k∧k≤l.length∧gk=l.length-k∧(l.drop p).takeWhile cU=(l.drop p).take (k-p)++(l.drop k).takeWhile cU∧aO w g A cap l k 0 wr∧Blk wr w.heap.size 86 #[.int .i64 0,.int .i64 0,.string ⟨#[]⟩,.int .i64 0])
 case atStart=>exact ⟨p,Nat.le_refl _,Nat.le_of_lt hp,rfl,by simp,(aO.refl HV.out).alloc _,Blk.new _ _ _⟩
 case round =>
  obtain ⟨k,hpk,hk,hgk,hs,hst,hbt⟩:=hrel;clear hc hf hlt;obtain ⟨hc,hf,hlt⟩:=hst.1.1.rules;unfold cA at hc;have HS:=aW hs;have HG:=aW hgk;clear hs hgk;by_cases hkl:k<l.length
  ·obtain ⟨c,hcc⟩:∃ c,l[k]? = some c:=⟨_,List.getElem?_eq_getElem hkl⟩
   obtain ⟨b,o,rfl,hb,hx⟩:=hst.1.byte hcc;obtain ⟨b1,hb1⟩:∃ b,aM c=b:=⟨_,rfl⟩
   obtain ⟨b2,hb2⟩:∃ b,aR c=b:=⟨_,rfl⟩
   have hl:=fun w=>ja c.toNat w
   have hg:=fun w=>jR c.toNat w
   rw [show decide (97≤c.toNat∧c.toNat≤122)=b1 from hb1] at hl;rw [show decide (48≤c.toNat∧c.toNat≤57)=b2 from hb2] at hg;have HL:=aW hl;have HD:=aW hg;have HB:=aW (show cU c=(b1 || b2) by rw [cU,hb1,hb2]);have HC:=aW hcc;clear hl hg hb1 hb2 hcc;cases b1
   ·cases b2
    ·have HE:=aW (show (l.drop p).takeWhile cU=(l.drop p).take (k-p) by rw [HS.out,vL HC.out HB.out,List.append_nil]);go_wp2;go_quiet (first | (go_at_call 122;refine Calls.quiet_of_same ((HL.out _).mono fun e w' h=>⟨h.1,h.2.symm⟩)) | (go_at_call 123;refine Calls.quiet_of_same ((HD.out _).mono fun e w' h=>⟨h.1,h.2.symm⟩)));go_wp2;have hq:∀ w',Rd w' (some ⟨b,o+p,none⟩) (al ((l.drop p).take (k-p)))→(convert 67 9 (.slice (some ⟨b,o+p,none⟩) (k-p) (cap-p))).run Tryz.prog w'=.ok (.string ⟨((l.drop p).take (k-p)).toArray⟩) w':=fun w' h=>jF hpk hk hcap h
     have hka:∀ (w':World) (o':Obj),Rd w' (some ⟨b,o+p,none⟩) (al ((l.drop p).take (k-p)))→Rd (w'.alloc o') (some ⟨b,o+p,none⟩) (al ((l.drop p).take (k-p))):=fun w' o' h=>h.alloc o'
     have hs0:Rd wr (some ⟨b,o+p,none⟩) (al ((l.drop p).take (k-p))):=oA hst.1.2;obtain ⟨RQ,hRQ⟩:∃ RQ:World→Prop,RQ=fun w'=>Rd w' (some ⟨b,o+p,none⟩) (al ((l.drop p).take (k-p))):=⟨_,rfl⟩
     have hq':∀ w',RQ w'→(convert 67 9 (.slice (some ⟨b,o+p,none⟩) (k-p) (cap-p))).run Tryz.prog w'=.ok (.string ⟨((l.drop p).take (k-p)).toArray⟩) w':=by rw [hRQ];exact hq
     have hka':∀ (w':World) (o':Obj),RQ w'→RQ (w'.alloc o'):=by rw [hRQ];exact hka
     have hkd':∀ (w':World),RQ w'→RQ w'.drew:=by rw [hRQ];exact fun w' h=>h
     have hs1:∀ j,RQ (wr.drewN j):=by rw [hRQ];exact fun j=>hs0.drewN j
     clear hq hka hs0;have HRQ:=aW hRQ;clear hRQ;obtain ⟨wq,hwq⟩:∃ wq,wr.drewN nq=wq:=⟨_,rfl⟩
     have hc0:wq.cell? ⟨g,0,none⟩=some (.int .i64 (k:Int)):=by rw [← hwq];exact hc 0
     have hc2:wq.cell? ⟨g,2,none⟩=some (.slice (some ⟨b,o,none⟩) l.length cap):=by rw [← hwq];exact hc 2
     have hlq:g<wq.heap.size:=by rw [← hwq];exact hlt
     have hkc:k≤cap:=by omega
     have hpc':¬ cap=p:=by omega
     have hs2:RQ wq:=by rw [← hwq];exact hs1 nq
     rw [hwq];go_region_held3 (fun w'=>w'.cell? ⟨g,0,none⟩=some (.int .i64 (k:Int))∧w'.cell? ⟨g,2,none⟩=some (.slice (some ⟨b,o,none⟩) l.length cap)∧RQ w') (go_keep) ((fail))
     all_goals
      obtain ⟨Wx,hWx⟩:∃ Wx,(wq.alloc (.cells #[.int .i64 1,.int .i64 p,.string ⟨((l.drop p).take (k-p)).toArray⟩,.int .i64 0] 86)).drew=Wx:=⟨_,rfl⟩
      have hT:Blk Wx wq.heap.size 86 #[.int .i64 1,.int .i64 p,.string ⟨((l.drop p).take (k-p)).toArray⟩,.int .i64 0]:=by rw [← hWx];exact Blk.new wq _ _
      have hR:Blk Wx w.heap.size 86 #[.int .i64 0,.int .i64 0,.string ⟨#[]⟩,.int .i64 0]:=by rw [← hWx,← hwq];exact (hbt.drewN nq).alloc _
      have hst2:aO w g (some ⟨b,o,none⟩) cap l k 0 Wx:=by rw [← hWx,← hwq];exact ((hst.drewN nq).alloc _).drewN 1
      have hn0:w.heap.size<wq.heap.size:=by rw [← hwq];exact hbt.lt
      rw [hWx];obtain ⟨N,hN⟩:∃ N,wq.heap.size=N:=⟨_,rfl⟩
      rw [hN] at hT hn0 ⊢;clear hWx hN hc0 hc2 hlq hs2 hs1 hq' hka' hkd' hwq hx hb hc hf hlt hst hbt;obtain ⟨t,ht⟩:∃ t,(l.drop p).take (k-p)=t:=⟨_,rfl⟩
      have htl:k=p+t.length:=by rw [← ht];simp;omega
      rw [ht] at hT;have hE2:=HE.out;rw [ht] at hE2;have HE2:=aW hE2;have HTL:=aW htl;clear hE2 ht htl;have hspec:fg l p=if d9 t then .inl (2,t,0,p+t.length) else if cV ⟨t.toArray⟩ then .inl (1,t,0,p+t.length) else .inr (p,320):=by
       unfold fg;rw [HE2.out]
      have HSP:=aW hspec;obtain ⟨b1,hb1⟩:∃ b,d9 t=b:=⟨_,rfl⟩
      obtain ⟨b2,hb2⟩:∃ b,cV ⟨t.toArray⟩=b:=⟨_,rfl⟩
      have hw1:=fun w=>kR ⟨t.toArray⟩ w
      rw [ii,hb1] at hw1;have hw2:=fun w=>gN ⟨t.toArray⟩ w
      rw [hb2] at hw2;have HW1:=aW hw1;have HW2:=aW hw2;rw [hb1,hb2] at hspec;have HSQ:=aW hspec;clear hspec hb1 hb2 hw1 hw2;obtain ⟨ct,ft,lt⟩:=hT.rules;obtain ⟨cr,fr,lr⟩:=hR.rules;have hgw:g<w.heap.size:=HV.out.1.lt;cases b1
      ·cases b2
       ·go_wp2_with (first | (go_at_call 124;refine (HW1.out _).mono ?_;rintro e w1 ⟨rfl,hb1⟩;have hT1:=hT.keep hb1;have hR1:=hR.keep hb1;have hst3:=hst2.keep hb1;obtain ⟨ct1,ft1,lt1⟩:=hT1.rules;obtain ⟨cr1,fr1,lr1⟩:=hR1.rules) | (go_at_call 81;refine (HW2.out _).mono ?_;rintro e w2 ⟨rfl,hb2⟩;have hT2:=hT1.keep hb2;have hR2:=hR1.keep hb2;have hst4:=hst3.keep hb2;obtain ⟨ct2,ft2,lt2⟩:=hT2.rules;obtain ⟨cr2,fr2,lr2⟩:=hR2.rules) | (go_at_call 167;refine (fU _ g _ cap l _ _ _ _ hst4.1).mono ?_;rintro e w3 ⟨rfl,hst5⟩;have hR3:=hR2.grown hst5.2 (by have:=HV.out.1.lt;simp;omega);obtain ⟨cr3,fr3,lr3⟩:=hR3.rules;unfold gD));obtain ⟨cf,_,_⟩:=(Blk.put4 hR3 (.int .i64 0) (.int .i64 0) (.string ⟨#[]⟩) (.int .i64 0)).rules;refine bodyPost_ret (v:=.agg #[(.int .i64 0),(.int .i64 0),(.string ⟨#[]⟩),(.int .i64 0)]) (by simp only [results,Tryz.results128];go_simp) rfl ?_;rw [HSQ.out];exact ⟨rfl,(hst4.trans hst5).put4 hR3 (Nat.le_refl _) hgw _ _ _ _⟩
       ·go_wp2_with (first | (go_at_call 124;refine (HW1.out _).mono ?_;rintro e w1 ⟨rfl,hb1⟩;have hT1:=hT.keep hb1;have hR1:=hR.keep hb1;have hst3:=hst2.keep hb1;obtain ⟨ct1,ft1,lt1⟩:=hT1.rules;obtain ⟨cr1,fr1,lr1⟩:=hR1.rules) | (go_at_call 81;refine (HW2.out _).mono ?_;rintro e w2 ⟨rfl,hb2⟩;have hT2:=hT1.keep hb2;have hR2:=hR1.keep hb2;have hst4:=hst3.keep hb2;obtain ⟨ct2,ft2,lt2⟩:=hT2.rules;obtain ⟨cr2,fr2,lr2⟩:=hR2.rules));obtain ⟨cf,_,_⟩:=(Blk.put4 hR2 (.int .i64 1) (.int .i64 p) (.string ⟨t.toArray⟩) (.int .i64 0)).rules;refine bodyPost_ret (v:=.agg #[(.int .i64 1),(.int .i64 p),(.string ⟨t.toArray⟩),(.int .i64 0)]) (by simp only [results,Tryz.results128];go_simp) rfl ?_;rw [HSQ.out];exact ⟨rfl,by have:=hst4.put4 hR2 (Nat.le_refl _) hgw (.int .i64 1) (.int .i64 p) (.string ⟨t.toArray⟩) (.int .i64 0);rw [HTL.out] at this;exact this⟩
      ·go_wp2_with (go_at_call 124;refine (HW1.out _).mono ?_;rintro e w1 ⟨rfl,hb1⟩;have hT1:=hT.keep hb1;have hR1:=hR.keep hb1;have hst3:=hst2.keep hb1;obtain ⟨ct1,ft1,lt1⟩:=hT1.rules;obtain ⟨cr1,fr1,lr1⟩:=hR1.rules);obtain ⟨cf,_,_⟩:=(Blk.put4 (hR1.far (p:=⟨N,0,none⟩) (show w.heap.size≠N by omega) (.int .i64 2)) (.int .i64 2) (.int .i64 p) (.string ⟨t.toArray⟩) (.int .i64 0)).rules;refine bodyPost_ret (v:=.agg #[(.int .i64 2),(.int .i64 p),(.string ⟨t.toArray⟩),(.int .i64 0)]) (by simp only [results,Tryz.results128];go_simp) rfl ?_;rw [HSQ.out];exact ⟨rfl,by have:=(hst3.new hT1 rh (Nat.le_of_lt hn0) hgw 0 (.int .i64 2)).put4 (hR1.far (p:=⟨N,0,none⟩) (by simp;omega) _) (Nat.le_refl _) hgw (.int .i64 2) (.int .i64 p) (.string ⟨t.toArray⟩) (.int .i64 0);rw [HTL.out] at this;exact this⟩
    ·have HSt:=aW (oc HC.out (HB.out));go_wp2;go_quiet (first | (go_at_call 122;refine Calls.quiet_of_same ((HL.out _).mono fun e w' h=>⟨h.1,h.2.symm⟩)) | (go_at_call 123;refine Calls.quiet_of_same ((HD.out _).mono fun e w' h=>⟨h.1,h.2.symm⟩)));go_wp2;go_roundg (l.length-(k+1))
     case measure=>rw [HG.out];omega
     case rel=>exact ⟨k+1,by omega,hkl,rfl,nt HS.out HC.out HSt.out hpk,(hst.drewN _).set0 _,hbt.far (p:=⟨g,0,none⟩) (by have:=HV.out.1.lt;simp;omega) _⟩
   ·skip
    ·have HSt:=aW (oc HC.out (HB.out));go_wp2;go_quiet (first | (go_at_call 122;refine Calls.quiet_of_same ((HL.out _).mono fun e w' h=>⟨h.1,h.2.symm⟩)) | (go_at_call 123;refine Calls.quiet_of_same ((HD.out _).mono fun e w' h=>⟨h.1,h.2.symm⟩)));go_wp2;go_roundg (l.length-(k+1))
     case measure=>rw [HG.out];omega
     case rel=>exact ⟨k+1,by omega,hkl,rfl,nt HS.out HC.out HSt.out hpk,(hst.drewN _).set0 _,hbt.far (p:=⟨g,0,none⟩) (by have:=HV.out.1.lt;simp;omega) _⟩
  ·obtain rfl:k=l.length:=by omega
   obtain ⟨c,hcc⟩:∃ c,l[p]? = some c:=⟨_,List.getElem?_eq_getElem hp⟩
   obtain ⟨b,o,rfl,hb,hx⟩:=hst.1.byte hcc;have HE:=aW (show (l.drop p).takeWhile cU=(l.drop p).take (l.length-p) by rw [HS.out,xu (Nat.le_refl _),List.append_nil]);clear hcc hkl;go_wp2;go_quiet (fail);go_wp2;have hq:∀ w',Rd w' (some ⟨b,o+p,none⟩) (al ((l.drop p).take (l.length-p)))→(convert 67 9 (.slice (some ⟨b,o+p,none⟩) (l.length-p) (cap-p))).run Tryz.prog w'=.ok (.string ⟨((l.drop p).take (l.length-p)).toArray⟩) w':=fun w' h=>jF hpk hk hcap h
   have hka:∀ (w':World) (o':Obj),Rd w' (some ⟨b,o+p,none⟩) (al ((l.drop p).take (l.length-p)))→Rd (w'.alloc o') (some ⟨b,o+p,none⟩) (al ((l.drop p).take (l.length-p))):=fun w' o' h=>h.alloc o'
   have hs0:Rd wr (some ⟨b,o+p,none⟩) (al ((l.drop p).take (l.length-p))):=oA hst.1.2;obtain ⟨RQ,hRQ⟩:∃ RQ:World→Prop,RQ=fun w'=>Rd w' (some ⟨b,o+p,none⟩) (al ((l.drop p).take (l.length-p))):=⟨_,rfl⟩
   have hq':∀ w',RQ w'→(convert 67 9 (.slice (some ⟨b,o+p,none⟩) (l.length-p) (cap-p))).run Tryz.prog w'=.ok (.string ⟨((l.drop p).take (l.length-p)).toArray⟩) w':=by rw [hRQ];exact hq
   have hka':∀ (w':World) (o':Obj),RQ w'→RQ (w'.alloc o'):=by rw [hRQ];exact hka
   have hkd':∀ (w':World),RQ w'→RQ w'.drew:=by rw [hRQ];exact fun w' h=>h
   have hs1:∀ j,RQ (wr.drewN j):=by rw [hRQ];exact fun j=>hs0.drewN j
   clear hq hka hs0;have HRQ:=aW hRQ;clear hRQ;obtain ⟨wq,hwq⟩:∃ wq,wr.drewN nq=wq:=⟨_,rfl⟩
   have hc0:wq.cell? ⟨g,0,none⟩=some (.int .i64 (l.length:Int)):=by rw [← hwq];exact hc 0
   have hc2:wq.cell? ⟨g,2,none⟩=some (.slice (some ⟨b,o,none⟩) l.length cap):=by rw [← hwq];exact hc 2
   have hlq:g<wq.heap.size:=by rw [← hwq];exact hlt
   have hkc:l.length≤cap:=by omega
   have hpc':¬ cap=p:=by omega
   have hs2:RQ wq:=by rw [← hwq];exact hs1 nq
   rw [hwq];go_region_held3 (fun w'=>w'.cell? ⟨g,0,none⟩=some (.int .i64 (l.length:Int))∧w'.cell? ⟨g,2,none⟩=some (.slice (some ⟨b,o,none⟩) l.length cap)∧RQ w') (go_keep) ((fail))
   all_goals
    obtain ⟨Wx,hWx⟩:∃ Wx,(wq.alloc (.cells #[.int .i64 1,.int .i64 p,.string ⟨((l.drop p).take (l.length-p)).toArray⟩,.int .i64 0] 86)).drew=Wx:=⟨_,rfl⟩
    have hT:Blk Wx wq.heap.size 86 #[.int .i64 1,.int .i64 p,.string ⟨((l.drop p).take (l.length-p)).toArray⟩,.int .i64 0]:=by rw [← hWx];exact Blk.new wq _ _
    have hR:Blk Wx w.heap.size 86 #[.int .i64 0,.int .i64 0,.string ⟨#[]⟩,.int .i64 0]:=by rw [← hWx,← hwq];exact (hbt.drewN nq).alloc _
    have hst2:aO w g (some ⟨b,o,none⟩) cap l l.length 0 Wx:=by rw [← hWx,← hwq];exact ((hst.drewN nq).alloc _).drewN 1
    have hn0:w.heap.size<wq.heap.size:=by rw [← hwq];exact hbt.lt
    rw [hWx];obtain ⟨N,hN⟩:∃ N,wq.heap.size=N:=⟨_,rfl⟩
    rw [hN] at hT hn0 ⊢;clear hWx hN hc0 hc2 hlq hs2 hs1 hq' hka' hkd' hwq hx hb hc hf hlt hst hbt;obtain ⟨t,ht⟩:∃ t,(l.drop p).take (l.length-p)=t:=⟨_,rfl⟩
    have htl:l.length=p+t.length:=by rw [← ht];simp;omega
    rw [ht] at hT;have hE2:=HE.out;rw [ht] at hE2;have HE2:=aW hE2;have HTL:=aW htl;clear hE2 ht htl;have hspec:fg l p=if d9 t then .inl (2,t,0,p+t.length) else if cV ⟨t.toArray⟩ then .inl (1,t,0,p+t.length) else .inr (p,320):=by
     unfold fg;rw [HE2.out]
    have HSP:=aW hspec;obtain ⟨b1,hb1⟩:∃ b,d9 t=b:=⟨_,rfl⟩
    obtain ⟨b2,hb2⟩:∃ b,cV ⟨t.toArray⟩=b:=⟨_,rfl⟩
    have hw1:=fun w=>kR ⟨t.toArray⟩ w
    rw [ii,hb1] at hw1;have hw2:=fun w=>gN ⟨t.toArray⟩ w
    rw [hb2] at hw2;have HW1:=aW hw1;have HW2:=aW hw2;rw [hb1,hb2] at hspec;have HSQ:=aW hspec;clear hspec hb1 hb2 hw1 hw2;obtain ⟨ct,ft,lt⟩:=hT.rules;obtain ⟨cr,fr,lr⟩:=hR.rules;have hgw:g<w.heap.size:=HV.out.1.lt;cases b1
    ·cases b2
     ·go_wp2_with (first | (go_at_call 124;refine (HW1.out _).mono ?_;rintro e w1 ⟨rfl,hb1⟩;have hT1:=hT.keep hb1;have hR1:=hR.keep hb1;have hst3:=hst2.keep hb1;obtain ⟨ct1,ft1,lt1⟩:=hT1.rules;obtain ⟨cr1,fr1,lr1⟩:=hR1.rules) | (go_at_call 81;refine (HW2.out _).mono ?_;rintro e w2 ⟨rfl,hb2⟩;have hT2:=hT1.keep hb2;have hR2:=hR1.keep hb2;have hst4:=hst3.keep hb2;obtain ⟨ct2,ft2,lt2⟩:=hT2.rules;obtain ⟨cr2,fr2,lr2⟩:=hR2.rules) | (go_at_call 167;refine (fU _ g _ cap l _ _ _ _ hst4.1).mono ?_;rintro e w3 ⟨rfl,hst5⟩;have hR3:=hR2.grown hst5.2 (by have:=HV.out.1.lt;simp;omega);obtain ⟨cr3,fr3,lr3⟩:=hR3.rules;unfold gD));obtain ⟨cf,_,_⟩:=(Blk.put4 hR3 (.int .i64 0) (.int .i64 0) (.string ⟨#[]⟩) (.int .i64 0)).rules;refine bodyPost_ret (v:=.agg #[(.int .i64 0),(.int .i64 0),(.string ⟨#[]⟩),(.int .i64 0)]) (by simp only [results,Tryz.results128];go_simp) rfl ?_;rw [HSQ.out];exact ⟨rfl,(hst4.trans hst5).put4 hR3 (Nat.le_refl _) hgw _ _ _ _⟩
     ·go_wp2_with (first | (go_at_call 124;refine (HW1.out _).mono ?_;rintro e w1 ⟨rfl,hb1⟩;have hT1:=hT.keep hb1;have hR1:=hR.keep hb1;have hst3:=hst2.keep hb1;obtain ⟨ct1,ft1,lt1⟩:=hT1.rules;obtain ⟨cr1,fr1,lr1⟩:=hR1.rules) | (go_at_call 81;refine (HW2.out _).mono ?_;rintro e w2 ⟨rfl,hb2⟩;have hT2:=hT1.keep hb2;have hR2:=hR1.keep hb2;have hst4:=hst3.keep hb2;obtain ⟨ct2,ft2,lt2⟩:=hT2.rules;obtain ⟨cr2,fr2,lr2⟩:=hR2.rules));obtain ⟨cf,_,_⟩:=(Blk.put4 hR2 (.int .i64 1) (.int .i64 p) (.string ⟨t.toArray⟩) (.int .i64 0)).rules;refine bodyPost_ret (v:=.agg #[(.int .i64 1),(.int .i64 p),(.string ⟨t.toArray⟩),(.int .i64 0)]) (by simp only [results,Tryz.results128];go_simp) rfl ?_;rw [HSQ.out];exact ⟨rfl,by have:=hst4.put4 hR2 (Nat.le_refl _) hgw (.int .i64 1) (.int .i64 p) (.string ⟨t.toArray⟩) (.int .i64 0);rw [HTL.out] at this;exact this⟩
    ·go_wp2_with (go_at_call 124;refine (HW1.out _).mono ?_;rintro e w1 ⟨rfl,hb1⟩;have hT1:=hT.keep hb1;have hR1:=hR.keep hb1;have hst3:=hst2.keep hb1;obtain ⟨ct1,ft1,lt1⟩:=hT1.rules;obtain ⟨cr1,fr1,lr1⟩:=hR1.rules);obtain ⟨cf,_,_⟩:=(Blk.put4 (hR1.far (p:=⟨N,0,none⟩) (show w.heap.size≠N by omega) (.int .i64 2)) (.int .i64 2) (.int .i64 p) (.string ⟨t.toArray⟩) (.int .i64 0)).rules;refine bodyPost_ret (v:=.agg #[(.int .i64 2),(.int .i64 p),(.string ⟨t.toArray⟩),(.int .i64 0)]) (by simp only [results,Tryz.results128];go_simp) rfl ?_;rw [HSQ.out];exact ⟨rfl,by have:=(hst3.new hT1 rh (Nat.le_of_lt hn0) hgw 0 (.int .i64 2)).put4 (hR1.far (p:=⟨N,0,none⟩) (by simp;omega) _) (Nat.le_refl _) hgw (.int .i64 2) (.int .i64 p) (.string ⟨t.toArray⟩) (.int .i64 0);rw [HTL.out] at this;exact this⟩
def dE (l:List UInt8) (p:Nat):nJ :=
 let r:=bJ l p
 if r.2.2=0 then .inl (3,(l.drop p).take (r.2.1.toNat-p),r.1,r.2.1.toNat) else .inr (r.2.1,r.2.2)
def gH (l:List UInt8) (p:Nat):nJ :=
 let r:=cc l p
 if r.2.2=0 then .inl (4,r.1,0,r.2.1.toNat) else .inr (r.2.1,r.2.2)
theorem uU (w:World) (g:Nat) (A:Option Addr) (cap:Nat) (l:List UInt8) (p:Nat) (hG:GOK w) (hV:VB w g A cap l p 0) (hp:p<l.length) (hcap:l.length≤cap) (hlen:l.length≤4194304) :
  Calls Tryz.prog 131 #[.pointer (some ⟨g,0,none⟩)] w (fl (gH l p) p w g A cap l):=by
 obtain ⟨hc,hf,hlt⟩:=hV.1.rules;have hgw:g<w.heap.size:=hV.1.lt;have HV:=aW hV;have HG:=aW hG;have hbs:=fun W (hr:Rd W A (al l)) hg=>sL (.slice A l.length cap) l p W hg ⟨A,cap,rfl,hcap,hr⟩ hlen
 obtain ⟨⟨t,m,er⟩,hr⟩:∃ r,cc l p=r:=⟨_,rfl⟩
 rw [hr] at hbs;have HO:=aW (show er=0→∃ n:Nat,m=n∧p<n∧n≤l.length from fun h=>by have:=pJ (l:=l) (a:=p);rw [hr] at this;exact this h);have HS:=aW (show gH l p=if er=0 then .inl (4,t,0,m.toNat) else .inr (m,er) by unfold gH;rw [hr]);have HQ:=aW hbs;clear hV hG hbs hr;unfold cA at hc;have HQ1:=aW (HQ.out ((w.alloc (.cells #[.int .i64 0,.int .i64 0,.string ⟨#[]⟩,.int .i64 0] 86)).drew) (HV.out.2.alloc _) ((HG.out.alloc _).drewN 1));have hst0:aO w g A cap l p 0 ((w.alloc (.cells #[.int .i64 0,.int .i64 0,.string ⟨#[]⟩,.int .i64 0] 86)).drew):=((aO.refl HV.out).alloc _).drewN 1;have hr0:Blk (w.alloc (.cells #[.int .i64 0,.int .i64 0,.string ⟨#[]⟩,.int .i64 0] 86)) w.heap.size 86 #[.int .i64 0,.int .i64 0,.string ⟨#[]⟩,.int .i64 0]:=Blk.new _ _ _;go_enter Tryz.func131,Tryz.ntmps131;go_wp2;go_region_held3 (fun w'=>w'.cell? ⟨g,0,none⟩=some (.int .i64 (p:Int))∧w'.cell? ⟨g,2,none⟩=some (.slice A l.length cap)) (go_keep) ((go_at_call 169;refine HQ1.out.mono ?_;rintro e w1 ⟨rfl,hb1⟩;have hst1:=hst0.keep hb1;have hR1:=(hr0.drew).keep hb1;have h10:=hst1.1.1.cell 0;have h12:=hst1.1.1.cell 2;unfold cA at h10 h12;simp at h10 h12));have hn:=hR1.lt;have hg1:=hst1.1.1.lt;have hf1:=hst1.1.1.frozen;have hfr:=hR1.frozen;have hcr:=hR1.cell;by_cases her:er=0
 ·obtain ⟨n,hn1,hn2,hn3⟩:=HO.out her;subst her;subst hn1;have hz:((0:Int) != 0)=false:=rfl;go_wp2;have hR2:=hR1.far (p:=⟨g,0,none⟩) (show w.heap.size≠g by omega) (.int .i64 n);obtain ⟨cf,_,_⟩:=((Blk.put4 hR2 (.int .i64 4) (.int .i64 p) (.string ⟨t.toArray⟩) (.int .i64 0)).alloc (.cells #[.int .i64 4,.int .i64 p,.string ⟨t.toArray⟩,.int .i64 0] 86)).rules;refine bodyPost_ret (v:=.agg #[.int .i64 4,.int .i64 p,.string ⟨t.toArray⟩,.int .i64 0]) (by simp only [results,Tryz.results131];go_simp) rfl ?_;rw [HS.out,if_pos trivial,Int.toNat_natCast];exact ⟨rfl,((hst1.set0 n).put4 hR2 (Nat.le_refl _) hgw _ _ _ _).alloc _⟩
 ·have hz:(er != 0)=true:=by simp;omega
  go_wp2_with (go_at_call 167;refine (fU _ g _ cap l _ _ _ _ hst1.1).mono ?_;rintro e w3 ⟨rfl,hst5⟩;have hR3:=hR1.grown hst5.2 (by simp;omega);obtain ⟨cr3,fr3,lr3⟩:=hR3.rules;unfold gD);obtain ⟨cf,_,_⟩:=(Blk.put4 hR3 (.int .i64 0) (.int .i64 0) (.string ⟨#[]⟩) (.int .i64 0)).rules;refine bodyPost_ret (v:=.agg #[.int .i64 0,.int .i64 0,.string ⟨#[]⟩,.int .i64 0]) (by simp only [results,Tryz.results131];go_simp) rfl ?_;rw [HS.out,if_neg her];exact ⟨rfl,(hst1.trans hst5).put4 hR3 (Nat.le_refl _) hgw _ _ _ _⟩
theorem qO (w:World) (g:Nat) (A:Option Addr) (cap:Nat) (l:List UInt8) (p:Nat) (hV:VB w g A cap l p 0) (hp:p<l.length) (hcap:l.length≤cap) (hlen:l.length≤4194304) :
  Calls Tryz.prog 129 #[.pointer (some ⟨g,0,none⟩)] w (fl (dE l p) p w g A cap l):=by
 obtain ⟨hc,hf,hlt⟩:=hV.1.rules;have hgw:g<w.heap.size:=hV.1.lt;obtain ⟨b,o,rfl,hb,_⟩:=hV.byte (List.getElem?_eq_getElem hp);have HV:=aW hV;have hbs:=fun W (hr:Rd W (some ⟨b,o,none⟩) (al l))=>pA W (.slice (some ⟨b,o,none⟩) l.length cap) l p ⟨_,cap,rfl,hcap,hr⟩ hlen
 obtain ⟨⟨v,m,er⟩,hr⟩:∃ r,bJ l p=r:=⟨_,rfl⟩
 rw [hr] at hbs;have HO:=aW (show er=0→∃ n:Nat,m=n∧p≤n∧n≤l.length from fun h=>by have:=lN (l:=l) (a:=p);rw [hr] at this;exact this h);have HS:=aW (show dE l p=if er=0 then .inl (3,(l.drop p).take (m.toNat-p),v,m.toNat) else .inr (m,er) by unfold dE;rw [hr]);have HQ:=aW hbs;clear hV hbs hr;unfold cA at hc;have HQ1:=aW (HQ.out ((w.alloc (.cells #[.int .i64 0,.int .i64 0,.string ⟨#[]⟩,.int .i64 0] 86)).drew) (HV.out.2.alloc _));have hst0:aO w g (some ⟨b,o,none⟩) cap l p 0 ((w.alloc (.cells #[.int .i64 0,.int .i64 0,.string ⟨#[]⟩,.int .i64 0] 86)).drew):=((aO.refl HV.out).alloc _).drewN 1;have hr0:Blk (w.alloc (.cells #[.int .i64 0,.int .i64 0,.string ⟨#[]⟩,.int .i64 0] 86)) w.heap.size 86 #[.int .i64 0,.int .i64 0,.string ⟨#[]⟩,.int .i64 0]:=Blk.new _ _ _;go_enter Tryz.func129,Tryz.ntmps129;go_wp2;go_region_held3 (fun w'=>w'.cell? ⟨g,0,none⟩=some (.int .i64 (p:Int))∧w'.cell? ⟨g,2,none⟩=some (.slice (some ⟨b,o,none⟩) l.length cap)) (go_keep) ((go_at_call 168;refine HQ1.out.mono ?_;rintro e w1 ⟨rfl,hb1⟩;have hst1:=hst0.keep hb1;have hR1:=(hr0.drew).keep hb1;have h10:=hst1.1.1.cell 0;have h12:=hst1.1.1.cell 2;unfold cA at h10 h12;simp at h10 h12));have hn:=hR1.lt;have hg1:=hst1.1.1.lt;by_cases her:er=0
 ·obtain ⟨n,hn1,hn2,hn3⟩:=HO.out her;have HS2:=aW (HS.out.trans (if_pos her));have HE:=aW her;subst hn1;have hz:(er != 0)=false:=by simp [her]
  have hw1r:Rd w1 (some ⟨b,o,none⟩) (al l):=hst1.1.2;obtain ⟨RQ,hRQ⟩:∃ RQ:World→Prop,RQ=fun w'=>Rd w' (some ⟨b,o+p,none⟩) (al ((l.drop p).take (n-p))):=⟨_,rfl⟩
  have hq':∀ w',RQ w'→(convert 67 9 (.slice (some ⟨b,o+p,none⟩) (n-p) (cap-p))).run Tryz.prog w'=.ok (.string ⟨((l.drop p).take (n-p)).toArray⟩) w':=by rw [hRQ];exact fun w' h=>jF hn2 hn3 hcap h
  have hka':∀ (w':World) (o':Obj),RQ w'→RQ (w'.alloc o'):=by rw [hRQ];exact fun w' o' h=>h.alloc o'
  have hkd':∀ (w':World),RQ w'→RQ w'.drew:=by rw [hRQ];exact fun w' h=>h
  have hs2:RQ w1:=by rw [hRQ];exact oA hw1r
  have hkc:n≤cap:=by omega
  have hpc':¬ cap=p:=by omega
  clear hRQ her hst0 hr0 hw1r;go_wp2;go_region_held3 (fun w'=>w'.cell? ⟨g,0,none⟩=some (.int .i64 (p:Int))∧w'.cell? ⟨g,2,none⟩=some (.slice (some ⟨b,o,none⟩) l.length cap)∧RQ w') (go_keep) ((fail));obtain ⟨t,ht⟩:∃ t,(l.drop p).take (n-p)=t:=⟨_,rfl⟩
  rw [ht];obtain ⟨Wx,hWx⟩:∃ Wx,(w1.alloc (.cells #[.int .i64 3,.int .i64 p,.string ⟨t.toArray⟩,.int .i64 v] 86)).drew=Wx:=⟨_,rfl⟩
  have hT:Blk Wx w1.heap.size 86 #[.int .i64 3,.int .i64 p,.string ⟨t.toArray⟩,.int .i64 v]:=by rw [← hWx];exact Blk.new w1 _ _
  have hR2:Blk Wx w.heap.size 86 #[.int .i64 0,.int .i64 0,.string ⟨#[]⟩,.int .i64 0]:=by rw [← hWx];exact hR1.alloc _
  have hst2:aO w g (some ⟨b,o,none⟩) cap l p 0 Wx:=by rw [← hWx];exact (hst1.alloc _).drewN 1
  rw [hWx];obtain ⟨N,hN⟩:∃ N,w1.heap.size=N:=⟨_,rfl⟩
  rw [hN] at hT hn hg1 ⊢;have HT:=aW ht;clear hWx hN hs2 hq' hka' hkd' hR1 hst1 ht hb h10 h12;obtain ⟨ct,ft,lt⟩:=hT.rules;obtain ⟨cr,fr,lr⟩:=hR2.rules;have hgf:=hst2.1.1.frozen;have hgc:=hst2.1.1.cell;unfold cA at hgc;go_wp2;have hR3:=hR2.far (p:=⟨g,0,none⟩) (show w.heap.size≠g by omega) (.int .i64 n);obtain ⟨cf,_,_⟩:=(Blk.put4 hR3 (.int .i64 3) (.int .i64 p) (.string ⟨t.toArray⟩) (.int .i64 v)).rules;refine bodyPost_ret (v:=.agg #[.int .i64 3,.int .i64 p,.string ⟨t.toArray⟩,.int .i64 v]) (by simp only [results,Tryz.results129];go_simp) rfl ?_;rw [HS2.out,Int.toNat_natCast,HT.out];exact ⟨rfl,(hst2.set0 n).put4 hR3 (Nat.le_refl _) hgw _ _ _ _⟩
 ·have hz:(er != 0)=true:=by simp;omega
  have HS2:=aW (HS.out.trans (if_neg her));clear her hst0 hr0;go_wp2_with (go_at_call 167;refine (fU _ g _ cap l _ _ _ _ hst1.1).mono ?_;rintro e w3 ⟨rfl,hst5⟩;have hR3:=hR1.grown hst5.2 (by simp;omega);obtain ⟨cr3,fr3,lr3⟩:=hR3.rules;unfold gD);obtain ⟨cf,_,_⟩:=(Blk.put4 hR3 (.int .i64 0) (.int .i64 0) (.string ⟨#[]⟩) (.int .i64 0)).rules;refine bodyPost_ret (v:=.agg #[.int .i64 0,.int .i64 0,.string ⟨#[]⟩,.int .i64 0]) (by simp only [results,Tryz.results129];go_simp) rfl ?_;rw [HS2.out];exact ⟨rfl,(hst1.trans hst5).put4 hR3 (Nat.le_refl _) hgw _ _ _ _⟩
end
end Go.Proofs.YtgmnmnnoahdjnaaGreatDoor
