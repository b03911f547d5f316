import Derived.Test.YtgmnmnnoahdjnaaGreatDoorH18
import Derived.Test.YtgmnmnnoahdjnaaGreatDoorH17
import Derived.Test.YtgmnmnnoahdjnaaGreatDoorH16
open Go.Value renaming int → Zi, slice → Zs, string → Zt, pointer → Zp
open Go.IntKind renaming i64 → Zq
set_option maxRecDepth 100000
set_option maxHeartbeats 16000000
set_option linter.unusedVariables false
set_option linter.unusedSimpArgs false
namespace Go.Proofs.YtgmnmnnoahdjnaaGreatDoor
section
open Go.RowKit
theorem Blk.farC {g b:Nat} {t:TypeId} {cs:Array Value} (hb:g≠b):∀ (l:List Value) (o:Nat) {w:World},Blk w g t cs->Blk (w.setCells b o l) g t cs
 | [],_,_,h=>h
 | v::r,o,w,h=>Blk.farC hb r (o+1) (h.far hb v)
theorem aj.setC {F:Nat->Prop} {a:World} {b:Nat} (hb:∀ k,F k->k≠b):∀ (l:List Value) (o:Nat) {w:World},aj F a w->aj F a (w.setCells b o l)
 | [],_,_,h=>h
 | v::r,o,w,h=>aj.setC hb r (o+1) (h.set hb o v)
theorem Blk.there {w:World} {g:Nat} {t:TypeId} {cs:Array Value} (h:Blk w g t cs):World.there w g 0 cs.size :=
 λ j hj=>⟨by rw [Nat.zero_add,h.cell];simp [hj],h.frozen _⟩
def FO (G:Nat->Prop) (row:Value) (b:Nat):Prop:=G b/\some b≠row.ownBlock
theorem aH.grown {L:List (Nat × TypeId × Array Value)} {w0 W W':World} {r:Option Nat} (h:aH L w0 W) (hg:W.grownBy W' r) (hr:∀ k,r=some k->w0.heap.size<=k) (hL:∀ x ∈ L,some x.1≠r):aH L w0 W' :=
 ⟨h.1.grown hg h.1.size hr,λ x hx=>(h.2 x hx).grown hg (hL x hx)⟩
theorem bJ {w:World} {base:Nat} {e:TypeId} {size n:Nat} {v:Value} {xs:List Value} (h:w.ownsRow base e size v n xs):∃ A cap,v=Zs A n cap/\n<=cap/\(A=none->cap=0)/\RdF w (λ b=>base<=b) A xs:=by
 obtain ⟨A,cap,e1,h1,h2⟩:=Rd.of_own h;refine ⟨A,cap,e1,h1,?_,λ hne=>?_⟩;rotate_left
 ·obtain ⟨b,o,e2,hb,hc⟩:=h2 hne;exact ⟨b,o,e2,hb,(h.lt b (by rw [e1,e2];rfl)).1,hc⟩
 rintro rfl;rcases h.2 with ⟨e2,_⟩ | ⟨g,cap',cur,e2,_⟩
 ·rw [e1] at e2;injection e2
 ·rw [e1] at e2;injection e2 with e2;cases e2
theorem qU {w w2:World} {G:Nat->Prop} {row row2:Value} {css:List (List Value)} {kids:List EJ} (h:ERs w (FO G row) css kids) (hg:w.grownBy w2 row.ownBlock) (ho:row2.ownBlock=row.ownBlock∨row2.ownBlock=some w.heap.size) :
  ERs w2 (FO G row2) css kids:=by
 refine RR.imp h λ c x hc=>?_
 have h1:ER w (λ b=>FO G row b/\b<w.heap.size) c x:=hc.mono λ b hb hF=>⟨hF,hb⟩
 have h2:ER w2 (λ b=>FO G row b/\b<w.heap.size) c x:=h1.keep (aj.of_grown hg λ b hb=>hb.1.2);refine h2.mono λ b _ hF=>⟨hF.1.1,λ e=>?_⟩
 rcases ho with ho | ho
 ·exact hF.1.2 (by rw [e,ho])
 ·rw [ho] at e;have:b=w.heap.size:=by injection e
  omega
theorem jo {w w2:World} {G:Nat->Prop} {row row2:Value} {css:List (List Value)} {kids:List SJ} (h:SRs w (FO G row) css kids) (hg:w.grownBy w2 row.ownBlock) (ho:row2.ownBlock=row.ownBlock∨row2.ownBlock=some w.heap.size) :
  SRs w2 (FO G row2) css kids:=by
 refine RR.imp h λ c x hc=>?_
 have h1:SR w (λ b=>FO G row b/\b<w.heap.size) c x:=hc.mono λ b hb hF=>⟨hF,hb⟩
 have h2:SR w2 (λ b=>FO G row b/\b<w.heap.size) c x:=h1.keep (aj.of_grown hg λ b hb=>hb.1.2);refine h2.mono λ b _ hF=>⟨hF.1.1,λ e=>?_⟩
 rcases ho with ho | ho
 ·exact hF.1.2 (by rw [e,ho])
 ·rw [ho] at e;have:b=w.heap.size:=by injection e
  omega
theorem Blk.setSA {w:World} {g:Nat} {t:TypeId} {c0 c1 c2 c3 c4 c5 c6 c7 c8 c9 c10 c11 c12 c13 c14 c15 c16 c17 c18 c19:Value} (h:Blk w g t #[c0,c1,c2,c3,c4,c5,c6,c7,c8,c9,c10,c11,c12,c13,c14,c15,c16,c17,c18,c19]) (x0 x1 x2 x3 x4 x5 x6 x7:Value):Blk (w.setCells g 2 [x0,x1,x2,x3,x4,x5,x6,x7]) g t #[c0,c1,x0,x1,x2,x3,x4,x5,x6,x7,c10,c11,c12,c13,c14,c15,c16,c17,c18,c19]:=by
 replace h:=h.set_ 2 x0;simp only [List.setIfInBounds_toArray,List.set_cons_succ,List.set_cons_zero] at h;replace h:=h.set_ 3 x1;simp only [List.setIfInBounds_toArray,List.set_cons_succ,List.set_cons_zero] at h;replace h:=h.set_ 4 x2;simp only [List.setIfInBounds_toArray,List.set_cons_succ,List.set_cons_zero] at h;replace h:=h.set_ 5 x3;simp only [List.setIfInBounds_toArray,List.set_cons_succ,List.set_cons_zero] at h;replace h:=h.set_ 6 x4;simp only [List.setIfInBounds_toArray,List.set_cons_succ,List.set_cons_zero] at h;replace h:=h.set_ 7 x5;simp only [List.setIfInBounds_toArray,List.set_cons_succ,List.set_cons_zero] at h;replace h:=h.set_ 8 x6;simp only [List.setIfInBounds_toArray,List.set_cons_succ,List.set_cons_zero] at h;replace h:=h.set_ 9 x7;simp only [List.setIfInBounds_toArray,List.set_cons_succ,List.set_cons_zero] at h;exact h
theorem Blk.setSB {w:World} {g:Nat} {t:TypeId} {c0 c1 c2 c3 c4 c5 c6 c7 c8 c9 c10 c11 c12 c13 c14 c15 c16 c17 c18 c19:Value} (h:Blk w g t #[c0,c1,c2,c3,c4,c5,c6,c7,c8,c9,c10,c11,c12,c13,c14,c15,c16,c17,c18,c19]) (x0 x1 x2 x3 x4 x5 x6 x7:Value):Blk (w.setCells g 10 [x0,x1,x2,x3,x4,x5,x6,x7]) g t #[c0,c1,c2,c3,c4,c5,c6,c7,c8,c9,x0,x1,x2,x3,x4,x5,x6,x7,c18,c19]:=by
 replace h:=h.set_ 10 x0;simp only [List.setIfInBounds_toArray,List.set_cons_succ,List.set_cons_zero] at h;replace h:=h.set_ 11 x1;simp only [List.setIfInBounds_toArray,List.set_cons_succ,List.set_cons_zero] at h;replace h:=h.set_ 12 x2;simp only [List.setIfInBounds_toArray,List.set_cons_succ,List.set_cons_zero] at h;replace h:=h.set_ 13 x3;simp only [List.setIfInBounds_toArray,List.set_cons_succ,List.set_cons_zero] at h;replace h:=h.set_ 14 x4;simp only [List.setIfInBounds_toArray,List.set_cons_succ,List.set_cons_zero] at h;replace h:=h.set_ 15 x5;simp only [List.setIfInBounds_toArray,List.set_cons_succ,List.set_cons_zero] at h;replace h:=h.set_ 16 x6;simp only [List.setIfInBounds_toArray,List.set_cons_succ,List.set_cons_zero] at h;replace h:=h.set_ 17 x7;simp only [List.setIfInBounds_toArray,List.set_cons_succ,List.set_cons_zero] at h;exact h
theorem bA {P:Program} {md:Region.Mode} {ops:Array Oper} {Q:Exit->Act->World->Prop} {S:World->Prop} {fuel:Nat} {listed:Array Bool} {a:Act} {w:World} (h:∀ W,W=w->wpAnyH P md ops Q S fuel listed a W):wpAnyH P md ops Q S fuel listed a w:=h w rfl
section
variable {mb:Nat} {a b c:Value} {w w1 w2 W:World}
end
end
section
def eF (k:Int):Int:=if k=1∨k=2 then 0 else if k=3∨k=5∨k=6∨k=7 then 1 else if k=4 then -1 else 2
mutual
def dpR:Nat->EJ->Nat
 | room,.mk k v s kids=>if room=0 then 13 else if okX k v s kids.length=true then (match dpL (room-1) kids with | none=>0 | some m=>m+1) else 0
def dpL:Nat->List EJ->Option Nat
 | _,[]=>some 0
 | room,x::r=>if dpR room x=0 then none else match dpL room r with | none=>none | some m=>some (max (dpR room x) m)
end
def dpF (r:Nat) (l:List EJ):Nat:=l.foldl (λ m x=>if m<dpR r x then dpR r x else m) 0
theorem j8 {r:Nat}:∀ {l:List EJ} {x:EJ},x ∈ l->dpR r x=0->dpL r l=none
 |y::l,x,hx,h0=>by
  unfold dpL;rcases List.mem_cons.1 hx with rfl | hx
  ·rw [if_pos h0]
  ·split
   ·rfl
   ·rw [j8 hx h0]
theorem sm {r:Nat}:∀ (l:List EJ) (m:Nat),(∀ x ∈ l,dpR r x≠0)->∃ q,dpL r l=some q/\l.foldl (λ m x=>if m<dpR r x then dpR r x else m) m=max m q
 | [],m,_=>⟨0,by rw [dpL],by simp⟩
 |x::l,m,h=>by
  obtain ⟨q,h1,h2⟩:=sm l (if m<dpR r x then dpR r x else m) λ y hy=>h y (List.mem_cons_of_mem _ hy)
  refine ⟨max (dpR r x) q,by rw [dpL,if_neg (h x List.mem_cons_self),h1],?_⟩;rw [List.foldl_cons,h2];split<;>omega
theorem j9 {r:Nat} {l:List EJ} (h:∀ x ∈ l,dpR r x≠0):dpL r l=some (dpF r l):=by
 obtain ⟨q,h1,h2⟩:=sm l 0 h;unfold dpF;rw [h1,h2,Nat.zero_max]
theorem pa {r n:Nat}:∀ {l:List EJ} {q:Nat},dpL r l=some q->(q<n+1 ↔ ∀ x ∈ l,dpR r x<n+1)
 |[],q,h=>by
  rw [dpL] at h;obtain rfl:=Option.some.inj h;simp
 |x::l,q,h=>by
  rw [dpL] at h;split at h
  ·cases h
  ·split at h
   ·cases h
   ·rename_i m hm
    obtain rfl:=Option.some.inj h;have:=pa (n:=n) hm;simp only [List.mem_cons,forall_eq_or_imp,← this];omega
theorem uw {r:Nat}:∀ {l:List EJ} {q:Nat},dpL r l=some q->∀ x ∈ l,dpR r x≠0
 |y::l,q,h,x,hx=>by
  intro e;rw [j8 hx e] at h;cases h
theorem lE:∀ (R:Nat) (x:EJ),(dpR R x≠0/\dpR R x<R) ↔ (R≠0/\bY (R-1) x≠0)
 |0,.mk k v s kids=>by
  constructor
  ·rintro ⟨_,h⟩;omega
  ·rintro ⟨h,_⟩;exact absurd rfl h
 |1,.mk k v s kids=>by
  constructor
  ·rintro ⟨h1,h2⟩;omega
  ·rintro ⟨_,h⟩;exact absurd rfl (lD h).1
 |n+2,.mk k v s kids=>by
  have ih:=λ x=>lE (n+1) x
  constructor
  ·rintro ⟨h1,h2⟩;refine ⟨by omega,?_⟩;rw [dpR,if_neg (by omega)] at h1 h2;by_cases hk:okX k v s kids.length=true
   ·rw [if_pos hk] at h1 h2;cases hd:dpL (n+2-1) kids with
    | none=>rw [hd] at h1;exact absurd rfl h1
    |some q =>
     rw [hd] at h2;refine o4 (by omega) hk λ x hx=>?_
     have h3:q+1<n+2:=h2;have:=(ih x).1 ⟨uw hd x hx,(pa hd).1 (by omega) x hx⟩;exact this.2
   ·rw [if_neg hk] at h1;exact absurd rfl h1
  ·rintro ⟨_,h⟩;obtain ⟨_,hk,hkids⟩:=lD h;have h9:∀ x ∈ kids,dpR (n+1) x≠0/\dpR (n+1) x<n+1:=λ x hx=>(ih x).2 ⟨by omega,hkids x hx⟩
   rw [dpR,if_neg (by omega),if_pos hk,show n+2-1=n+1 by omega,j9 λ x hx=>(h9 x hx).1];refine ⟨by simp,?_⟩;have:=(pa (n:=n) (j9 λ x hx=>(h9 x hx).1)).2 λ x hx=>(h9 x hx).2
   show dpF (n+1) kids+1<n+2
   omega
theorem sj (x:EJ):(1<=dpR 13 x/\dpR 13 x<=12) ↔ iq x:=by
 have:=lE 13 x;unfold iq;constructor
 ·rintro ⟨h1,h2⟩;exact (this.1 ⟨by omega,by omega⟩).2
 ·intro h;have h9:=this.2 ⟨by omega,h⟩;omega
def okA (k:Int) (nk:Nat):Bool:=decide (1<=k/\k<=15) && (decide (eF k<0) || decide ((nk:Int)=eF k))
def okB (k:Int) (v:JV):Bool:=if k=1 then fW v else dz v
def okC (k:Int) (s:List UInt8):Bool:=if k=2∨k=3 then eH s else decide (s=[])
theorem uQ (k:Int) (v:JV) (s:List UInt8) (nk:Nat):okX k v s nk=(okA k nk && (okB k v && okC k s)):=by
 have hk:k<1∨15<k∨k=1∨k=2∨k=3∨k=4∨(5<=k/\k<=7)∨(8<=k/\k<=15):=by omega
 unfold okX okA okB okC;rcases hk with h | h | rfl | rfl | rfl | rfl | ⟨h,h'⟩ | ⟨h,h'⟩
 ·have e:decide (1<=k/\k<=15)=false:=decide_eq_false (by omega);rw [e,if_neg (by omega)];split
  ·simp
  ·rw [if_neg (by omega),if_neg (by omega),if_neg (by omega),if_neg (by omega),if_neg (by omega)];simp
 ·have e:decide (1<=k/\k<=15)=false:=decide_eq_false (by omega);rw [e,if_neg (by omega)];split
  ·simp
  ·rw [if_neg (by omega),if_neg (by omega),if_neg (by omega),if_neg (by omega),if_neg (by omega)];simp
 ·simp [eF];cases fW v<;>simp [Bool.and_comm]
 ·simp [eF];cases dz v<;>simp [Bool.and_comm]
 ·have e3:decide ((nk:Int)=1)=decide (nk=1):=by rw [decide_eq_decide];omega
  simp [eF,e3];cases dz v<;>simp [Bool.and_comm]
 ·simp [eF]
 ·have n1:¬ k=1:=by omega
  have n2:¬ k=2:=by omega
  have n3:¬ k=3:=by omega
  have n4:¬ k=4:=by omega
  have n5:5<=k/\k<=7:=by omega
  have n6:¬ (k=2∨k=3):=by omega
  have e:decide (1<=k/\k<=15)=true:=decide_eq_true (by omega);have e2:eF k=1:=by unfold eF;rw [if_neg (by omega),if_pos (by omega)]
  have e3:decide ((nk:Int)=1)=decide (nk=1):=by rw [decide_eq_decide];omega
  rw [if_neg n1,if_neg n1,if_neg n2,if_neg n3,if_neg n4,if_pos n5,if_neg n6,e,e2,e3];cases dz v<;>simp [Bool.and_comm]
 ·have n1:¬ k=1:=by omega
  have n2:¬ k=2:=by omega
  have n3:¬ k=3:=by omega
  have n4:¬ k=4:=by omega
  have n5:¬ (5<=k/\k<=7):=by omega
  have n6:¬ (k=2∨k=3):=by omega
  have n7:8<=k/\k<=15:=by omega
  have e:decide (1<=k/\k<=15)=true:=decide_eq_true (by omega);have e2:eF k=2:=by unfold eF;rw [if_neg (by omega),if_neg (by omega),if_neg (by omega)]
  have e3:decide ((nk:Int)=2)=decide (nk=2):=by rw [decide_eq_decide];omega
  rw [if_neg n1,if_neg n1,if_neg n2,if_neg n3,if_neg n4,if_neg n5,if_pos n7,if_neg n6,e,e2,e3];cases dz v<;>simp [Bool.and_comm]
end
section
open Go.RowKit
attribute [local go_sem] ab ae af ac
theorem vi (s:List UInt8):(ByteArray.toList ⟨s.toArray⟩).isEmpty=(s == []):=by
 rw [ByteArray.toList_eq];cases s<;>rfl
theorem uU (cs:List Value) (k n:Int) (s:List UInt8) (kids:List JV) (keys:List (List UInt8)) (F:Nat->Prop) (w:World) (hv:VR w F cs (.mk k n s kids keys)) (hc:cN (.mk k n s kids keys)) :
  Calls Tryz.prog 214 #[.agg cs.toArray] w (cP (bZ k n s kids.length keys) w):=by
 obtain ⟨A,B,ca,cb,css,rfl,h1,h2,h3,h4,h5,h6,h7⟩:=hv.out;obtain ⟨b1,b2,b3,b4,b5,b6,b7⟩:=hc.out;obtain ⟨sb,hsb⟩:∃ sb:ByteArray,(⟨s.toArray⟩:ByteArray)=sb:=⟨_,rfl⟩
 rw [hsb];have HSN:=aW (show sb.toList.isEmpty=(s == []) by rw [← hsb];exact vi s);have HVS:=aW (λ W=>by have h:=kK s W b3;rw [hsb] at h;exact h);clear hsb;obtain ⟨r,hr⟩:∃ r,bZ k n s kids.length keys=r:=⟨_,rfl⟩
 rw [hr];have HK:=aW (show RdF w (λ _=>True) B (ar keys) from h7.mono λ _ _ _=>trivial);have HTS:=aW b6;have HS:=aW b3;obtain ⟨ny,hny⟩:∃ ny,keys.length=ny:=⟨_,rfl⟩
 obtain ⟨nk,hnk⟩:∃ nk,kids.length=nk:=⟨_,rfl⟩
 have HNY:=aW hny;rw [hnk] at hr b4 h2 ⊢;rw [hny] at b5 h3 ⊢;have HR:=aW hr;have hyn:(keys == [])=decide (ny=0):=by rw [← hny];cases keys<;>rfl
 have HYN:=aW hyn;have HBW:=aW ((Below.refl w.heap.size w).alloc (Nat.le_refl _) (.cells #[Zi Zq k,Zi Zq n,Zt sb,Zs A nk ca,Zs B ny cb] 42));clear hv hc h1 h6 h7 hny hnk h4 h5 b1 b2 b3 b6 b7 hr hyn;go_enter Tryz.func214,Tryz.ntmps214;go_wp2;go_loopg [3] ny (λ gk s3 wr => ∃ i:Nat,i<=ny/\gk=ny-i/\s3=Zi Zq i/\Blk wr w.heap.size 42 #[Zi Zq k,Zi Zq n,Zt sb,Zs A nk ca,Zs B ny cb]/\Below w.heap.size w wr/\Hid (cA keys=cS keys i))
 case atStart=>exact ⟨0,Nat.zero_le _,rfl,rfl,Blk.new w _ _,HBW.out,aW (nU keys).symm⟩
 case round =>
  obtain ⟨i,hi,hgk,rfl,hb1,hbw,HQ⟩:=hrel;have HG:=aW hgk;clear hgk;obtain ⟨c1,f1,l1⟩:=hb1.rules;have g4:=c1 4;simp at g4;have HB1:=aW hb1;have HBW1:=aW hbw;by_cases hlt:i<ny
  ·obtain ⟨b,o,rfl,hb⟩:=lX HK.out (by rw [HNY.out];omega);obtain ⟨t,ht⟩:∃ t,keys[i]? = some t:=⟨_,List.getElem?_eq_getElem (by rw [HNY.out];exact hlt)⟩
   have HV:=aW (kK t wr.drew (HTS.out t (List.mem_of_getElem? ht)));have HC:=aW (λ W (h:Below w.heap.size w W)=>gJ (n:=0) (HK.out.keep (aj.of_below h)) ht);have x0:=HC.out wr hbw;have hTT:=aW ht;have hbad:cA keys=false->r=false:=λ h=>by
    rw [← HR.out];unfold bZ;have hne:(keys == [])=false:=by rw [HYN.out];simp;omega
    rw [h,hne];simp
   have HBAD:=aW hbad;clear ht hbad;by_cases htx:cF t=true;rotate_left
   ·have hkf:cA keys=false:=by
     rcases Nat.eq_zero_or_pos i with rfl | h0
     ·rw [HQ.out,fu hTT.out,Bool.eq_false_iff.2 htx];rfl
     ·obtain ⟨j,rfl⟩:∃ j,i=j+1:=⟨i-1,by omega⟩
      obtain ⟨u,hu⟩:∃ u,keys[j]? = some u:=⟨_,List.getElem?_eq_getElem (by rw [HNY.out];omega)⟩
      rw [HQ.out,fT hu hTT.out,Bool.eq_false_iff.2 htx];rfl
    obtain rfl:r=false:=HBAD.out hkf;rw [Bool.eq_false_iff.2 htx] at HV;have i3:(0:Int)<=(i:Int):=by omega
    have i4:(i:Int)<(ny:Int):=by omega
    clear htx hTT hkf;go_wp2;refine wp_region_held_drew (S:=λ w'=>w'.cell? ⟨w.heap.size,4,none⟩=some (Zs (some ⟨b,o,none⟩) ny cb)/\w'.cell? ⟨b,o+i,none⟩=some (Zt ⟨t.toArray⟩)) (by kernel_rfl) (by exact ⟨g4,x0⟩) (λ hHeld=>?_);refine tA 0 13 (Zp (some ⟨w.heap.size,4,none⟩)) rfl ?_;refine tA 1 14 (Zs (some ⟨b,o,none⟩) ny cb) rfl ?_;refine tA 2 15 (Zi Zq i) rfl ?_;refine tA 3 16 (Zp (some ⟨b,o+i,none⟩)) rfl ?_;refine tA 4 17 (Zt ⟨t.toArray⟩) rfl ?_;refine aV 5 18 rfl (λ K hK=>?_);go_simp;refine HV.out.mono ?_;rintro e w2 ⟨rfl,hb2⟩;have hbl2:=HB1.out.drew.keep hb2;have hbw2:=HBW1.out.drew.trans (hb2.mono HBW1.out.drew.size);have z0:=hbl2.cell 4;have z1:=HC.out w2 hbw2;simp at z0;refine hK.out _ _ (⟨z0,z1⟩) (λ hHeld2=>?_);clear hK K hHeld
    try simp only [pU]
    refine tA 6 19 (.bool true) rfl ?_;refine tA 7 20 (.bool true) rfl ?_;refine tN 8 21 undef rfl ?_;refine tN 9 22 undef rfl ?_;refine tN 10 23 undef rfl ?_;refine tN 11 24 undef rfl ?_;refine tN 12 25 undef rfl ?_;refine tN 13 26 undef rfl ?_;refine tN 14 27 undef rfl ?_;refine tN 15 28 undef rfl ?_;refine tN 16 29 undef rfl ?_;refine tN 17 30 undef rfl ?_;refine tN 18 31 undef rfl ?_;refine tN 19 32 undef rfl ?_;refine tN 20 33 undef rfl ?_;refine tN 21 34 undef rfl ?_;refine tN 22 35 undef rfl ?_;refine tN 23 36 undef rfl ?_;refine tA 24 37 (.bool true) rfl ?_;refine aX ?_;have HM2:=aW hbw2;clear hbl2 hbw2 z0 z1;go_wp2;go_ret;exact ⟨rfl,HM2.out⟩
   by_cases h0:0<i
   ·obtain ⟨j,rfl⟩:∃ j,i=j+1:=⟨i-1,by omega⟩
    obtain ⟨u,hu⟩:∃ u,keys[j]? = some u:=⟨_,List.getElem?_eq_getElem (by rw [HNY.out];omega)⟩
    have HST:=aW (fT hu hTT.out);have HD:=aW (λ W (h:Below w.heap.size w W)=>gJ (n:=0) (HK.out.keep (aj.of_below h)) hu);have x1:=HD.out wr hbw;clear hTT hu;obtain ⟨i,hij⟩:∃ i,j+1=i:=⟨_,rfl⟩
    rw [show j+2=i+1 by omega] at HST;rw [hij] at hi HG hlt HQ HST HC x0 h0 ⊢;have i1:(0:Int)<=(j:Int):=by omega
    have i2:(j:Int)<(ny:Int):=by omega
    have i3:(0:Int)<=(i:Int):=by omega
    have i4:(i:Int)<(ny:Int):=by omega
    have i5:(0:Int)<(i:Int):=by omega
    have i6:IntKind.i64.wrap ((i:Int)-1)=(i:Int)-1:=IntWalk.i64_in _ (by omega);have i8:(0:Int)<=(i:Int)-1:=by omega
    have i9:(i:Int)-1<(ny:Int):=by omega
    have i10:((i:Int)-1).toNat=j:=by omega
    have i11:¬ (i:Int)<1:=by omega
    clear hij
    ·rw [htx] at HV;obtain ⟨lb,hlb⟩:∃ c,ltB u t=c:=⟨_,rfl⟩
     have hup:Op.bytesLess u t=lb:=hlb;have HLB:=aW (And.intro htx hlb);clear htx hlb;go_wp2;refine wp_region_held_drew (S:=λ w'=>w'.cell? ⟨w.heap.size,4,none⟩=some (Zs (some ⟨b,o,none⟩) ny cb)/\w'.cell? ⟨b,o+i,none⟩=some (Zt ⟨t.toArray⟩)/\w'.cell? ⟨b,o+j,none⟩=some (Zt ⟨u.toArray⟩)) (by kernel_rfl) (by exact ⟨g4,x0,x1⟩) (λ hHeld=>?_);refine tA 0 13 (Zp (some ⟨w.heap.size,4,none⟩)) rfl ?_;refine tA 1 14 (Zs (some ⟨b,o,none⟩) ny cb) rfl ?_;refine tA 2 15 (Zi Zq i) rfl ?_;refine tA 3 16 (Zp (some ⟨b,o+i,none⟩)) rfl ?_;refine tA 4 17 (Zt ⟨t.toArray⟩) rfl ?_;refine aV 5 18 rfl (λ K hK=>?_);go_simp;refine HV.out.mono ?_;rintro e w2 ⟨rfl,hb2⟩;have hbl2:=HB1.out.drew.keep hb2;have hbw2:=HBW1.out.drew.trans (hb2.mono HBW1.out.drew.size);have z0:=hbl2.cell 4;have z1:=HC.out w2 hbw2;have z2:=HD.out w2 hbw2;simp at z0;refine hK.out _ _ (⟨z0,z1,z2⟩) (λ hHeld2=>?_);clear hK K hHeld
     try simp only [pU]
     refine tA 6 19 (.bool false) rfl ?_;refine tA 7 20 (.bool false) rfl ?_;refine tA 8 21 (Zi Zq i) rfl ?_;refine tA 9 22 (.bool true) rfl ?_;refine tA 10 23 (.bool true) rfl ?_;refine tA 11 24 (Zp (some ⟨w.heap.size,4,none⟩)) rfl ?_;refine tA 12 25 (Zs (some ⟨b,o,none⟩) ny cb) rfl ?_;refine tA 13 26 (Zi Zq i) rfl ?_;refine tA 14 27 (Zi Zq ((i:Int)-1)) rfl ?_;refine tA 15 28 (Zp (some ⟨b,o+j,none⟩)) rfl ?_;refine tA 16 29 (Zt ⟨u.toArray⟩) rfl ?_;refine tA 17 30 (Zp (some ⟨w.heap.size,4,none⟩)) rfl ?_;refine tA 18 31 (Zs (some ⟨b,o,none⟩) ny cb) rfl ?_;refine tA 19 32 (Zi Zq i) rfl ?_;refine tA 20 33 (Zp (some ⟨b,o+i,none⟩)) rfl ?_;refine tA 21 34 (Zt ⟨t.toArray⟩) rfl ?_;refine tA 22 35 (.bool (!lb)) rfl ?_;refine tA 23 36 (.bool (!lb)) rfl ?_;refine tA 24 37 (.bool (!lb)) rfl ?_;refine aX ?_;have HL2:=aW hbl2;have HM2:=aW hbw2;clear hbl2 hbw2 z0 z1 z2;cases lb
     ·obtain rfl:r=false:=HBAD.out (by rw [HQ.out,HST.out,HLB.out.1,HLB.out.2];rfl);go_wp2;go_ret;exact ⟨rfl,HM2.out⟩
     ·have HQ2:=aW (show cA keys=cS keys (i+1) by rw [HQ.out,HST.out,HLB.out.1,HLB.out.2];rfl);go_wp2;go_roundg (ny-(i+1))
      case measure=>rw [HG.out];omega
      case rel=>exact ⟨i+1,hlt,rfl,by go_num,HL2.out,HM2.out,HQ2⟩
   ·obtain rfl:i=0:=by omega
    have i4:(0:Int)<(ny:Int):=by omega
    have HST:=aW (fu hTT.out);rw [Nat.add_zero] at x0;clear hTT h0
    ·rw [htx] at HV;have HQ2:=aW (show cA keys=cS keys (0+1) by rw [HQ.out,HST.out,htx];rfl);clear htx;go_wp2;refine wp_region_held_drew (S:=λ w'=>w'.cell? ⟨w.heap.size,4,none⟩=some (Zs (some ⟨b,o,none⟩) ny cb)/\w'.cell? ⟨b,o,none⟩=some (Zt ⟨t.toArray⟩)) (by kernel_rfl) (by exact ⟨g4,x0⟩) (λ hHeld=>?_);refine tA 0 13 (Zp (some ⟨w.heap.size,4,none⟩)) rfl ?_;refine tA 1 14 (Zs (some ⟨b,o,none⟩) ny cb) rfl ?_;refine tA 2 15 (Zi Zq 0) rfl ?_;refine tA 3 16 (Zp (some ⟨b,o,none⟩)) rfl ?_;refine tA 4 17 (Zt ⟨t.toArray⟩) rfl ?_;refine aV 5 18 rfl (λ K hK=>?_);go_simp;refine HV.out.mono ?_;rintro e w2 ⟨rfl,hb2⟩;have hbl2:=HB1.out.drew.keep hb2;have hbw2:=HBW1.out.drew.trans (hb2.mono HBW1.out.drew.size);have z0:=hbl2.cell 4;have z1:=HC.out w2 hbw2;simp at z0;rw [Nat.add_zero] at z1;refine hK.out _ _ (⟨z0,z1⟩) (λ hHeld2=>?_);clear hK K hHeld
     try simp only [pU]
     refine tA 6 19 (.bool false) rfl ?_;refine tA 7 20 (.bool false) rfl ?_;refine tA 8 21 (Zi Zq 0) rfl ?_;refine tA 9 22 (.bool false) rfl ?_;refine tA 10 23 (.bool false) rfl ?_;refine tN 11 24 undef rfl ?_;refine tN 12 25 undef rfl ?_;refine tN 13 26 undef rfl ?_;refine tN 14 27 undef rfl ?_;refine tN 15 28 undef rfl ?_;refine tN 16 29 undef rfl ?_;refine tN 17 30 undef rfl ?_;refine tN 18 31 undef rfl ?_;refine tN 19 32 undef rfl ?_;refine tN 20 33 undef rfl ?_;refine tN 21 34 undef rfl ?_;refine tN 22 35 undef rfl ?_;refine tA 23 36 (.bool false) rfl ?_;refine tA 24 37 (.bool false) rfl ?_;refine aX ?_;have HL2:=aW hbl2;have HM2:=aW hbw2;clear hbl2 hbw2 z0 z1;go_wp2;go_roundg (ny-(0+1))
     case measure=>rw [HG.out];omega
     case rel=>exact ⟨0+1,hlt,rfl,by go_num,HL2.out,HM2.out,HQ2⟩
  ·obtain rfl:i=ny:=by omega
   have hko:cA keys=true:=by rw [HQ.out,← HNY.out,ku]
   have g0:=c1 0;have g1:=c1 1;have g2:=c1 2;have g3:=c1 3;simp at g0 g1 g2 g3;have hr:=HR.out;unfold bZ at hr;rw [hko,HYN.out,HNY.out] at hr;have HR2:=aW hr;have HSN2:=HSN.out;clear hr hko HQ HG HNY HYN HK HTS HS HR HSN c1;go_wp2;go_region_held3 (λ w'=>w'.cell? ⟨w.heap.size,0,none⟩=some (Zi Zq k)/\w'.cell? ⟨w.heap.size,1,none⟩=some (Zi Zq n)/\w'.cell? ⟨w.heap.size,2,none⟩=some (Zt sb)/\w'.cell? ⟨w.heap.size,3,none⟩=some (Zs A nk ca)/\w'.cell? ⟨w.heap.size,4,none⟩=some (Zs B i cb)) (go_keep) (fail)
   all_goals
    clear hlt;by_cases k1:k=1
    ·subst k1;cases q_n0:(n == 0)
     ·obtain rfl:r=false:=by rw [← HR2.out];simp [q_n0];try omega
      go_wp2;go_ret;exact ⟨rfl,HBW1.out.drew⟩
     ·cases q_s:(s == [])
      ·have p1:sb.toList.isEmpty=false:=by rw [HSN2,q_s]
       have p1b:decide (sb.toList=[])=false:=by rw [← p1];cases sb.toList<;>simp
       simp only [decide_eq_true_eq,decide_eq_false_iff_not] at p1b;obtain rfl:r=false:=by rw [← HR2.out];simp [q_n0,q_s];try omega
       go_wp2;go_ret;exact ⟨rfl,HBW1.out.drew⟩
      ·have p1:sb.toList.isEmpty=true:=by rw [HSN2,q_s]
       have p1b:decide (sb.toList=[])=true:=by rw [← p1];cases sb.toList<;>simp
       simp only [decide_eq_true_eq,decide_eq_false_iff_not] at p1b;cases q_nk:(nk == 0)
       ·have p2:((nk:Int) == 0)=false:=by simp at q_nk ⊢;omega
        obtain rfl:r=false:=by rw [← HR2.out];simp [q_n0,q_s,q_nk];try omega
        go_wp2;go_ret;exact ⟨rfl,HBW1.out.drew⟩
       ·have p2:((nk:Int) == 0)=true:=by simp at q_nk ⊢;omega
        cases q_ny:(decide (i=0))
        ·have p3:((i:Int) == 0)=false:=by simp at q_ny ⊢;omega
         obtain rfl:r=false:=by rw [← HR2.out];simp [q_n0,q_s,q_nk,q_ny];try omega
         go_wp2;go_ret;exact ⟨rfl,HBW1.out.drew⟩
        ·have p3:((i:Int) == 0)=true:=by simp at q_ny ⊢;omega
         obtain rfl:r=true:=by rw [← HR2.out];simp [q_n0,q_s,q_nk,q_ny];try omega
         go_wp2;go_ret;exact ⟨rfl,HBW1.out.drew⟩
    have m1:(k == 1)=false:=by simp [k1]
    by_cases k2:k=2
    ·subst k2;cases q_n0:(n == 0)
     ·cases q_n1:(n == 1)
      ·obtain rfl:r=false:=by rw [← HR2.out];simp [q_n0,q_n1];try omega
       go_wp2;go_ret;exact ⟨rfl,HBW1.out.drew⟩
      ·cases q_s:(s == [])
       ·have p1:sb.toList.isEmpty=false:=by rw [HSN2,q_s]
        have p1b:decide (sb.toList=[])=false:=by rw [← p1];cases sb.toList<;>simp
        simp only [decide_eq_true_eq,decide_eq_false_iff_not] at p1b;obtain rfl:r=false:=by rw [← HR2.out];simp [q_n0,q_n1,q_s];try omega
        go_wp2;go_ret;exact ⟨rfl,HBW1.out.drew⟩
       ·have p1:sb.toList.isEmpty=true:=by rw [HSN2,q_s]
        have p1b:decide (sb.toList=[])=true:=by rw [← p1];cases sb.toList<;>simp
        simp only [decide_eq_true_eq,decide_eq_false_iff_not] at p1b;cases q_nk:(nk == 0)
        ·have p2:((nk:Int) == 0)=false:=by simp at q_nk ⊢;omega
         obtain rfl:r=false:=by rw [← HR2.out];simp [q_n0,q_n1,q_s,q_nk];try omega
         go_wp2;go_ret;exact ⟨rfl,HBW1.out.drew⟩
        ·have p2:((nk:Int) == 0)=true:=by simp at q_nk ⊢;omega
         cases q_ny:(decide (i=0))
         ·have p3:((i:Int) == 0)=false:=by simp at q_ny ⊢;omega
          obtain rfl:r=false:=by rw [← HR2.out];simp [q_n0,q_n1,q_s,q_nk,q_ny];try omega
          go_wp2;go_ret;exact ⟨rfl,HBW1.out.drew⟩
         ·have p3:((i:Int) == 0)=true:=by simp at q_ny ⊢;omega
          obtain rfl:r=true:=by rw [← HR2.out];simp [q_n0,q_n1,q_s,q_nk,q_ny];try omega
          go_wp2;go_ret;exact ⟨rfl,HBW1.out.drew⟩
     ·cases q_s:(s == [])
      ·have p1:sb.toList.isEmpty=false:=by rw [HSN2,q_s]
       have p1b:decide (sb.toList=[])=false:=by rw [← p1];cases sb.toList<;>simp
       simp only [decide_eq_true_eq,decide_eq_false_iff_not] at p1b;obtain rfl:r=false:=by rw [← HR2.out];simp [q_n0,q_s];try omega
       go_wp2;go_ret;exact ⟨rfl,HBW1.out.drew⟩
      ·have p1:sb.toList.isEmpty=true:=by rw [HSN2,q_s]
       have p1b:decide (sb.toList=[])=true:=by rw [← p1];cases sb.toList<;>simp
       simp only [decide_eq_true_eq,decide_eq_false_iff_not] at p1b;cases q_nk:(nk == 0)
       ·have p2:((nk:Int) == 0)=false:=by simp at q_nk ⊢;omega
        obtain rfl:r=false:=by rw [← HR2.out];simp [q_n0,q_s,q_nk];try omega
        go_wp2;go_ret;exact ⟨rfl,HBW1.out.drew⟩
       ·have p2:((nk:Int) == 0)=true:=by simp at q_nk ⊢;omega
        cases q_ny:(decide (i=0))
        ·have p3:((i:Int) == 0)=false:=by simp at q_ny ⊢;omega
         obtain rfl:r=false:=by rw [← HR2.out];simp [q_n0,q_s,q_nk,q_ny];try omega
         go_wp2;go_ret;exact ⟨rfl,HBW1.out.drew⟩
        ·have p3:((i:Int) == 0)=true:=by simp at q_ny ⊢;omega
         obtain rfl:r=true:=by rw [← HR2.out];simp [q_n0,q_s,q_nk,q_ny];try omega
         go_wp2;go_ret;exact ⟨rfl,HBW1.out.drew⟩
    have m2:(k == 2)=false:=by simp [k2]
    by_cases k3:k=3
    ·subst k3;cases q_s:(s == [])
     ·have p1:sb.toList.isEmpty=false:=by rw [HSN2,q_s]
      have p1b:decide (sb.toList=[])=false:=by rw [← p1];cases sb.toList<;>simp
      simp only [decide_eq_true_eq,decide_eq_false_iff_not] at p1b;obtain rfl:r=false:=by rw [← HR2.out];simp [q_s];try omega
      go_wp2;go_ret;exact ⟨rfl,HBW1.out.drew⟩
     ·have p1:sb.toList.isEmpty=true:=by rw [HSN2,q_s]
      have p1b:decide (sb.toList=[])=true:=by rw [← p1];cases sb.toList<;>simp
      simp only [decide_eq_true_eq,decide_eq_false_iff_not] at p1b;cases q_nk:(nk == 0)
      ·have p2:((nk:Int) == 0)=false:=by simp at q_nk ⊢;omega
       obtain rfl:r=false:=by rw [← HR2.out];simp [q_s,q_nk];try omega
       go_wp2;go_ret;exact ⟨rfl,HBW1.out.drew⟩
      ·have p2:((nk:Int) == 0)=true:=by simp at q_nk ⊢;omega
       cases q_ny:(decide (i=0))
       ·have p3:((i:Int) == 0)=false:=by simp at q_ny ⊢;omega
        obtain rfl:r=false:=by rw [← HR2.out];simp [q_s,q_nk,q_ny];try omega
        go_wp2;go_ret;exact ⟨rfl,HBW1.out.drew⟩
       ·have p3:((i:Int) == 0)=true:=by simp at q_ny ⊢;omega
        obtain rfl:r=true:=by rw [← HR2.out];simp [q_s,q_nk,q_ny];try omega
        go_wp2;go_ret;exact ⟨rfl,HBW1.out.drew⟩
    have m3:(k == 3)=false:=by simp [k3]
    by_cases k4:k=4
    ·subst k4;cases q_n0:(n == 0)
     ·obtain rfl:r=false:=by rw [← HR2.out];simp [q_n0];try omega
      go_wp2;go_ret;exact ⟨rfl,HBW1.out.drew⟩
     ·cases q_v:cF s
      ·rw [q_v] at HVS;obtain rfl:r=false:=by rw [← HR2.out];simp [q_n0,q_v];try omega
       go_wp2_with fail;refine (HVS.out _).mono ?_;rintro e w2 ⟨rfl,hb2⟩;have HB2:=aW (HBW1.out.drew.trans (hb2.mono HBW1.out.drew.size));clear hb2;go_wp2;go_ret;exact ⟨rfl,HB2.out⟩
      ·rw [q_v] at HVS;cases q_nk:(nk == 0)
       ·have p2:((nk:Int) == 0)=false:=by simp at q_nk ⊢;omega
        obtain rfl:r=false:=by rw [← HR2.out];simp [q_n0,q_v,q_nk];try omega
        go_wp2_with fail;refine (HVS.out _).mono ?_;rintro e w2 ⟨rfl,hb2⟩;have HB2:=aW (HBW1.out.drew.trans (hb2.mono HBW1.out.drew.size));clear hb2;go_wp2;go_ret;exact ⟨rfl,HB2.out⟩
       ·have p2:((nk:Int) == 0)=true:=by simp at q_nk ⊢;omega
        cases q_ny:(decide (i=0))
        ·have p3:((i:Int) == 0)=false:=by simp at q_ny ⊢;omega
         obtain rfl:r=false:=by rw [← HR2.out];simp [q_n0,q_v,q_nk,q_ny];try omega
         go_wp2_with fail;refine (HVS.out _).mono ?_;rintro e w2 ⟨rfl,hb2⟩;have HB2:=aW (HBW1.out.drew.trans (hb2.mono HBW1.out.drew.size));clear hb2;go_wp2;go_ret;exact ⟨rfl,HB2.out⟩
        ·have p3:((i:Int) == 0)=true:=by simp at q_ny ⊢;omega
         obtain rfl:r=true:=by rw [← HR2.out];simp [q_n0,q_v,q_nk,q_ny];try omega
         go_wp2_with fail;refine (HVS.out _).mono ?_;rintro e w2 ⟨rfl,hb2⟩;have HB2:=aW (HBW1.out.drew.trans (hb2.mono HBW1.out.drew.size));clear hb2;go_wp2;go_ret;exact ⟨rfl,HB2.out⟩
    have m4:(k == 4)=false:=by simp [k4]
    by_cases k5:k=5
    ·subst k5;cases q_n0:(n == 0)
     ·obtain rfl:r=false:=by rw [← HR2.out];simp [q_n0];try omega
      go_wp2;go_ret;exact ⟨rfl,HBW1.out.drew⟩
     ·cases q_s:(s == [])
      ·have p1:sb.toList.isEmpty=false:=by rw [HSN2,q_s]
       have p1b:decide (sb.toList=[])=false:=by rw [← p1];cases sb.toList<;>simp
       simp only [decide_eq_true_eq,decide_eq_false_iff_not] at p1b;obtain rfl:r=false:=by rw [← HR2.out];simp [q_n0,q_s];try omega
       go_wp2;go_ret;exact ⟨rfl,HBW1.out.drew⟩
      ·have p1:sb.toList.isEmpty=true:=by rw [HSN2,q_s]
       have p1b:decide (sb.toList=[])=true:=by rw [← p1];cases sb.toList<;>simp
       simp only [decide_eq_true_eq,decide_eq_false_iff_not] at p1b;cases q_ny:(decide (i=0))
       ·have p3:((i:Int) == 0)=false:=by simp at q_ny ⊢;omega
        obtain rfl:r=false:=by rw [← HR2.out];simp [q_n0,q_s,q_ny];try omega
        go_wp2;go_ret;exact ⟨rfl,HBW1.out.drew⟩
       ·have p3:((i:Int) == 0)=true:=by simp at q_ny ⊢;omega
        obtain rfl:r=true:=by rw [← HR2.out];simp [q_n0,q_s,q_ny];try omega
        go_wp2;go_ret;exact ⟨rfl,HBW1.out.drew⟩
    have m5:(k == 5)=false:=by simp [k5]
    by_cases k6:k=6
    ·subst k6;cases q_n0:(n == 0)
     ·obtain rfl:r=false:=by rw [← HR2.out];simp [q_n0];try omega
      go_wp2;go_ret;exact ⟨rfl,HBW1.out.drew⟩
     ·cases q_s:(s == [])
      ·have p1:sb.toList.isEmpty=false:=by rw [HSN2,q_s]
       have p1b:decide (sb.toList=[])=false:=by rw [← p1];cases sb.toList<;>simp
       simp only [decide_eq_true_eq,decide_eq_false_iff_not] at p1b;obtain rfl:r=false:=by rw [← HR2.out];simp [q_n0,q_s];try omega
       go_wp2;go_ret;exact ⟨rfl,HBW1.out.drew⟩
      ·have p1:sb.toList.isEmpty=true:=by rw [HSN2,q_s]
       have p1b:decide (sb.toList=[])=true:=by rw [← p1];cases sb.toList<;>simp
       simp only [decide_eq_true_eq,decide_eq_false_iff_not] at p1b;cases q_nkny:(decide (nk=i))
       ·have p4:((nk:Int) == (i:Int))=false:=by simp at q_nkny ⊢;omega
        have p5:=of_decide_eq_false q_nkny;obtain rfl:r=false:=by rw [← HR2.out];simp [q_n0,q_s,q_nkny];try omega
        go_wp2;go_ret;exact ⟨rfl,HBW1.out.drew⟩
       ·have p4:((nk:Int) == (i:Int))=true:=by simp at q_nkny ⊢;omega
        have p5:=of_decide_eq_true q_nkny;obtain rfl:r=true:=by rw [← HR2.out];simp [q_n0,q_s,q_nkny];try omega
        go_wp2;go_ret;exact ⟨rfl,HBW1.out.drew⟩
    have m6:(k == 6)=false:=by simp [k6]
    obtain rfl:r=false:=by rw [← HR2.out];simp [k1,k2,k3,k4,k5,k6];try omega
    go_wp2;go_ret;exact ⟨rfl,HBW1.out.drew⟩
theorem pi {W:World} {F:Nat->Prop} {css:List (List Value)} {xs:List JV} {A:Option Addr} (h:VRs W F css xs) (hr:RdF W F A css.flatten) {i:Nat} {x:JV} (hx:xs[i]? = some x) :
  ∃ (b o:Nat) (k n:Int) (s:ByteArray) (A':Option Addr) (na ca:Nat) (B':Option Addr) (nb cb:Nat),A=some ⟨b,o,none⟩/\b<W.heap.size/\VR W F [Zi Zq k,Zi Zq n,Zt s,Zs A' na ca,Zs B' nb cb] x /\
   ∀ W',Below W.heap.size W W'->W'.cell? ⟨b,o+i*5,none⟩=some (Zi Zq k)/\W'.cell? ⟨b,o+i*5+1,none⟩=some (Zi Zq n)/\W'.cell? ⟨b,o+i*5+2,none⟩=some (Zt s)/\W'.cell? ⟨b,o+i*5+3,none⟩=some (Zs A' na ca)/\W'.cell? ⟨b,o+i*5+4,none⟩=some (Zs B' nb cb):=by
 obtain ⟨b,o,c,rfl,hb,_,hv,hc⟩:=h.cell hr hx;obtain ⟨k,n,s,A',na,ca,B',nb,cb,rfl⟩:=hv.form;refine ⟨b,o,k,n,s,A',na,ca,B',nb,cb,rfl,hb,hv,λ W' hW=>?_⟩;have z:=λ (j:Nat) u (hj:j<5) hu=>(hW.cell (p:=⟨b,o+(i*5+j),none⟩) hb).trans (hc j u hj hu)
 exact ⟨z 0 _ (by decide) rfl,z 1 _ (by decide) rfl,z 2 _ (by decide) rfl,z 3 _ (by decide) rfl,z 4 _ (by decide) rfl⟩
def bH (d most:Nat) (v:JV):Nat:=if dR d v=true/\aN v<=most then aN v else 0
theorem oR {d most:Nat} {k n:Int} {s:List UInt8} {kids:List JV} {keys:List (List UInt8)} (h:bZ k n s kids.length keys=false):bH d most (.mk k n s kids keys)=0:=by
 unfold bH;rw [if_neg];rintro ⟨h1,_⟩;rw [(gy h1).1] at h;cases h
theorem m8 {most:Nat} {k n:Int} {s:List UInt8} {kids:List JV} {keys:List (List UInt8)} (h:5<=k):bH 0 most (.mk k n s kids keys)=0:=by
 unfold bH;rw [if_neg];rintro ⟨h1,_⟩;exact (gy h1).2.1 h rfl
theorem oS {d most i:Nat} {k n:Int} {s:List UInt8} {kids:List JV} {keys:List (List UInt8)} {x:JV} (hx:kids[i]? = some x) (h:bH (d-1) (most-(1+aP (kids.take i))) x=0):bH d most (.mk k n s kids keys)=0:=by
 unfold bH;rw [if_neg];rintro ⟨h1,h2⟩;obtain ⟨_,_,h3⟩:=gy h1;obtain ⟨hn1,hn2⟩:=jj hx;unfold aN at h2;have hp:=dK x;unfold bH at h;rw [if_pos ⟨jd.1 h3 x (List.mem_of_getElem? hx),by omega⟩] at h;omega
theorem nc {d m:Nat} {x:JV} {r:Nat} (h:bH d m x=r) (hr:r≠0):dR d x=true/\aN x=r/\r<=m:=by
 unfold bH at h;split at h
 ·rename_i hh;exact ⟨hh.1,h,by omega⟩
 ·exact absurd h.symm hr
theorem oQ {d most:Nat} {k n:Int} {s:List UInt8} {kids:List JV} {keys:List (List UInt8)} (ha:bZ k n s kids.length keys=true) (hd:5<=k->d≠0) (hk:∀ x ∈ kids,dR (d-1) x=true) (hm:1+aP kids<=most):bH d most (.mk k n s kids keys)=1+aP kids:=by
 unfold bH;have:dR d (.mk k n s kids keys)=true:=by
  unfold dR;rw [ha,decide_eq_true hd,jd.2 hk];rfl
 rw [if_pos ⟨this,by unfold aN;exact hm⟩];unfold aN;rfl
theorem oB:∀ (N:Nat) (v:JV),aN v<=N->∀ (d most:Nat) (cs:List Value) (F:Nat->Prop) (w:World),VR w F cs v->cN v->most<=256->d<=8 ->
  Calls Tryz.prog 202 #[.agg cs.toArray,Zi Zq d,Zi Zq most] w λ e w'=>e=.returned (Zi Zq (bH d most v))/\Below w.heap.size w w'
 | 0,v,h,_,_,_,_,_,_,_,_,_=>by have:=dK v;omega
 |N+1,.mk k n s kids keys,hN,d,most,cs,F,w,hv,hR,hm,hd=>by
  have ih:=oB N;unfold aN at hN;have hAL:=λ W (h:Below w.heap.size w W)=>uU cs k n s kids keys F W (hv.bel h) hR
  obtain ⟨b1,b2,b3,hkl,b5,b6,hck⟩:=hR.out;obtain ⟨A,B,ca,cb,css,rfl,h1,h2,h3,h4,h5,h6,h7⟩:=hv.out;have HIH:=aW (λ (i:Nat) (x:JV) (hx:kids[i]? = some x)=>pi h1 h6 hx);have HCK:=aW hck;have HI:=aW ih;have HAL:=aW hAL;obtain ⟨rr,hrr⟩:∃ rr,bH d most (.mk k n s kids keys)=rr:=⟨_,rfl⟩
  rw [hrr];have HRR:=aW hrr;have HKID:=aW (λ (i:Nat) (x:JV) (hx:kids[i]? = some x)=>oS (d:=d) (most:=most) (k:=k) (n:=n) (s:=s) (keys:=keys) hx);have HALL:=aW (oQ (d:=d) (most:=most) (k:=k) (n:=n) (s:=s) (kids:=kids) (keys:=keys));have HBAD:=aW (oR (d:=d) (most:=most) (k:=k) (n:=n) (s:=s) (kids:=kids) (keys:=keys));have HDEEP:=aW (m8 (most:=most) (k:=k) (n:=n) (s:=s) (kids:=kids) (keys:=keys));have HLEAF:=aW (λ (h:bZ k n s kids.length keys=true) (h5:k<5)=>(km h h5).1);have hz0:most=0->rr=0:=λ h=>by
   rw [← hrr];unfold bH;rw [if_neg];rintro ⟨_,h2⟩;have:=dK (.mk k n s kids keys);omega
  obtain ⟨g,hg⟩:∃ g,bZ k n s kids.length keys=g:=⟨_,rfl⟩
  rw [hg] at HAL HALL HBAD HLEAF;obtain ⟨nk,hnk⟩:∃ nk,kids.length=nk:=⟨_,rfl⟩
  obtain ⟨ny,hny⟩:∃ ny,keys.length=ny:=⟨_,rfl⟩
  rw [hnk,hny] at HAL;rw [hnk] at h2 hkl HLEAF ⊢;rw [hny] at h3 ⊢;have HNK:=aW hnk;have HBW:=aW ((Below.refl w.heap.size w).alloc (Nat.le_refl _) (.cells #[Zi Zq k,Zi Zq n,Zt ⟨s.toArray⟩,Zs A nk ca,Zs B ny cb] 42));clear hv hR h1 h4 h5 h6 h7 hnk hny ih hAL hrr hg hck b1 b2 b3 b5 b6;by_cases hm0:most=0
  ·obtain rfl:=hz0 hm0;subst hm0;clear hz0;go_enter Tryz.func202,Tryz.ntmps202;go_wp2;go_ret;exact ⟨rfl,HBW.out⟩
  have hm1:¬ (most:Int)<1:=by omega
  clear hz0;cases g with
  |false =>
   have h0:=HBAD.out rfl;rw [HRR.out] at h0;subst h0;go_enter Tryz.func202,Tryz.ntmps202;go_wp2_with fail;refine (HAL.out _ HBW.out).mono ?_;rintro e w1 ⟨rfl,hb1⟩;have HB1:=aW (HBW.out.trans (hb1.mono HBW.out.size));clear hb1;go_wp2;go_ret;exact ⟨rfl,HB1.out⟩
  | true =>
  by_cases hdeep:5<=k/\d=0
  ·obtain ⟨h5,rfl⟩:=hdeep;have h0:=HDEEP.out h5;rw [HRR.out] at h0;subst h0;go_enter Tryz.func202,Tryz.ntmps202;go_wp2_with fail;refine (HAL.out _ HBW.out).mono ?_;rintro e w1 ⟨rfl,hb1⟩;have hbk:=(Blk.new w 42 #[Zi Zq k,Zi Zq n,Zt ⟨s.toArray⟩,Zs A nk ca,Zs B ny cb]).keep hb1;have HB1:=aW (HBW.out.trans (hb1.mono HBW.out.size));obtain ⟨c1,f1,l1⟩:=hbk.rules;clear hb1 hbk;have z0:=c1 0;simp at z0;go_wp2;go_ret;exact ⟨rfl,HB1.out⟩
  have hcs:(5<=k/\((d:Int) == 0)=false)∨¬ 5<=k:=by
   by_cases h:5<=k
   ·exact .inl ⟨h,by simp;omega⟩
   ·exact .inr h
  rcases hcs with ⟨h5,hdi⟩ | h5
  all_goals
   go_enter Tryz.func202,Tryz.ntmps202;go_wp2_with fail;refine (HAL.out _ HBW.out).mono ?_;rintro e w1 ⟨rfl,hb1⟩;have hbk:=(Blk.new w 42 #[Zi Zq k,Zi Zq n,Zt ⟨s.toArray⟩,Zs A nk ca,Zs B ny cb]).keep hb1;have HB1:=aW (HBW.out.trans (hb1.mono HBW.out.size));obtain ⟨c1,f1,l1⟩:=hbk.rules;have HBK:=aW hbk;clear hb1 hbk;have z0:=c1 0;simp at z0;go_wp2;clear c1 f1 l1 z0;go_loopg [7,8] nk (λ gk s7 s8 wr => ∃ i m1:Nat,i<=nk/\gk=nk-i/\s7=Zi Zq m1/\s8=Zi Zq i/\1<=m1/\m1<=most/\Hid (m1=1+aP (kids.take i))/\Hid (∀ y ∈ kids.take i,dR (d-1) y=true)/\Hid (Blk wr w.heap.size 42 #[Zi Zq k,Zi Zq n,Zt ⟨s.toArray⟩,Zs A nk ca,Zs B ny cb])/\Hid (Below w.heap.size w wr))
   case atStart=>exact ⟨0,1,Nat.zero_le _,rfl,by go_num,by go_num,Nat.le_refl _,by omega,aW rfl,aW (λ y hy=>by simp at hy),HBK,HB1⟩
   case round =>
    obtain ⟨i,m1,hi,hgk,rfl,rfl,hm0,hm9,HM,HGD,HBK,HB1⟩:=hrel;have HG:=aW hgk;clear hgk;obtain ⟨c1,f1,l1⟩:=HBK.out.rules;have z3:=c1 3;simp at z3;by_cases hlt:i<nk
    ·obtain ⟨x,hx⟩:∃ x,kids[i]? = some x:=⟨_,List.getElem?_eq_getElem (by rw [HNK.out];exact hlt)⟩
     obtain ⟨b,o,k',n',s',A',na,ca',B',nb,cb',rfl,hb,hvx,hz⟩:=HIH.out i x hx;obtain ⟨q0,q1,q2,q3,q4⟩:=hz _ HB1.out;have hd1:1<=d:=by
      rcases (show 5<=k∨k<5 by omega) with h | h
      ·omega
      ·have:=HLEAF.out (by trivial) h;omega
     obtain ⟨hn1,hn2⟩:=jj hx;have hn3:=HM.out;have hcl:=HI.out x (by omega) (d-1) (most-m1) _ F _ (hvx.bel HB1.out) (HCK.out x (List.mem_of_getElem? hx)) (by omega) (by omega);obtain ⟨r,hr⟩:∃ r,bH (d-1) (most-m1) x=r:=⟨_,rfl⟩
     rw [hr,show (((d-1:Nat)):Int)=(d:Int)-1 by omega,show (((most-m1:Nat)):Int)=(most:Int)-(m1:Int) by omega] at hcl;have HCL:=aW hcl;by_cases hr0:r=0
     ·have h0:=HKID.out i x hx (by rw [← hn3,hr];exact hr0);rw [HRR.out] at h0;subst h0;subst hr0;clear hz hvx hx hcl hr hn1 hn2 hn3 HM;go_wp2_with fail;refine HCL.out.mono ?_;rintro e w2 ⟨rfl,hb2⟩;have HB2:=aW (HB1.out.trans (hb2.mono HB1.out.size));clear hb2;go_wp2;go_ret;exact ⟨rfl,HB2.out⟩
     obtain ⟨hgx,hnx,hrm⟩:=nc hr hr0;rw [hnx] at hn1 hn2;have HM2:=aW (show m1+r=1+aP (kids.take (i+1)) by omega);have HGD2:=aW (show ∀ y ∈ kids.take (i+1),dR (d-1) y=true from λ y hy=>by
      rw [List.take_add_one,hx] at hy;rcases List.mem_append.1 hy with hy | hy
      ·exact HGD.out y hy
      ·obtain rfl:y=x:=by simpa using hy
       exact hgx)
     have hmr:m1+r<=most:=by omega
     have hrb:((r:Int) == 0)=false:=by simp;omega
     clear hz hvx hx hcl hr hn1 hn2 hn3 HM hgx hnx;go_wp2_with fail;refine HCL.out.mono ?_;rintro e w2 ⟨rfl,hb2⟩;have HBK2:=aW (HBK.out.keep hb2);have HB2:=aW (HB1.out.trans (hb2.mono HB1.out.size));clear hb2;go_wp2;go_roundg (nk-(i+1))
     case measure=>rw [HG.out];omega
     case rel=>exact ⟨i+1,m1+r,hlt,rfl,by go_num,by go_num,by omega,hmr,HM2,HGD2,HBK2,HB2⟩
    ·obtain rfl:i=nk:=by omega
     have hn3:=HM.out;have hgd:=HGD.out;rw [List.take_of_length_le (by rw [HNK.out];exact Nat.le_refl _)] at hn3 hgd;have h0:=HALL.out (by trivial) (λ h e=>hdeep ⟨h,e⟩) hgd (by omega);rw [HRR.out,← hn3] at h0;subst h0;go_wp2;go_ret;exact ⟨rfl,HB1.out⟩
theorem m9 (v:JV):dg v=decide (0<bH 8 256 v):=by
 unfold dg bH;have:=dK v;by_cases h:dR 8 v=true/\aN v<=256
 ·rw [if_pos h,h.1,decide_eq_true h.2,decide_eq_true (by omega)];rfl
 ·rw [if_neg h];rw [Bool.eq_iff_iff];simp only [Bool.and_eq_true,decide_eq_true_eq];exact ⟨λ h'=>absurd h' h,λ h'=>absurd h' (by omega)⟩
theorem uV (v:JV) (cs:List Value) (F:Nat->Prop) (w:World) (hv:VR w F cs v) (hc:cN v) :
  Calls Tryz.prog 188 #[.agg cs.toArray] w (cP (dg v) w):=by
 have hW:=λ W (h:Below w.heap.size w W)=>oB _ v (Nat.le_refl _) 8 256 cs F W (hv.bel h) hc (Nat.le_refl _) (Nat.le_refl _)
 obtain ⟨k0,n0,s0,A0,na0,ca0,B0,nb0,cb0,rfl⟩:=hv.form;have hp:=m9 v;obtain ⟨r,hr⟩:∃ r,bH 8 256 v=r:=⟨_,rfl⟩
 rw [hr,show ((8:Nat):Int)=8 from rfl,show ((256:Nat):Int)=256 from rfl] at hW;rw [hr] at hp;rw [hp];have HW:=aW hW;have HBW:=aW ((Below.refl w.heap.size w).alloc (Nat.le_refl _) (.cells #[Zi Zq k0,Zi Zq n0,Zt s0,Zs A0 na0 ca0,Zs B0 nb0 cb0] 42));clear hW hr hv hc hp;by_cases hr0:r=0
 ·subst hr0;go_enter Tryz.func188,Tryz.ntmps188;go_wp2_with fail;refine (HW.out _ HBW.out).mono ?_;rintro e w1 ⟨rfl,hb1⟩;have HB1:=aW (HBW.out.trans (hb1.mono HBW.out.size));clear hb1;go_wp2;go_ret;exact ⟨rfl,HB1.out⟩
 ·have hr1:(0:Int)<(r:Int):=by omega
  rw [decide_eq_true (show 0<r by omega)];go_enter Tryz.func188,Tryz.ntmps188;go_wp2_with fail;refine (HW.out _ HBW.out).mono ?_;rintro e w1 ⟨rfl,hb1⟩;have HB1:=aW (HBW.out.trans (hb1.mono HBW.out.size));clear hb1;go_wp2;go_ret;refine ⟨ak ?_,HB1.out⟩;simp;omega
end
end Go.Proofs.YtgmnmnnoahdjnaaGreatDoor
