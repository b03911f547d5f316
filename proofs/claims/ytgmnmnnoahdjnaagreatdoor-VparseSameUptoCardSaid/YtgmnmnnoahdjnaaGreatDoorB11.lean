import Derived.Test.YtgmnmnnoahdjnaaGreatDoorB09
set_option maxRecDepth 100000
set_option maxHeartbeats 16000000
set_option linter.unusedVariables false
set_option linter.unusedSimpArgs false
namespace Go.Proofs.YtgmnmnnoahdjnaaGreatDoor
section
open Go.RowKit
attribute [local go_sem] aa ac ae ab
theorem ja (q:Nat) (w:World):Calls Tryz.prog 122 #[.int .u8 q] w fun e w'=>e=.returned (.bool (decide (97≤q∧q≤122)))∧w=w':=by
 go_enter Tryz.func122,Tryz.ntmps122;go_wp2
 all_goals
  go_ret;exact ⟨aw (by rw [Bool.eq_iff_iff];simp;try omega),rfl⟩
theorem jR (q:Nat) (w:World):Calls Tryz.prog 123 #[.int .u8 q] w fun e w'=>e=.returned (.bool (decide (48≤q∧q≤57)))∧w=w':=by
 go_enter Tryz.func123,Tryz.ntmps123;go_wp2
 all_goals
  go_ret;exact ⟨aw (by rw [Bool.eq_iff_iff];simp;try omega),rfl⟩
theorem uh (q:Nat) (w:World):Calls Tryz.prog 130 #[.int .u8 q] w fun e w'=>e=.returned (.bool (decide (q=34)))∧w=w':=by
 go_enter Tryz.func130,Tryz.ntmps130;go_wp2;go_ret;exact ⟨aw (by rw [Bool.eq_iff_iff];simp;omega),rfl⟩
theorem sg (q:Nat) (w:World):Calls Tryz.prog 132 #[.int .u8 q] w fun e w'=>e=.returned (.bool true)∧w=w':=by
 go_enter Tryz.func132,Tryz.ntmps132;go_wp2;go_ret;exact ⟨rfl,rfl⟩
theorem sU {a b:ByteArray} (h:(a.toList == b.toList)=true):a=b:=by
 have:a.toList=b.toList:=by simpa using h
 rw [ByteArray.toList_eq,ByteArray.toList_eq] at this;exact rQ this
theorem sV {a b:ByteArray} (h:(a.toList == b.toList)=false):a≠b:=by rintro rfl;simp at h
def cL:List (List UInt8):=[[101,109,105,116],[105,102],[101,108,115,101],[102,111,114],[105,110],[111,114],[97,110,100],[110,111,116],[115,105,122,101],[107,105,110,100],[116,114,117,101],[102,97,108,115,101],[110,117,108,108]]
def vg:Value:=.agg (cL.map fun l=>Value.string ⟨l.toArray⟩).toArray
theorem th (w:World):Calls Tryz.prog 163 #[] w fun e w'=>e=.returned vg∧Below w.heap.size w w':=by
 go_enter Tryz.func163,Tryz.ntmps163;go_wp2;go_returns;exact ⟨rfl,by go_grown⟩
theorem vh (k:Nat) (h:k<13) (w:World):(Instr.index 195 vg (.int .i64 (k:Int))).run Tryz.prog w=.ok (.string ⟨(cL.getD k []).toArray⟩) w:=by
 rcases (by omega:k=0∨k=1∨k=2∨k=3∨k=4∨k=5∨k=6∨k=7∨k=8∨k=9∨k=10∨k=11∨k=12) with rfl | rfl | rfl | rfl | rfl | rfl | rfl | rfl | rfl | rfl | rfl | rfl | rfl<;>kernel_rfl
def d9 (l:List UInt8):Bool:=decide (l ∈ cL)
theorem kR (s:ByteArray) (w:World):Calls Tryz.prog 124 #[.string s] w fun e w'=>e=.returned (.bool (d9 (sl s)))∧Below w.heap.size w w':=by
 go_enter Tryz.func124,Tryz.ntmps124;go_wp2_with (go_at_call 163;refine (th _).mono ?_;rintro e w1 ⟨rfl,hb⟩);go_loopw [4,6] (fun _ i wr => ∃ k:Nat,k≤13∧i=.int .i64 k∧wr=w1∧∀ j,j<k→cL.getD j []≠sl s) (fun _ i _=>13-(intOf i).toNat)
 case atStart=>exact ⟨0,by omega,rfl,rfl,by intro j hj;omega⟩
 case round =>
  obtain ⟨k,hk,rfl,rfl,hno⟩:=hrel;have HN:=aW hno;clear hno;by_cases h13:k<13
  ·have hix:=vh k h13 wr;obtain ⟨x,hx⟩:∃ x:ByteArray,⟨(cL.getD k []).toArray⟩=x:=⟨_,rfl⟩
   rw [hx] at hix;have HX:=aW hx;clear hx;go_wp2
   ·have hq:x=s:=sU ‹(x.toList == s.toList)=true›;go_ret;refine ⟨aw ?_,hb⟩;have:sl s ∈ cL:=by
     rw [← hq,← HX.out,ii,List.getD_eq_getElem?_getD,List.getElem?_eq_getElem (show k<cL.length from h13)];exact List.getElem_mem _
    simp [d9,this]
   ·have hq:x≠s:=sV ‹(x.toList == s.toList)=false›;go_roundw
    case rel =>
     refine ⟨k+1,by omega,by go_num,trivial,?_⟩;intro j hj;by_cases hjk:j=k
     ·rw [hjk];intro e;exact hq (by rw [← HX.out,e])
     ·exact HN.out j (by omega)
    case measure=>simp [intOf];omega
  ·obtain rfl:k=13:=by omega
   go_wp2;go_ret;refine ⟨aw ?_,hb⟩;have:sl s ∉ cL:=fun hm=>by
    obtain ⟨j,hj,e⟩:=List.getElem_of_mem hm;exact HN.out j hj (by rw [List.getD_eq_getElem?_getD,List.getElem?_eq_getElem hj];exact e)
   simp [d9,this]
def aM (c:UInt8):Bool:=decide (97≤c.toNat∧c.toNat≤122)
def b8:Nat→List UInt8→Bool
 | _,[]=>true
 | i,c::r=>(aM c || (decide (0<i) && aR c)) && b8 (i+1) r
def cV (s:ByteArray):Bool:=b8 0 (sl s) && (decide (1≤s.size∧s.size≤12) && !d9 (sl s))
theorem fO (w:World) (s:ByteArray) (p:Nat):Below w.heap.size w (w.iter s p):=(Below.refl _ w).alloc (Nat.le_refl _) _
theorem gN (s:ByteArray) (w:World):Calls Tryz.prog 81 #[.string s] w fun e w'=>e=.returned (.bool (cV s))∧Below w.heap.size w w':=by
 go_enter Tryz.func81,Tryz.ntmps81;go_wp2;go_loopw [3] (fun _ wr => ∃ pos:Nat,wr=w.iter s pos∧pos≤s.size∧b8 0 (sl s)=b8 pos ((sl s).drop pos)) (fun _ wr=>s.size-wr.iterPos w.heap.size)
 case atStart=>exact ⟨0,rfl,by omega,by simp⟩
 case round =>
  obtain ⟨pos,rfl,hp,hn⟩:=hrel;by_cases hlt:pos<s.size
  ·have hnext:=fun ty=>run_next_any (P:=Tryz.prog) w s pos ty hlt
   have hd:(sl s).drop pos=s[pos]::(sl s).drop (pos+1):=List.drop_eq_getElem_cons (by rw [eD];exact hlt);rw [hd] at hn;obtain ⟨c,hc⟩:∃ c,s[pos]=c:=⟨_,rfl⟩
   by_cases hhi:128≤c.toNat
   ·have h1:=(decode_high s pos hlt (by rw [hc];exact hhi)).1;obtain ⟨⟨r,k⟩,hr⟩:∃ r,Utf8.decode s pos=r:=⟨_,rfl⟩
    rw [hr] at hnext h1;have HF:=aW (show b8 0 (sl s)=false by
     rw [hn,hc,b8];have e1:aM c=false:=by simp [aM];omega
     have e2:aR c=false:=by simp [aR];omega
     rw [e1,e2];simp)
    clear hn hd hc hr;obtain ⟨x,hx⟩:∃ x:Int,(r:Int)=x:=⟨_,rfl⟩
    rw [hx] at hnext;have h2:128≤x:=by omega
    clear hx;go_wp2;go_ret;exact ⟨aw (by rw [cV,HF.out];rfl),fO w s _⟩
   ·have h1:=decode_ascii s pos hlt (by rw [hc];omega);rw [hc] at h1;rw [h1] at hnext;obtain ⟨b1,hb1⟩:∃ b,aM c=b:=⟨_,rfl⟩
    obtain ⟨b2,hb2⟩:∃ b,aR c=b:=⟨_,rfl⟩
    have hl:=fun w=>ja c.toNat w
    have hg:=fun w=>jR c.toNat w
    rw [show decide (97≤c.toNat∧c.toNat≤122)=b1 from hb1] at hl;rw [show decide (48≤c.toNat∧c.toNat≤57)=b2 from hb2] at hg;have HL:=aW hl;have HG:=aW hg;have hnf:b8 0 (sl s)=((b1 || (decide (0<pos) && b2)) && b8 (pos+1) ((sl s).drop (pos+1))):=by rw [hn,hc,b8,hb1,hb2]
    have HF:=aW hnf;clear hn hd hc h1 hl hg hnf hb1 hb2;have hc128:c.toNat<128:=by omega
    clear hhi;obtain ⟨q,hq⟩:∃ q,c.toNat=q:=⟨_,rfl⟩
    rw [hq] at hnext hc128 HL HG;clear hq;cases b1
    ·by_cases h0:pos=0
     ·subst h0;go_wp2_with (first | (go_at_call 122;refine (HL.out _).mono ?_;rintro e w1 ⟨rfl,rfl⟩) | (go_at_call 123;refine (HG.out _).mono ?_;rintro e w1 ⟨rfl,rfl⟩));go_ret;exact ⟨aw (by rw [cV,HF.out];rfl),fO w s _⟩
     ·have hp0:((pos:Int) == 0)=false:=by simp;omega
      cases b2
      ·go_wp2_with (first | (go_at_call 122;refine (HL.out _).mono ?_;rintro e w1 ⟨rfl,rfl⟩) | (go_at_call 123;refine (HG.out _).mono ?_;rintro e w1 ⟨rfl,rfl⟩));go_ret;exact ⟨aw (by rw [cV,HF.out];simp),fO w s _⟩
      ·go_wp2_with (first | (go_at_call 122;refine (HL.out _).mono ?_;rintro e w1 ⟨rfl,rfl⟩) | (go_at_call 123;refine (HG.out _).mono ?_;rintro e w1 ⟨rfl,rfl⟩));go_roundw
       case rel=>exact ⟨pos+1,rfl,hlt,by rw [HF.out];simp;omega⟩
       case measure=>simp;omega
    ·go_wp2_with (first | (go_at_call 122;refine (HL.out _).mono ?_;rintro e w1 ⟨rfl,rfl⟩) | (go_at_call 123;refine (HG.out _).mono ?_;rintro e w1 ⟨rfl,rfl⟩));go_roundw
     case rel=>exact ⟨pos+1,rfl,hlt,by rw [HF.out];simp⟩
     case measure=>simp;omega
  ·obtain rfl:pos=s.size:=by omega
   have hnext:=fun ty=>run_next_end (P:=Tryz.prog) w s s.size ty hlt
   have hnf:b8 0 (sl s)=true:=by rw [hn,List.drop_eq_nil_of_le (by rw [eD];exact Nat.le_refl _),b8]
   have HF:=aW hnf;clear hn hnf;obtain ⟨b,hb⟩:∃ b,d9 (sl s)=b:=⟨_,rfl⟩
   have hw:=fun w=>kR s w
   rw [hb] at hw;have HW:=aW hw;have HB:=aW hb;clear hw hb;go_wp2_with (go_at_call 124;refine (HW.out _).mono ?_;rintro e w1 ⟨rfl,hb1⟩)
   ·go_ret;refine ⟨aw ?_,(fO w s _).trans (hb1.mono (by simp [World.iter]))⟩;have h1:1≤(s.size:Int):=by assumption
    have h2:(s.size:Int)≤12:=by assumption
    rw [cV,HF.out,HB.out,decide_eq_true (show 1≤s.size∧s.size≤12 by omega)];rfl
   ·go_ret;have h2:12<(s.size:Int):=by assumption
    exact ⟨aw (by rw [cV,HF.out,decide_eq_false (show ¬ (1≤s.size∧s.size≤12) by omega)];rfl),fO w s _⟩
   ·go_ret;have h2:(s.size:Int)<1:=by assumption
    exact ⟨aw (by rw [cV,HF.out,decide_eq_false (show ¬ (1≤s.size∧s.size≤12) by omega)];rfl),fO w s _⟩
/-- slices.Equal over texts -/
theorem oz (A1 A2:Option Addr) (n1 n2 c1 c2:Nat) (k1 k2:List (List UInt8)) (w:World) (hn1:k1.length=n1) (hn2:k2.length=n2) (h1:Rd w A1 (jh k1)) (h2:Rd w A2 (jh k2)) (hc1:n1≤c1) (hc2:n2≤c2) (hl1:n1≤4194304) (hl2:n2≤4194304) :
  Calls Tryz.prog 31 #[.slice A1 n1 c1,.slice A2 n2 c2] w fun e w'=>e=.returned (.bool (decide (k1=k2)))∧∃ q,w.drewN q=w':=by
 by_cases hlen:n1=n2
 ·subst hlen;have HN1:=aW hn1;have HN2:=aW hn2;clear hn1 hn2;go_enter Tryz.func31,Tryz.ntmps31;go_wp2;go_loopg [13] n1 (fun gk i wr => ∃ k q:Nat,k≤n1∧gk=n1-k∧i=.int .i64 k∧wr=w.drewN q∧Hid (k1.take k=k2.take k))
  case atStart=>exact ⟨0,0,Nat.zero_le _,rfl,rfl,rfl,aW rfl⟩
  case round =>
   obtain ⟨k,q,hk,hgk,rfl,rfl,HE⟩:=hrel;have HG:=aW hgk;clear hgk;by_cases hlt:k<n1
   ·obtain ⟨a,ha⟩:∃ x,k1[k]? = some x:=⟨_,List.getElem?_eq_getElem (by rw [HN1.out];exact hlt)⟩
    obtain ⟨b,hb⟩:∃ x,k2[k]? = some x:=⟨_,List.getElem?_eq_getElem (by rw [HN2.out];exact hlt)⟩
    have key:∀ (A:Option Addr) (ks:List (List UInt8)) (x:List UInt8),Rd w A (jh ks)→ks[k]? = some x→∃ b o,A=some ⟨b,o,none⟩∧w.cell? ⟨b,o+k,none⟩=some (.string ⟨x.toArray⟩):=fun A ks x hr hx=>by
     have hkl:=(List.getElem?_eq_some_iff.1 hx)
     obtain ⟨b,o,rfl,_,hc⟩:=hr (by intro e;have h:=gc ks;rw [e] at h;have:=hkl.1;simp at h;omega);refine ⟨b,o,rfl,?_⟩;rw [hc k (by rw [gc];exact hkl.1)];simp [jh,hkl.2]
    obtain ⟨b1,o1,rfl,x1⟩:=key A1 k1 a h1 ha;obtain ⟨b2,o2,rfl,x2⟩:=key A2 k2 b h2 hb;have HA:=aW ha;have HB:=aW hb;clear ha hb key;by_cases hab:a=b
    ·subst hab;go_wp2;go_quiet (fail);go_wp2;go_roundg (n1-(k+1))
     case measure=>rw [HG.out];omega
     case rel=>exact ⟨k+1,q+nq,hlt,rfl,by go_num,rfl,aW (by rw [List.take_add_one,List.take_add_one,HE.out,HA.out,HB.out])⟩
    ·have hbe:(a == b)=false:=by simpa using hab
     have hbe2:(a != b)=true:=by simpa using hab
     have HF:=aW (show k1≠k2 from fun e=>hab (by have h:=HA.out;rw [e,HB.out] at h;injection h with h;exact h.symm));clear hab;go_wp2;go_quiet (fail);go_wp2;go_ret;exact ⟨aw (by rw [decide_eq_false HF.out]),q+nq,(World.drewN_drewN _ _ _).symm⟩
   ·obtain rfl:k=n1:=by omega
    go_wp2;go_ret;refine ⟨aw ?_,q,rfl⟩;have h:=HE.out;rw [List.take_of_length_le (by rw [HN1.out];exact Nat.le_refl _),List.take_of_length_le (by rw [HN2.out];exact Nat.le_refl _)] at h;simp [h]
 ·have hne:((n1:Int) != (n2:Int))=true:=by simp;omega
  have HF:=aW (show k1≠k2 from fun e=>hlen (by rw [← hn1,← hn2,e]));clear hlen;go_enter Tryz.func31,Tryz.ntmps31;go_wp2;go_ret;exact ⟨aw (by rw [decide_eq_false HF.out]),0,rfl⟩
theorem VRs.cell {W:World} {F:Nat→Prop} {css:List (List Value)} {xs:List JV} {A:Option Addr} (h:VRs W F css xs) (hr:RdF W F A css.flatten) {i:Nat} {x:JV} (hx:xs[i]? = some x) :
  ∃ b o c,A=some ⟨b,o,none⟩∧b<W.heap.size∧F b∧VR W F c x∧∀ (j:Nat) (u:Value),j<5→c[j]? = some u→W.cell? ⟨b,o+(i*5+j),none⟩=some u:=by
 obtain ⟨c,hc,hv⟩:=h.get_ hx;have hl:css.flatten≠[]:=by
  have h3:=iu h.five;have h4:=(List.getElem?_eq_some_iff.1 hc).1;intro e;rw [e] at h3;simp at h3;omega
 obtain ⟨b,o,rfl,hb,hf,hx⟩:=hr hl;refine ⟨b,o,c,rfl,hb,hf,hv,fun j u hj hu=>?_⟩;have h1:=jT h.five hc hj;rw [hu] at h1;obtain ⟨hlt,e⟩:=List.getElem?_eq_some_iff.1 h1;rw [hx _ hlt,e]
end
end Go.Proofs.YtgmnmnnoahdjnaaGreatDoor
namespace Go.Proofs.YtgmnmnnoahdjnaaGreatDoor
open Go.RowKit
end Go.Proofs.YtgmnmnnoahdjnaaGreatDoor
namespace Go.Proofs.YtgmnmnnoahdjnaaGreatDoor
open Go.RowKit
attribute [local go_sem] aa ac ae ab
def yB (l:List Int):List Value:=l.map (Value.int .i64)
def IS (w:World) (v:Value) (l:List Int):Prop:=∃ A cap,v=.slice A l.length cap∧l.length≤cap∧Rd w A (yB l)
theorem IS.of_own {w:World} {base:Nat} {e:TypeId} {v:Value} {l:List Int} {n:Nat} (hn:n=l.length) (h:w.ownsRow base e 1 v n (yB l)):IS w v l:=by
 subst hn;obtain ⟨A,cap,rfl,hc,hr⟩:=Rd.of_own h;exact ⟨A,cap,rfl,hc,hr⟩
end Go.Proofs.YtgmnmnnoahdjnaaGreatDoor
namespace Go.Proofs.YtgmnmnnoahdjnaaGreatDoor
section
open Go.RowKit
attribute [local go_sem] aa ac ae ab
def cA (A:Option Addr) (n cap:Nat) (p why:Int):Array Value:=#[.int .i64 p,.int .i64 why,.slice A n cap]
def VB (w:World) (g:Nat) (A:Option Addr) (cap:Nat) (l:List UInt8) (p why:Int):Prop:=Blk w g 113 (cA A l.length cap p why)∧Rd w A (al l)
def aO (w:World) (g:Nat) (A:Option Addr) (cap:Nat) (l:List UInt8) (p why:Int) (w':World):Prop:=VB w' g A cap l p why∧w.grownBy w' (some g)
section
variable {w w':World} {g:Nat} {A:Option Addr} {cap:Nat} {l:List UInt8} {p why p' why':Int}
theorem nz {m:Nat}:∀ (i:Nat) (c:Int),(cA A m cap p why)[i]? = some (Value.int .u8 c)→False:=by
 intro i c h;unfold cA at h
 match i with
 | 0 | 1 | 2=>simp at h
 | i+3=>simp at h
theorem VB.drewN (h:VB w g A cap l p why) (k:Nat):VB (w.drewN k) g A cap l p why:=⟨h.1.drewN k,h.2.drewN k⟩
theorem VB.keep (h:VB w g A cap l p why) (hb:Below w.heap.size w w'):VB w' g A cap l p why:=⟨h.1.keep hb,h.2.below hb⟩
theorem VB.set0 (h:VB w g A cap l p why) (q:Int):VB (w.setCell ⟨g,0,none⟩ (.int .i64 q)) g A cap l q why :=
 ⟨by have:=h.1.set_ 0 (.int .i64 q);simpa [cA] using this,h.2.setCell (h.2.ne_blk h.1 nz) _ _⟩
theorem VB.set1 (h:VB w g A cap l p why) (q:Int):VB (w.setCell ⟨g,1,none⟩ (.int .i64 q)) g A cap l p q :=
 ⟨by have:=h.1.set_ 1 (.int .i64 q);simpa [cA] using this,h.2.setCell (h.2.ne_blk h.1 nz) _ _⟩
theorem aO.refl (h:VB w g A cap l p why):aO w g A cap l p why w:=⟨h,dP _ _⟩
theorem aO.trans {w'':World} (h:aO w g A cap l p why w') (k:aO w' g A cap l p' why' w''):aO w g A cap l p' why' w'':=⟨k.1,af h.2 k.2⟩
theorem aO.drewN (h:aO w g A cap l p why w') (k:Nat):aO w g A cap l p why (w'.drewN k):=⟨h.1.drewN k,fW h.2 k⟩
theorem aO.keep {w'':World} (h:aO w g A cap l p why w') (hb:Below w'.heap.size w' w''):aO w g A cap l p why w'' :=
 ⟨h.1.keep hb,af h.2 ⟨hb.os,hb.tape,hb.output,hb.size,fun i hi _=>hb.block i hi⟩⟩
theorem aO.set0 (h:aO w g A cap l p why w') (q:Int):aO w g A cap l q why (w'.setCell ⟨g,0,none⟩ (.int .i64 q)):=⟨h.1.set0 q,bw h.2 _ _⟩
theorem aO.set1 (h:aO w g A cap l p why w') (q:Int):aO w g A cap l p q (w'.setCell ⟨g,1,none⟩ (.int .i64 q)):=⟨h.1.set1 q,bw h.2 _ _⟩
theorem aO.alloc (h:aO w g A cap l p why w') (o:Obj):aO w g A cap l p why (w'.alloc o):=h.keep ((Below.refl _ _).alloc (Nat.le_refl _) _)
theorem aO.new (h:aO w g A cap l p why w') {k:Nat} {t:TypeId} {cs:Array Value} (hb:Blk w' k t cs) (hcs:∀ (i:Nat) (c:Int),cs[i]? = some (Value.int .u8 c)→False) (hk:w.heap.size≤k) (hg:g<w.heap.size) (i:Nat) (u:Value) :
  aO w g A cap l p why (w'.setCell ⟨k,i,none⟩ u) :=
 ⟨⟨h.1.1.far (p:=⟨k,i,none⟩) (by simp;omega) u,h.1.2.setCell (h.1.2.ne_blk hb hcs) i u⟩,dw h.2 _ _ hk⟩
end
def sW (k:Int) (p:Int) (s:ByteArray) (n:Int):Value:=.agg #[.int .i64 k,.int .i64 p,.string s,.int .i64 n]
def gD:Value:=.agg #[.int .i64 0,.int .i64 0,.string ⟨#[]⟩,.int .i64 0]
theorem fU (w:World) (g:Nat) (A:Option Addr) (cap:Nat) (l:List UInt8) (p why q e:Int) (hV:VB w g A cap l p why) :
  Calls Tryz.prog 167 #[.pointer (some ⟨g,0,none⟩),.int .i64 q,.int .i64 e] w fun x w'=>x=.returned gD∧aO w g A cap l q e w':=by
 obtain ⟨hc,hf,hlt⟩:=hV.1.rules;have HV:=aW hV;clear hV;unfold cA at hc;go_enter Tryz.func167,Tryz.ntmps167;go_wp2;go_returns;exact ⟨rfl,(((aO.refl HV.out).set0 q).set1 e).alloc _⟩
theorem VB.byte {w:World} {g:Nat} {A:Option Addr} {cap:Nat} {l:List UInt8} {p why:Int} (h:VB w g A cap l p why) {k:Nat} {c:UInt8} (hc:l[k]? = some c) :
  ∃ b o,A=some ⟨b,o,none⟩∧b<w.heap.size∧w.cell? ⟨b,o+k,none⟩=some (.int .u8 c.toNat):=by
 obtain ⟨hlt,e⟩:=List.getElem?_eq_some_iff.1 hc;obtain ⟨b,o,rfl,hb,hx⟩:=h.2 (by intro e;have h3:=aB l;rw [e,List.length_nil] at h3;omega);exact ⟨b,o,rfl,hb,by rw [hx k (by rw [aB];exact hlt)];simp [al,e]⟩
theorem pF (w:World) (g:Nat) (A:Option Addr) (cap:Nat) (l:List UInt8) (p:Nat) (why:Int) (hV:VB w g A cap l p why) (hp:p≤l.length) (hcap:l.length≤cap) (hlen:l.length≤4194304) :
  Calls Tryz.prog 135 #[.pointer (some ⟨g,0,none⟩)] w fun e w'=>e=.returned (.tuple #[])∧aO w g A cap l (aG l p) why w':=by
 have HV:=aW hV;clear hV;go_enter Tryz.func135,Tryz.ntmps135;go_wp2;go_loopg [24] (l.length-p) (fun gk _ wr => ∃ k:Nat,k≤l.length∧gk=l.length-k∧aG l p=aG l k∧aO w g A cap l k why wr)
 case atStart=>exact ⟨p,hp,rfl,rfl,aO.refl HV.out⟩
 case round =>
  obtain ⟨k,hk,hgk,hs,hst⟩:=hrel;obtain ⟨hc,hf,hlt⟩:=hst.1.1.rules;unfold cA at hc;have HS:=aW hs;have HG:=aW hgk;clear hs hgk;by_cases hkl:k<l.length
  ·obtain ⟨c,hcc⟩:∃ c,l[k]? = some c:=⟨_,List.getElem?_eq_getElem hkl⟩
   obtain ⟨b,o,rfl,hb,hx⟩:=hst.1.byte hcc;have HC:=aW hcc;clear hcc;cases hbk:dg c with
   |true =>
    have HN:=aW (lY HC.out hbk);unfold dg at hbk;have hq:c.toNat=9∨c.toNat=10∨c.toNat=13∨c.toNat=32:=by simpa using hbk
    clear hbk;rcases hq with hq | hq | hq | hq
    all_goals
     rw [hq] at hx;clear hq;go_wp2;go_quiet (fail);go_wp2;go_quiet (fail);go_wp2;go_roundg (l.length-(k+1))
     case measure=>rw [HG.out];omega
     case rel=>exact ⟨k+1,hkl,rfl,HS.out.trans HN.out,(hst.drewN _).set0 _⟩
   |false =>
    have HN:=aW (jg HC.out hbk);unfold dg at hbk;have hq:¬ (c.toNat=9∨c.toNat=10∨c.toNat=13∨c.toNat=32):=by simpa using hbk
    clear hbk;have q1:((c.toNat:Int) == 9)=false:=by simp;omega
    have q2:((c.toNat:Int) == 10)=false:=by simp;omega
    have q3:((c.toNat:Int) == 13)=false:=by simp;omega
    have q4:((c.toNat:Int) == 32)=false:=by simp;omega
    clear hq;go_wp2;go_quiet (fail);go_wp2;go_quiet (fail);go_wp2;refine bodyPost_ret (results_none rfl _ _ _) rfl ⟨rfl,?_⟩;rw [HS.out,HN.out];exact hst.drewN _
  ·have HN:=aW (sQ (l:=l) (p:=k) (by omega));obtain rfl:k=l.length:=by omega
   clear hkl;go_wp2;go_quiet (fail);go_wp2;go_end0;refine ⟨rfl,?_⟩;rw [HS.out,HN.out];exact hst.drewN _
end
end Go.Proofs.YtgmnmnnoahdjnaaGreatDoor
