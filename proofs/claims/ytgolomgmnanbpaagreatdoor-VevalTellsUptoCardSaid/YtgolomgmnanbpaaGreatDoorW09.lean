import Derived.Test.YtgolomgmnanbpaaGreatDoorW06
import Derived.Test.YtgolomgmnanbpaaGreatDoorW03
import Derived.Test.YtgolomgmnanbpaaGreatDoorW01
import Derived.Laws.RangeString
import Derived.Laws.RangeAny
import Derived.Test.YtgolomgmnanbpaaGreatDoorW07
import Derived.Test.YtgolomgmnanbpaaGreatDoorW02
import Derived.WalkMore
import Derived.Deep.RegionLawGrows
set_option maxRecDepth 100000
set_option maxHeartbeats 16000000
namespace Go.Proofs.YtgolomgmnanbpaaGreatDoor
set_option linter.unusedVariables false
set_option linter.unusedSimpArgs false
open Go.RowKit
attribute [local go_sem] run_index_arr run_part_agg run_part_one run_field_agg
theorem letter_any (q:Nat) (w:World):Calls Tryz.prog 161 #[.int .u8 q] w fun e w'=>e=.returned (.bool (decide (97≤q∧q≤122)))∧w=w':=by
 go_enter Tryz.func161,Tryz.ntmps161;go_wp2
 all_goals
  go_ret;exact ⟨ret_bool (by rw [Bool.eq_iff_iff];simp;try omega),rfl⟩
theorem digit_any (q:Nat) (w:World):Calls Tryz.prog 162 #[.int .u8 q] w fun e w'=>e=.returned (.bool (decide (48≤q∧q≤57)))∧w=w':=by
 go_enter Tryz.func162,Tryz.ntmps162;go_wp2
 all_goals
  go_ret;exact ⟨ret_bool (by rw [Bool.eq_iff_iff];simp;try omega),rfl⟩
theorem str_of_eq {a b:ByteArray} (h:(a.toList == b.toList)=true):a=b:=by
 have:a.toList=b.toList:=by simpa using h
 rw [ByteArray.toList_eq,ByteArray.toList_eq] at this;exact str_ext this
theorem str_of_ne {a b:ByteArray} (h:(a.toList == b.toList)=false):a≠b:=by rintro rfl;simp at h
def wordsL:List (List UInt8):=[[101,109,105,116],[105,102],[101,108,115,101],[102,111,114],[105,110],[111,114],[97,110,100],[110,111,116],[115,105,122,101],[107,105,110,100],[116,114,117,101],[102,97,108,115,101],[110,117,108,108]]
def wordsV:Value:=.agg (wordsL.map fun l=>Value.string ⟨l.toArray⟩).toArray
theorem words_any (w:World):Calls Tryz.prog 187 #[] w fun e w'=>e=.returned wordsV∧Below w.heap.size w w':=by
 go_enter Tryz.func187,Tryz.ntmps187;go_wp2;go_returns;exact ⟨rfl,by go_grown⟩
theorem words_at (k:Nat) (h:k<13) (w:World):(Instr.index 210 wordsV (.int .i64 (k:Int))).run Tryz.prog w=.ok (.string ⟨(wordsL.getD k []).toArray⟩) w:=by
 rcases (by omega:k=0∨k=1∨k=2∨k=3∨k=4∨k=5∨k=6∨k=7∨k=8∨k=9∨k=10∨k=11∨k=12) with rfl | rfl | rfl | rfl | rfl | rfl | rfl | rfl | rfl | rfl | rfl | rfl | rfl<;>kernel_rfl
def isWord (l:List UInt8):Bool:=decide (l ∈ wordsL)
theorem Word_any (s:ByteArray) (w:World):Calls Tryz.prog 163 #[.string s] w fun e w'=>e=.returned (.bool (isWord (sl s)))∧Below w.heap.size w w':=by
 go_enter Tryz.func163,Tryz.ntmps163;go_wp2_with (go_at_call 187;refine (words_any _).mono ?_;rintro e w1 ⟨rfl,hb⟩);go_loopw [4,6] (fun _ i wr => ∃ k:Nat,k≤13∧i=.int .i64 k∧wr=w1∧∀ j,j<k→wordsL.getD j []≠sl s) (fun _ i _=>13-(intOf i).toNat)
 case atStart=>exact ⟨0,by omega,rfl,rfl,by intro j hj;omega⟩
 case round =>
  obtain ⟨k,hk,rfl,rfl,hno⟩:=hrel;have HN:=aW hno;clear hno;by_cases h13:k<13
  ·have hix:=words_at k h13 wr;obtain ⟨x,hx⟩:∃ x:ByteArray,⟨(wordsL.getD k []).toArray⟩=x:=⟨_,rfl⟩
   rw [hx] at hix;have HX:=aW hx;clear hx;go_wp2
   ·have hq:x=s:=str_of_eq ‹(x.toList == s.toList)=true›;go_ret;refine ⟨ret_bool ?_,hb⟩;have:sl s ∈ wordsL:=by
     rw [← hq,← HX.out,sl_mk,List.getD_eq_getElem?_getD,List.getElem?_eq_getElem (show k<wordsL.length from h13)];exact List.getElem_mem _
    simp [isWord,this]
   ·have hq:x≠s:=str_of_ne ‹(x.toList == s.toList)=false›;go_roundw
    case rel =>
     refine ⟨k+1,by omega,by go_num,trivial,?_⟩;intro j hj;by_cases hjk:j=k
     ·rw [hjk];intro e;exact hq (by rw [← HX.out,e])
     ·exact HN.out j (by omega)
    case measure=>simp [intOf];omega
  ·obtain rfl:k=13:=by omega
   go_wp2;go_ret;refine ⟨ret_bool ?_,hb⟩;have:sl s ∉ wordsL:=fun hm=>by
    obtain ⟨j,hj,e⟩:=List.getElem_of_mem hm;exact HN.out j hj (by rw [List.getD_eq_getElem?_getD,List.getElem?_eq_getElem hj];exact e)
   simp [isWord,this]
set_option linter.unusedVariables false
set_option linter.unusedSimpArgs false
open Go.RowKit
attribute [local go_sem] run_index_arr run_part_agg run_part_one run_field_agg
def isLetter (c:UInt8):Bool:=decide (97≤c.toNat∧c.toNat≤122)
def nameFrom:Nat→List UInt8→Bool
 | _,[]=>true
 | i,c::r=>(isLetter c || (decide (0<i) && isDig c)) && nameFrom (i+1) r
def isName (s:ByteArray):Bool:=nameFrom 0 (sl s) && (decide (1≤s.size∧s.size≤12) && !isWord (sl s))
theorem bel_iter (w:World) (s:ByteArray) (p:Nat):Below w.heap.size w (w.iter s p):=(Below.refl _ w).alloc (Nat.le_refl _) _
theorem Name_any (s:ByteArray) (w:World):Calls Tryz.prog 120 #[.string s] w fun e w'=>e=.returned (.bool (isName s))∧Below w.heap.size w w':=by
 go_enter Tryz.func120,Tryz.ntmps120;go_wp2;go_loopw [3] (fun _ wr => ∃ pos:Nat,wr=w.iter s pos∧pos≤s.size∧nameFrom 0 (sl s)=nameFrom pos ((sl s).drop pos)) (fun _ wr=>s.size-wr.iterPos w.heap.size)
 case atStart=>exact ⟨0,rfl,by omega,by simp⟩
 case round =>
  obtain ⟨pos,rfl,hp,hn⟩:=hrel;by_cases hlt:pos<s.size
  ·have hnext:=fun ty=>run_next_any (P:=Tryz.prog) w s pos ty hlt
   have hd:(sl s).drop pos=s[pos]::(sl s).drop (pos+1):=List.drop_eq_getElem_cons (by rw [sl_len];exact hlt);rw [hd] at hn;obtain ⟨c,hc⟩:∃ c,s[pos]=c:=⟨_,rfl⟩
   by_cases hhi:128≤c.toNat
   ·have h1:=(decode_high s pos hlt (by rw [hc];exact hhi)).1;obtain ⟨⟨r,k⟩,hr⟩:∃ r,Utf8.decode s pos=r:=⟨_,rfl⟩
    rw [hr] at hnext h1;have HF:=aW (show nameFrom 0 (sl s)=false by
     rw [hn,hc,nameFrom];have e1:isLetter c=false:=by simp [isLetter];omega
     have e2:isDig c=false:=by simp [isDig];omega
     rw [e1,e2];simp)
    clear hn hd hc hr;obtain ⟨x,hx⟩:∃ x:Int,(r:Int)=x:=⟨_,rfl⟩
    rw [hx] at hnext;have h2:128≤x:=by omega
    clear hx;go_wp2;go_ret;exact ⟨ret_bool (by rw [isName,HF.out];rfl),bel_iter w s _⟩
   ·have h1:=decode_ascii s pos hlt (by rw [hc];omega);rw [hc] at h1;rw [h1] at hnext;obtain ⟨b1,hb1⟩:∃ b,isLetter c=b:=⟨_,rfl⟩
    obtain ⟨b2,hb2⟩:∃ b,isDig c=b:=⟨_,rfl⟩
    have hl:=fun w=>letter_any c.toNat w
    have hg:=fun w=>digit_any c.toNat w
    rw [show decide (97≤c.toNat∧c.toNat≤122)=b1 from hb1] at hl;rw [show decide (48≤c.toNat∧c.toNat≤57)=b2 from hb2] at hg;have HL:=aW hl;have HG:=aW hg;have hnf:nameFrom 0 (sl s)=((b1 || (decide (0<pos) && b2)) && nameFrom (pos+1) ((sl s).drop (pos+1))):=by rw [hn,hc,nameFrom,hb1,hb2]
    have HF:=aW hnf;clear hn hd hc h1 hl hg hnf hb1 hb2;have hc128:c.toNat<128:=by omega
    clear hhi;obtain ⟨q,hq⟩:∃ q,c.toNat=q:=⟨_,rfl⟩
    rw [hq] at hnext hc128 HL HG;clear hq;cases b1
    ·by_cases h0:pos=0
     ·subst h0;go_wp2_with (first | (go_at_call 161;refine (HL.out _).mono ?_;rintro e w1 ⟨rfl,rfl⟩) | (go_at_call 162;refine (HG.out _).mono ?_;rintro e w1 ⟨rfl,rfl⟩));go_ret;exact ⟨ret_bool (by rw [isName,HF.out];rfl),bel_iter w s _⟩
     ·have hp0:((pos:Int) == 0)=false:=by simp;omega
      cases b2
      ·go_wp2_with (first | (go_at_call 161;refine (HL.out _).mono ?_;rintro e w1 ⟨rfl,rfl⟩) | (go_at_call 162;refine (HG.out _).mono ?_;rintro e w1 ⟨rfl,rfl⟩));go_ret;exact ⟨ret_bool (by rw [isName,HF.out];simp),bel_iter w s _⟩
      ·go_wp2_with (first | (go_at_call 161;refine (HL.out _).mono ?_;rintro e w1 ⟨rfl,rfl⟩) | (go_at_call 162;refine (HG.out _).mono ?_;rintro e w1 ⟨rfl,rfl⟩));go_roundw
       case rel=>exact ⟨pos+1,rfl,hlt,by rw [HF.out];simp;omega⟩
       case measure=>simp;omega
    ·go_wp2_with (first | (go_at_call 161;refine (HL.out _).mono ?_;rintro e w1 ⟨rfl,rfl⟩) | (go_at_call 162;refine (HG.out _).mono ?_;rintro e w1 ⟨rfl,rfl⟩));go_roundw
     case rel=>exact ⟨pos+1,rfl,hlt,by rw [HF.out];simp⟩
     case measure=>simp;omega
  ·obtain rfl:pos=s.size:=by omega
   have hnext:=fun ty=>run_next_end (P:=Tryz.prog) w s s.size ty hlt
   have hnf:nameFrom 0 (sl s)=true:=by rw [hn,List.drop_eq_nil_of_le (by rw [sl_len];exact Nat.le_refl _),nameFrom]
   have HF:=aW hnf;clear hn hnf;obtain ⟨b,hb⟩:∃ b,isWord (sl s)=b:=⟨_,rfl⟩
   have hw:=fun w=>Word_any s w
   rw [hb] at hw;have HW:=aW hw;have HB:=aW hb;clear hw hb;go_wp2_with (go_at_call 163;refine (HW.out _).mono ?_;rintro e w1 ⟨rfl,hb1⟩)
   ·go_ret;refine ⟨ret_bool ?_,(bel_iter w s _).trans (hb1.mono (by simp [World.iter]))⟩;have h1:1≤(s.size:Int):=by assumption
    have h2:(s.size:Int)≤12:=by assumption
    rw [isName,HF.out,HB.out,decide_eq_true (show 1≤s.size∧s.size≤12 by omega)];rfl
   ·go_ret;have h2:12<(s.size:Int):=by assumption
    exact ⟨ret_bool (by rw [isName,HF.out,decide_eq_false (show ¬ (1≤s.size∧s.size≤12) by omega)];rfl),bel_iter w s _⟩
   ·go_ret;have h2:(s.size:Int)<1:=by assumption
    exact ⟨ret_bool (by rw [isName,HF.out,decide_eq_false (show ¬ (1≤s.size∧s.size≤12) by omega)];rfl),bel_iter w s _⟩
set_option linter.unusedVariables false
set_option linter.unusedSimpArgs false
open Go.RowKit
attribute [local go_sem] run_index_arr run_part_agg run_part_one run_field_agg
theorem VRs.cell {W:World} {F:Nat→Prop} {css:List (List Value)} {xs:List JV} {A:Option Addr} (h:VRs W F css xs) (hr:RdF W F A css.flatten) {i:Nat} {x:JV} (hx:xs[i]? = some x) :
  ∃ b o c,A=some ⟨b,o,none⟩∧b<W.heap.size∧F b∧VR W F c x∧∀ (j:Nat) (u:Value),j<5→c[j]? = some u→W.cell? ⟨b,o+(i*5+j),none⟩=some u:=by
 obtain ⟨c,hc,hv⟩:=h.get_ hx;have hl:css.flatten≠[]:=by
  have h3:=flat5_len h.five;have h4:=(List.getElem?_eq_some_iff.1 hc).1;intro e;rw [e] at h3;simp at h3;omega
 obtain ⟨b,o,rfl,hb,hf,hx⟩:=hr hl;refine ⟨b,o,c,rfl,hb,hf,hv,fun j u hj hu=>?_⟩;have h1:=flat5_get h.five hc hj;rw [hu] at h1;obtain ⟨hlt,e⟩:=List.getElem?_eq_some_iff.1 h1;rw [hx _ hlt,e]
end Go.Proofs.YtgolomgmnanbpaaGreatDoor
namespace Go.Proofs.YtgolomgmnanbpaaGreatDoor
set_option linter.unusedVariables false
set_option linter.unusedSimpArgs false
open Go.RowKit
attribute [local go_sem] run_index_arr run_part_agg run_part_one run_field_agg
section
variable {w W W':World} {g cap:Nat} {A:Option Addr} {l:List UInt8} {p many why:Int} {ov t0 t1 t2 t3 t4:Value}
end
end Go.Proofs.YtgolomgmnanbpaaGreatDoor
namespace Go.Proofs.YtgolomgmnanbpaaGreatDoor
set_option linter.unusedVariables false
set_option linter.unusedSimpArgs false
open Go.RowKit
attribute [local go_sem] run_index_arr run_part_agg run_part_one run_field_agg
section
variable {W W':World} {F:Nat→Prop} {A:Option Addr} {xs:List Value}
theorem RdF.take (h:RdF W F A xs) (k:Nat):RdF W F A (xs.take k):=fun hn=>by
 have hne:xs≠[]:=fun e=>hn (by simp [e])
 obtain ⟨b,o,rfl,hb,hf,hx⟩:=h hne;exact ⟨b,o,rfl,hb,hf,fun i hi=>by simp at hi;have:=hx i (by omega);rw [this];simp⟩
theorem RdF.cells {a:Addr} (h:RdF W F (some a) xs):∀ (j:Nat) (u:Value),xs[j]? = some u→W.cell? (a.add j)=some u:=fun j u hu=>by
 obtain ⟨ad,e,hc⟩:=h.rd.at_ (by intro e;rw [e] at hu;simp at hu);obtain rfl:a=ad:=by simpa using e
 exact hc j u hu
theorem RdF.of_own {B:Nat} {e:TypeId} {size n:Nat} {v:Value} (h:W.ownsRow B e size v n xs) (hF:∀ b,B≤b→F b):∃ A cap,v=.slice A n cap∧n≤cap∧(A=none→cap=0)∧RdF W F A xs:=by
 rcases h.2 with ⟨rfl,h0⟩ | ⟨g,cap,cur,rfl,hB,hg,hnc,_,_,_⟩
 ·subst h0;have:xs=[]:=List.eq_nil_of_length_eq_zero (by simpa using h.1);subst this;exact ⟨none,0,rfl,Nat.le_refl _,fun _=>rfl,RdF.nil⟩
 ·refine ⟨_,cap,rfl,hnc,(fun h=>by cases h),fun _=>⟨g,0,rfl,(Array.getElem?_eq_some_iff.1 hg).1,hF g hB,fun i hi=>?_⟩⟩;have:=h.cells (g:=g) rfl i xs[i] (List.getElem?_eq_getElem hi);rw [Nat.zero_add,← this];unfold Addr.add;split
  ·rename_i h0;subst h0;rfl
  ·simp
end
end Go.Proofs.YtgolomgmnanbpaaGreatDoor
