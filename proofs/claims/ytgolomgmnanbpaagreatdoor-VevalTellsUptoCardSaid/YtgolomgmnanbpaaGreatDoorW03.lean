import Derived.Test.YtgolomgmnanbpaaGreatDoorProg
import Derived.Test.YtgolomgmnanbpaaGreatDoorW02
import Derived.Test.YtgolomgmnanbpaaGreatDoorW01
import Derived.Deep.RegionHeld3
import Derived.StillTailTactics
import Derived.Deep.LoopGhost
import Derived.Defers
import Derived.Recover
import Derived.Laws.EntriesVeiled
set_option maxRecDepth 100000
set_option maxHeartbeats 16000000
namespace Go.Proofs.YtgolomgmnanbpaaGreatDoor
set_option linter.unusedVariables false
set_option linter.unusedSimpArgs false
open Go.RowKit
attribute [local go_sem] run_index_arr run_part_agg run_part_one run_field_agg
structure NSt where
 pos:Nat
 minus:Bool
 size:Nat
 over:Bool
 part:Bool
theorem gb_setCell {a w:World} {g:Nat} (h:a.grownBy w (some g)) (i:Nat) (u:Value):a.grownBy (w.setCell ⟨g,i,none⟩ u) (some g) :=
 ⟨h.os,h.tape,h.output,by simpa [World.setCell] using h.size,fun j hj hne=>(Below.heap_setCell w ⟨g,i,none⟩ u j (fun e=>hne (by rw [e]))).trans (h.block j hj hne)⟩
theorem gb_refl (w:World) (row:Option Nat):w.grownBy w row:=⟨rfl,rfl,rfl,Nat.le_refl _,fun _ _ _=>rfl⟩
theorem Rd.setCell {w:World} {A:Option Addr} {xs:List Value} {g:Nat} (h:Rd w A xs) (hne:∀ b o,A=some ⟨b,o,none⟩→xs≠[]→b≠g) (i:Nat) (u:Value):Rd (w.setCell ⟨g,i,none⟩ u) A xs:=fun hn=>by
 obtain ⟨b,o,rfl,hb,hx⟩:=h hn;refine ⟨b,o,rfl,by simpa [World.setCell] using hb,fun j hj=>?_⟩;rw [← hx j hj];exact World.cell?_of_block (w:=w) (Below.heap_setCell w ⟨g,i,none⟩ u b (hne b o rfl hn))
end Go.Proofs.YtgolomgmnanbpaaGreatDoor
namespace Go.Proofs.YtgolomgmnanbpaaGreatDoor
set_option linter.unusedVariables false
set_option linter.unusedSimpArgs false
open Go.RowKit
attribute [local go_sem] run_index_arr run_part_agg run_part_one run_field_agg
def growS (d:Nat) (s:NSt):NSt:={ s with over:=s.over || decide ((18446744073709551615-d) / 10<s.size),size:=(10*s.size+d) % 18446744073709551616 }
def growAll (ds:List UInt8) (s:NSt):NSt:=ds.foldl (fun s c=>growS (dval c) s) s
def digS (gr:Bool) (ds:List UInt8) (s:NSt):NSt:=if gr then { growAll ds s with pos:=s.pos+ds.length } else { s with pos:=s.pos+ds.length }
end Go.Proofs.YtgolomgmnanbpaaGreatDoor
namespace Go.Proofs.YtgolomgmnanbpaaGreatDoor
set_option linter.unusedVariables false
set_option linter.unusedSimpArgs false
open Go.RowKit
attribute [local go_sem] run_index_arr run_part_agg run_part_one run_field_agg
def takeS (s:List UInt8) (l:List UInt8) (st:NSt):NSt:=if seesB l st.pos s then { st with pos:=st.pos+1 } else st
def rowS (gr:Bool) (l:List UInt8) (st:NSt):NSt × Option Nat:=if digs l st.pos=[] then (st,some st.pos) else (digS gr (digs l st.pos) st,none)
def signS (l:List UInt8) (st:NSt):NSt × Option Nat:=({ takeS [45] l st with minus:=seesB l st.pos [45] },none)
def wholeS (l:List UInt8) (st:NSt):NSt × Option Nat:=if seesB l st.pos [48] then ({ st with pos:=st.pos+1 },none) else rowS true l st
def fracS (l:List UInt8) (st:NSt):NSt × Option Nat:=if seesB l st.pos [46] then rowS false l { st with pos:=st.pos+1,part:=true } else (st,none)
def expS (l:List UInt8) (st:NSt):NSt × Option Nat:=if seesB l st.pos [101,69] then rowS false l (takeS [43,45] l { st with pos:=st.pos+1,part:=true }) else (st,none)
end Go.Proofs.YtgolomgmnanbpaaGreatDoor
namespace Go.Proofs.YtgolomgmnanbpaaGreatDoor
set_option linter.unusedVariables false
set_option linter.unusedSimpArgs false
open Go.RowKit
attribute [local go_sem] run_index_arr run_part_agg run_part_one run_field_agg
def stepK:Nat→List UInt8→NSt→NSt × Option Nat
 | 0=>signS | 1=>wholeS | 2=>fracS | _=>expS
def runK (l:List UInt8):List Nat→NSt→NSt × Option Nat
 | [],st=>(st,none)
 | k::ks,st=>match stepK k l st with | (st',none)=>runK l ks st' | r=>r
def numRun (l:List UInt8) (st:NSt):NSt × Option Nat:=runK l [0,1,2,3] st
end Go.Proofs.YtgolomgmnanbpaaGreatDoor
namespace Go.Proofs.YtgolomgmnanbpaaGreatDoor
set_option linter.unusedVariables false
set_option linter.unusedSimpArgs false
open Go.RowKit
attribute [local go_sem] run_index_arr run_part_agg run_part_one run_field_agg
def numStart (a:Nat):NSt:={ pos:=a,minus:=false,size:=0,over:=false,part:=false }
def numBig (minus:Bool):Nat:=if minus then 9223372036854775808 else 9223372036854775807
def numEnd (st:NSt) (a:Int):Int × Int × Int :=
 if (st.part || st.over || decide (numBig st.minus<st.size))=true then (0,a,130) else ((if st.minus then -(st.size:Int) else st.size),st.pos,0)
def numRead (l:List UInt8) (a:Int):Int × Int × Int :=
 if a<0∨(l.length:Int)<a then (0,0,2) else
 match numRun l (numStart a.toNat) with
 | (_,some p)=>(0,p,7)
 | (st,none)=>numEnd st a
end Go.Proofs.YtgolomgmnanbpaaGreatDoor
namespace Go.Proofs.YtgolomgmnanbpaaGreatDoor
set_option linter.unusedVariables false
set_option linter.unusedSimpArgs false
open Go.RowKit
attribute [local go_sem] run_index_arr run_part_agg run_part_one run_field_agg
theorem rstr_eq {a b:ByteArray} (h:(a.toList == b.toList)=true):a=b:=by
 have:a.toList=b.toList:=by simpa using h
 rw [ByteArray.toList_eq,ByteArray.toList_eq] at this;exact str_ext this
theorem rstr_ne {a b:ByteArray} (h:(a.toList == b.toList)=false):a≠b:=by rintro rfl;simp at h
theorem rOne_any (c:UInt8) (t:ByteArray) (w:World) (ht:t.size≤4194304):Calls Tryz.prog 87 #[.int .u8 c.toNat,.string t] w fun e w'=>e=.returned (.bool ((sl t).contains c))∧w=w':=by
 obtain ⟨b,hb⟩:∃ b,(sl t).contains c=b:=⟨_,rfl⟩
 rw [hb];have HB:=aW hb;clear hb;go_enter Tryz.func87,Tryz.ntmps87;go_wp2;go_loop [5] (fun i => ∃ k:Nat,k≤t.size∧i=.int .i64 k∧b=((sl t).drop k).contains c) (fun i=>t.size-(intOf i).toNat)
 case atStart=>exact ⟨0,Nat.zero_le _,rfl,by rw [← HB.out];simp⟩
 case round =>
  obtain ⟨k,hk,rfl,hc⟩:=hrel;by_cases hlt:k<t.size
  ·have hd:(sl t).drop k=t[k]::(sl t).drop (k+1):=List.drop_eq_getElem_cons (by rw [sl_len];exact hlt);rw [hd] at hc;obtain ⟨x,hx⟩:∃ x,t[k]=x:=⟨_,rfl⟩
   rw [hx] at hc;have HC:=aW hc;clear hc hd;by_cases hxc:x=c
   ·subst hxc;go_wp2;go_ret;exact ⟨ret_bool (by rw [HC.out];simp),rfl⟩
   ·have hne:((x.toNat:Int) == (c.toNat:Int))=false:=by
     have:x.toNat≠c.toNat:=fun e=>hxc (UInt8.toNat_inj.1 e)
     simp;omega
    go_wp2;go_round
    case rel=>exact ⟨k+1,hlt,by go_num,by rw [HC.out,List.contains_cons];simp;intro h;exact absurd h.symm hxc⟩
    case measure=>simp [intOf];omega
  ·obtain rfl:k=t.size:=by omega
   have HC:=aW hc;clear hc;go_wp2;go_ret;exact ⟨ret_bool (by rw [HC.out,List.drop_eq_nil_of_le (by rw [sl_len];exact Nat.le_refl _)];rfl),rfl⟩
def splitB:List UInt8→List UInt8→List (List UInt8)
 | [],acc=>[acc]
 | c::r,acc=>if c=32 then acc::splitB r [] else splitB r (acc++[c])
theorem cut_sl (t:ByteArray) (f k:Nat):sl (t.extract f k)=((sl t).drop f).take (k-f):=by
 simp [sl,List.drop_take]
theorem cut_more {l:List UInt8} {f k:Nat} {c:UInt8} (hf:f≤k) (h:l[k]? = some c):(l.drop f).take (k+1-f)=(l.drop f).take (k-f)++[c]:=by
 rw [show k+1-f=(k-f)+1 from by omega,List.take_add_one,List.getElem?_drop,show f+(k-f)=k from by omega,h];rfl
theorem rAmong_any (s t:ByteArray) (w:World) (ht:t.size≤4194304):Calls Tryz.prog 135 #[.string s,.string t] w fun e w'=>e=.returned (.bool (decide (sl s ∈ splitB (sl t) [])))∧w=w':=by
 obtain ⟨bb,hb⟩:∃ b,decide (sl s ∈ splitB (sl t) [])=b:=⟨_,rfl⟩
 rw [hb];have HB:=aW (show (sl s ∈ splitB (sl t) []) ↔ bb=true by rw [← hb];simp);clear hb;go_enter Tryz.func135,Tryz.ntmps135;go_wp2;go_loop [5,6] (fun fr i => ∃ f k:Nat,k≤t.size+1∧f≤k∧fr=.int .i64 f∧i=.int .i64 k∧(k≤t.size→Hid (bb=true ↔ sl s ∈ splitB ((sl t).drop k) (((sl t).drop f).take (k-f))))∧(k=t.size+1→Hid (bb=false))) (fun _ i=>t.size+1-(intOf i).toNat)
 case atStart=>exact ⟨0,0,Nat.zero_le _,Nat.le_refl _,rfl,rfl,fun _=>aW (by rw [← HB.out];simp),fun h=>by omega⟩
 case round =>
  obtain ⟨f,k,hk,hf,rfl,rfl,h1,h2⟩:=hrel;by_cases hle:k≤t.size
  ·have h1:=(h1 hle).out;have hcut:=cut_sl t f k;obtain ⟨a,ha⟩:∃ a,t.extract f k=a:=⟨_,rfl⟩
   rw [ha] at hcut;rw [← hcut] at h1;have HCUT:=aW hcut;clear h2 hcut;by_cases hlt:k<t.size
   ·have hget:=sl_get t k hlt;have hd:(sl t).drop k=t[k]::(sl t).drop (k+1):=List.drop_eq_getElem_cons (by rw [sl_len];exact hlt);obtain ⟨x,hx⟩:∃ x,t[k]=x:=⟨_,rfl⟩
    rw [hx] at hd hget;rw [hd] at h1;have HX:=aW hget;have H1:=aW h1;have hkn:((k:Int) == (t.size:Int))=false:=by simp;omega
    clear h1 hd hget;by_cases h32:x=32
    ·subst h32;go_wp2
     ·have hq:=rstr_eq ‹(a.toList == s.toList)=true›;go_ret;refine ⟨ret_bool ?_,rfl⟩;rw [eq_comm,H1.out,splitB,if_pos rfl,hq];exact List.mem_cons_self
     ·have hq:=rstr_ne ‹(a.toList == s.toList)=false›;go_round
      case rel =>
       refine ⟨k+1,k+1,by omega,Nat.le_refl _,by go_num,by go_num,fun _=>aW ?_,fun h=>by omega⟩;rw [H1.out,splitB,if_pos rfl,List.mem_cons,Nat.sub_self,List.take_zero];constructor
       ·rintro (h | h)
        ·exact absurd (str_ext h.symm) hq
        ·exact h
       ·exact .inr
      case measure=>simp [intOf];omega
    ·have hne:((x.toNat:Int) == 32)=false:=by
      have:x.toNat≠32:=fun e=>h32 (UInt8.toNat_inj.1 (by simpa using e))
      simp;omega
     go_wp2;go_round
     case rel =>
      refine ⟨f,k+1,by omega,by omega,rfl,by go_num,fun _=>aW ?_,fun h=>by omega⟩;rw [H1.out,splitB,if_neg h32,HCUT.out,cut_more hf HX.out]
     case measure=>simp [intOf];omega
   ·obtain rfl:k=t.size:=by omega
    rw [List.drop_eq_nil_of_le (by rw [sl_len];exact Nat.le_refl _),splitB,List.mem_singleton] at h1;have H1:=aW h1;clear h1;go_wp2
    ·have hq:=rstr_eq ‹(a.toList == s.toList)=true›;go_ret;refine ⟨ret_bool ?_,rfl⟩;rw [eq_comm,H1.out,hq]
    ·have hq:=rstr_ne ‹(a.toList == s.toList)=false›;go_round
     case rel =>
      refine ⟨t.size+1,t.size+1,by omega,Nat.le_refl _,by go_num,by go_num,fun h=>by omega,fun _=>aW ?_⟩;rw [Bool.eq_false_iff,Ne,H1.out];exact fun h=>hq (str_ext h.symm)
     case measure=>first | (simp [intOf];done) | (simp [intOf];omega)
  ·obtain rfl:k=t.size+1:=by omega
   have H2:=h2 rfl;clear h1 h2;go_wp2;go_ret;exact ⟨ret_bool H2.out.symm,rfl⟩
end Go.Proofs.YtgolomgmnanbpaaGreatDoor
