import Derived.Test.YtgolomgmnanbpaaGreatDoorW04
import Derived.Test.YtgolomgmnanbpaaGreatDoorW02
import Derived.Deep.RegionHeld3
import Derived.Test.YtgolomgmnanbpaaGreatDoorW01
import Derived.Laws.EntriesVeiled
import Derived.StillTailTactics
import Derived.Test.YtgolomgmnanbpaaGreatDoorW03
import Derived.Sort.LoopGhostIn
import Derived.Laws.BytesString
import Derived.Lib.BufferRead
set_option maxRecDepth 100000
set_option maxHeartbeats 16000000
namespace Go.Proofs.YtgolomgmnanbpaaGreatDoor
set_option linter.unusedVariables false
set_option linter.unusedSimpArgs false
open Go.RowKit Go.Shelf
attribute [local go_sem] run_index_arr run_part_agg run_part_one run_field_agg Oper.semAt_some
end Go.Proofs.YtgolomgmnanbpaaGreatDoor
namespace Go.Proofs.YtgolomgmnanbpaaGreatDoor
set_option linter.unusedVariables false
set_option linter.unusedSimpArgs false
open Go.RowKit Go.Shelf
attribute [local go_sem] run_index_arr run_part_agg run_part_one run_field_agg Oper.semAt_some
theorem infoByte:(Tryz.prog.info? 5).map (fun i=>(i.zero,i.size,i.bytes))=some (some (.int .u8 0),1,1):=by kernel_rfl
end Go.Proofs.YtgolomgmnanbpaaGreatDoor
namespace Go.Proofs.YtgolomgmnanbpaaGreatDoor
set_option linter.unusedVariables false
set_option linter.unusedSimpArgs false
open Go.RowKit
attribute [local go_sem] run_index_arr run_part_agg run_part_one run_field_agg
def lettersV:Value:=.agg #[.int .u8 34,.int .u8 34,.int .u8 92,.int .u8 92,.int .u8 47,.int .u8 47,.int .u8 98,.int .u8 8,.int .u8 102,.int .u8 12,.int .u8 110,.int .u8 10,.int .u8 114,.int .u8 13,.int .u8 116,.int .u8 9]
theorem letters_any (w:World):Calls Tryz.prog 184 #[] w fun e w'=>e=.returned lettersV∧Below w.heap.size w w':=by
 go_enter Tryz.func184,Tryz.ntmps184;go_wp2;go_returns;exact ⟨rfl,by go_grown⟩
end Go.Proofs.YtgolomgmnanbpaaGreatDoor
namespace Go.Proofs.YtgolomgmnanbpaaGreatDoor
set_option linter.unusedVariables false
set_option linter.unusedSimpArgs false
open Go.RowKit
attribute [local go_sem] run_index_arr run_part_agg run_part_one run_field_agg
end Go.Proofs.YtgolomgmnanbpaaGreatDoor
namespace Go.Proofs.YtgolomgmnanbpaaGreatDoor
set_option linter.unusedVariables false
set_option linter.unusedSimpArgs false
open Go.RowKit
attribute [local go_sem] run_index_arr run_part_agg run_part_one run_field_agg
end Go.Proofs.YtgolomgmnanbpaaGreatDoor
namespace Go.Proofs.YtgolomgmnanbpaaGreatDoor
set_option linter.unusedVariables false
set_option linter.unusedSimpArgs false
open Go.RowKit
attribute [local go_sem] run_index_arr run_part_agg run_part_one run_field_agg
end Go.Proofs.YtgolomgmnanbpaaGreatDoor
namespace Go.Proofs.YtgolomgmnanbpaaGreatDoor
set_option linter.unusedVariables false
set_option linter.unusedSimpArgs false
open Go.RowKit
attribute [local go_sem] run_index_arr run_part_agg run_part_one run_field_agg
def qsS (l:List UInt8) (a:Nat):Int × Int × Int :=
 match l[a]? with
 | some c=>if c.toNat=92 then escS l a else if c.toNat<32∨c.toNat=34 then (0,0,7) else nextR l a
 | none=>(0,0,0)
def qSign (l:List UInt8) (a:Int):Int × Int × Int :=
 if a<0∨(l.length:Int)<a then (0,0,2) else if a=l.length then (0,0,6) else qsS l a.toNat
end Go.Proofs.YtgolomgmnanbpaaGreatDoor
namespace Go.Proofs.YtgolomgmnanbpaaGreatDoor
set_option linter.unusedVariables false
set_option linter.unusedSimpArgs false
open Go.RowKit Go.Shelf
attribute [local go_sem] run_index_arr run_part_agg run_part_one run_field_agg Oper.semAt_some
def signsF (l:List UInt8):Nat→Nat→List (Int × Int)
 | 0,_=>[]
 | k+1,a=>if a<l.length∧(qsS l a).2.2=0 then ((qsS l a).1,(qsS l a).2.1)::signsF l k (qsS l a).2.1.toNat else []
def signsL (l:List UInt8) (a:Nat):List (Int × Int):=signsF l (l.length-a) a
end Go.Proofs.YtgolomgmnanbpaaGreatDoor
namespace Go.Proofs.YtgolomgmnanbpaaGreatDoor
set_option linter.unusedVariables false
set_option linter.unusedSimpArgs false
open Go.RowKit Go.Shelf
attribute [local go_sem] run_index_arr run_part_agg run_part_one run_field_agg Oper.semAt_some
def StS (Ba:Nat) (A B:World):Prop:=World.grownBy A B (some Ba)∧∀ q:Int,Blk A Ba 3 #[.int .i64 q]→∃ q':Int,Blk B Ba 3 #[.int .i64 q']
theorem StS.of_below {Ba:Nat} {A B:World} (h:Below A.heap.size A B):StS Ba A B:=⟨⟨h.os,h.tape,h.output,h.size,fun i hi _=>h.block i hi⟩,fun q hb=>⟨q,hb.keep h⟩⟩
end Go.Proofs.YtgolomgmnanbpaaGreatDoor
namespace Go.Proofs.YtgolomgmnanbpaaGreatDoor
set_option linter.unusedVariables false
set_option linter.unusedSimpArgs false
open Go.RowKit Go.Shelf
attribute [local go_sem] run_index_arr run_part_agg run_part_one run_field_agg Oper.semAt_some
theorem BS.conv {w:World} {v:Value} {l:List UInt8} (h:BS w v l):(convert 76 9 v).run Tryz.prog w=.ok (.string ⟨l.toArray⟩) w:=by
 obtain ⟨A,cap,rfl,hc,hr⟩:=h;cases A with
 | none =>
  have hl:l=[]:=by
   cases l with
   | nil=>rfl
   | cons c r=>obtain ⟨b,o,e,_⟩:=hr (by simp [byteV]);cases e
  subst hl;exact Lib.run_convert_nil_bytes w _ _ 5 cap (by simp [go_sem]) (by simp [go_sem]) (by simp [go_sem])
 | some a =>
  refine Go.run_convert_bytes_back w _ _ 5 a cap l (by simp [go_sem]) (by simp [go_sem]) (by simp [go_sem]) ?_;intro j hj;obtain ⟨b,o,e,_,hx⟩:=hr (by intro e;have:=byteV_len l;rw [e] at this;simp at this;omega);cases e
  have:=hx j (by rw [byteV_len];exact hj);have e2:(⟨b,o,none⟩:Addr).add j=⟨b,o+j,none⟩:=by simp [Addr.add]
  rw [e2];simpa [byteV] using this
def qBytes (xs:List (Int × Int)):List UInt8:=xs.flatMap fun x=>cpBytes x.1.toNat
def qEnd (a:Nat) (xs:List (Int × Int)):Nat:=match xs.getLast? with | some x=>x.2.toNat | none=>a
end Go.Proofs.YtgolomgmnanbpaaGreatDoor
namespace Go.Proofs.YtgolomgmnanbpaaGreatDoor
set_option linter.unusedVariables false
set_option linter.unusedSimpArgs false
open Go.RowKit Go.Shelf
attribute [local go_sem] run_index_arr run_part_agg run_part_one run_field_agg Oper.semAt_some
def qRead (l:List UInt8) (a:Int):List UInt8 × Int × Int :=
 if a<0∨(l.length:Int)<a then ([],0,2) else if a=l.length then ([],a,6) else if l[a.toNat]? ≠ some 34 then ([],a,7)
 else if l[qEnd (a.toNat+1) (signsL l (a.toNat+1))]? = some 34 then (qBytes (signsL l (a.toNat+1)),qEnd (a.toNat+1) (signsL l (a.toNat+1))+1,0)
 else ([],qEnd (a.toNat+1) (signsL l (a.toNat+1)),(qSign l (qEnd (a.toNat+1) (signsL l (a.toNat+1)):Nat)).2.2)
theorem BS.putObj {W:World} {v:Value} {l:List UInt8} {k:Nat} {o:Obj} (o':Obj) (h:BS W v l) (ho:W.heap[k]? = some o) (hc:o.isCells=false):BS (W.putObj k o') v l:=by
 obtain ⟨A,cap,rfl,hcap,hr⟩:=h;exact ⟨A,cap,rfl,hcap,hr.putObj o' ho hc⟩
theorem KeepsFrom.below_ {B:Nat} {W W':World} (h:Below W.heap.size W W'):KeepsFrom B W W':=⟨h.size,fun k o _ ho _=>(h.block k (Array.getElem?_eq_some_iff.1 ho).1).trans ho⟩
theorem kf_setBlk {B:Nat} {W W':World} {g:Nat} {t:TypeId} {cs:Array Value} (h:KeepsFrom B W W') (hb:Blk W' g t cs) (i:Nat) (u:Value):KeepsFrom B W (W'.setCell ⟨g,i,none⟩ u) :=
 ⟨by simpa [World.setCell] using h.1,fun k o hk ho hc=>by
  have h1:=h.2 k o hk ho hc;rw [← h1];refine Below.heap_setCell W' ⟨g,i,none⟩ u k ?_;rintro rfl;unfold Blk at hb;rw [hb] at h1;cases h1
  cases hc⟩
end Go.Proofs.YtgolomgmnanbpaaGreatDoor
namespace Go.Proofs.YtgolomgmnanbpaaGreatDoor
set_option linter.unusedVariables false
set_option linter.unusedSimpArgs false
inductive JV where
 | mk:Int→Int→List UInt8→List JV→List (List UInt8)→JV
def JV.kind:JV→Int | .mk k _ _ _ _=>k
def JV.num:JV→Int | .mk _ n _ _ _=>n
def JV.txt:JV→List UInt8 | .mk _ _ s _ _=>s
def JV.kids:JV→List JV | .mk _ _ _ l _=>l
def JV.keys:JV→List (List UInt8) | .mk _ _ _ _ k=>k
def jZero:JV:=.mk 0 0 [] [] []
def ltB (a b:List UInt8):Bool:=Op.bytesLess a b
def insPos (key:List UInt8) (keys:List (List UInt8)):Nat→Nat
 | 0=>0
 | n+1=>if ltB key (keys.getD n []) then insPos key keys n else n+1
theorem insPos_le (key:List UInt8) (keys:List (List UInt8)):∀ n,insPos key keys n≤n
 | 0=>Nat.le_refl _
 | n+1=>by unfold insPos;split;exact Nat.le_succ_of_le (insPos_le key keys n);exact Nat.le_refl _
def insAt {α:Type} (l:List α) (i:Nat) (x:α):List α:=l.take i++x::l.drop i
def addKid (v:JV) (key:List UInt8) (x:JV):JV :=
 match v with
 | .mk k n s kids keys =>
  if k=6 then .mk k n s (insAt kids (insPos key keys kids.length) x) (insAt keys (insPos key keys kids.length) key)
  else .mk k n s (kids++[x]) keys
abbrev JStk:=List (JV × List UInt8)
inductive PRes where
 | fail:Int→Int→PRes
 | done:Nat→JV→PRes
 | go:Nat→Nat→Nat→JStk→PRes
def failF (l:List UInt8) (p e:Int):Int × Int:=(p,if e=7∧(l.length:Int)≤p then 6 else e)
def pFail (l:List UInt8) (p e:Int):PRes:=.fail (failF l p e).1 (failF l p e).2
def pPut (v:JV) (m many:Nat):JStk→PRes
 | []=>.done m v
 | (top,key)::r=>.go 5 m many ((addKid top key v,key)::r)
def beginsB (c:UInt8):Bool:=decide (c.toNat=34∨c.toNat=91∨c.toNat=123∨c.toNat=45∨c.toNat=110∨c.toNat=116∨c.toNat=102∨(48≤c.toNat∧c.toNat≤57))
def wordMis (l:List UInt8) (p:Nat):List UInt8→Option Nat
 | []=>none
 | c::r=>if l[p]? = some c then wordMis l (p+1) r else some p
def wordJ (l:List UInt8) (p:Nat) (u:List UInt8) (v:JV):Sum (JV × Nat) (Int × Int) :=
 match wordMis l p u with | none=>.inl (v,p+u.length) | some q=>.inr (failF l q 7)
def nullT:List UInt8:=[110,117,108,108]
def trueT:List UInt8:=[116,114,117,101]
def falseT:List UInt8:=[102,97,108,115,101]
def textJ (l:List UInt8) (p:Nat):Sum (JV × Nat) (Int × Int) :=
 if (qRead l p).2.2=0 then .inl (.mk 4 0 (qRead l p).1 [] [],(qRead l p).2.1.toNat) else .inr (failF l (qRead l p).2.1 (qRead l p).2.2)
def numJ (l:List UInt8) (p:Nat):Sum (JV × Nat) (Int × Int) :=
 if (numRead l p).2.2=0 then .inl (.mk 3 (numRead l p).1 [] [] [],(numRead l p).2.1.toNat) else .inr (failF l (numRead l p).2.1 (numRead l p).2.2)
def atomJ (l:List UInt8) (p:Nat) (c:UInt8):Sum (JV × Nat) (Int × Int) :=
 if c.toNat=34 then textJ l p else if c.toNat=110 then wordJ l p nullT (.mk 1 0 [] [] []) else if c.toNat=116 then wordJ l p trueT (.mk 2 1 [] [] [])
 else if c.toNat=102 then wordJ l p falseT (.mk 2 0 [] [] []) else numJ l p
inductive BRes where
 | err:Int→Int→BRes
 | atom:JV→Nat→BRes
 | opens:Nat→Bool→BRes
def beginJ (l:List UInt8) (at_ many deep:Nat):BRes :=
 match l[skipB l at_]? with
 | none=>.err (failF l (skipB l at_) 7).1 (failF l (skipB l at_) 7).2
 | some c =>
  if beginsB c=false then .err (failF l (skipB l at_) 7).1 (failF l (skipB l at_) 7).2
  else if many=256 then .err (skipB l at_) 151
  else if c.toNat=91∨c.toNat=123 then (if deep=8 then .err (skipB l at_) 150 else .opens (skipB l at_) (decide (c.toNat=123)))
  else match atomJ l (skipB l at_) c with | .inl (v,m)=>.atom v m | .inr (p,e)=>.err p e
def pValue (l:List UInt8) (at_ many:Nat) (stk:JStk):PRes :=
 match beginJ l at_ many stk.length with
 | .err p e=>.fail p e
 | .atom v m=>pPut v m (many+1) stk
 | .opens p o=>.go (if o then 2 else 1) (p+1) (many+1) ((.mk (if o then 6 else 5) 0 [] [] [],[])::stk)
def pClose (l:List UInt8) (q many:Nat):JStk→PRes
 | []=>.fail q 0
 | (v,_)::r=>pPut v (q+1) many r
def pFirst (l:List UInt8) (at_ many:Nat) (stk:JStk):PRes :=
 if l[skipB l at_]? = some 93 then pClose l (skipB l at_) many stk else pValue l at_ many stk
def pKey (l:List UInt8) (at_ many:Nat):JStk→PRes
 | []=>.fail at_ 0
 | (v,k)::r =>
  if l[skipB l at_]? = some 34 then
   if (qRead l (skipB l at_)).2.2=0 then
    if (qRead l (skipB l at_)).1 ∈ v.keys then .fail (skipB l at_) 141
    else .go 4 (qRead l (skipB l at_)).2.1.toNat many ((v,(qRead l (skipB l at_)).1)::r)
   else pFail l (qRead l (skipB l at_)).2.1 (qRead l (skipB l at_)).2.2
  else pFail l (skipB l at_) 7
def pFirstKey (l:List UInt8) (at_ many:Nat) (stk:JStk):PRes :=
 if l[skipB l at_]? = some 125 then pClose l (skipB l at_) many stk else pKey l at_ many stk
def pColon (l:List UInt8) (at_ many:Nat) (stk:JStk):PRes :=
 if l[skipB l at_]? = some 58 then .go 0 (skipB l at_+1) many stk else pFail l (skipB l at_) 7
def pMore (l:List UInt8) (at_ many:Nat):JStk→PRes
 | []=>.fail at_ 0
 | (v,k)::r =>
  if l[skipB l at_]? = some 44 then .go (if v.kind=6 then 3 else 0) (skipB l at_+1) many ((v,k)::r)
  else if l[skipB l at_]? = some (if v.kind=6 then 125 else 93) then pClose l (skipB l at_) many ((v,k)::r)
  else pFail l (skipB l at_) 7
def pStep (l:List UInt8):PRes→PRes
 | .go 0 a m s=>pValue l a m s
 | .go 1 a m s=>pFirst l a m s
 | .go 2 a m s=>pFirstKey l a m s
 | .go 3 a m s=>pKey l a m s
 | .go 4 a m s=>pColon l a m s
 | .go 5 a m s=>pMore l a m s
 | r=>r
def pRun (l:List UInt8):Nat→PRes→PRes
 | 0,r=>r
 | k+1,r=>pRun l k (pStep l r)
end Go.Proofs.YtgolomgmnanbpaaGreatDoor
namespace Go.Proofs.YtgolomgmnanbpaaGreatDoor
set_option linter.unusedVariables false
set_option linter.unusedSimpArgs false
end Go.Proofs.YtgolomgmnanbpaaGreatDoor
namespace Go.Proofs.YtgolomgmnanbpaaGreatDoor
set_option linter.unusedVariables false
set_option linter.unusedSimpArgs false
open Go.RowKit
end Go.Proofs.YtgolomgmnanbpaaGreatDoor
namespace Go.Proofs.YtgolomgmnanbpaaGreatDoor
set_option linter.unusedVariables false
set_option linter.unusedSimpArgs false
section
variable {l:List UInt8}
theorem pRun_add:∀ (a b:Nat) (r:PRes),pRun l (a+b) r=pRun l b (pRun l a r)
 | 0,b,r=>by rw [Nat.zero_add];rfl
 | a+1,b,r=>by rw [show a+1+b=(a+b)+1 from by omega];exact pRun_add a b _
def Reach (l:List UInt8) (a b:PRes):Prop:=∃ k,pRun l k a=b
theorem Reach.refl (a:PRes):Reach l a a:=⟨0,rfl⟩
theorem Reach.trans {a b c:PRes}:Reach l a b→Reach l b c→Reach l a c
 | ⟨k,h⟩,⟨k',h'⟩=>⟨k+k',by rw [pRun_add,h,h']⟩
theorem Reach.step {a c:PRes} (h:Reach l (pStep l a) c):Reach l a c:=by obtain ⟨k,h⟩:=h;exact ⟨k+1,h⟩
theorem mem_insAt {α:Type} {l:List α} {i:Nat} {x y:α}:y ∈ insAt l i x ↔ y ∈ l∨y=x:=by
 unfold insAt;constructor
 ·intro h;rcases List.mem_append.1 h with h | h
  ·exact .inl (List.mem_of_mem_take h)
  ·rcases List.mem_cons.1 h with h | h
   ·exact .inr h
   ·exact .inl (List.mem_of_mem_drop h)
 ·rintro (h | rfl)
  ·rw [← List.take_append_drop i l] at h;rcases List.mem_append.1 h with h | h
   ·exact List.mem_append_left _ h
   ·exact List.mem_append_right _ (List.mem_cons_of_mem _ h)
  ·simp
structure IsObj (v:JV) (keys:List (List UInt8)):Prop where
 kind:v.kind=6
 len:v.keys.length=v.kids.length
 mem:∀ s,s ∈ v.keys ↔ s ∈ keys
theorem IsObj.add {v:JV} {keys:List (List UInt8)} (h:IsObj v keys) (s:List UInt8) (x:JV):IsObj (addKid v s x) (keys++[s]):=by
 obtain ⟨k,n,t,kids,ks⟩:=v;have hk:k=6:=h.kind;have hl:ks.length=kids.length:=h.len;unfold addKid;simp only;rw [if_pos hk];refine ⟨hk,?_,fun y=>?_⟩
 ·show (insAt ks _ s).length=(insAt kids _ x).length
  have:=insPos_le s ks kids.length;simp [insAt];omega
 ·show y ∈ insAt ks _ s ↔ _
  rw [mem_insAt,List.mem_append,List.mem_singleton];have:y ∈ ks ↔ y ∈ keys:=h.mem y;rw [this]
end
end Go.Proofs.YtgolomgmnanbpaaGreatDoor
namespace Go.Proofs.YtgolomgmnanbpaaGreatDoor
set_option linter.unusedVariables false
set_option linter.unusedSimpArgs false
def later (p:Nat):PRes→Prop
 | .go _ p' _ _=>p<p'
 | _=>True
section
variable {l:List UInt8}
end
end Go.Proofs.YtgolomgmnanbpaaGreatDoor
namespace Go.Proofs.YtgolomgmnanbpaaGreatDoor
set_option linter.unusedVariables false
set_option linter.unusedSimpArgs false
open Go.RowKit
section Cut
variable {l:List UInt8}
end Cut
end Go.Proofs.YtgolomgmnanbpaaGreatDoor
namespace Go.Proofs.YtgolomgmnanbpaaGreatDoor
set_option linter.unusedVariables false
set_option linter.unusedSimpArgs false
open Go.RowKit
section Cut
variable {l:List UInt8}
end Cut
end Go.Proofs.YtgolomgmnanbpaaGreatDoor
namespace Go.Proofs.YtgolomgmnanbpaaGreatDoor
set_option linter.unusedVariables false
set_option linter.unusedSimpArgs false
open Go.RowKit
section CutN
variable {l:List UInt8}
end CutN
end Go.Proofs.YtgolomgmnanbpaaGreatDoor
namespace Go.Proofs.YtgolomgmnanbpaaGreatDoor
set_option linter.unusedVariables false
set_option linter.unusedSimpArgs false
open Go.RowKit
section CutS
variable {l:List UInt8}
def far (n:Nat):PRes→Prop
 | .fail _ _=>True
 | .go _ p' _ _=>n<p'
 | .done q _=>n<q
end CutS
end Go.Proofs.YtgolomgmnanbpaaGreatDoor
