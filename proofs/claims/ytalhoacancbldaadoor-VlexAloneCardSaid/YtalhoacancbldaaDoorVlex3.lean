/- The walks of package vlex: the reader's state, pass, fails. -/
import Derived.Test.YtalhoacancbldaaDoorVlex2
import Derived.Test.YtalhoacancbldaaDoorBlank
namespace Go.Proofs.YtalhoacancbldaaDoor
set_option linter.unusedVariables false
set_option linter.unusedSimpArgs false
open Go.RowKit
attribute [local go_sem] run_index_arr run_part_agg run_part_one run_field_agg

def vCells (A : Option Addr) (n cap : Nat) (p why : Int) : Array Value := #[.int .i64 p, .int .i64 why, .slice A n cap]
/-- block g is a reader of tokens of the bytes l -/
def VB (w : World) (g : Nat) (A : Option Addr) (cap : Nat) (l : List UInt8) (p why : Int) : Prop := Blk w g 64 (vCells A l.length cap p why) ∧ Rd w A (byteV l)
def VStep (w : World) (g : Nat) (A : Option Addr) (cap : Nat) (l : List UInt8) (p why : Int) (w' : World) : Prop := VB w' g A cap l p why ∧ w.grownBy w' (some g)
section
variable {w w' : World} {g : Nat} {A : Option Addr} {cap : Nat} {l : List UInt8} {p why p' why' : Int}
theorem vCells_no {m : Nat} : ∀ (i : Nat) (c : Int), (vCells A m cap p why)[i]? = some (Value.int .u8 c) → False := by
  intro i c h
  unfold vCells at h
  match i with
  | 0 | 1 | 2 => simp at h
  | i + 3 => simp at h
theorem VB.drewN (h : VB w g A cap l p why) (k : Nat) : VB (w.drewN k) g A cap l p why := ⟨h.1.drewN k, h.2.drewN k⟩
theorem VB.keep (h : VB w g A cap l p why) (hb : Below w.heap.size w w') : VB w' g A cap l p why := ⟨h.1.keep hb, h.2.below hb⟩
theorem VB.set0 (h : VB w g A cap l p why) (q : Int) : VB (w.setCell ⟨g, 0, none⟩ (.int .i64 q)) g A cap l q why :=
  ⟨by have := h.1.set_ 0 (.int .i64 q); simpa [vCells] using this, h.2.setCell (h.2.ne_blk h.1 vCells_no) _ _⟩
theorem VB.set1 (h : VB w g A cap l p why) (q : Int) : VB (w.setCell ⟨g, 1, none⟩ (.int .i64 q)) g A cap l p q :=
  ⟨by have := h.1.set_ 1 (.int .i64 q); simpa [vCells] using this, h.2.setCell (h.2.ne_blk h.1 vCells_no) _ _⟩
theorem VStep.refl (h : VB w g A cap l p why) : VStep w g A cap l p why w := ⟨h, gb_refl _ _⟩
theorem VStep.trans {w'' : World} (h : VStep w g A cap l p why w') (k : VStep w' g A cap l p' why' w'') : VStep w g A cap l p' why' w'' := ⟨k.1, gb_trans h.2 k.2⟩
theorem VStep.drewN (h : VStep w g A cap l p why w') (k : Nat) : VStep w g A cap l p why (w'.drewN k) := ⟨h.1.drewN k, gb_drewN h.2 k⟩
theorem VStep.keep {w'' : World} (h : VStep w g A cap l p why w') (hb : Below w'.heap.size w' w'') : VStep w g A cap l p why w'' :=
  ⟨h.1.keep hb, gb_trans h.2 ⟨hb.os, hb.tape, hb.output, hb.size, fun i hi _ => hb.block i hi⟩⟩
theorem VStep.set0 (h : VStep w g A cap l p why w') (q : Int) : VStep w g A cap l q why (w'.setCell ⟨g, 0, none⟩ (.int .i64 q)) := ⟨h.1.set0 q, gb_setCell h.2 _ _⟩
theorem VStep.set1 (h : VStep w g A cap l p why w') (q : Int) : VStep w g A cap l p q (w'.setCell ⟨g, 1, none⟩ (.int .i64 q)) := ⟨h.1.set1 q, gb_setCell h.2 _ _⟩
theorem VStep.alloc (h : VStep w g A cap l p why w') (o : Obj) : VStep w g A cap l p why (w'.alloc o) := h.keep ((Below.refl _ _).alloc (Nat.le_refl _) _)
/-- a block that is newer than the reader -/
theorem VStep.new (h : VStep w g A cap l p why w') {k : Nat} {t : TypeId} {cs : Array Value} (hb : Blk w' k t cs) (hcs : ∀ (i : Nat) (c : Int), cs[i]? = some (Value.int .u8 c) → False) (hk : w.heap.size ≤ k) (hg : g < w.heap.size) (i : Nat) (u : Value) :
    VStep w g A cap l p why (w'.setCell ⟨k, i, none⟩ u) :=
  ⟨⟨h.1.1.far (p := ⟨k, i, none⟩) (by simp; omega) u, h.1.2.setCell (h.1.2.ne_blk hb hcs) i u⟩, gb_new h.2 _ _ hk⟩
end

def tokV (k : Int) (p : Int) (s : ByteArray) (n : Int) : Value := .agg #[.int .i64 k, .int .i64 p, .string s, .int .i64 n]
def zeroTok : Value := .agg #[.int .i64 0, .int .i64 0, .string ⟨#[]⟩, .int .i64 0]

set_option maxRecDepth 100000 in
set_option maxHeartbeats 1000000 in
theorem fails_any (w : World) (g : Nat) (A : Option Addr) (cap : Nat) (l : List UInt8) (p why q e : Int) (hV : VB w g A cap l p why) :
    Calls Tryd.prog 88 #[.pointer (some ⟨g, 0, none⟩), .int .i64 q, .int .i64 e] w fun x w' => x = .returned zeroTok ∧ VStep w g A cap l q e w' := by
  obtain ⟨hc, hf, hlt⟩ := hV.1.rules
  have HV := Lib.hid hV
  clear hV
  unfold vCells at hc
  go_enter Tryd.func88, Tryd.ntmps88
  go_wp2
  go_returns
  exact ⟨rfl, (((VStep.refl HV.out).set0 q).set1 e).alloc _⟩

/-- a byte of the reader's row -/
theorem VB.byte {w : World} {g : Nat} {A : Option Addr} {cap : Nat} {l : List UInt8} {p why : Int} (h : VB w g A cap l p why) {k : Nat} {c : UInt8} (hc : l[k]? = some c) :
    ∃ b o, A = some ⟨b, o, none⟩ ∧ b < w.heap.size ∧ w.cell? ⟨b, o + k, none⟩ = some (.int .u8 c.toNat) := by
  obtain ⟨hlt, e⟩ := List.getElem?_eq_some_iff.1 hc
  obtain ⟨b, o, rfl, hb, hx⟩ := h.2 (by intro e; have h3 := byteV_len l; rw [e, List.length_nil] at h3; omega)
  exact ⟨b, o, rfl, hb, by rw [hx k (by rw [byteV_len]; exact hlt)]; simp [byteV, e]⟩

set_option maxRecDepth 100000 in
set_option maxHeartbeats 2000000 in
theorem pass_any (w : World) (g : Nat) (A : Option Addr) (cap : Nat) (l : List UInt8) (p : Nat) (why : Int) (hV : VB w g A cap l p why) (hp : p ≤ l.length) (hcap : l.length ≤ cap) (hlen : l.length ≤ 1048576) :
    Calls Tryd.prog 73 #[.pointer (some ⟨g, 0, none⟩)] w fun e w' => e = .returned (.tuple #[]) ∧ VStep w g A cap l (skipB l p) why w' := by
  have HV := Lib.hid hV
  clear hV
  go_enter Tryd.func73, Tryd.ntmps73
  go_wp2
  go_loopg [24] (l.length - p) (fun gk _ wr => ∃ k : Nat, k ≤ l.length ∧ gk = l.length - k ∧ skipB l p = skipB l k ∧ VStep w g A cap l k why wr)
  case atStart => exact ⟨p, hp, rfl, rfl, VStep.refl HV.out⟩
  case round =>
    obtain ⟨k, hk, hgk, hs, hst⟩ := hrel
    obtain ⟨hc, hf, hlt⟩ := hst.1.1.rules
    unfold vCells at hc
    have HS := Lib.hid hs
    have HG := Lib.hid hgk
    clear hs hgk
    by_cases hkl : k < l.length
    · obtain ⟨c, hcc⟩ : ∃ c, l[k]? = some c := ⟨_, List.getElem?_eq_getElem hkl⟩
      obtain ⟨b, o, rfl, hb, hx⟩ := hst.1.byte hcc
      have HC := Lib.hid hcc
      clear hcc
      cases hbk : isBlankB c with
      | true =>
        have HN := Lib.hid (skipB_step HC.out hbk)
        unfold isBlankB at hbk
        have hq : c.toNat = 9 ∨ c.toNat = 10 ∨ c.toNat = 13 ∨ c.toNat = 32 := by simpa using hbk
        clear hbk
        rcases hq with hq | hq | hq | hq
        all_goals
          rw [hq] at hx
          clear hq
          go_wp2
          go_quiet (fail)
          go_wp2
          go_quiet (fail)
          go_wp2
          go_roundg (l.length - (k + 1))
          case measure => rw [HG.out]; omega
          case rel => exact ⟨k + 1, hkl, rfl, HS.out.trans HN.out, (hst.drewN _).set0 _⟩
      | false =>
        have HN := Lib.hid (skipB_stop HC.out hbk)
        unfold isBlankB at hbk
        have hq : ¬ (c.toNat = 9 ∨ c.toNat = 10 ∨ c.toNat = 13 ∨ c.toNat = 32) := by simpa using hbk
        clear hbk
        have q1 : ((c.toNat : Int) == 9) = false := by simp; omega
        have q2 : ((c.toNat : Int) == 10) = false := by simp; omega
        have q3 : ((c.toNat : Int) == 13) = false := by simp; omega
        have q4 : ((c.toNat : Int) == 32) = false := by simp; omega
        clear hq
        go_wp2
        go_quiet (fail)
        go_wp2
        go_quiet (fail)
        go_wp2
        refine bodyPost_ret (results_none rfl _ _ _) rfl ⟨rfl, ?_⟩
        rw [HS.out, HN.out]
        exact hst.drewN _
    · have HN := Lib.hid (skipB_end (l := l) (p := k) (by omega))
      obtain rfl : k = l.length := by omega
      clear hkl
      go_wp2
      go_quiet (fail)
      go_wp2
      go_end0
      refine ⟨rfl, ?_⟩
      rw [HS.out, HN.out]
      exact hst.drewN _
end Go.Proofs.YtalhoacancbldaaDoor
