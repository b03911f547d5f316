/- The walks of package numeral: the reader's steps. -/
import Derived.Test.YtalhoacancbldaaDoorProg
import Derived.Test.YtalhoacancbldaaDoorOwn
import Derived.Test.YtalhoacancbldaaDoorSpecNum
import Derived.Deep.RegionHeld3
namespace Go.Proofs.YtalhoacancbldaaDoor
set_option linter.unusedVariables false
set_option linter.unusedSimpArgs false
open Go.RowKit
attribute [local go_sem] run_index_arr run_part_agg run_part_one run_field_agg

/-- what a reader of numerals holds beside its bytes -/
structure NSt where
  pos : Nat
  minus : Bool
  size : Nat
  over : Bool
  part : Bool
def numCells (A : Option Addr) (n cap : Nat) (s : NSt) : Array Value := #[.int .i64 s.pos, .slice A n cap, .bool s.minus, .int .u64 s.size, .bool s.over, .bool s.part]
/-- block g is a reader of the bytes l, in state s -/
def NB (w : World) (g : Nat) (A : Option Addr) (cap : Nat) (l : List UInt8) (s : NSt) : Prop := Blk w g 144 (numCells A l.length cap s) ∧ Rd w A (byteV l)
theorem NB.drewN {w : World} {g : Nat} {A : Option Addr} {cap : Nat} {l : List UInt8} {s : NSt} (h : NB w g A cap l s) (k : Nat) : NB (w.drewN k) g A cap l s := ⟨h.1.drewN k, h.2.drewN k⟩

theorem sl_getElem (s : ByteArray) (k : Nat) (h : k < s.size) : (sl s)[k]'(by rw [sl_len]; exact h) = s[k] := rfl

set_option maxRecDepth 100000 in
set_option maxHeartbeats 1000000 in
theorem sees_in (w : World) (g p : Nat) (b o cap : Nat) (l : List UInt8) (c : UInt8) (s : ByteArray) (hc : l[p]? = some c)
    (h0 : w.cell? ⟨g, 0, none⟩ = some (.int .i64 p)) (h1 : w.cell? ⟨g, 1, none⟩ = some (.slice (some ⟨b, o, none⟩) l.length cap))
    (hx : w.cell? ⟨b, o + p, none⟩ = some (.int .u8 c.toNat)) (hs : s.size ≤ 1048576) (hn : l.length ≤ 1048576) :
    Calls Tryd.prog 159 #[.pointer (some ⟨g, 0, none⟩), .string s] w fun e w' => e = .returned (.bool (seesB l p (sl s))) ∧ ∃ k, w' = w.drewN k := by
  have hlt : p < l.length := (List.getElem?_eq_some_iff.1 hc).1
  have HC := Lib.hid (show seesB l p (sl s) = (sl s).contains c by simp [seesB, hc])
  clear hc
  go_enter Tryd.func159, Tryd.ntmps159
  go_wp2
  go_loopw [5, 8] (fun _ i wr => ∃ k m : Nat, k ≤ s.size ∧ i = .int .i64 k ∧ wr = w.drewN m ∧ ((sl s).take k).contains c = false) (fun _ i _ => s.size - (intOf i).toNat)
  case atStart => exact ⟨0, 0, Nat.zero_le _, rfl, rfl, by simp⟩
  case round =>
    obtain ⟨k, m, hk, rfl, rfl, hno⟩ := hrel
    have HN := Lib.hid hno
    clear hno
    by_cases hlt' : k < s.size
    · have HS := Lib.hid (show (sl s).take (k + 1) = (sl s).take k ++ [s[k]] by rw [List.take_succ_eq_append_getElem (by rw [sl_len]; exact hlt')]; rfl)
      go_wp2
      go_quiet (fail)
      go_wp2
      · have hh : c = s[k] := by
          have h := ‹((c.toNat : Int) == (s[k].toNat : Int)) = true›
          exact UInt8.toNat_inj.1 (by simp at h; omega)
        go_ret
        refine ⟨ret_bool ?_, _, by rw [World.drewN_drewN]⟩
        rw [HC.out]
        have : s[k] ∈ sl s := by rw [← sl_getElem s k hlt']; exact List.getElem_mem _
        rw [hh]
        simp [this]
      · have hh : c ≠ s[k] := by
          have h := ‹((c.toNat : Int) == (s[k].toNat : Int)) = false›
          intro e; rw [← e] at h; simp at h
        go_roundw
        case rel =>
          refine ⟨k + 1, _, by omega, by go_num, rfl, ?_⟩
          rw [HS.out, List.contains_append, HN.out]
          simp [hh]
        case measure => simp [intOf]; omega
    · obtain rfl : k = s.size := by omega
      have hno := HN.out
      rw [List.take_of_length_le (by rw [sl_len]; exact Nat.le_refl _)] at hno
      have HN := Lib.hid hno
      clear hno
      go_wp2
      go_ret
      exact ⟨ret_bool (by rw [HC.out, HN.out]), _, rfl⟩

set_option maxRecDepth 100000 in
set_option maxHeartbeats 1000000 in
theorem sees_out (w : World) (g p : Nat) (A : Option Addr) (cap : Nat) (l : List UInt8) (s : ByteArray) (hp : l.length ≤ p) (hp2 : p ≤ 2097152)
    (h0 : w.cell? ⟨g, 0, none⟩ = some (.int .i64 p)) (h1 : w.cell? ⟨g, 1, none⟩ = some (.slice A l.length cap)) (hs : s.size ≤ 1048576) :
    Calls Tryd.prog 159 #[.pointer (some ⟨g, 0, none⟩), .string s] w fun e w' => e = .returned (.bool (seesB l p (sl s))) ∧ ∃ k, w' = w.drewN k := by
  have HC := Lib.hid (show seesB l p (sl s) = false by simp [seesB, List.getElem?_eq_none hp])
  have hlt : decide (p < l.length) = false := by simp; omega
  have hlt2 : decide ((p : Int) < (l.length : Int)) = false := by simp; omega
  go_enter Tryd.func159, Tryd.ntmps159
  go_wp2
  go_loopw [5, 8] (fun _ i wr => ∃ k m : Nat, k ≤ s.size ∧ i = .int .i64 k ∧ wr = w.drewN m) (fun _ i _ => s.size - (intOf i).toNat)
  case atStart => exact ⟨0, 0, Nat.zero_le _, rfl, rfl⟩
  case round =>
    obtain ⟨k, m, hk, rfl, rfl⟩ := hrel
    by_cases hlt' : k < s.size
    · go_wp2
      go_quiet (fail)
      go_wp2
      go_roundw
      case rel => exact ⟨k + 1, _, by omega, by go_num, rfl⟩
      case measure => simp [intOf]; omega
    · go_wp2
      go_ret
      exact ⟨ret_bool (by rw [HC.out]), _, rfl⟩

theorem sees_any (w : World) (g : Nat) (A : Option Addr) (cap : Nat) (l : List UInt8) (st : NSt) (s : ByteArray) (hN : NB w g A cap l st) (hs : s.size ≤ 1048576) (hl : l.length ≤ 1048576) (hp : st.pos ≤ 2097152) :
    Calls Tryd.prog 159 #[.pointer (some ⟨g, 0, none⟩), .string s] w fun e w' => e = .returned (.bool (seesB l st.pos (sl s))) ∧ ∃ k, w' = w.drewN k := by
  have h0 : w.cell? ⟨g, 0, none⟩ = some (.int .i64 st.pos) := hN.1.cell 0
  have h1 : w.cell? ⟨g, 1, none⟩ = some (.slice A l.length cap) := hN.1.cell 1
  by_cases h : st.pos < l.length
  · obtain ⟨b, o, rfl, hb, hx⟩ := hN.2 (by intro e; have h3 := byteV_len l; rw [e, List.length_nil] at h3; omega)
    refine sees_in w g st.pos b o cap l l[st.pos] s (List.getElem?_eq_getElem h) h0 h1 ?_ hs hl
    rw [hx st.pos (by rw [byteV_len]; exact h)]; simp [byteV]
  · exact sees_out w g st.pos A cap l s (by omega) hp h0 h1 hs

/-- a step of the reader: block g turns, and what is new; nothing else -/
theorem gb_trans {a b c : World} {row : Option Nat} (h : a.grownBy b row) (k : b.grownBy c row) : a.grownBy c row :=
  ⟨k.os.trans h.os, k.tape.trans h.tape, k.output.trans h.output, Nat.le_trans h.size k.size, fun i hi hne => (k.block i (Nat.lt_of_lt_of_le hi h.size) hne).trans (h.block i hi hne)⟩
theorem gb_drewN {a w : World} {row : Option Nat} (h : a.grownBy w row) (n : Nat) : a.grownBy (w.drewN n) row := ⟨h.os, h.tape, h.output, h.size, h.block⟩
theorem gb_setCell {a w : World} {g : Nat} (h : a.grownBy w (some g)) (i : Nat) (u : Value) : a.grownBy (w.setCell ⟨g, i, none⟩ u) (some g) :=
  ⟨h.os, h.tape, h.output, by simpa [World.setCell] using h.size, fun j hj hne => (Below.heap_setCell w ⟨g, i, none⟩ u j (fun e => hne (by rw [e]))).trans (h.block j hj hne)⟩
theorem gb_refl (w : World) (row : Option Nat) : w.grownBy w row := ⟨rfl, rfl, rfl, Nat.le_refl _, fun _ _ _ => rfl⟩
theorem Rd.setCell {w : World} {A : Option Addr} {xs : List Value} {g : Nat} (h : Rd w A xs) (hne : ∀ b o, A = some ⟨b, o, none⟩ → xs ≠ [] → b ≠ g) (i : Nat) (u : Value) : Rd (w.setCell ⟨g, i, none⟩ u) A xs := fun hn => by
  obtain ⟨b, o, rfl, hb, hx⟩ := h hn
  refine ⟨b, o, rfl, by simpa [World.setCell] using hb, fun j hj => ?_⟩
  rw [← hx j hj]
  exact World.cell?_of_block (w := w) (Below.heap_setCell w ⟨g, i, none⟩ u b (hne b o rfl hn))
/-- a row of cells of another make lies in another block -/
theorem Rd.ne_blk {w : World} {g : Nat} {t : TypeId} {cs : Array Value} {A : Option Addr} {l : List UInt8} (h : Rd w A (byteV l)) (hb : Blk w g t cs) (hcs : ∀ (i : Nat) (c : Int), cs[i]? = some (Value.int .u8 c) → False) :
    ∀ b o, A = some ⟨b, o, none⟩ → byteV l ≠ [] → b ≠ g := by
  intro b o e hn
  obtain ⟨b', o', e', _, hx⟩ := h hn
  rw [e] at e'
  obtain ⟨rfl, rfl⟩ : b = b' ∧ o = o' := by simpa using e'
  rintro rfl
  have h0 := hx 0 (List.length_pos_iff.2 hn)
  rw [hb.cell] at h0
  obtain ⟨c, r, hl⟩ := List.exists_cons_of_ne_nil (show l ≠ [] from fun e => hn (by simp [e, byteV]))
  subst hl
  exact hcs _ _ h0
theorem numCells_no {A : Option Addr} {n cap : Nat} {s : NSt} : ∀ (i : Nat) (c : Int), (numCells A n cap s)[i]? = some (Value.int .u8 c) → False := by
  intro i c h
  unfold numCells at h
  match i with
  | 0 | 1 | 2 | 3 | 4 | 5 => simp at h
  | i + 6 => simp at h
theorem NB.ne {w : World} {g : Nat} {A : Option Addr} {cap : Nat} {l : List UInt8} {s : NSt} (h : NB w g A cap l s) : ∀ b o, A = some ⟨b, o, none⟩ → byteV l ≠ [] → b ≠ g := h.2.ne_blk h.1 numCells_no

/-- the reader behind a step -/
def NStep (w : World) (g : Nat) (A : Option Addr) (cap : Nat) (l : List UInt8) (s : NSt) (w' : World) : Prop := NB w' g A cap l s ∧ w.grownBy w' (some g)

set_option maxRecDepth 100000 in
set_option maxHeartbeats 1000000 in
theorem takes_any (w : World) (g : Nat) (A : Option Addr) (cap : Nat) (l : List UInt8) (st : NSt) (s : ByteArray) (hN : NB w g A cap l st) (hs : s.size ≤ 1048576) (hl : l.length ≤ 1048576) (hp : st.pos ≤ 2097152) :
    Calls Tryd.prog 152 #[.pointer (some ⟨g, 0, none⟩), .string s] w fun e w' => e = .returned (.bool (seesB l st.pos (sl s))) ∧
      NStep w g A cap l (if seesB l st.pos (sl s) then { st with pos := st.pos + 1 } else st) w' := by
  have hcall := sees_any w g A cap l st s hN hs hl hp
  obtain ⟨hc, hf, hlt⟩ := hN.1.rules
  obtain ⟨b, hb⟩ : ∃ b, seesB l st.pos (sl s) = b := ⟨_, rfl⟩
  rw [hb] at hcall ⊢
  have HC := Lib.hid hcall
  have HN := Lib.hid hN
  clear hcall hN hb
  unfold numCells at hc
  cases b
  · go_enter Tryd.func152, Tryd.ntmps152
    go_wp2_with (go_at_call 159; refine HC.out.mono ?_; rintro e w' ⟨rfl, k, rfl⟩)
    go_ret
    exact ⟨rfl, by simpa using HN.out.drewN k, gb_drewN (gb_refl _ _) _⟩
  · go_enter Tryd.func152, Tryd.ntmps152
    go_wp2_with (go_at_call 159; refine HC.out.mono ?_; rintro e w' ⟨rfl, k, rfl⟩)
    go_ret
    refine ⟨rfl, ⟨?_, ?_⟩, gb_setCell (gb_drewN (gb_refl _ _) _) _ _⟩
    · have := (HN.out.1.drewN k).set_ 0 (.int .i64 ((st.pos : Int) + 1))
      simpa [numCells] using this
    · exact (HN.out.2.drewN k).setCell HN.out.ne _ _
end Go.Proofs.YtalhoacancbldaaDoor
