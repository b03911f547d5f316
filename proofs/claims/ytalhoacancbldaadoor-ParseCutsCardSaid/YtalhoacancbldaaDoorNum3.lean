/- The walks of package numeral: the four steps. -/
import Derived.Test.YtalhoacancbldaaDoorNum2
namespace Go.Proofs.YtalhoacancbldaaDoor
set_option linter.unusedVariables false
set_option linter.unusedSimpArgs false
open Go.RowKit
attribute [local go_sem] run_index_arr run_part_agg run_part_one run_field_agg

/-- a step of the reader: the state behind it, and the place at which it has ended the numeral -/
def takeS (s : List UInt8) (l : List UInt8) (st : NSt) : NSt := if seesB l st.pos s then { st with pos := st.pos + 1 } else st
def rowS (gr : Bool) (l : List UInt8) (st : NSt) : NSt × Option Nat := if digs l st.pos = [] then (st, some st.pos) else (digS gr (digs l st.pos) st, none)
def signS (l : List UInt8) (st : NSt) : NSt × Option Nat := ({ takeS [45] l st with minus := seesB l st.pos [45] }, none)
def wholeS (l : List UInt8) (st : NSt) : NSt × Option Nat := if seesB l st.pos [48] then ({ st with pos := st.pos + 1 }, none) else rowS true l st
def fracS (l : List UInt8) (st : NSt) : NSt × Option Nat := if seesB l st.pos [46] then rowS false l { st with pos := st.pos + 1, part := true } else (st, none)
def expS (l : List UInt8) (st : NSt) : NSt × Option Nat := if seesB l st.pos [101, 69] then rowS false l (takeS [43, 45] l { st with pos := st.pos + 1, part := true }) else (st, none)

def StepPost (o : NSt × Option Nat) (g : Nat) (A : Option Addr) (cap : Nat) (l : List UInt8) (w : World) (e : Ending) (w' : World) : Prop :=
  (e = match o.2 with | none => .returned (.tuple #[]) | some p => .panicked [{ v := .iface 165 (.int .i64 p), recovered := false }]) ∧ NStep w g A cap l o.1 w'

theorem row_any (gr : Bool) (w : World) (g : Nat) (A : Option Addr) (cap : Nat) (l : List UInt8) (st : NSt) (hN : NB w g A cap l st) (hl : l.length ≤ 1048576) (hp : st.pos ≤ l.length) (hsz : st.size < 18446744073709551616) :
    Calls Tryd.prog 153 #[.pointer (some ⟨g, 0, none⟩), toVal gr g] w (StepPost (rowS gr l st) g A cap l w) :=
  (some_any gr w g A cap l st hN hl (by omega) hsz).mono fun e w' h => by
    unfold SomePost at h; unfold StepPost rowS
    by_cases hd : digs l st.pos = []
    · rw [if_pos hd] at h ⊢; exact h
    · rw [if_neg hd] at h ⊢; exact h

theorem sees_lt {l s : List UInt8} {p : Nat} (h : seesB l p s = true) : p < l.length := by
  unfold seesB at h
  cases hl : l[p]? with
  | none => rw [hl] at h; cases h
  | some c => exact (List.getElem?_eq_some_iff.1 hl).1
theorem rowS_le {gr : Bool} {l : List UInt8} {st : NSt} (hp : st.pos ≤ l.length) : (rowS gr l st).1.pos ≤ l.length := by
  unfold rowS
  have h := digs_le l st.pos
  split
  · exact hp
  · cases gr <;> (show st.pos + _ ≤ _; omega)
theorem takeS_le {s l : List UInt8} {st : NSt} (hp : st.pos ≤ l.length) : (takeS s l st).pos ≤ l.length := by
  unfold takeS
  split
  · rename_i h; exact sees_lt h
  · exact hp
theorem rowS_size {gr : Bool} {l : List UInt8} {st : NSt} (h : st.size < 18446744073709551616) : (rowS gr l st).1.size < 18446744073709551616 := by
  unfold rowS
  split
  · exact h
  · cases gr
    · exact h
    · exact growAll_size _ _ h
theorem takeS_size {s l : List UInt8} {st : NSt} : (takeS s l st).size = st.size := by unfold takeS; split <;> rfl

theorem take_any (w : World) (g : Nat) (A : Option Addr) (cap : Nat) (l : List UInt8) (st : NSt) (s : ByteArray) (hN : NB w g A cap l st) (hs : s.size ≤ 1048576) (hl : l.length ≤ 1048576) (hp : st.pos ≤ l.length) :
    Calls Tryd.prog 152 #[.pointer (some ⟨g, 0, none⟩), .string s] w fun e w' => e = .returned (.bool (seesB l st.pos (sl s))) ∧ NStep w g A cap l (takeS (sl s) l st) w' :=
  takes_any w g A cap l st s hN hs hl (by omega)

set_option maxRecDepth 100000 in
set_option maxHeartbeats 1000000 in
theorem sign_any (w : World) (g : Nat) (A : Option Addr) (cap : Nat) (l : List UInt8) (st : NSt) (hN : NB w g A cap l st) (hl : l.length ≤ 1048576) (hp : st.pos ≤ l.length) :
    Calls Tryd.prog 142 #[.pointer (some ⟨g, 0, none⟩)] w (StepPost (signS l st) g A cap l w) := by
  have ht := take_any w g A cap l st ⟨#[45]⟩ hN (by decide) hl hp
  rw [show sl ⟨#[45]⟩ = [45] from rfl] at ht
  obtain ⟨b, hb⟩ : ∃ b, seesB l st.pos [45] = b := ⟨_, rfl⟩
  rw [hb] at ht
  have HT := Lib.hid ht
  have HB := Lib.hid hb
  clear ht hN hb
  go_enter Tryd.func142, Tryd.ntmps142
  go_wp2_with (go_at_call 152; refine HT.out.mono ?_; rintro e w1 ⟨rfl, hw1⟩; have hf := hw1.1.1.frozen 2; obtain ⟨hc2, _, _⟩ := hw1.1.1.rules)
  go_end0
  refine ⟨rfl, ?_⟩
  unfold signS
  rw [HB.out]
  exact hw1.set_ 2 (.bool b) (by simp [numCells])

theorem row_none {gr : Bool} {w : World} {g : Nat} {A : Option Addr} {cap : Nat} {l : List UInt8} {st st' : NSt} (h : rowS gr l st = (st', none)) (hN : NB w g A cap l st) (hl : l.length ≤ 1048576) (hp : st.pos ≤ l.length) (hsz : st.size < 18446744073709551616) :
    Calls Tryd.prog 153 #[.pointer (some ⟨g, 0, none⟩), toVal gr g] w fun e w' => e = .returned (.tuple #[]) ∧ NStep w g A cap l st' w' := by
  have := row_any gr w g A cap l st hN hl hp hsz
  rw [h] at this
  exact this
theorem row_some {gr : Bool} {w : World} {g : Nat} {A : Option Addr} {cap : Nat} {l : List UInt8} {st st' : NSt} {p : Nat} (h : rowS gr l st = (st', some p)) (hN : NB w g A cap l st) (hl : l.length ≤ 1048576) (hp : st.pos ≤ l.length) (hsz : st.size < 18446744073709551616) :
    Calls Tryd.prog 153 #[.pointer (some ⟨g, 0, none⟩), toVal gr g] w fun e w' => e = .panicked [{ v := .iface 165 (.int .i64 p), recovered := false }] ∧ NStep w g A cap l st' w' := by
  have := row_any gr w g A cap l st hN hl hp hsz
  rw [h] at this
  exact this

set_option maxRecDepth 100000 in
set_option maxHeartbeats 1000000 in
theorem whole_any (w : World) (g : Nat) (A : Option Addr) (cap : Nat) (l : List UInt8) (st : NSt) (hN : NB w g A cap l st) (hl : l.length ≤ 1048576) (hp : st.pos ≤ l.length) (hsz : st.size < 18446744073709551616) :
    Calls Tryd.prog 143 #[.pointer (some ⟨g, 0, none⟩)] w (StepPost (wholeS l st) g A cap l w) := by
  have ht := take_any w g A cap l st ⟨#[48]⟩ hN (by decide) hl hp
  rw [show sl ⟨#[48]⟩ = [48] from rfl] at ht
  obtain ⟨b, hb⟩ : ∃ b, seesB l st.pos [48] = b := ⟨_, rfl⟩
  rw [hb] at ht
  have HT := Lib.hid ht
  have HB := Lib.hid hb
  clear ht hN hb
  unfold wholeS
  rw [HB.out]
  cases b
  · have hts : takeS [48] l st = st := by unfold takeS; rw [HB.out]; rfl
    obtain ⟨⟨st', q⟩, hr⟩ : ∃ r, rowS true l st = r := ⟨_, rfl⟩
    rw [if_neg (by decide), hr]
    cases q with
    | none =>
      have HR := Lib.hid (fun w => @row_none true w g A cap l st st' hr)
      clear hr
      go_enter Tryd.func143, Tryd.ntmps143
      go_wp2_with (first | (go_at_call 152; refine HT.out.mono ?_; rintro e w1 ⟨rfl, hw1⟩) | (go_at_call 153; refine (HR.out _ (hts ▸ hw1.1) hl hp hsz).mono ?_; rintro e w2 ⟨rfl, hw2⟩))
      go_end0
      exact ⟨rfl, (hts ▸ hw1).trans hw2⟩
    | some p =>
      have HR := Lib.hid (fun w => @row_some true w g A cap l st st' p hr)
      clear hr
      go_enter Tryd.func143, Tryd.ntmps143
      go_wp2_with (first | (go_at_call 152; refine HT.out.mono ?_; rintro e w1 ⟨rfl, hw1⟩) | (go_at_call 153; refine (HR.out _ (hts ▸ hw1.1) hl hp hsz).mono ?_; rintro e w2 ⟨rfl, hw2⟩))
      exact ⟨rfl, rfl, (hts ▸ hw1).trans hw2⟩
  · go_enter Tryd.func143, Tryd.ntmps143
    go_wp2_with (go_at_call 152; refine HT.out.mono ?_; rintro e w1 ⟨rfl, hw1⟩)
    go_end0
    refine ⟨rfl, ?_⟩
    have : takeS [48] l st = { st with pos := st.pos + 1 } := by unfold takeS; rw [HB.out]; rfl
    rw [this] at hw1
    exact hw1

set_option maxRecDepth 100000 in
set_option maxHeartbeats 1000000 in
theorem fraction_any (w : World) (g : Nat) (A : Option Addr) (cap : Nat) (l : List UInt8) (st : NSt) (hN : NB w g A cap l st) (hl : l.length ≤ 1048576) (hp : st.pos ≤ l.length) (hsz : st.size < 18446744073709551616) :
    Calls Tryd.prog 144 #[.pointer (some ⟨g, 0, none⟩)] w (StepPost (fracS l st) g A cap l w) := by
  have ht := take_any w g A cap l st ⟨#[46]⟩ hN (by decide) hl hp
  rw [show sl ⟨#[46]⟩ = [46] from rfl] at ht
  obtain ⟨b, hb⟩ : ∃ b, seesB l st.pos [46] = b := ⟨_, rfl⟩
  rw [hb] at ht
  have HT := Lib.hid ht
  have HB := Lib.hid hb
  clear ht hN hb
  unfold fracS
  rw [HB.out]
  cases b
  · have hts : takeS [46] l st = st := by unfold takeS; rw [HB.out]; rfl
    go_enter Tryd.func144, Tryd.ntmps144
    go_wp2_with (go_at_call 152; refine HT.out.mono ?_; rintro e w1 ⟨rfl, hw1⟩)
    go_end0
    exact ⟨rfl, hts ▸ hw1⟩
  · have hts : takeS [46] l st = { st with pos := st.pos + 1 } := by unfold takeS; rw [HB.out]; rfl
    have hp1 : st.pos + 1 ≤ l.length := sees_lt HB.out
    obtain ⟨st0, hs0⟩ : ∃ x, ({ st with pos := st.pos + 1, part := true } : NSt) = x := ⟨_, rfl⟩
    have hp0 : st0.pos ≤ l.length := by rw [← hs0]; exact hp1
    have hsz0 : st0.size < 18446744073709551616 := by rw [← hs0]; exact hsz
    have HS := Lib.hid (show ∀ w', NStep w g A cap l { ({ st with pos := st.pos + 1 } : NSt) with part := true } w' → NStep w g A cap l st0 w' from fun w' h => hs0 ▸ h)
    obtain ⟨⟨st', q⟩, hr⟩ : ∃ r, rowS false l st0 = r := ⟨_, rfl⟩
    rw [if_pos rfl, hs0, hr]
    clear hs0
    cases q with
    | none =>
      have HR := Lib.hid (fun w => @row_none false w g A cap l st0 st' hr)
      clear hr
      go_enter Tryd.func144, Tryd.ntmps144
      go_wp2_with (first | (go_at_call 152; refine HT.out.mono ?_; rintro e w1 ⟨rfl, hw1⟩; rw [hts] at hw1; have hf := hw1.1.1.frozen 5; obtain ⟨hc2, _, _⟩ := hw1.1.1.rules; have hw2 := HS.out _ (hw1.set_ 5 (.bool true) (by simp [numCells]))) | (go_at_call 153; refine (HR.out _ hw2.1 hl hp0 hsz0).mono ?_; rintro e w2 ⟨rfl, hw3⟩))
      go_end0
      exact ⟨rfl, hw2.trans hw3⟩
    | some p =>
      have HR := Lib.hid (fun w => @row_some false w g A cap l st0 st' p hr)
      clear hr
      go_enter Tryd.func144, Tryd.ntmps144
      go_wp2_with (first | (go_at_call 152; refine HT.out.mono ?_; rintro e w1 ⟨rfl, hw1⟩; rw [hts] at hw1; have hf := hw1.1.1.frozen 5; obtain ⟨hc2, _, _⟩ := hw1.1.1.rules; have hw2 := HS.out _ (hw1.set_ 5 (.bool true) (by simp [numCells]))) | (go_at_call 153; refine (HR.out _ hw2.1 hl hp0 hsz0).mono ?_; rintro e w2 ⟨rfl, hw3⟩))
      exact ⟨rfl, rfl, hw2.trans hw3⟩

set_option maxRecDepth 100000 in
set_option maxHeartbeats 1000000 in
theorem exponent_any (w : World) (g : Nat) (A : Option Addr) (cap : Nat) (l : List UInt8) (st : NSt) (hN : NB w g A cap l st) (hl : l.length ≤ 1048576) (hp : st.pos ≤ l.length) (hsz : st.size < 18446744073709551616) :
    Calls Tryd.prog 145 #[.pointer (some ⟨g, 0, none⟩)] w (StepPost (expS l st) g A cap l w) := by
  have ht := take_any w g A cap l st ⟨#[101, 69]⟩ hN (by decide) hl hp
  rw [show sl ⟨#[101, 69]⟩ = [101, 69] from rfl] at ht
  obtain ⟨b, hb⟩ : ∃ b, seesB l st.pos [101, 69] = b := ⟨_, rfl⟩
  rw [hb] at ht
  have HT := Lib.hid ht
  have HB := Lib.hid hb
  clear ht hN hb
  unfold expS
  rw [HB.out]
  cases b
  · have hts : takeS [101, 69] l st = st := by unfold takeS; rw [HB.out]; rfl
    go_enter Tryd.func145, Tryd.ntmps145
    go_wp2_with (go_at_call 152; refine HT.out.mono ?_; rintro e w1 ⟨rfl, hw1⟩)
    go_end0
    exact ⟨rfl, hts ▸ hw1⟩
  · have hts : takeS [101, 69] l st = { st with pos := st.pos + 1 } := by unfold takeS; rw [HB.out]; rfl
    have hp1 : st.pos + 1 ≤ l.length := sees_lt HB.out
    obtain ⟨st0, hs0⟩ : ∃ x, ({ st with pos := st.pos + 1, part := true } : NSt) = x := ⟨_, rfl⟩
    have hp0 : st0.pos ≤ l.length := by rw [← hs0]; exact hp1
    have hsz0 : st0.size < 18446744073709551616 := by rw [← hs0]; exact hsz
    have HS := Lib.hid (show ∀ w', NStep w g A cap l { ({ st with pos := st.pos + 1 } : NSt) with part := true } w' → NStep w g A cap l st0 w' from fun w' h => hs0 ▸ h)
    have ht2 := fun w h => take_any w g A cap l st0 ⟨#[43, 45]⟩ h (by decide) hl hp0
    rw [show sl ⟨#[43, 45]⟩ = [43, 45] from rfl] at ht2
    have HT2 := Lib.hid ht2
    clear ht2
    have hp1' : (takeS [43, 45] l st0).pos ≤ l.length := takeS_le hp0
    have hsz1 : (takeS [43, 45] l st0).size < 18446744073709551616 := by rw [takeS_size]; exact hsz0
    obtain ⟨⟨st', q⟩, hr⟩ : ∃ r, rowS false l (takeS [43, 45] l st0) = r := ⟨_, rfl⟩
    rw [if_pos rfl, hs0, hr]
    clear hs0
    cases q with
    | none =>
      have HR := Lib.hid (fun w => @row_none false w g A cap l _ st' hr)
      clear hr
      go_enter Tryd.func145, Tryd.ntmps145
      go_wp2_with (first | (go_at_call 152; refine (HT2.out _ hw2.1).mono ?_; rintro e w5 ⟨rfl, hw4⟩) | (go_at_call 152; refine HT.out.mono ?_; rintro e w1 ⟨rfl, hw1⟩; rw [hts] at hw1; have hf := hw1.1.1.frozen 5; obtain ⟨hc2, _, _⟩ := hw1.1.1.rules; have hw2 := HS.out _ (hw1.set_ 5 (.bool true) (by simp [numCells]))) | (go_at_call 153; refine (HR.out _ hw4.1 hl hp1' hsz1).mono ?_; rintro e w2 ⟨rfl, hw3⟩))
      go_end0
      exact ⟨rfl, (hw2.trans hw4).trans hw3⟩
    | some p =>
      have HR := Lib.hid (fun w => @row_some false w g A cap l _ st' p hr)
      clear hr
      go_enter Tryd.func145, Tryd.ntmps145
      go_wp2_with (first | (go_at_call 152; refine (HT2.out _ hw2.1).mono ?_; rintro e w5 ⟨rfl, hw4⟩) | (go_at_call 152; refine HT.out.mono ?_; rintro e w1 ⟨rfl, hw1⟩; rw [hts] at hw1; have hf := hw1.1.1.frozen 5; obtain ⟨hc2, _, _⟩ := hw1.1.1.rules; have hw2 := HS.out _ (hw1.set_ 5 (.bool true) (by simp [numCells]))) | (go_at_call 153; refine (HR.out _ hw4.1 hl hp1' hsz1).mono ?_; rintro e w2 ⟨rfl, hw3⟩))
      exact ⟨rfl, rfl, (hw2.trans hw4).trans hw3⟩
end Go.Proofs.YtalhoacancbldaaDoor
