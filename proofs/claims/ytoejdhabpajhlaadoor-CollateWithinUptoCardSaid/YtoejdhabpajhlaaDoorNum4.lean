import Derived.Test.YtoejdhabpajhlaaDoorProg
import Derived.Test.YtoejdhabpajhlaaDoorBase
import Derived.Test.YtoejdhabpajhlaaDoorSpecUtf
import Derived.Deep.RegionHeld3
import Derived.StillTailTactics
import Derived.Deep.LoopGhost
import Derived.Defers
import Derived.Recover
import Derived.Laws.EntriesVeiled
/- The walks of package numeral: the reader's steps. -/
namespace Go.Proofs.YtoejdhabpajhlaaDoor
set_option linter.unusedVariables false
set_option linter.unusedSimpArgs false
open Go.RowKit
attribute [local go_sem] run_index_arr run_part_agg run_part_one run_field_agg

/-- what a reader of numerals holds beside its bytes -/
structure NSt where
  pos : Nat
  minus : Bool
  size : Nat
  over : Bool
  part : Bool
def numCells (A : Option Addr) (n cap : Nat) (s : NSt) : Array Value := #[.int .i64 s.pos, .slice A n cap, .bool s.minus, .int .u64 s.size, .bool s.over, .bool s.part]
/-- block g is a reader of the bytes l, in state s -/
def NB (w : World) (g : Nat) (A : Option Addr) (cap : Nat) (l : List UInt8) (s : NSt) : Prop := Blk w g 165 (numCells A l.length cap s) ∧ Rd w A (byteV l)
theorem NB.drewN {w : World} {g : Nat} {A : Option Addr} {cap : Nat} {l : List UInt8} {s : NSt} (h : NB w g A cap l s) (k : Nat) : NB (w.drewN k) g A cap l s := ⟨h.1.drewN k, h.2.drewN k⟩

theorem sl_getElem (s : ByteArray) (k : Nat) (h : k < s.size) : (sl s)[k]'(by rw [sl_len]; exact h) = s[k] := rfl

set_option maxRecDepth 100000 in
set_option maxHeartbeats 1000000 in
theorem sees_in (w : World) (g p : Nat) (b o cap : Nat) (l : List UInt8) (c : UInt8) (s : ByteArray) (hc : l[p]? = some c)
    (h0 : w.cell? ⟨g, 0, none⟩ = some (.int .i64 p)) (h1 : w.cell? ⟨g, 1, none⟩ = some (.slice (some ⟨b, o, none⟩) l.length cap))
    (hx : w.cell? ⟨b, o + p, none⟩ = some (.int .u8 c.toNat)) (hs : s.size ≤ 4194304) (hn : l.length ≤ 4194304) :
    Calls Tryd.prog 159 #[.pointer (some ⟨g, 0, none⟩), .string s] w fun e w' => e = .returned (.bool (seesB l p (sl s))) ∧ ∃ k, w' = w.drewN k := by
  have hlt : p < l.length := (List.getElem?_eq_some_iff.1 hc).1
  have HC := Lib.hid (show seesB l p (sl s) = (sl s).contains c by simp [seesB, hc])
  clear hc
  go_enter Tryd.func159, Tryd.ntmps159
  go_wp2
  go_loopw [5, 8] (fun _ i wr => ∃ k m : Nat, k ≤ s.size ∧ i = .int .i64 k ∧ wr = w.drewN m ∧ ((sl s).take k).contains c = false) (fun _ i _ => s.size - (intOf i).toNat)
  case atStart => exact ⟨0, 0, Nat.zero_le _, rfl, rfl, by simp⟩
  case round =>
    obtain ⟨k, m, hk, rfl, rfl, hno⟩ := hrel
    have HN := Lib.hid hno
    clear hno
    by_cases hlt' : k < s.size
    · have HS := Lib.hid (show (sl s).take (k + 1) = (sl s).take k ++ [s[k]] by rw [List.take_succ_eq_append_getElem (by rw [sl_len]; exact hlt')]; rfl)
      go_wp2
      go_quiet (fail)
      go_wp2
      · have hh : c = s[k] := by
          have h := ‹((c.toNat : Int) == (s[k].toNat : Int)) = true›
          exact UInt8.toNat_inj.1 (by simp at h; omega)
        go_ret
        refine ⟨ret_bool ?_, _, by rw [World.drewN_drewN]⟩
        rw [HC.out]
        have : s[k] ∈ sl s := by rw [← sl_getElem s k hlt']; exact List.getElem_mem _
        rw [hh]
        simp [this]
      · have hh : c ≠ s[k] := by
          have h := ‹((c.toNat : Int) == (s[k].toNat : Int)) = false›
          intro e; rw [← e] at h; simp at h
        go_roundw
        case rel =>
          refine ⟨k + 1, _, by omega, by go_num, rfl, ?_⟩
          rw [HS.out, List.contains_append, HN.out]
          simp [hh]
        case measure => simp [intOf]; omega
    · obtain rfl : k = s.size := by omega
      have hno := HN.out
      rw [List.take_of_length_le (by rw [sl_len]; exact Nat.le_refl _)] at hno
      have HN := Lib.hid hno
      clear hno
      go_wp2
      go_ret
      exact ⟨ret_bool (by rw [HC.out, HN.out]), _, rfl⟩

set_option maxRecDepth 100000 in
set_option maxHeartbeats 1000000 in
theorem sees_out (w : World) (g p : Nat) (A : Option Addr) (cap : Nat) (l : List UInt8) (s : ByteArray) (hp : l.length ≤ p) (hp2 : p ≤ 8388608)
    (h0 : w.cell? ⟨g, 0, none⟩ = some (.int .i64 p)) (h1 : w.cell? ⟨g, 1, none⟩ = some (.slice A l.length cap)) (hs : s.size ≤ 4194304) :
    Calls Tryd.prog 159 #[.pointer (some ⟨g, 0, none⟩), .string s] w fun e w' => e = .returned (.bool (seesB l p (sl s))) ∧ ∃ k, w' = w.drewN k := by
  have HC := Lib.hid (show seesB l p (sl s) = false by simp [seesB, List.getElem?_eq_none hp])
  have hlt : decide (p < l.length) = false := by simp; omega
  have hlt2 : decide ((p : Int) < (l.length : Int)) = false := by simp; omega
  go_enter Tryd.func159, Tryd.ntmps159
  go_wp2
  go_loopw [5, 8] (fun _ i wr => ∃ k m : Nat, k ≤ s.size ∧ i = .int .i64 k ∧ wr = w.drewN m) (fun _ i _ => s.size - (intOf i).toNat)
  case atStart => exact ⟨0, 0, Nat.zero_le _, rfl, rfl⟩
  case round =>
    obtain ⟨k, m, hk, rfl, rfl⟩ := hrel
    by_cases hlt' : k < s.size
    · go_wp2
      go_quiet (fail)
      go_wp2
      go_roundw
      case rel => exact ⟨k + 1, _, by omega, by go_num, rfl⟩
      case measure => simp [intOf]; omega
    · go_wp2
      go_ret
      exact ⟨ret_bool (by rw [HC.out]), _, rfl⟩

theorem sees_any (w : World) (g : Nat) (A : Option Addr) (cap : Nat) (l : List UInt8) (st : NSt) (s : ByteArray) (hN : NB w g A cap l st) (hs : s.size ≤ 4194304) (hl : l.length ≤ 4194304) (hp : st.pos ≤ 8388608) :
    Calls Tryd.prog 159 #[.pointer (some ⟨g, 0, none⟩), .string s] w fun e w' => e = .returned (.bool (seesB l st.pos (sl s))) ∧ ∃ k, w' = w.drewN k := by
  have h0 : w.cell? ⟨g, 0, none⟩ = some (.int .i64 st.pos) := hN.1.cell 0
  have h1 : w.cell? ⟨g, 1, none⟩ = some (.slice A l.length cap) := hN.1.cell 1
  by_cases h : st.pos < l.length
  · obtain ⟨b, o, rfl, hb, hx⟩ := hN.2 (by intro e; have h3 := byteV_len l; rw [e, List.length_nil] at h3; omega)
    refine sees_in w g st.pos b o cap l l[st.pos] s (List.getElem?_eq_getElem h) h0 h1 ?_ hs hl
    rw [hx st.pos (by rw [byteV_len]; exact h)]; simp [byteV]
  · exact sees_out w g st.pos A cap l s (by omega) hp h0 h1 hs

/-- a step of the reader: block g turns, and what is new; nothing else -/
theorem gb_trans {a b c : World} {row : Option Nat} (h : a.grownBy b row) (k : b.grownBy c row) : a.grownBy c row :=
  ⟨k.os.trans h.os, k.tape.trans h.tape, k.output.trans h.output, Nat.le_trans h.size k.size, fun i hi hne => (k.block i (Nat.lt_of_lt_of_le hi h.size) hne).trans (h.block i hi hne)⟩
theorem gb_drewN {a w : World} {row : Option Nat} (h : a.grownBy w row) (n : Nat) : a.grownBy (w.drewN n) row := ⟨h.os, h.tape, h.output, h.size, h.block⟩
theorem gb_setCell {a w : World} {g : Nat} (h : a.grownBy w (some g)) (i : Nat) (u : Value) : a.grownBy (w.setCell ⟨g, i, none⟩ u) (some g) :=
  ⟨h.os, h.tape, h.output, by simpa [World.setCell] using h.size, fun j hj hne => (Below.heap_setCell w ⟨g, i, none⟩ u j (fun e => hne (by rw [e]))).trans (h.block j hj hne)⟩
theorem gb_refl (w : World) (row : Option Nat) : w.grownBy w row := ⟨rfl, rfl, rfl, Nat.le_refl _, fun _ _ _ => rfl⟩
theorem Rd.setCell {w : World} {A : Option Addr} {xs : List Value} {g : Nat} (h : Rd w A xs) (hne : ∀ b o, A = some ⟨b, o, none⟩ → xs ≠ [] → b ≠ g) (i : Nat) (u : Value) : Rd (w.setCell ⟨g, i, none⟩ u) A xs := fun hn => by
  obtain ⟨b, o, rfl, hb, hx⟩ := h hn
  refine ⟨b, o, rfl, by simpa [World.setCell] using hb, fun j hj => ?_⟩
  rw [← hx j hj]
  exact World.cell?_of_block (w := w) (Below.heap_setCell w ⟨g, i, none⟩ u b (hne b o rfl hn))
/-- a row of cells of another make lies in another block -/
theorem Rd.ne_blk {w : World} {g : Nat} {t : TypeId} {cs : Array Value} {A : Option Addr} {l : List UInt8} (h : Rd w A (byteV l)) (hb : Blk w g t cs) (hcs : ∀ (i : Nat) (c : Int), cs[i]? = some (Value.int .u8 c) → False) :
    ∀ b o, A = some ⟨b, o, none⟩ → byteV l ≠ [] → b ≠ g := by
  intro b o e hn
  obtain ⟨b', o', e', _, hx⟩ := h hn
  rw [e] at e'
  obtain ⟨rfl, rfl⟩ : b = b' ∧ o = o' := by simpa using e'
  rintro rfl
  have h0 := hx 0 (List.length_pos_iff.2 hn)
  rw [hb.cell] at h0
  obtain ⟨c, r, hl⟩ := List.exists_cons_of_ne_nil (show l ≠ [] from fun e => hn (by simp [e, byteV]))
  subst hl
  exact hcs _ _ h0
theorem numCells_no {A : Option Addr} {n cap : Nat} {s : NSt} : ∀ (i : Nat) (c : Int), (numCells A n cap s)[i]? = some (Value.int .u8 c) → False := by
  intro i c h
  unfold numCells at h
  match i with
  | 0 | 1 | 2 | 3 | 4 | 5 => simp at h
  | i + 6 => simp at h
theorem NB.ne {w : World} {g : Nat} {A : Option Addr} {cap : Nat} {l : List UInt8} {s : NSt} (h : NB w g A cap l s) : ∀ b o, A = some ⟨b, o, none⟩ → byteV l ≠ [] → b ≠ g := h.2.ne_blk h.1 numCells_no

/-- the reader behind a step -/
def NStep (w : World) (g : Nat) (A : Option Addr) (cap : Nat) (l : List UInt8) (s : NSt) (w' : World) : Prop := NB w' g A cap l s ∧ w.grownBy w' (some g)

set_option maxRecDepth 100000 in
set_option maxHeartbeats 1000000 in
theorem takes_any (w : World) (g : Nat) (A : Option Addr) (cap : Nat) (l : List UInt8) (st : NSt) (s : ByteArray) (hN : NB w g A cap l st) (hs : s.size ≤ 4194304) (hl : l.length ≤ 4194304) (hp : st.pos ≤ 8388608) :
    Calls Tryd.prog 155 #[.pointer (some ⟨g, 0, none⟩), .string s] w fun e w' => e = .returned (.bool (seesB l st.pos (sl s))) ∧
      NStep w g A cap l (if seesB l st.pos (sl s) then { st with pos := st.pos + 1 } else st) w' := by
  have hcall := sees_any w g A cap l st s hN hs hl hp
  obtain ⟨hc, hf, hlt⟩ := hN.1.rules
  obtain ⟨b, hb⟩ : ∃ b, seesB l st.pos (sl s) = b := ⟨_, rfl⟩
  rw [hb] at hcall ⊢
  have HC := Lib.hid hcall
  have HN := Lib.hid hN
  clear hcall hN hb
  unfold numCells at hc
  cases b
  · go_enter Tryd.func155, Tryd.ntmps155
    go_wp2_with (go_at_call 159; refine HC.out.mono ?_; rintro e w' ⟨rfl, k, rfl⟩)
    go_ret
    exact ⟨rfl, by simpa using HN.out.drewN k, gb_drewN (gb_refl _ _) _⟩
  · go_enter Tryd.func155, Tryd.ntmps155
    go_wp2_with (go_at_call 159; refine HC.out.mono ?_; rintro e w' ⟨rfl, k, rfl⟩)
    go_ret
    refine ⟨rfl, ⟨?_, ?_⟩, gb_setCell (gb_drewN (gb_refl _ _) _) _ _⟩
    · have := (HN.out.1.drewN k).set_ 0 (.int .i64 ((st.pos : Int) + 1))
      simpa [numCells] using this
    · exact (HN.out.2.drewN k).setCell HN.out.ne _ _
end Go.Proofs.YtoejdhabpajhlaaDoor

/- The walks of package numeral: a row of digits. -/
namespace Go.Proofs.YtoejdhabpajhlaaDoor
set_option linter.unusedVariables false
set_option linter.unusedSimpArgs false
open Go.RowKit
attribute [local go_sem] run_index_arr run_part_agg run_part_one run_field_agg

/-- the size grows by a digit -/
def growS (d : Nat) (s : NSt) : NSt := { s with over := s.over || decide ((18446744073709551615 - d) / 10 < s.size), size := (10 * s.size + d) % 18446744073709551616 }
def growAll (ds : List UInt8) (s : NSt) : NSt := ds.foldl (fun s c => growS (dval c) s) s

theorem NStep.refl {w : World} {g : Nat} {A : Option Addr} {cap : Nat} {l : List UInt8} {s : NSt} (h : NB w g A cap l s) : NStep w g A cap l s w := ⟨h, gb_refl _ _⟩
theorem NStep.trans {a b c : World} {g : Nat} {A : Option Addr} {cap : Nat} {l : List UInt8} {s t : NSt} (h : NStep a g A cap l s b) (k : NStep b g A cap l t c) : NStep a g A cap l t c := ⟨k.1, gb_trans h.2 k.2⟩
theorem NB.set_ {w : World} {g : Nat} {A : Option Addr} {cap : Nat} {l : List UInt8} {s t : NSt} (h : NB w g A cap l s) (i : Nat) (u : Value) (e : (numCells A l.length cap s).setIfInBounds i u = numCells A l.length cap t) :
    NB (w.setCell ⟨g, i, none⟩ u) g A cap l t := ⟨by rw [← e]; exact h.1.set_ i u, h.2.setCell h.ne _ _⟩
theorem NStep.set_ {a w : World} {g : Nat} {A : Option Addr} {cap : Nat} {l : List UInt8} {s t : NSt} (h : NStep a g A cap l s w) (i : Nat) (u : Value) (e : (numCells A l.length cap s).setIfInBounds i u = numCells A l.length cap t) :
    NStep a g A cap l t (w.setCell ⟨g, i, none⟩ u) := ⟨h.1.set_ i u e, gb_setCell h.2 _ _⟩
theorem NStep.drewN {a w : World} {g : Nat} {A : Option Addr} {cap : Nat} {l : List UInt8} {s : NSt} (h : NStep a g A cap l s w) (k : Nat) : NStep a g A cap l s (w.drewN k) := ⟨h.1.drewN k, gb_drewN h.2 k⟩

set_option maxRecDepth 100000 in
set_option maxHeartbeats 1000000 in
theorem grows_any (w : World) (g : Nat) (A : Option Addr) (cap : Nat) (l : List UInt8) (st : NSt) (d : Nat) (hN : NB w g A cap l st) (hd : d ≤ 9) (hsz : st.size < 18446744073709551616) :
    Calls Tryd.prog 157 #[.pointer (some ⟨g, 0, none⟩), .int .u64 d] w fun e w' => e = .returned (.tuple #[]) ∧ NStep w g A cap l (growS d st) w' := by
  obtain ⟨hc, hf, hlt⟩ := hN.1.rules
  have HN := Lib.hid hN
  clear hN
  unfold numCells at hc
  have e1 : (18446744073709551615 - (d : Int)) / 10 = (((18446744073709551615 - d) / 10 : Nat) : Int) := by omega
  have HE := Lib.hid e1
  clear e1
  have hw : IntKind.u64.wrap (IntKind.u64.wrap (10 * (st.size : Int)) + (d : Int)) = (((10 * st.size + d) % 18446744073709551616 : Nat) : Int) := by
    simp only [IntKind.wrap_u64]; omega
  have HW := Lib.hid hw
  clear hw
  by_cases h : (18446744073709551615 - d) / 10 < st.size
  · have h' : (18446744073709551615 - (d : Int)) / 10 < (st.size : Int) := by rw [HE.out]; omega
    go_enter Tryd.func157, Tryd.ntmps157
    go_wp2
    go_end0
    refine ⟨rfl, ?_⟩
    have h1 := ((NStep.refl HN.out).set_ (t := { st with over := true }) 4 (.bool true) (by simp [numCells])).set_ (t := growS d st) 3 (.int .u64 (((10 * st.size + d) % 18446744073709551616 : Nat) : Int)) (by simp [numCells, growS, h])
    rw [HW.out]
    exact h1
  · have h' : (st.size : Int) ≤ (18446744073709551615 - (d : Int)) / 10 := by rw [HE.out]; omega
    go_enter Tryd.func157, Tryd.ntmps157
    go_wp2
    go_end0
    refine ⟨rfl, ?_⟩
    have h1 := (NStep.refl HN.out).set_ (t := growS d st) 3 (.int .u64 (((10 * st.size + d) % 18446744073709551616 : Nat) : Int)) (by simp [numCells, growS, h])
    rw [show (((10 * st.size + d) % 18446744073709551616 : Nat) : Int) = 10 * (st.size : Int) + (d : Int) from by omega] at h1
    exact h1

theorem nothing_any (v : Value) (w : World) : Calls Tryd.prog 158 #[v] w fun e w' => e = .returned (.tuple #[]) ∧ w = w' := by
  go_enter Tryd.func158, Tryd.ntmps158
  go_wp2
  go_end0
  exact ⟨rfl, rfl⟩

/-- what is done with each digit: the size grows, or nothing -/
def toVal (gr : Bool) (g : Nat) : Value := if gr then .func (.func 157) #[.pointer (some ⟨g, 0, none⟩)] #[] else .func (.func 158) #[] #[]
def digS (gr : Bool) (ds : List UInt8) (s : NSt) : NSt := if gr then { growAll ds s with pos := s.pos + ds.length } else { s with pos := s.pos + ds.length }
theorem growAll_keep (ds : List UInt8) : ∀ s : NSt, (growAll ds s).pos = s.pos ∧ (growAll ds s).minus = s.minus ∧ (growAll ds s).part = s.part := by
  induction ds with
  | nil => intro s; exact ⟨rfl, rfl, rfl⟩
  | cons c ds ih => intro s; have := ih (growS (dval c) s); exact this
theorem growAll_snoc (ds : List UInt8) (c : UInt8) (s : NSt) : growAll (ds ++ [c]) s = growS (dval c) (growAll ds s) := by simp [growAll]
theorem growS_size (d : Nat) (s : NSt) : (growS d s).size < 18446744073709551616 := Nat.mod_lt _ (by decide)
theorem growAll_size (ds : List UInt8) : ∀ s : NSt, s.size < 18446744073709551616 → (growAll ds s).size < 18446744073709551616 := by
  induction ds with
  | nil => intro s h; exact h
  | cons c ds ih => intro s _; exact ih _ (growS_size _ _)

/-- how a row of digits is left -/
def SomePost (gr : Bool) (g : Nat) (A : Option Addr) (cap : Nat) (l : List UInt8) (st : NSt) (w : World) (e : Ending) (w' : World) : Prop :=
  if digs l st.pos = [] then e = .panicked [{ v := .iface 180 (.int .i64 st.pos), recovered := false }] ∧ NStep w g A cap l st w'
  else e = .returned (.tuple #[]) ∧ NStep w g A cap l (digS gr (digs l st.pos) st) w'

theorem growTo (gr : Bool) (ds : List UInt8) (c : UInt8) (s : NSt) :
    digS gr (ds ++ [c]) s = if gr then growS (dval c) { digS gr ds s with pos := s.pos + ds.length + 1 } else { digS gr ds s with pos := s.pos + ds.length + 1 } := by
  cases gr
  · simp [digS, Nat.add_assoc]
  · have h1 := (growAll_keep ds s).1
    simp only [digS, growAll_snoc, growS, List.length_append, List.length_singleton, Nat.add_assoc]
    rfl

set_option maxRecDepth 100000 in
set_option maxHeartbeats 2000000 in
theorem some_any (gr : Bool) (w : World) (g : Nat) (A : Option Addr) (cap : Nat) (l : List UInt8) (st : NSt) (hN : NB w g A cap l st) (hl : l.length ≤ 4194304) (hp : st.pos ≤ 4194306) (hsz : st.size < 18446744073709551616) :
    Calls Tryd.prog 156 #[.pointer (some ⟨g, 0, none⟩), toVal gr g] w (SomePost gr g A cap l st w) := by
  have hsees := sees_any w g A cap l st ⟨#[48, 49, 50, 51, 52, 53, 54, 55, 56, 57]⟩ hN (by decide) hl (by omega)
  obtain ⟨hc, hf, hlt⟩ := hN.1.rules
  have HN := Lib.hid hN
  clear hN
  unfold numCells at hc
  obtain ⟨b, hb⟩ : ∃ b, seesB l st.pos [48, 49, 50, 51, 52, 53, 54, 55, 56, 57] = b := ⟨_, rfl⟩
  rw [show sl ⟨#[48, 49, 50, 51, 52, 53, 54, 55, 56, 57]⟩ = [48, 49, 50, 51, 52, 53, 54, 55, 56, 57] from rfl, hb] at hsees
  have HSE := Lib.hid hsees
  clear hsees
  cases b
  · have HB := Lib.hid (digs_nil hb)
    clear hb
    go_enter Tryd.func156, Tryd.ntmps156
    go_step3
    go_wp2_with (go_at_call 159; refine HSE.out.mono ?_; rintro e w' ⟨rfl, k, rfl⟩)
    refine ⟨rfl, ?_⟩
    rw [SomePost, if_pos HB.out]
    exact ⟨rfl, (NStep.refl HN.out).drewN k⟩
  · obtain ⟨c0, hc0, _, _, hds⟩ := digs_cons hb
    have HB := Lib.hid (show digs l st.pos ≠ [] by rw [hds]; simp)
    clear hb hds hc0
    go_enter Tryd.func156, Tryd.ntmps156
    go_step3
    go_wp2_with (go_at_call 159; refine HSE.out.mono ?_; rintro e w' ⟨rfl, k, rfl⟩)
    go_step3
    go_wp2
    go_loopg [] (digs l st.pos).length (fun k wr => ∃ ds : List UInt8, ds ++ digs l (st.pos + ds.length) = digs l st.pos ∧ (digs l (st.pos + ds.length)).length = k ∧ NStep w g A cap l (digS gr ds st) wr)
    case atStart => exact ⟨[], by simp, by simp, by have := (NStep.refl HN.out).drewN k; cases gr <;> simpa [digS, growAll] using this⟩
    case round =>
      obtain ⟨ds, hds, hk, hst⟩ := hrel
      clear hc hf hlt
      have hpos : (digS gr ds st).pos = st.pos + ds.length := by cases gr <;> rfl
      have hle := digs_le l (st.pos + ds.length)
      have hdl : st.pos + ds.length ≤ 4194306 := by
        have h1 := congrArg List.length hds
        have h2 := digs_le l st.pos
        simp at h1; omega
      have htk := takes_any wr g A cap l (digS gr ds st) ⟨#[48, 49, 50, 51, 52, 53, 54, 55, 56, 57]⟩ hst.1 (by decide) hl (by rw [hpos]; omega)
      obtain ⟨b, hb⟩ : ∃ b, seesB l (digS gr ds st).pos [48, 49, 50, 51, 52, 53, 54, 55, 56, 57] = b := ⟨_, rfl⟩
      rw [show sl ⟨#[48, 49, 50, 51, 52, 53, 54, 55, 56, 57]⟩ = [48, 49, 50, 51, 52, 53, 54, 55, 56, 57] from rfl, hb] at htk
      have HT := Lib.hid htk
      have HS := Lib.hid hst
      have HD := Lib.hid hds
      have HP := Lib.hid hpos
      clear htk hst hds hle
      rw [hpos] at hb
      clear hpos
      cases b
      · have hnil := digs_nil hb
        have HNL := Lib.hid hnil
        clear hb hnil hk
        go_wp2_with (go_at_call 155; refine HT.out.mono ?_; rintro e w1 ⟨rfl, hw1⟩)
        go_end0
        rw [SomePost, if_neg HB.out]
        have hd := HD.out
        rw [HNL.out, List.append_nil] at hd
        rw [← hd]
        exact ⟨rfl, HS.out.trans hw1⟩
      · obtain ⟨c, hcl, hc1, hc2, hcd⟩ := digs_cons hb
        obtain ⟨bb, oo, rfl, hbb, hx⟩ := HS.out.1.2 (by intro e; have h3 := byteV_len l; rw [e, List.length_nil] at h3; have := (List.getElem?_eq_some_iff.1 hcl).1; omega)
        have hxc := hx (st.pos + ds.length) (by rw [byteV_len]; exact (List.getElem?_eq_some_iff.1 hcl).1)
        have hlt := (List.getElem?_eq_some_iff.1 hcl).1
        have HC := Lib.hid hcd
        have HCL := Lib.hid hcl
        have HX := Lib.hid hx
        have HK := Lib.hid hk
        clear hb hcd hcl hx hxc hk
        go_wp2_with (go_at_call 155; refine HT.out.mono ?_; rintro e w1 ⟨rfl, hw1⟩; obtain ⟨hr1, hr2, hr3⟩ := hw1.1.1.rules)
        have hxw : w1.cell? ⟨bb, oo + (st.pos + ds.length), none⟩ = some (.int .u8 c.toNat) := by
          obtain ⟨b', o', e', _, hx'⟩ := hw1.1.2 (by intro e; have h3 := byteV_len l; rw [e, List.length_nil] at h3; omega)
          obtain ⟨rfl, rfl⟩ : bb = b' ∧ oo = o' := by simpa using e'
          rw [hx' (st.pos + ds.length) (by rw [byteV_len]; exact hlt)]
          have hg := (List.getElem?_eq_some_iff.1 HCL.out)
          simp [byteV, hg.2]
        obtain ⟨q, hq⟩ : ∃ q, st.pos + ds.length = q := ⟨_, rfl⟩
        have h0 : w1.cell? ⟨g, 0, none⟩ = some (.int .i64 ((q : Int) + 1)) := by rw [hr1 0]; simp [numCells, HP.out, hq]
        have h1 : w1.cell? ⟨g, 1, none⟩ = some (.slice (some ⟨bb, oo, none⟩) l.length cap) := by rw [hr1 1]; simp [numCells]
        rw [hq] at hxw hlt hdl
        have hwq : IntKind.i64.wrap (q : Int) = (q : Int) := by rw [IntKind.wrap_i64]; omega
        have hqn : ((q : Int)).toNat = q := Int.toNat_natCast q
        have hq0 : 0 ≤ (q : Int) := by omega
        have hql : (q : Int) < (l.length : Int) := by omega
        have hdv : IntKind.u8.wrap ((c.toNat : Int) - 48) = ((dval c : Nat) : Int) := by rw [IntKind.wrap_u8]; unfold dval; omega
        have hdw : IntKind.u64.wrap ((dval c : Nat) : Int) = ((dval c : Nat) : Int) := by rw [IntKind.wrap_u64]; unfold dval; omega
        have hd9 : dval c ≤ 9 := by unfold dval; omega
        have HQ := Lib.hid hq
        clear hr1 hr2 hr3 hq
        have HW := Lib.hid hw1
        clear hw1
        have hw := HW.out
        rw [if_pos trivial] at hw
        have hsz2 : (digS gr ds st).size < 18446744073709551616 := by
          cases gr
          · exact hsz
          · exact growAll_size ds st hsz
        have HW2 := Lib.hid hw
        clear hw HW
        have fin : ds ++ [c] ++ digs l (st.pos + (ds ++ [c]).length) = digs l st.pos ∧ (digs l (st.pos + (ds ++ [c]).length)).length = (digs l (q + 1)).length := by
          have h1 := HD.out
          have h2 := HC.out
          have h3 := HQ.out
          have e : st.pos + (ds ++ [c]).length = q + 1 := by simp; omega
          rw [h3] at h1 h2
          rw [h2] at h1
          rw [e]
          exact ⟨by rw [List.append_assoc]; exact h1, rfl⟩
        have hm : (digs l (q + 1)).length < gk := by
          have h1 := HK.out
          have h2 := HC.out
          rw [HQ.out] at h1 h2
          rw [h2] at h1
          simp at h1; omega
        have FIN := Lib.hid fin
        have HM := Lib.hid hm
        clear fin hm
        cases gr
        · rw [show toVal false g = .func (.func 158) #[] #[] from rfl]
          go_still_tail 15, (by kernel_rfl)
          go_wp2_with (go_at_call 158; refine (nothing_any _ _).mono ?_; rintro e w2 ⟨rfl, rfl⟩)
          go_roundg ((digs l (q + 1)).length)
          case measure => exact HM.out
          case rel => exact ⟨ds ++ [c], FIN.out.1, FIN.out.2, by rw [growTo]; exact HS.out.trans (HW2.out.drewN 1)⟩
        · rw [show toVal true g = .func (.func 157) #[.pointer (some ⟨g, 0, none⟩)] #[] from rfl]
          go_still_tail 15, (by kernel_rfl)
          go_wp2_with (go_at_call 157; refine (grows_any _ g _ cap l _ (dval c) (HW2.out.1.drewN 1) hd9 hsz2).mono ?_; rintro e w2 ⟨rfl, hw2⟩)
          go_roundg ((digs l (q + 1)).length)
          case measure => exact HM.out
          case rel => exact ⟨ds ++ [c], FIN.out.1, FIN.out.2, by rw [growTo]; exact (HS.out.trans (HW2.out.drewN 1)).trans hw2⟩
end Go.Proofs.YtoejdhabpajhlaaDoor

/- The walks of package numeral: the four steps. -/
namespace Go.Proofs.YtoejdhabpajhlaaDoor
set_option linter.unusedVariables false
set_option linter.unusedSimpArgs false
open Go.RowKit
attribute [local go_sem] run_index_arr run_part_agg run_part_one run_field_agg

/-- a step of the reader: the state behind it, and the place at which it has ended the numeral -/
def takeS (s : List UInt8) (l : List UInt8) (st : NSt) : NSt := if seesB l st.pos s then { st with pos := st.pos + 1 } else st
def rowS (gr : Bool) (l : List UInt8) (st : NSt) : NSt × Option Nat := if digs l st.pos = [] then (st, some st.pos) else (digS gr (digs l st.pos) st, none)
def signS (l : List UInt8) (st : NSt) : NSt × Option Nat := ({ takeS [45] l st with minus := seesB l st.pos [45] }, none)
def wholeS (l : List UInt8) (st : NSt) : NSt × Option Nat := if seesB l st.pos [48] then ({ st with pos := st.pos + 1 }, none) else rowS true l st
def fracS (l : List UInt8) (st : NSt) : NSt × Option Nat := if seesB l st.pos [46] then rowS false l { st with pos := st.pos + 1, part := true } else (st, none)
def expS (l : List UInt8) (st : NSt) : NSt × Option Nat := if seesB l st.pos [101, 69] then rowS false l (takeS [43, 45] l { st with pos := st.pos + 1, part := true }) else (st, none)

def StepPost (o : NSt × Option Nat) (g : Nat) (A : Option Addr) (cap : Nat) (l : List UInt8) (w : World) (e : Ending) (w' : World) : Prop :=
  (e = match o.2 with | none => .returned (.tuple #[]) | some p => .panicked [{ v := .iface 180 (.int .i64 p), recovered := false }]) ∧ NStep w g A cap l o.1 w'

theorem row_any (gr : Bool) (w : World) (g : Nat) (A : Option Addr) (cap : Nat) (l : List UInt8) (st : NSt) (hN : NB w g A cap l st) (hl : l.length ≤ 4194304) (hp : st.pos ≤ l.length) (hsz : st.size < 18446744073709551616) :
    Calls Tryd.prog 156 #[.pointer (some ⟨g, 0, none⟩), toVal gr g] w (StepPost (rowS gr l st) g A cap l w) :=
  (some_any gr w g A cap l st hN hl (by omega) hsz).mono fun e w' h => by
    unfold SomePost at h; unfold StepPost rowS
    by_cases hd : digs l st.pos = []
    · rw [if_pos hd] at h ⊢; exact h
    · rw [if_neg hd] at h ⊢; exact h

theorem sees_lt {l s : List UInt8} {p : Nat} (h : seesB l p s = true) : p < l.length := by
  unfold seesB at h
  cases hl : l[p]? with
  | none => rw [hl] at h; cases h
  | some c => exact (List.getElem?_eq_some_iff.1 hl).1
theorem rowS_le {gr : Bool} {l : List UInt8} {st : NSt} (hp : st.pos ≤ l.length) : (rowS gr l st).1.pos ≤ l.length := by
  unfold rowS
  have h := digs_le l st.pos
  split
  · exact hp
  · cases gr <;> (show st.pos + _ ≤ _; omega)
theorem takeS_le {s l : List UInt8} {st : NSt} (hp : st.pos ≤ l.length) : (takeS s l st).pos ≤ l.length := by
  unfold takeS
  split
  · rename_i h; exact sees_lt h
  · exact hp
theorem rowS_size {gr : Bool} {l : List UInt8} {st : NSt} (h : st.size < 18446744073709551616) : (rowS gr l st).1.size < 18446744073709551616 := by
  unfold rowS
  split
  · exact h
  · cases gr
    · exact h
    · exact growAll_size _ _ h
theorem takeS_size {s l : List UInt8} {st : NSt} : (takeS s l st).size = st.size := by unfold takeS; split <;> rfl

theorem take_any (w : World) (g : Nat) (A : Option Addr) (cap : Nat) (l : List UInt8) (st : NSt) (s : ByteArray) (hN : NB w g A cap l st) (hs : s.size ≤ 4194304) (hl : l.length ≤ 4194304) (hp : st.pos ≤ l.length) :
    Calls Tryd.prog 155 #[.pointer (some ⟨g, 0, none⟩), .string s] w fun e w' => e = .returned (.bool (seesB l st.pos (sl s))) ∧ NStep w g A cap l (takeS (sl s) l st) w' :=
  takes_any w g A cap l st s hN hs hl (by omega)

set_option maxRecDepth 100000 in
set_option maxHeartbeats 1000000 in
theorem sign_any (w : World) (g : Nat) (A : Option Addr) (cap : Nat) (l : List UInt8) (st : NSt) (hN : NB w g A cap l st) (hl : l.length ≤ 4194304) (hp : st.pos ≤ l.length) :
    Calls Tryd.prog 148 #[.pointer (some ⟨g, 0, none⟩)] w (StepPost (signS l st) g A cap l w) := by
  have ht := take_any w g A cap l st ⟨#[45]⟩ hN (by decide) hl hp
  rw [show sl ⟨#[45]⟩ = [45] from rfl] at ht
  obtain ⟨b, hb⟩ : ∃ b, seesB l st.pos [45] = b := ⟨_, rfl⟩
  rw [hb] at ht
  have HT := Lib.hid ht
  have HB := Lib.hid hb
  clear ht hN hb
  go_enter Tryd.func148, Tryd.ntmps148
  go_wp2_with (go_at_call 155; refine HT.out.mono ?_; rintro e w1 ⟨rfl, hw1⟩; have hf := hw1.1.1.frozen 2; obtain ⟨hc2, _, _⟩ := hw1.1.1.rules)
  go_end0
  refine ⟨rfl, ?_⟩
  unfold signS
  rw [HB.out]
  exact hw1.set_ 2 (.bool b) (by simp [numCells])

theorem row_none {gr : Bool} {w : World} {g : Nat} {A : Option Addr} {cap : Nat} {l : List UInt8} {st st' : NSt} (h : rowS gr l st = (st', none)) (hN : NB w g A cap l st) (hl : l.length ≤ 4194304) (hp : st.pos ≤ l.length) (hsz : st.size < 18446744073709551616) :
    Calls Tryd.prog 156 #[.pointer (some ⟨g, 0, none⟩), toVal gr g] w fun e w' => e = .returned (.tuple #[]) ∧ NStep w g A cap l st' w' := by
  have := row_any gr w g A cap l st hN hl hp hsz
  rw [h] at this
  exact this
theorem row_some {gr : Bool} {w : World} {g : Nat} {A : Option Addr} {cap : Nat} {l : List UInt8} {st st' : NSt} {p : Nat} (h : rowS gr l st = (st', some p)) (hN : NB w g A cap l st) (hl : l.length ≤ 4194304) (hp : st.pos ≤ l.length) (hsz : st.size < 18446744073709551616) :
    Calls Tryd.prog 156 #[.pointer (some ⟨g, 0, none⟩), toVal gr g] w fun e w' => e = .panicked [{ v := .iface 180 (.int .i64 p), recovered := false }] ∧ NStep w g A cap l st' w' := by
  have := row_any gr w g A cap l st hN hl hp hsz
  rw [h] at this
  exact this

set_option maxRecDepth 100000 in
set_option maxHeartbeats 1000000 in
theorem whole_any (w : World) (g : Nat) (A : Option Addr) (cap : Nat) (l : List UInt8) (st : NSt) (hN : NB w g A cap l st) (hl : l.length ≤ 4194304) (hp : st.pos ≤ l.length) (hsz : st.size < 18446744073709551616) :
    Calls Tryd.prog 149 #[.pointer (some ⟨g, 0, none⟩)] w (StepPost (wholeS l st) g A cap l w) := by
  have ht := take_any w g A cap l st ⟨#[48]⟩ hN (by decide) hl hp
  rw [show sl ⟨#[48]⟩ = [48] from rfl] at ht
  obtain ⟨b, hb⟩ : ∃ b, seesB l st.pos [48] = b := ⟨_, rfl⟩
  rw [hb] at ht
  have HT := Lib.hid ht
  have HB := Lib.hid hb
  clear ht hN hb
  unfold wholeS
  rw [HB.out]
  cases b
  · have hts : takeS [48] l st = st := by unfold takeS; rw [HB.out]; rfl
    obtain ⟨⟨st', q⟩, hr⟩ : ∃ r, rowS true l st = r := ⟨_, rfl⟩
    rw [if_neg (by decide), hr]
    cases q with
    | none =>
      have HR := Lib.hid (fun w => @row_none true w g A cap l st st' hr)
      clear hr
      go_enter Tryd.func149, Tryd.ntmps149
      go_wp2_with (first | (go_at_call 155; refine HT.out.mono ?_; rintro e w1 ⟨rfl, hw1⟩) | (go_at_call 156; refine (HR.out _ (hts ▸ hw1.1) hl hp hsz).mono ?_; rintro e w2 ⟨rfl, hw2⟩))
      go_end0
      exact ⟨rfl, (hts ▸ hw1).trans hw2⟩
    | some p =>
      have HR := Lib.hid (fun w => @row_some true w g A cap l st st' p hr)
      clear hr
      go_enter Tryd.func149, Tryd.ntmps149
      go_wp2_with (first | (go_at_call 155; refine HT.out.mono ?_; rintro e w1 ⟨rfl, hw1⟩) | (go_at_call 156; refine (HR.out _ (hts ▸ hw1.1) hl hp hsz).mono ?_; rintro e w2 ⟨rfl, hw2⟩))
      exact ⟨rfl, rfl, (hts ▸ hw1).trans hw2⟩
  · go_enter Tryd.func149, Tryd.ntmps149
    go_wp2_with (go_at_call 155; refine HT.out.mono ?_; rintro e w1 ⟨rfl, hw1⟩)
    go_end0
    refine ⟨rfl, ?_⟩
    have : takeS [48] l st = { st with pos := st.pos + 1 } := by unfold takeS; rw [HB.out]; rfl
    rw [this] at hw1
    exact hw1

set_option maxRecDepth 100000 in
set_option maxHeartbeats 1000000 in
theorem fraction_any (w : World) (g : Nat) (A : Option Addr) (cap : Nat) (l : List UInt8) (st : NSt) (hN : NB w g A cap l st) (hl : l.length ≤ 4194304) (hp : st.pos ≤ l.length) (hsz : st.size < 18446744073709551616) :
    Calls Tryd.prog 150 #[.pointer (some ⟨g, 0, none⟩)] w (StepPost (fracS l st) g A cap l w) := by
  have ht := take_any w g A cap l st ⟨#[46]⟩ hN (by decide) hl hp
  rw [show sl ⟨#[46]⟩ = [46] from rfl] at ht
  obtain ⟨b, hb⟩ : ∃ b, seesB l st.pos [46] = b := ⟨_, rfl⟩
  rw [hb] at ht
  have HT := Lib.hid ht
  have HB := Lib.hid hb
  clear ht hN hb
  unfold fracS
  rw [HB.out]
  cases b
  · have hts : takeS [46] l st = st := by unfold takeS; rw [HB.out]; rfl
    go_enter Tryd.func150, Tryd.ntmps150
    go_wp2_with (go_at_call 155; refine HT.out.mono ?_; rintro e w1 ⟨rfl, hw1⟩)
    go_end0
    exact ⟨rfl, hts ▸ hw1⟩
  · have hts : takeS [46] l st = { st with pos := st.pos + 1 } := by unfold takeS; rw [HB.out]; rfl
    have hp1 : st.pos + 1 ≤ l.length := sees_lt HB.out
    obtain ⟨st0, hs0⟩ : ∃ x, ({ st with pos := st.pos + 1, part := true } : NSt) = x := ⟨_, rfl⟩
    have hp0 : st0.pos ≤ l.length := by rw [← hs0]; exact hp1
    have hsz0 : st0.size < 18446744073709551616 := by rw [← hs0]; exact hsz
    have HS := Lib.hid (show ∀ w', NStep w g A cap l { ({ st with pos := st.pos + 1 } : NSt) with part := true } w' → NStep w g A cap l st0 w' from fun w' h => hs0 ▸ h)
    obtain ⟨⟨st', q⟩, hr⟩ : ∃ r, rowS false l st0 = r := ⟨_, rfl⟩
    rw [if_pos rfl, hs0, hr]
    clear hs0
    cases q with
    | none =>
      have HR := Lib.hid (fun w => @row_none false w g A cap l st0 st' hr)
      clear hr
      go_enter Tryd.func150, Tryd.ntmps150
      go_wp2_with (first | (go_at_call 155; refine HT.out.mono ?_; rintro e w1 ⟨rfl, hw1⟩; rw [hts] at hw1; have hf := hw1.1.1.frozen 5; obtain ⟨hc2, _, _⟩ := hw1.1.1.rules; have hw2 := HS.out _ (hw1.set_ 5 (.bool true) (by simp [numCells]))) | (go_at_call 156; refine (HR.out _ hw2.1 hl hp0 hsz0).mono ?_; rintro e w2 ⟨rfl, hw3⟩))
      go_end0
      exact ⟨rfl, hw2.trans hw3⟩
    | some p =>
      have HR := Lib.hid (fun w => @row_some false w g A cap l st0 st' p hr)
      clear hr
      go_enter Tryd.func150, Tryd.ntmps150
      go_wp2_with (first | (go_at_call 155; refine HT.out.mono ?_; rintro e w1 ⟨rfl, hw1⟩; rw [hts] at hw1; have hf := hw1.1.1.frozen 5; obtain ⟨hc2, _, _⟩ := hw1.1.1.rules; have hw2 := HS.out _ (hw1.set_ 5 (.bool true) (by simp [numCells]))) | (go_at_call 156; refine (HR.out _ hw2.1 hl hp0 hsz0).mono ?_; rintro e w2 ⟨rfl, hw3⟩))
      exact ⟨rfl, rfl, hw2.trans hw3⟩

set_option maxRecDepth 100000 in
set_option maxHeartbeats 1000000 in
theorem exponent_any (w : World) (g : Nat) (A : Option Addr) (cap : Nat) (l : List UInt8) (st : NSt) (hN : NB w g A cap l st) (hl : l.length ≤ 4194304) (hp : st.pos ≤ l.length) (hsz : st.size < 18446744073709551616) :
    Calls Tryd.prog 151 #[.pointer (some ⟨g, 0, none⟩)] w (StepPost (expS l st) g A cap l w) := by
  have ht := take_any w g A cap l st ⟨#[101, 69]⟩ hN (by decide) hl hp
  rw [show sl ⟨#[101, 69]⟩ = [101, 69] from rfl] at ht
  obtain ⟨b, hb⟩ : ∃ b, seesB l st.pos [101, 69] = b := ⟨_, rfl⟩
  rw [hb] at ht
  have HT := Lib.hid ht
  have HB := Lib.hid hb
  clear ht hN hb
  unfold expS
  rw [HB.out]
  cases b
  · have hts : takeS [101, 69] l st = st := by unfold takeS; rw [HB.out]; rfl
    go_enter Tryd.func151, Tryd.ntmps151
    go_wp2_with (go_at_call 155; refine HT.out.mono ?_; rintro e w1 ⟨rfl, hw1⟩)
    go_end0
    exact ⟨rfl, hts ▸ hw1⟩
  · have hts : takeS [101, 69] l st = { st with pos := st.pos + 1 } := by unfold takeS; rw [HB.out]; rfl
    have hp1 : st.pos + 1 ≤ l.length := sees_lt HB.out
    obtain ⟨st0, hs0⟩ : ∃ x, ({ st with pos := st.pos + 1, part := true } : NSt) = x := ⟨_, rfl⟩
    have hp0 : st0.pos ≤ l.length := by rw [← hs0]; exact hp1
    have hsz0 : st0.size < 18446744073709551616 := by rw [← hs0]; exact hsz
    have HS := Lib.hid (show ∀ w', NStep w g A cap l { ({ st with pos := st.pos + 1 } : NSt) with part := true } w' → NStep w g A cap l st0 w' from fun w' h => hs0 ▸ h)
    have ht2 := fun w h => take_any w g A cap l st0 ⟨#[43, 45]⟩ h (by decide) hl hp0
    rw [show sl ⟨#[43, 45]⟩ = [43, 45] from rfl] at ht2
    have HT2 := Lib.hid ht2
    clear ht2
    have hp1' : (takeS [43, 45] l st0).pos ≤ l.length := takeS_le hp0
    have hsz1 : (takeS [43, 45] l st0).size < 18446744073709551616 := by rw [takeS_size]; exact hsz0
    obtain ⟨⟨st', q⟩, hr⟩ : ∃ r, rowS false l (takeS [43, 45] l st0) = r := ⟨_, rfl⟩
    rw [if_pos rfl, hs0, hr]
    clear hs0
    cases q with
    | none =>
      have HR := Lib.hid (fun w => @row_none false w g A cap l _ st' hr)
      clear hr
      go_enter Tryd.func151, Tryd.ntmps151
      go_wp2_with (first | (go_at_call 155; refine (HT2.out _ hw2.1).mono ?_; rintro e w5 ⟨rfl, hw4⟩) | (go_at_call 155; refine HT.out.mono ?_; rintro e w1 ⟨rfl, hw1⟩; rw [hts] at hw1; have hf := hw1.1.1.frozen 5; obtain ⟨hc2, _, _⟩ := hw1.1.1.rules; have hw2 := HS.out _ (hw1.set_ 5 (.bool true) (by simp [numCells]))) | (go_at_call 156; refine (HR.out _ hw4.1 hl hp1' hsz1).mono ?_; rintro e w2 ⟨rfl, hw3⟩))
      go_end0
      exact ⟨rfl, (hw2.trans hw4).trans hw3⟩
    | some p =>
      have HR := Lib.hid (fun w => @row_some false w g A cap l _ st' p hr)
      clear hr
      go_enter Tryd.func151, Tryd.ntmps151
      go_wp2_with (first | (go_at_call 155; refine (HT2.out _ hw2.1).mono ?_; rintro e w5 ⟨rfl, hw4⟩) | (go_at_call 155; refine HT.out.mono ?_; rintro e w1 ⟨rfl, hw1⟩; rw [hts] at hw1; have hf := hw1.1.1.frozen 5; obtain ⟨hc2, _, _⟩ := hw1.1.1.rules; have hw2 := HS.out _ (hw1.set_ 5 (.bool true) (by simp [numCells]))) | (go_at_call 156; refine (HR.out _ hw4.1 hl hp1' hsz1).mono ?_; rintro e w2 ⟨rfl, hw3⟩))
      exact ⟨rfl, rfl, (hw2.trans hw4).trans hw3⟩
end Go.Proofs.YtoejdhabpajhlaaDoor

/- The walks of package numeral: the reader's run, with its deferred closure. -/
namespace Go.Proofs.YtoejdhabpajhlaaDoor
set_option linter.unusedVariables false
set_option linter.unusedSimpArgs false
open Go.RowKit
attribute [local go_sem] run_index_arr run_part_agg run_part_one run_field_agg

def stepsV : Value := .agg #[.func (.func 148) #[] #[], .func (.func 149) #[] #[], .func (.func 150) #[] #[], .func (.func 151) #[] #[]]
theorem steps_any (w : World) : Calls Tryd.prog 136 #[] w fun e w' => e = .returned stepsV ∧ Below w.heap.size w w' := by
  go_enter Tryd.func136, Tryd.ntmps136
  go_wp2
  go_returns
  exact ⟨rfl, by go_grown⟩

theorem catch_idle (p q : Addr) (w : World) :
    CallsD Tryd.prog 135 #[.pointer (some p), .pointer (some q)] .returning w fun e u' w' => e = .returned (.tuple #[]) ∧ u' = .returning ∧ w' = w := by
  refine callsD_of_wpS Tryd.func135 rfl fun c₀ cs hu => ?_
  simp only [Tryd.ntmps135, List.size_toArray, List.length_cons, List.length_nil, Nat.reduceAdd, Nat.reduceSub, Array.replicate_succ,
     Array.replicate_zero, List.push_toArray, List.append_toArray, List.nil_append, List.cons_append]
  apply wpS_seq
  apply wpS_region
  simp [wpOpsS, go_sem, recoverD, hu, Exit.thenS]
  refine wpS_of_wp ?_
  go_wp2
  cases c₀
  simp_all [bodyPostS, results, Tryd.results135]

set_option maxRecDepth 100000 in
set_option maxHeartbeats 1000000 in
theorem catch_wrong (b d : Nat) (x : Int) (c c' : Value) (w : World) (hbd : b ≠ d) (hp : w.cell? ⟨b, 0, none⟩ = some c) (hz : w.frozen? ⟨b, 0, none⟩ = false) (hq : w.cell? ⟨d, 0, none⟩ = some c') (hy : w.frozen? ⟨d, 0, none⟩ = false) :
    CallsD Tryd.prog 135 #[.pointer (some ⟨b, 0, none⟩), .pointer (some ⟨d, 0, none⟩)] (.panicking [{ v := .iface 180 (.int .i64 x), recovered := false }]) w fun e u' w' =>
      e = .returned (.tuple #[]) ∧ u' = .panicking [{ v := .iface 180 (.int .i64 x), recovered := true }] ∧ w' = (w.setCell ⟨b, 0, none⟩ (.int .i64 x)).setCell ⟨d, 0, none⟩ (.int .i64 7) := by
  have hta : ∀ w : World, (Instr.typeAssert (.iface 180 (.int .i64 x)) 20 180 true).run Tryd.prog w = .ok (.tuple #[.int .i64 x, .bool true]) w := fun _ => by kernel_rfl
  refine callsD_of_wpS Tryd.func135 rfl fun c₀ cs hu => ?_
  simp only [Tryd.ntmps135, List.size_toArray, List.length_cons, List.length_nil, Nat.reduceAdd, Nat.reduceSub, Array.replicate_succ,
     Array.replicate_zero, List.push_toArray, List.append_toArray, List.nil_append, List.cons_append]
  apply wpS_seq
  apply wpS_region
  simp [wpOpsS, go_sem, recoverD, hu, Exit.thenS]
  refine wpS_of_wp ?_
  go_wp2
  simp [bodyPostS, results, Tryd.results135]

/-- step k of the reader -/
def stepK : Nat → List UInt8 → NSt → NSt × Option Nat
  | 0 => signS | 1 => wholeS | 2 => fracS | _ => expS
def runK (l : List UInt8) : List Nat → NSt → NSt × Option Nat
  | [], st => (st, none)
  | k :: ks, st => match stepK k l st with | (st', none) => runK l ks st' | r => r
def numRun (l : List UInt8) (st : NSt) : NSt × Option Nat := runK l [0, 1, 2, 3] st
theorem runK_none {l : List UInt8} {k : Nat} {ks : List Nat} {st st' : NSt} (h : stepK k l st = (st', none)) : runK l (k :: ks) st = runK l ks st' := by simp [runK, h]
theorem runK_some {l : List UInt8} {k p : Nat} {ks : List Nat} {st st' : NSt} (h : stepK k l st = (st', some p)) : runK l (k :: ks) st = (st', some p) := by simp [runK, h]
theorem stepK_le {k : Nat} {l : List UInt8} {st st' : NSt} {q : Option Nat} (h : stepK k l st = (st', q)) (hp : st.pos ≤ l.length) (hs : st.size < 18446744073709551616) :
    st'.pos ≤ l.length ∧ st'.size < 18446744073709551616 := by
  have e : (stepK k l st).1 = st' := by rw [h]
  rw [← e]
  rcases k with _ | _ | _ | k
  · exact ⟨takeS_le (s := [45]) hp, by show (takeS [45] l st).size < _; rw [takeS_size]; exact hs⟩
  · show (wholeS l st).1.pos ≤ _ ∧ (wholeS l st).1.size < _
    unfold wholeS
    split
    · rename_i h2; exact ⟨sees_lt h2, hs⟩
    · exact ⟨rowS_le hp, rowS_size hs⟩
  · show (fracS l st).1.pos ≤ _ ∧ (fracS l st).1.size < _
    unfold fracS
    split
    · rename_i h2; exact ⟨rowS_le (sees_lt h2), rowS_size hs⟩
    · exact ⟨hp, hs⟩
  · show (expS l st).1.pos ≤ _ ∧ (expS l st).1.size < _
    unfold expS
    split
    · rename_i h2; exact ⟨rowS_le (takeS_le (sees_lt h2)), rowS_size (by rw [takeS_size]; exact hs)⟩
    · exact ⟨hp, hs⟩

def ReadsPost (o : NSt × Option Nat) (g : Nat) (A : Option Addr) (cap : Nat) (l : List UInt8) (w : World) (e : Ending) (w' : World) : Prop :=
  (e = match o.2 with | none => .returned (.tuple #[.int .i64 o.1.pos, .int .i64 0]) | some p => .returned (.tuple #[.int .i64 p, .int .i64 7])) ∧ NStep w g A cap l o.1 w'

theorem gb_new {a w : World} {row : Option Nat} (h : a.grownBy w row) (p : Addr) (u : Value) (hp : a.heap.size ≤ p.block) : a.grownBy (w.setCell p u) row :=
  ⟨h.os, h.tape, h.output, by simpa [World.setCell] using h.size, fun j hj hne => (Below.heap_setCell w p u j (by omega)).trans (h.block j hj hne)⟩
theorem one_no {x : Int} : ∀ (i : Nat) (c : Int), (#[Value.int .i64 x] : Array Value)[i]? = some (Value.int .u8 c) → False := by
  intro i c h
  match i with
  | 0 => simp at h
  | i + 1 => simp at h
/-- both named results are laid -/
theorem laid_two (w : World) (g : Nat) (A : Option Addr) (cap : Nat) (l : List UInt8) (st' : NSt) (p q : Int) (hlt : g < w.heap.size) (w2 : World)
    (hN : NB w2 g A cap l st') (c0 : Blk w2 w.heap.size 3 #[.int .i64 0]) (c1 : Blk w2 (w.heap.size + 1) 29 #[.int .i64 0]) (hgr : w.grownBy w2 (some g)) :
    ((w2.setCell ⟨w.heap.size, 0, none⟩ (.int .i64 p)).setCell ⟨w.heap.size + 1, 0, none⟩ (.int .i64 q)).cell? ⟨w.heap.size, 0, none⟩ = some (.int .i64 p) ∧
    ((w2.setCell ⟨w.heap.size, 0, none⟩ (.int .i64 p)).setCell ⟨w.heap.size + 1, 0, none⟩ (.int .i64 q)).cell? ⟨w.heap.size + 1, 0, none⟩ = some (.int .i64 q) ∧
    NStep w g A cap l st' ((w2.setCell ⟨w.heap.size, 0, none⟩ (.int .i64 p)).setCell ⟨w.heap.size + 1, 0, none⟩ (.int .i64 q)) := by
  have d0 := (c0.set_ 0 (.int .i64 p)).far (p := ⟨w.heap.size + 1, 0, none⟩) (show w.heap.size ≠ w.heap.size + 1 by omega) (.int .i64 q)
  have d1 := (c1.far (p := ⟨w.heap.size, 0, none⟩) (show w.heap.size + 1 ≠ w.heap.size by omega) (.int .i64 p)).set_ 0 (.int .i64 q)
  have e0 := hN.2.ne_blk c0 one_no
  have e1 := hN.2.ne_blk c1 one_no
  refine ⟨by rw [d0.cell]; rfl, by rw [d1.cell]; rfl, ⟨⟨(hN.1.far (p := ⟨w.heap.size, 0, none⟩) (by simp; omega) _).far (p := ⟨w.heap.size + 1, 0, none⟩) (by simp; omega) _, (hN.2.setCell e0 _ _).setCell e1 _ _⟩, gb_new (gb_new hgr _ _ (Nat.le_refl _)) _ _ (by simp)⟩⟩

set_option maxRecDepth 100000 in
set_option maxHeartbeats 4000000 in
theorem reads_any (w : World) (g : Nat) (A : Option Addr) (cap : Nat) (l : List UInt8) (st : NSt) (hN : NB w g A cap l st) (hl : l.length ≤ 4194304) (hp : st.pos ≤ l.length) (hsz : st.size < 18446744073709551616) :
    Calls Tryd.prog 118 #[.pointer (some ⟨g, 0, none⟩)] w (ReadsPost (numRun l st) g A cap l w) := by
  have hmf : ∀ (fn : Fn) (first cap : Array Value) (w : World), (Instr.makeFunc fn first cap).run Tryd.prog w = .ok (.func fn first cap) w := fun _ _ _ _ => rfl
  have HN := Lib.hid hN
  clear hN
  go_enter_defers Tryd.func118, Tryd.ntmps118
  go_wp2_with (go_at_call 136; refine (steps_any _).mono ?_; rintro e w1 ⟨rfl, hb⟩)
  have hlt := HN.out.1.lt
  go_loopw [5, 8] (fun _ i wr => ∃ k : Nat, k ≤ 4 ∧ i = .int .i64 k ∧ True ∧ ∃ sk : NSt, sk.pos ≤ l.length ∧ sk.size < 18446744073709551616 ∧ runK l ([0, 1, 2, 3].drop k) sk = numRun l st ∧ NB wr g A cap l sk ∧
      Blk wr w.heap.size 3 #[.int .i64 0] ∧ Blk wr (w.heap.size + 1) 29 #[.int .i64 0] ∧ w.grownBy wr (some g)) (fun _ i _ => 4 - (intOf i).toNat)
  case atStart =>
    have b0 := ((Blk.new w 3 #[.int .i64 0]).alloc (.cells #[.int .i64 0] 29)).keep hb
    have b1 := (Blk.new (w.alloc (.cells #[.int .i64 0] 3)) 29 #[.int .i64 0]).keep hb
    rw [World.size_alloc] at b1
    have hbw : Below w.heap.size w w1 := (((Below.refl _ w).alloc (Nat.le_refl _) _).alloc (by simp) _).trans (hb.mono (by simp; omega))
    exact ⟨0, by omega, rfl, trivial, st, hp, hsz, rfl, ⟨HN.out.1.keep hbw, HN.out.2.below hbw⟩, b0, b1, ⟨hbw.os, hbw.tape, hbw.output, hbw.size, fun i hi _ => hbw.block i hi⟩⟩
  case round =>
    obtain ⟨k, hk, rfl, -, sk, hpk, hsk, hK, hst, b0, b1, hgr⟩ := hrel
    have HK := Lib.hid hK
    clear hK
    have hg0 : some w.heap.size ≠ some g := by simp; omega
    have hg1 : some (w.heap.size + 1) ≠ some g := by simp; omega
    rcases (by omega : k = 0 ∨ k = 1 ∨ k = 2 ∨ k = 3 ∨ k = 4) with rfl | rfl | rfl | rfl | rfl
    · obtain ⟨⟨st', q⟩, hr⟩ : ∃ r, stepK 0 l sk = r := ⟨_, rfl⟩
      have hcon := fun w h => sign_any w g A cap l sk h hl hpk
      rw [show signS l sk = (st', q) from hr] at hcon
      have hle := stepK_le hr hpk hsk
      unfold stepsV
      cases q with
      | none =>
        have HC := Lib.hid (show ∀ w, NB w g A cap l sk → Calls Tryd.prog 148 #[.pointer (some ⟨g, 0, none⟩)] w (fun e w' => e = .returned (.tuple #[]) ∧ NStep w g A cap l st' w') from fun w h => hcon w h)
        have HR := Lib.hid (runK_none (ks := [1, 2, 3]) hr)
        clear hcon hr
        go_wp2_with (go_at_call 148; refine (HC.out _ hst).mono ?_; rintro e w2 ⟨rfl, hw2⟩)
        go_roundw
        case rel =>
          exact ⟨1, by omega, rfl, trivial, st', hle.1, hle.2, HK.out.symm ▸ HR.out.symm, hw2.1, b0.grown hw2.2 hg0, b1.grown hw2.2 hg1, gb_trans hgr hw2.2⟩
        case measure => simp [intOf]
      | some p =>
        have HC := Lib.hid (show ∀ w, NB w g A cap l sk → Calls Tryd.prog 148 #[.pointer (some ⟨g, 0, none⟩)] w (fun e w' => e = .panicked [{ v := .iface 180 (.int .i64 p), recovered := false }] ∧ NStep w g A cap l st' w') from fun w h => hcon w h)
        have HR := Lib.hid (runK_some (ks := [1, 2, 3]) hr)
        clear hcon hr
        go_wp2_with (go_at_call 148; refine (HC.out _ hst).mono ?_; rintro e w2 ⟨rfl, hw2⟩)
        have c0 := b0.grown hw2.2 hg0
        have c1 := b1.grown hw2.2 hg1
        refine leaves_cons (f := 135) (args := #[.pointer (some ⟨w.heap.size, 0, none⟩), .pointer (some ⟨w.heap.size + 1, 0, none⟩)]) (by simp) (by simp [go_sem]) ?_
        refine (catch_wrong w.heap.size (w.heap.size + 1) p _ _ w2 (by omega) (c0.cell 0) (c0.frozen 0) (c1.cell 0) (c1.frozen 0)).mono ?_
        rintro e u' w3 ⟨rfl, rfl, rfl⟩
        obtain ⟨r0, r1, hfin⟩ := laid_two w g A cap l st' p 7 hlt w2 hw2.1 c0 c1 (gb_trans hgr hw2.2)
        refine ⟨.tuple #[.int .i64 p, .int .i64 7], ?_, ?_⟩
        · simp only [results, Tryd.results118]
          go_simp
        · rw [ReadsPost, show numRun l st = (st', some p) from (by rw [← HK.out]; exact HR.out)]
          exact ⟨rfl, hfin⟩
    · obtain ⟨⟨st', q⟩, hr⟩ : ∃ r, stepK 1 l sk = r := ⟨_, rfl⟩
      have hcon := fun w h => whole_any w g A cap l sk h hl hpk hsk
      rw [show wholeS l sk = (st', q) from hr] at hcon
      have hle := stepK_le hr hpk hsk
      unfold stepsV
      cases q with
      | none =>
        have HC := Lib.hid (show ∀ w, NB w g A cap l sk → Calls Tryd.prog 149 #[.pointer (some ⟨g, 0, none⟩)] w (fun e w' => e = .returned (.tuple #[]) ∧ NStep w g A cap l st' w') from fun w h => hcon w h)
        have HR := Lib.hid (runK_none (ks := [2, 3]) hr)
        clear hcon hr
        go_wp2_with (go_at_call 149; refine (HC.out _ hst).mono ?_; rintro e w2 ⟨rfl, hw2⟩)
        go_roundw
        case rel =>
          exact ⟨2, by omega, rfl, trivial, st', hle.1, hle.2, HK.out.symm ▸ HR.out.symm, hw2.1, b0.grown hw2.2 hg0, b1.grown hw2.2 hg1, gb_trans hgr hw2.2⟩
        case measure => simp [intOf]
      | some p =>
        have HC := Lib.hid (show ∀ w, NB w g A cap l sk → Calls Tryd.prog 149 #[.pointer (some ⟨g, 0, none⟩)] w (fun e w' => e = .panicked [{ v := .iface 180 (.int .i64 p), recovered := false }] ∧ NStep w g A cap l st' w') from fun w h => hcon w h)
        have HR := Lib.hid (runK_some (ks := [2, 3]) hr)
        clear hcon hr
        go_wp2_with (go_at_call 149; refine (HC.out _ hst).mono ?_; rintro e w2 ⟨rfl, hw2⟩)
        have c0 := b0.grown hw2.2 hg0
        have c1 := b1.grown hw2.2 hg1
        refine leaves_cons (f := 135) (args := #[.pointer (some ⟨w.heap.size, 0, none⟩), .pointer (some ⟨w.heap.size + 1, 0, none⟩)]) (by simp) (by simp [go_sem]) ?_
        refine (catch_wrong w.heap.size (w.heap.size + 1) p _ _ w2 (by omega) (c0.cell 0) (c0.frozen 0) (c1.cell 0) (c1.frozen 0)).mono ?_
        rintro e u' w3 ⟨rfl, rfl, rfl⟩
        obtain ⟨r0, r1, hfin⟩ := laid_two w g A cap l st' p 7 hlt w2 hw2.1 c0 c1 (gb_trans hgr hw2.2)
        refine ⟨.tuple #[.int .i64 p, .int .i64 7], ?_, ?_⟩
        · simp only [results, Tryd.results118]
          go_simp
        · rw [ReadsPost, show numRun l st = (st', some p) from (by rw [← HK.out]; exact HR.out)]
          exact ⟨rfl, hfin⟩
    · obtain ⟨⟨st', q⟩, hr⟩ : ∃ r, stepK 2 l sk = r := ⟨_, rfl⟩
      have hcon := fun w h => fraction_any w g A cap l sk h hl hpk hsk
      rw [show fracS l sk = (st', q) from hr] at hcon
      have hle := stepK_le hr hpk hsk
      unfold stepsV
      cases q with
      | none =>
        have HC := Lib.hid (show ∀ w, NB w g A cap l sk → Calls Tryd.prog 150 #[.pointer (some ⟨g, 0, none⟩)] w (fun e w' => e = .returned (.tuple #[]) ∧ NStep w g A cap l st' w') from fun w h => hcon w h)
        have HR := Lib.hid (runK_none (ks := [3]) hr)
        clear hcon hr
        go_wp2_with (go_at_call 150; refine (HC.out _ hst).mono ?_; rintro e w2 ⟨rfl, hw2⟩)
        go_roundw
        case rel =>
          exact ⟨3, by omega, rfl, trivial, st', hle.1, hle.2, HK.out.symm ▸ HR.out.symm, hw2.1, b0.grown hw2.2 hg0, b1.grown hw2.2 hg1, gb_trans hgr hw2.2⟩
        case measure => simp [intOf]
      | some p =>
        have HC := Lib.hid (show ∀ w, NB w g A cap l sk → Calls Tryd.prog 150 #[.pointer (some ⟨g, 0, none⟩)] w (fun e w' => e = .panicked [{ v := .iface 180 (.int .i64 p), recovered := false }] ∧ NStep w g A cap l st' w') from fun w h => hcon w h)
        have HR := Lib.hid (runK_some (ks := [3]) hr)
        clear hcon hr
        go_wp2_with (go_at_call 150; refine (HC.out _ hst).mono ?_; rintro e w2 ⟨rfl, hw2⟩)
        have c0 := b0.grown hw2.2 hg0
        have c1 := b1.grown hw2.2 hg1
        refine leaves_cons (f := 135) (args := #[.pointer (some ⟨w.heap.size, 0, none⟩), .pointer (some ⟨w.heap.size + 1, 0, none⟩)]) (by simp) (by simp [go_sem]) ?_
        refine (catch_wrong w.heap.size (w.heap.size + 1) p _ _ w2 (by omega) (c0.cell 0) (c0.frozen 0) (c1.cell 0) (c1.frozen 0)).mono ?_
        rintro e u' w3 ⟨rfl, rfl, rfl⟩
        obtain ⟨r0, r1, hfin⟩ := laid_two w g A cap l st' p 7 hlt w2 hw2.1 c0 c1 (gb_trans hgr hw2.2)
        refine ⟨.tuple #[.int .i64 p, .int .i64 7], ?_, ?_⟩
        · simp only [results, Tryd.results118]
          go_simp
        · rw [ReadsPost, show numRun l st = (st', some p) from (by rw [← HK.out]; exact HR.out)]
          exact ⟨rfl, hfin⟩
    · obtain ⟨⟨st', q⟩, hr⟩ : ∃ r, stepK 3 l sk = r := ⟨_, rfl⟩
      have hcon := fun w h => exponent_any w g A cap l sk h hl hpk hsk
      rw [show expS l sk = (st', q) from hr] at hcon
      have hle := stepK_le hr hpk hsk
      unfold stepsV
      cases q with
      | none =>
        have HC := Lib.hid (show ∀ w, NB w g A cap l sk → Calls Tryd.prog 151 #[.pointer (some ⟨g, 0, none⟩)] w (fun e w' => e = .returned (.tuple #[]) ∧ NStep w g A cap l st' w') from fun w h => hcon w h)
        have HR := Lib.hid (runK_none (ks := []) hr)
        clear hcon hr
        go_wp2_with (go_at_call 151; refine (HC.out _ hst).mono ?_; rintro e w2 ⟨rfl, hw2⟩)
        go_roundw
        case rel =>
          exact ⟨4, by omega, rfl, trivial, st', hle.1, hle.2, HK.out.symm ▸ HR.out.symm, hw2.1, b0.grown hw2.2 hg0, b1.grown hw2.2 hg1, gb_trans hgr hw2.2⟩
        case measure => simp [intOf]
      | some p =>
        have HC := Lib.hid (show ∀ w, NB w g A cap l sk → Calls Tryd.prog 151 #[.pointer (some ⟨g, 0, none⟩)] w (fun e w' => e = .panicked [{ v := .iface 180 (.int .i64 p), recovered := false }] ∧ NStep w g A cap l st' w') from fun w h => hcon w h)
        have HR := Lib.hid (runK_some (ks := []) hr)
        clear hcon hr
        go_wp2_with (go_at_call 151; refine (HC.out _ hst).mono ?_; rintro e w2 ⟨rfl, hw2⟩)
        have c0 := b0.grown hw2.2 hg0
        have c1 := b1.grown hw2.2 hg1
        refine leaves_cons (f := 135) (args := #[.pointer (some ⟨w.heap.size, 0, none⟩), .pointer (some ⟨w.heap.size + 1, 0, none⟩)]) (by simp) (by simp [go_sem]) ?_
        refine (catch_wrong w.heap.size (w.heap.size + 1) p _ _ w2 (by omega) (c0.cell 0) (c0.frozen 0) (c1.cell 0) (c1.frozen 0)).mono ?_
        rintro e u' w3 ⟨rfl, rfl, rfl⟩
        obtain ⟨r0, r1, hfin⟩ := laid_two w g A cap l st' p 7 hlt w2 hw2.1 c0 c1 (gb_trans hgr hw2.2)
        refine ⟨.tuple #[.int .i64 p, .int .i64 7], ?_, ?_⟩
        · simp only [results, Tryd.results118]
          go_simp
        · rw [ReadsPost, show numRun l st = (st', some p) from (by rw [← HK.out]; exact HR.out)]
          exact ⟨rfl, hfin⟩
    · have hNn := HK.out
      obtain ⟨hc2, hf2, _⟩ := hst.1.rules
      obtain ⟨d0, f0, _⟩ := b0.rules
      obtain ⟨d1, f1, _⟩ := b1.rules
      unfold numCells at hc2
      go_wp2
      obtain ⟨r0, r1, hfin⟩ := laid_two w g A cap l sk sk.pos 0 hlt wr hst b0 b1 hgr
      refine leaves_cons (f := 135) (args := #[.pointer (some ⟨w.heap.size, 0, none⟩), .pointer (some ⟨w.heap.size + 1, 0, none⟩)]) (by simp) (by simp [go_sem]) ?_
      refine (catch_idle ⟨w.heap.size, 0, none⟩ ⟨w.heap.size + 1, 0, none⟩ _).mono ?_
      rintro e u' w3 ⟨rfl, rfl, rfl⟩
      refine ⟨.tuple #[.int .i64 sk.pos, .int .i64 0], ?_, ?_⟩
      · simp only [results, Tryd.results118]
        go_simp
      · rw [ReadsPost, show numRun l st = (sk, none) from hNn.symm]
        exact ⟨rfl, hfin⟩
end Go.Proofs.YtoejdhabpajhlaaDoor

/- The walk of numeral.Read. -/
namespace Go.Proofs.YtoejdhabpajhlaaDoor
set_option linter.unusedVariables false
set_option linter.unusedSimpArgs false
open Go.RowKit
attribute [local go_sem] run_index_arr run_part_agg run_part_one run_field_agg

def numStart (a : Nat) : NSt := { pos := a, minus := false, size := 0, over := false, part := false }
/-- the greatest size that a numeral may have -/
def numBig (minus : Bool) : Nat := if minus then 9223372036854775808 else 9223372036854775807
def numEnd (st : NSt) (a : Int) : Int × Int × Int :=
  if (st.part || st.over || decide (numBig st.minus < st.size)) = true then (0, a, 130) else ((if st.minus then -(st.size : Int) else st.size), st.pos, 0)
/-- what numeral.Read answers: the number, the place, the error -/
def numRead (l : List UInt8) (a : Int) : Int × Int × Int :=
  if a < 0 ∨ (l.length : Int) < a then (0, 0, 2) else
  match numRun l (numStart a.toNat) with
  | (_, some p) => (0, p, 7)
  | (st, none) => numEnd st a

theorem runK_size {l : List UInt8} : ∀ {ks : List Nat} {st st' : NSt} {q : Option Nat}, runK l ks st = (st', q) → st.pos ≤ l.length → st.size < 18446744073709551616 → st'.size < 18446744073709551616
  | [], st, st', q, h, _, hs => by
    simp only [runK, Prod.mk.injEq] at h
    rw [← h.1]; exact hs
  | k :: ks, st, st', q, h, hp, hs => by
    obtain ⟨⟨s1, r⟩, hr⟩ : ∃ r, stepK k l st = r := ⟨_, rfl⟩
    have hle := stepK_le hr hp hs
    cases r with
    | none => rw [runK_none hr] at h; exact runK_size h hle.1 hle.2
    | some p =>
      rw [runK_some hr] at h
      simp only [Prod.mk.injEq] at h
      rw [← h.1]; exact hle.2
theorem neg_wrap {k : Nat} (h : k ≤ 9223372036854775808) : wrap64 (IntKind.u64.wrap (-(k : Int))) = -(k : Int) := by
  unfold wrap64; rw [IntKind.wrap_u64]; omega
theorem pos_wrap {k : Nat} (h : k ≤ 9223372036854775807) : wrap64 (k : Int) = (k : Int) := by
  unfold wrap64; omega
def NumPost (r : Int × Int × Int) (w : World) (e : Ending) (w' : World) : Prop :=
  e = .returned (.tuple #[.int .i64 r.1, .int .i64 r.2.1, .int .i64 r.2.2]) ∧ Below w.heap.size w w'

set_option maxRecDepth 100000 in
set_option maxHeartbeats 4000000 in
theorem numRead_any (w : World) (v : Value) (l : List UInt8) (a : Int) (hv : BS w v l) (hl : l.length ≤ 4194304) :
    Calls Tryd.prog 84 #[v, .int .i64 a] w (NumPost (numRead l a) w) := by
  obtain ⟨A, cap, rfl, hcap, hr⟩ := hv
  by_cases h0 : a < 0
  · unfold numRead
    rw [if_pos (.inl h0)]
    go_enter Tryd.func84, Tryd.ntmps84
    go_wp2
    go_returns
    exact ⟨rfl, by go_grown⟩
  · obtain ⟨n, rfl⟩ : ∃ n : Nat, a = n := ⟨a.toNat, by omega⟩
    by_cases h1 : (l.length : Int) < (n : Int)
    · unfold numRead
      rw [if_pos (.inr h1)]
      clear h0
      go_enter Tryd.func84, Tryd.ntmps84
      go_wp2
      go_returns
      exact ⟨rfl, by go_grown⟩
    · unfold numRead
      rw [if_neg (by omega), Int.toNat_natCast]
      clear h0
      have hreads := fun (w1 : World) h => reads_any w1 w.heap.size A cap l (numStart n) h hl (by show n ≤ _; omega) (by show 0 < _; omega)
      obtain ⟨⟨st, q⟩, hq⟩ : ∃ r, numRun l (numStart n) = r := ⟨_, rfl⟩
      rw [hq] at hreads ⊢
      have hNB : NB (w.alloc (.cells (numCells A l.length cap (numStart n)) 165)) w.heap.size A cap l (numStart n) := ⟨Blk.new _ _ _, hr.alloc _⟩
      unfold numCells numStart at hNB
      have HNB := Lib.hid hNB
      clear hNB
      cases q with
      | some p =>
        have HR := Lib.hid (show ∀ w1, NB w1 w.heap.size A cap l (numStart n) → Calls Tryd.prog 118 #[.pointer (some ⟨w.heap.size, 0, none⟩)] w1 (fun e w' => e = .returned (.tuple #[.int .i64 p, .int .i64 7]) ∧ NStep w1 w.heap.size A cap l st w') from hreads)
        clear hreads hq
        go_enter Tryd.func84, Tryd.ntmps84
        go_wp2_with (go_at_call 118; refine (HR.out _ HNB.out).mono ?_; rintro e w1 ⟨rfl, hw1⟩)
        go_returns
        exact ⟨rfl, ((Below.refl w.heap.size w).alloc (Nat.le_refl _) _).grown hw1.2 (by simp) (by simp)⟩
      | none =>
        have HR := Lib.hid (show ∀ w1, NB w1 w.heap.size A cap l (numStart n) → Calls Tryd.prog 118 #[.pointer (some ⟨w.heap.size, 0, none⟩)] w1 (fun e w' => e = .returned (.tuple #[.int .i64 st.pos, .int .i64 0]) ∧ NStep w1 w.heap.size A cap l st w') from hreads)
        clear hreads
        have hsz : st.size < 18446744073709551616 := runK_size hq (by show n ≤ _; omega) (by show 0 < _; omega)
        clear hq
        obtain ⟨pos, minus, size, over, part⟩ := st
        cases minus <;> cases part <;> cases over
        · by_cases hb : size ≤ 9223372036854775807
          · have hwr := pos_wrap hb
            go_enter Tryd.func84, Tryd.ntmps84
            go_wp2_with (go_at_call 118; refine (HR.out _ HNB.out).mono ?_; rintro e w1 ⟨rfl, hw1⟩; obtain ⟨hc, _, _⟩ := hw1.1.1.rules; unfold numCells at hc)
            go_returns
            refine ⟨?_, ((Below.refl w.heap.size w).alloc (Nat.le_refl _) _).grown hw1.2 (by simp) (by simp)⟩
            rw [show numEnd { pos := pos, minus := false, size := size, over := false, part := false } (n : Int) = ((size : Int), (pos : Int), 0) from by simp [numEnd, numBig]; omega]
            rfl
          · skip
            go_enter Tryd.func84, Tryd.ntmps84
            go_wp2_with (go_at_call 118; refine (HR.out _ HNB.out).mono ?_; rintro e w1 ⟨rfl, hw1⟩; obtain ⟨hc, _, _⟩ := hw1.1.1.rules; unfold numCells at hc)
            go_returns
            refine ⟨?_, ((Below.refl w.heap.size w).alloc (Nat.le_refl _) _).grown hw1.2 (by simp) (by simp)⟩
            rw [show numEnd { pos := pos, minus := false, size := size, over := false, part := false } (n : Int) = (0, (n : Int), 130) from by simp [numEnd, numBig]; omega]
            rfl
        · skip
          go_enter Tryd.func84, Tryd.ntmps84
          go_wp2_with (go_at_call 118; refine (HR.out _ HNB.out).mono ?_; rintro e w1 ⟨rfl, hw1⟩; obtain ⟨hc, _, _⟩ := hw1.1.1.rules; unfold numCells at hc)
          go_returns
          refine ⟨?_, ((Below.refl w.heap.size w).alloc (Nat.le_refl _) _).grown hw1.2 (by simp) (by simp)⟩
          rw [show numEnd { pos := pos, minus := false, size := size, over := true, part := false } (n : Int) = (0, (n : Int), 130) from by simp [numEnd, numBig]]
          rfl
        · skip
          go_enter Tryd.func84, Tryd.ntmps84
          go_wp2_with (go_at_call 118; refine (HR.out _ HNB.out).mono ?_; rintro e w1 ⟨rfl, hw1⟩; obtain ⟨hc, _, _⟩ := hw1.1.1.rules; unfold numCells at hc)
          go_returns
          refine ⟨?_, ((Below.refl w.heap.size w).alloc (Nat.le_refl _) _).grown hw1.2 (by simp) (by simp)⟩
          rw [show numEnd { pos := pos, minus := false, size := size, over := false, part := true } (n : Int) = (0, (n : Int), 130) from by simp [numEnd, numBig]]
          rfl
        · skip
          go_enter Tryd.func84, Tryd.ntmps84
          go_wp2_with (go_at_call 118; refine (HR.out _ HNB.out).mono ?_; rintro e w1 ⟨rfl, hw1⟩; obtain ⟨hc, _, _⟩ := hw1.1.1.rules; unfold numCells at hc)
          go_returns
          refine ⟨?_, ((Below.refl w.heap.size w).alloc (Nat.le_refl _) _).grown hw1.2 (by simp) (by simp)⟩
          rw [show numEnd { pos := pos, minus := false, size := size, over := true, part := true } (n : Int) = (0, (n : Int), 130) from by simp [numEnd, numBig]]
          rfl
        · by_cases hb : size ≤ 9223372036854775808
          · have hwr := neg_wrap hb
            go_enter Tryd.func84, Tryd.ntmps84
            go_wp2_with (go_at_call 118; refine (HR.out _ HNB.out).mono ?_; rintro e w1 ⟨rfl, hw1⟩; obtain ⟨hc, _, _⟩ := hw1.1.1.rules; unfold numCells at hc)
            go_returns
            refine ⟨?_, ((Below.refl w.heap.size w).alloc (Nat.le_refl _) _).grown hw1.2 (by simp) (by simp)⟩
            rw [show numEnd { pos := pos, minus := true, size := size, over := false, part := false } (n : Int) = (-(size : Int), (pos : Int), 0) from by simp [numEnd, numBig]; omega]
            show Ending.returned (.tuple #[.int .i64 (wrap64 (IntKind.u64.wrap (-(size : Int)))), _, _]) = _
            rw [hwr]
            rfl
          · skip
            go_enter Tryd.func84, Tryd.ntmps84
            go_wp2_with (go_at_call 118; refine (HR.out _ HNB.out).mono ?_; rintro e w1 ⟨rfl, hw1⟩; obtain ⟨hc, _, _⟩ := hw1.1.1.rules; unfold numCells at hc)
            go_returns
            refine ⟨?_, ((Below.refl w.heap.size w).alloc (Nat.le_refl _) _).grown hw1.2 (by simp) (by simp)⟩
            rw [show numEnd { pos := pos, minus := true, size := size, over := false, part := false } (n : Int) = (0, (n : Int), 130) from by simp [numEnd, numBig]; omega]
            rfl
        · skip
          go_enter Tryd.func84, Tryd.ntmps84
          go_wp2_with (go_at_call 118; refine (HR.out _ HNB.out).mono ?_; rintro e w1 ⟨rfl, hw1⟩; obtain ⟨hc, _, _⟩ := hw1.1.1.rules; unfold numCells at hc)
          go_returns
          refine ⟨?_, ((Below.refl w.heap.size w).alloc (Nat.le_refl _) _).grown hw1.2 (by simp) (by simp)⟩
          rw [show numEnd { pos := pos, minus := true, size := size, over := true, part := false } (n : Int) = (0, (n : Int), 130) from by simp [numEnd, numBig]]
          rfl
        · skip
          go_enter Tryd.func84, Tryd.ntmps84
          go_wp2_with (go_at_call 118; refine (HR.out _ HNB.out).mono ?_; rintro e w1 ⟨rfl, hw1⟩; obtain ⟨hc, _, _⟩ := hw1.1.1.rules; unfold numCells at hc)
          go_returns
          refine ⟨?_, ((Below.refl w.heap.size w).alloc (Nat.le_refl _) _).grown hw1.2 (by simp) (by simp)⟩
          rw [show numEnd { pos := pos, minus := true, size := size, over := false, part := true } (n : Int) = (0, (n : Int), 130) from by simp [numEnd, numBig]]
          rfl
        · skip
          go_enter Tryd.func84, Tryd.ntmps84
          go_wp2_with (go_at_call 118; refine (HR.out _ HNB.out).mono ?_; rintro e w1 ⟨rfl, hw1⟩; obtain ⟨hc, _, _⟩ := hw1.1.1.rules; unfold numCells at hc)
          go_returns
          refine ⟨?_, ((Below.refl w.heap.size w).alloc (Nat.le_refl _) _).grown hw1.2 (by simp) (by simp)⟩
          rw [show numEnd { pos := pos, minus := true, size := size, over := true, part := true } (n : Int) = (0, (n : Int), 130) from by simp [numEnd, numBig]]
          rfl
end Go.Proofs.YtoejdhabpajhlaaDoor
