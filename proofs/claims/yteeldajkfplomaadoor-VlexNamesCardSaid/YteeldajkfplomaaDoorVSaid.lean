/- The walk of VlexSaid. -/
import Derived.Test.YteeldajkfplomaaDoorVSaidP
import Derived.Test.YteeldajkfplomaaDoorWakes
namespace Go.Proofs.YteeldajkfplomaaDoor
set_option linter.unusedVariables false
set_option linter.unusedSimpArgs false
open Go.RowKit
attribute [local go_sem] run_index_arr run_part_agg run_part_one run_field_agg

theorem sl_back (x : ByteArray) : (⟨(sl x).toArray⟩ : ByteArray) = x := str_ext (by rw [sl_mk])
theorem lexX (x : ByteArray) {r : List VTok × Int × Int} (hl : x.size ≤ 1048576) (h : vLex (sl x) = r) (w : World) (hG : GOK w) : Calls Tryd.prog 10 #[.string x] w (LexPost r w) := by
  have := lex_any x w hG hl
  rw [h] at this
  exact this
theorem lexX2 (x : ByteArray) {r : List VTok × Int × Int} (hl : x.size ≤ 1000) (h : vLex (sl x ++ [59]) = r) (w : World) (hG : GOK w) : Calls Tryd.prog 10 #[.string (x ++ ⟨#[59]⟩)] w (LexPost r w) :=
  lexX _ (Nat.le_trans (Nat.le_of_eq ByteArray.size_append) (by show x.size + 1 ≤ 1048576; omega)) (by rw [← h]; first | (congr 1; done) | (congr 1; simp [sl])) w hG
theorem nameX (x : ByteArray) {b : Bool} (h : isName x = b) (w : World) : Calls Tryd.prog 13 #[.string x] w fun e w' => e = .returned (.bool b) ∧ Below w.heap.size w w' := by
  have := Name_any x w
  rw [h] at this
  exact this
theorem wordX (x : ByteArray) {b : Bool} (h : isWord (sl x) = b) (w : World) : Calls Tryd.prog 15 #[.string x] w fun e w' => e = .returned (.bool b) ∧ Below w.heap.size w w' := by
  have := Word_any x w
  rw [h] at this
  exact this
theorem saidBelow {w w1 w2 w3 w4 w5 : World} (h1 : Below w.heap.size w w1) (h2 : Below w1.heap.size w1 w2) (h3 : Below w2.heap.size w2 w3) (h4 : Below w3.heap.size w3 w4) (h5 : Below w4.heap.size w4 w5) (n : Nat) : Below w.heap.size w (w5.drewN n) := by
  have s1 := h1.size
  have s2 := h2.size
  have s3 := h3.size
  have s4 := h4.size
  exact bel_drewN ((((h1.trans (h2.mono s1)).trans (h3.mono (by omega))).trans (h4.mono (by omega))).trans (h5.mono (by omega))) n
theorem vRun_err {l : List UInt8} : ∀ {k p : Nat} {e : Int × Int}, (vRun l k p).2 = some e → e.2 ≠ 0
  | 0, _, _, h => by cases h
  | k + 1, p, e, h => by
    unfold vRun at h
    split at h
    · rename_i hq
      cases hv : vTake l (skipB l p) with
      | inr e' => rw [hv] at h; simp only [Option.some.injEq] at h; subst h; exact vTake_err hq hv
      | inl r =>
        obtain ⟨kd, t, n, m⟩ := r
        rw [hv] at h
        exact vRun_err h
    · cases h
theorem lex_ok_place {l : List UInt8} {ts : List VTok} {q : Int} (h : vLex l = (ts, q, 0)) : q = 0 := by
  unfold vLex at h
  split at h
  · simp at h
  · cases ht : (vToks l 0).2 with
    | none => rw [ht] at h; simp only [Prod.mk.injEq] at h; exact h.2.1.symm
    | some e =>
      rw [ht] at h
      simp only [Prod.mk.injEq] at h
      exact absurd h.2.2 (vRun_err (by unfold vToks at ht; exact ht))
def TrueB (w : World) (e : Ending) (w' : World) : Prop := e = .returned (.bool true) ∧ Below w.heap.size w w'
set_option maxRecDepth 100000 in
set_option maxHeartbeats 1000000 in
theorem vlexSaid_any (s : ByteArray) (w : World) (hG : GOK w) (hs : s.size ≤ maxLen) : Calls Tryd.prog 5 #[.string s] w (TrueB w) := by
  unfold maxLen at hs
  obtain ⟨x, hl, hll, hcase⟩ : ∃ x : ByteArray, x.size ≤ 20 ∧ (20 < s.size → s.extract 0 20 = x) ∧ (¬ 20 < s.size → s = x) :=
    ⟨if 20 < s.size then s.extract 0 20 else s, (by split; (simp; omega); omega), fun h => by rw [if_pos h], fun h => by rw [if_neg h]⟩
  have hlx : (sl x).length ≤ 20 := by rw [sl_len]; exact hl
  have HG := Lib.hid hG
  have HW := Lib.hid (wakes_any w hG)
  clear hG
  cases hn : isName x <;> cases hw : isWord (sl x)
  case true.false =>
    obtain ⟨f1, f2⟩ := said_name (l := sl x) (by rw [sl_back]; exact hn)
    have H1 := Lib.hid (lexX x (by omega) f1)
    have H2 := Lib.hid (lexX2 x (by omega) f2)
    have H3 := Lib.hid (nameX x hn)
    have H4 := Lib.hid (wordX x hw)
    clear f1 f2 hn hw
    by_cases h20 : 20 < s.size
    · have hx := hll h20
      clear hll hcase
      go_enter Tryd.func5, Tryd.ntmps5
      go_wp2_with fail
      refine HW.out.mono ?_
      rintro e w1 ⟨rfl, hb1⟩
      go_wp2_with fail
      refine (H1.out w1 (HG.out.keep hb1)).mono ?_
      rintro e w2 ⟨v1, rfl, hv1, hb2⟩
      go_wp2_with fail
      refine (H3.out w2).mono ?_
      rintro e w3 ⟨rfl, hb3⟩
      go_wp2_with fail
      refine (H4.out w3).mono ?_
      rintro e w4 ⟨rfl, hb4⟩
      go_wp2_with fail
      refine (H2.out w4 (((HG.out.keep hb1).keep hb2 |>.keep hb3).keep hb4)).mono ?_
      rintro e w5 ⟨v2, rfl, hv2, hb5⟩
      have hv1 := ((hv1.below hb3).below hb4).below hb5
      obtain ⟨A1, c1, rfl, hc1, hr1⟩ := hv1
      obtain ⟨A2, c2, rfl, hc2, hr2⟩ := hv2
      obtain ⟨b1, o1, rfl, hlt1, p0, p1, p2, p3⟩ := hr1.tok (i := 0) rfl
      obtain ⟨b2, o2, rfl, hlt2, q0, q1, q2, q3⟩ := hr2.tok (i := 0) rfl
      simp only [Nat.zero_mul, Nat.add_zero, sl_back] at p0 p1 p2 p3 q0 q1 q2 q3
      go_wp2_with fail
      go_quiet (fail)
      go_wp2
      go_ret
      exact ⟨rfl, saidBelow hb1 hb2 hb3 hb4 hb5 _⟩
    · obtain rfl := hcase h20
      clear hll hcase
      go_enter Tryd.func5, Tryd.ntmps5
      go_wp2_with fail
      refine HW.out.mono ?_
      rintro e w1 ⟨rfl, hb1⟩
      go_wp2_with fail
      refine (H1.out w1 (HG.out.keep hb1)).mono ?_
      rintro e w2 ⟨v1, rfl, hv1, hb2⟩
      go_wp2_with fail
      refine (H3.out w2).mono ?_
      rintro e w3 ⟨rfl, hb3⟩
      go_wp2_with fail
      refine (H4.out w3).mono ?_
      rintro e w4 ⟨rfl, hb4⟩
      go_wp2_with fail
      refine (H2.out w4 (((HG.out.keep hb1).keep hb2 |>.keep hb3).keep hb4)).mono ?_
      rintro e w5 ⟨v2, rfl, hv2, hb5⟩
      have hv1 := ((hv1.below hb3).below hb4).below hb5
      obtain ⟨A1, c1, rfl, hc1, hr1⟩ := hv1
      obtain ⟨A2, c2, rfl, hc2, hr2⟩ := hv2
      obtain ⟨b1, o1, rfl, hlt1, p0, p1, p2, p3⟩ := hr1.tok (i := 0) rfl
      obtain ⟨b2, o2, rfl, hlt2, q0, q1, q2, q3⟩ := hr2.tok (i := 0) rfl
      simp only [Nat.zero_mul, Nat.add_zero, sl_back] at p0 p1 p2 p3 q0 q1 q2 q3
      go_wp2_with fail
      go_quiet (fail)
      go_wp2
      go_ret
      exact ⟨rfl, saidBelow hb1 hb2 hb3 hb4 hb5 _⟩
  case false.true =>
    obtain ⟨⟨f1, f2⟩, _⟩ := said_word hw
    have H1 := Lib.hid (lexX x (by omega) f1)
    have H2 := Lib.hid (lexX2 x (by omega) f2)
    have H3 := Lib.hid (nameX x hn)
    have H4 := Lib.hid (wordX x hw)
    clear f1 f2 hn hw
    by_cases h20 : 20 < s.size
    · have hx := hll h20
      clear hll hcase
      go_enter Tryd.func5, Tryd.ntmps5
      go_wp2_with fail
      refine HW.out.mono ?_
      rintro e w1 ⟨rfl, hb1⟩
      go_wp2_with fail
      refine (H1.out w1 (HG.out.keep hb1)).mono ?_
      rintro e w2 ⟨v1, rfl, hv1, hb2⟩
      go_wp2_with fail
      refine (H3.out w2).mono ?_
      rintro e w3 ⟨rfl, hb3⟩
      go_wp2_with fail
      refine (H4.out w3).mono ?_
      rintro e w4 ⟨rfl, hb4⟩
      go_wp2_with fail
      refine (H2.out w4 (((HG.out.keep hb1).keep hb2 |>.keep hb3).keep hb4)).mono ?_
      rintro e w5 ⟨v2, rfl, hv2, hb5⟩
      have hv1 := ((hv1.below hb3).below hb4).below hb5
      obtain ⟨A1, c1, rfl, hc1, hr1⟩ := hv1
      obtain ⟨A2, c2, rfl, hc2, hr2⟩ := hv2
      obtain ⟨b1, o1, rfl, hlt1, p0, p1, p2, p3⟩ := hr1.tok (i := 0) rfl
      obtain ⟨b2, o2, rfl, hlt2, q0, q1, q2, q3⟩ := hr2.tok (i := 0) rfl
      simp only [Nat.zero_mul, Nat.add_zero, sl_back] at p0 p1 p2 p3 q0 q1 q2 q3
      go_wp2_with fail
      go_quiet (fail)
      go_wp2
      go_ret
      exact ⟨rfl, saidBelow hb1 hb2 hb3 hb4 hb5 _⟩
    · obtain rfl := hcase h20
      clear hll hcase
      go_enter Tryd.func5, Tryd.ntmps5
      go_wp2_with fail
      refine HW.out.mono ?_
      rintro e w1 ⟨rfl, hb1⟩
      go_wp2_with fail
      refine (H1.out w1 (HG.out.keep hb1)).mono ?_
      rintro e w2 ⟨v1, rfl, hv1, hb2⟩
      go_wp2_with fail
      refine (H3.out w2).mono ?_
      rintro e w3 ⟨rfl, hb3⟩
      go_wp2_with fail
      refine (H4.out w3).mono ?_
      rintro e w4 ⟨rfl, hb4⟩
      go_wp2_with fail
      refine (H2.out w4 (((HG.out.keep hb1).keep hb2 |>.keep hb3).keep hb4)).mono ?_
      rintro e w5 ⟨v2, rfl, hv2, hb5⟩
      have hv1 := ((hv1.below hb3).below hb4).below hb5
      obtain ⟨A1, c1, rfl, hc1, hr1⟩ := hv1
      obtain ⟨A2, c2, rfl, hc2, hr2⟩ := hv2
      obtain ⟨b1, o1, rfl, hlt1, p0, p1, p2, p3⟩ := hr1.tok (i := 0) rfl
      obtain ⟨b2, o2, rfl, hlt2, q0, q1, q2, q3⟩ := hr2.tok (i := 0) rfl
      simp only [Nat.zero_mul, Nat.add_zero, sl_back] at p0 p1 p2 p3 q0 q1 q2 q3
      go_wp2_with fail
      go_quiet (fail)
      go_wp2
      go_ret
      exact ⟨rfl, saidBelow hb1 hb2 hb3 hb4 hb5 _⟩
  case true.true =>
    have := (said_word hw).2
    rw [sl_back, hn] at this; cases this
  case false.false =>
    have H3 := Lib.hid (nameX x hn)
    have H4 := Lib.hid (wordX x hw)
    obtain ⟨⟨ts, q, er⟩, hr⟩ : ∃ r, vLex (sl x) = r := ⟨_, rfl⟩
    have H1 := Lib.hid (lexX x (by omega) hr)
    have HR := Lib.hid hr
    have HN := Lib.hid hn
    clear hr hn hw
    by_cases her : er = 0
    · subst her
      rcases ts with _ | ⟨⟨a1, a2, a3, a4⟩, _ | ⟨⟨b1', b2, b3, b4⟩, _ | ⟨c, r⟩⟩⟩
      · skip
        by_cases h20 : 20 < s.size
        · have hx := hll h20
          clear hll hcase
          go_enter Tryd.func5, Tryd.ntmps5
          go_wp2_with fail
          refine HW.out.mono ?_
          rintro e w1 ⟨rfl, hb1⟩
          go_wp2_with fail
          refine (H1.out w1 (HG.out.keep hb1)).mono ?_
          rintro e w2 ⟨v1, rfl, hv1, hb2⟩
          obtain ⟨A1, c1, rfl, hc1, hr1⟩ := hv1
          go_wp2_with fail
          refine (H3.out w2).mono ?_
          rintro e w3 ⟨rfl, hb3⟩
          go_wp2_with fail
          refine (H4.out w3).mono ?_
          rintro e w4 ⟨rfl, hb4⟩
          go_wp2
          go_ret
          exact ⟨rfl, saidBelow hb1 hb2 hb3 hb4 (Below.refl _ w4) 0⟩
        · obtain rfl := hcase h20
          clear hll hcase
          go_enter Tryd.func5, Tryd.ntmps5
          go_wp2_with fail
          refine HW.out.mono ?_
          rintro e w1 ⟨rfl, hb1⟩
          go_wp2_with fail
          refine (H1.out w1 (HG.out.keep hb1)).mono ?_
          rintro e w2 ⟨v1, rfl, hv1, hb2⟩
          obtain ⟨A1, c1, rfl, hc1, hr1⟩ := hv1
          go_wp2_with fail
          refine (H3.out w2).mono ?_
          rintro e w3 ⟨rfl, hb3⟩
          go_wp2_with fail
          refine (H4.out w3).mono ?_
          rintro e w4 ⟨rfl, hb4⟩
          go_wp2
          go_ret
          exact ⟨rfl, saidBelow hb1 hb2 hb3 hb4 (Below.refl _ w4) 0⟩
      · skip
        by_cases h20 : 20 < s.size
        · have hx := hll h20
          clear hll hcase
          go_enter Tryd.func5, Tryd.ntmps5
          go_wp2_with fail
          refine HW.out.mono ?_
          rintro e w1 ⟨rfl, hb1⟩
          go_wp2_with fail
          refine (H1.out w1 (HG.out.keep hb1)).mono ?_
          rintro e w2 ⟨v1, rfl, hv1, hb2⟩
          obtain ⟨A1, c1, rfl, hc1, hr1⟩ := hv1
          go_wp2_with fail
          refine (H3.out w2).mono ?_
          rintro e w3 ⟨rfl, hb3⟩
          go_wp2_with fail
          refine (H4.out w3).mono ?_
          rintro e w4 ⟨rfl, hb4⟩
          go_wp2
          go_ret
          exact ⟨rfl, saidBelow hb1 hb2 hb3 hb4 (Below.refl _ w4) 0⟩
        · obtain rfl := hcase h20
          clear hll hcase
          go_enter Tryd.func5, Tryd.ntmps5
          go_wp2_with fail
          refine HW.out.mono ?_
          rintro e w1 ⟨rfl, hb1⟩
          go_wp2_with fail
          refine (H1.out w1 (HG.out.keep hb1)).mono ?_
          rintro e w2 ⟨v1, rfl, hv1, hb2⟩
          obtain ⟨A1, c1, rfl, hc1, hr1⟩ := hv1
          go_wp2_with fail
          refine (H3.out w2).mono ?_
          rintro e w3 ⟨rfl, hb3⟩
          go_wp2_with fail
          refine (H4.out w3).mono ?_
          rintro e w4 ⟨rfl, hb4⟩
          go_wp2
          go_ret
          exact ⟨rfl, saidBelow hb1 hb2 hb3 hb4 (Below.refl _ w4) 0⟩
      · have hd : a1 ≠ 1 ∨ a3 ≠ sl x := by
          have hq : q = 0 := lex_ok_place HR.out
          subst hq
          exact said_no (by rw [sl_back]; exact HN.out) HR.out
        obtain ⟨y, hy⟩ : ∃ y : ByteArray, (⟨a3.toArray⟩ : ByteArray) = y := ⟨_, rfl⟩
        have HY := Lib.hid hy
        by_cases h1 : a1 = 1
        · have hne : ¬ y = x := by
            rintro rfl
            rcases hd with hd | hd
            · exact hd h1
            · apply hd; rw [← hy, sl_mk]
          have hyx : (y.toList == x.toList) = false := by
            rw [ByteArray.toList_eq, ByteArray.toList_eq, beq_eq_false_iff_ne]
            exact fun e => hne (str_ext e)
          subst h1
          clear hd hy hne
          by_cases h20 : 20 < s.size
          · have hx := hll h20
            clear hll hcase
            go_enter Tryd.func5, Tryd.ntmps5
            go_wp2_with fail
            refine HW.out.mono ?_
            rintro e w1 ⟨rfl, hb1⟩
            go_wp2_with fail
            refine (H1.out w1 (HG.out.keep hb1)).mono ?_
            rintro e w2 ⟨v1, rfl, hv1, hb2⟩
            go_wp2_with fail
            refine (H3.out w2).mono ?_
            rintro e w3 ⟨rfl, hb3⟩
            go_wp2_with fail
            refine (H4.out w3).mono ?_
            rintro e w4 ⟨rfl, hb4⟩
            obtain ⟨A1, c1, rfl, hc1, hr1⟩ := (hv1.below hb3).below hb4
            obtain ⟨b1, o1, rfl, hlt1, p0, p1, p2, p3⟩ := hr1.tok (i := 0) rfl
            simp only [Nat.zero_mul, Nat.add_zero, HY.out] at p0 p1 p2 p3
            go_wp2
            all_goals
              go_ret
              exact ⟨rfl, saidBelow hb1 hb2 hb3 hb4 (Below.refl _ w4) 0⟩
          · obtain rfl := hcase h20
            clear hll hcase
            go_enter Tryd.func5, Tryd.ntmps5
            go_wp2_with fail
            refine HW.out.mono ?_
            rintro e w1 ⟨rfl, hb1⟩
            go_wp2_with fail
            refine (H1.out w1 (HG.out.keep hb1)).mono ?_
            rintro e w2 ⟨v1, rfl, hv1, hb2⟩
            go_wp2_with fail
            refine (H3.out w2).mono ?_
            rintro e w3 ⟨rfl, hb3⟩
            go_wp2_with fail
            refine (H4.out w3).mono ?_
            rintro e w4 ⟨rfl, hb4⟩
            obtain ⟨A1, c1, rfl, hc1, hr1⟩ := (hv1.below hb3).below hb4
            obtain ⟨b1, o1, rfl, hlt1, p0, p1, p2, p3⟩ := hr1.tok (i := 0) rfl
            simp only [Nat.zero_mul, Nat.add_zero, HY.out] at p0 p1 p2 p3
            go_wp2
            all_goals
              go_ret
              exact ⟨rfl, saidBelow hb1 hb2 hb3 hb4 (Below.refl _ w4) 0⟩
        · have h1' : (a1 != 1) = true := by simpa using h1
          clear hd hy h1
          by_cases h20 : 20 < s.size
          · have hx := hll h20
            clear hll hcase
            go_enter Tryd.func5, Tryd.ntmps5
            go_wp2_with fail
            refine HW.out.mono ?_
            rintro e w1 ⟨rfl, hb1⟩
            go_wp2_with fail
            refine (H1.out w1 (HG.out.keep hb1)).mono ?_
            rintro e w2 ⟨v1, rfl, hv1, hb2⟩
            go_wp2_with fail
            refine (H3.out w2).mono ?_
            rintro e w3 ⟨rfl, hb3⟩
            go_wp2_with fail
            refine (H4.out w3).mono ?_
            rintro e w4 ⟨rfl, hb4⟩
            obtain ⟨A1, c1, rfl, hc1, hr1⟩ := (hv1.below hb3).below hb4
            obtain ⟨b1, o1, rfl, hlt1, p0, p1, p2, p3⟩ := hr1.tok (i := 0) rfl
            simp only [Nat.zero_mul, Nat.add_zero, HY.out] at p0 p1 p2 p3
            go_wp2
            all_goals
              go_ret
              exact ⟨rfl, saidBelow hb1 hb2 hb3 hb4 (Below.refl _ w4) 0⟩
          · obtain rfl := hcase h20
            clear hll hcase
            go_enter Tryd.func5, Tryd.ntmps5
            go_wp2_with fail
            refine HW.out.mono ?_
            rintro e w1 ⟨rfl, hb1⟩
            go_wp2_with fail
            refine (H1.out w1 (HG.out.keep hb1)).mono ?_
            rintro e w2 ⟨v1, rfl, hv1, hb2⟩
            go_wp2_with fail
            refine (H3.out w2).mono ?_
            rintro e w3 ⟨rfl, hb3⟩
            go_wp2_with fail
            refine (H4.out w3).mono ?_
            rintro e w4 ⟨rfl, hb4⟩
            obtain ⟨A1, c1, rfl, hc1, hr1⟩ := (hv1.below hb3).below hb4
            obtain ⟨b1, o1, rfl, hlt1, p0, p1, p2, p3⟩ := hr1.tok (i := 0) rfl
            simp only [Nat.zero_mul, Nat.add_zero, HY.out] at p0 p1 p2 p3
            go_wp2
            all_goals
              go_ret
              exact ⟨rfl, saidBelow hb1 hb2 hb3 hb4 (Below.refl _ w4) 0⟩
      · skip
        by_cases h20 : 20 < s.size
        · have hx := hll h20
          clear hll hcase
          go_enter Tryd.func5, Tryd.ntmps5
          go_wp2_with fail
          refine HW.out.mono ?_
          rintro e w1 ⟨rfl, hb1⟩
          go_wp2_with fail
          refine (H1.out w1 (HG.out.keep hb1)).mono ?_
          rintro e w2 ⟨v1, rfl, hv1, hb2⟩
          obtain ⟨A1, c1, rfl, hc1, hr1⟩ := hv1
          go_wp2_with fail
          refine (H3.out w2).mono ?_
          rintro e w3 ⟨rfl, hb3⟩
          go_wp2_with fail
          refine (H4.out w3).mono ?_
          rintro e w4 ⟨rfl, hb4⟩
          go_wp2
          go_ret
          exact ⟨rfl, saidBelow hb1 hb2 hb3 hb4 (Below.refl _ w4) 0⟩
        · obtain rfl := hcase h20
          clear hll hcase
          go_enter Tryd.func5, Tryd.ntmps5
          go_wp2_with fail
          refine HW.out.mono ?_
          rintro e w1 ⟨rfl, hb1⟩
          go_wp2_with fail
          refine (H1.out w1 (HG.out.keep hb1)).mono ?_
          rintro e w2 ⟨v1, rfl, hv1, hb2⟩
          obtain ⟨A1, c1, rfl, hc1, hr1⟩ := hv1
          go_wp2_with fail
          refine (H3.out w2).mono ?_
          rintro e w3 ⟨rfl, hb3⟩
          go_wp2_with fail
          refine (H4.out w3).mono ?_
          rintro e w4 ⟨rfl, hb4⟩
          go_wp2
          go_ret
          exact ⟨rfl, saidBelow hb1 hb2 hb3 hb4 (Below.refl _ w4) 0⟩
    · have her' : (er != 0) = true := by simpa using her
      by_cases h20 : 20 < s.size
      · have hx := hll h20
        clear hll hcase
        go_enter Tryd.func5, Tryd.ntmps5
        go_wp2_with fail
        refine HW.out.mono ?_
        rintro e w1 ⟨rfl, hb1⟩
        go_wp2_with fail
        refine (H1.out w1 (HG.out.keep hb1)).mono ?_
        rintro e w2 ⟨v1, rfl, hv1, hb2⟩
        go_wp2_with fail
        refine (H3.out w2).mono ?_
        rintro e w3 ⟨rfl, hb3⟩
        go_wp2_with fail
        refine (H4.out w3).mono ?_
        rintro e w4 ⟨rfl, hb4⟩
        go_wp2
        go_ret
        exact ⟨rfl, saidBelow hb1 hb2 hb3 hb4 (Below.refl _ w4) 0⟩
      · obtain rfl := hcase h20
        clear hll hcase
        go_enter Tryd.func5, Tryd.ntmps5
        go_wp2_with fail
        refine HW.out.mono ?_
        rintro e w1 ⟨rfl, hb1⟩
        go_wp2_with fail
        refine (H1.out w1 (HG.out.keep hb1)).mono ?_
        rintro e w2 ⟨v1, rfl, hv1, hb2⟩
        go_wp2_with fail
        refine (H3.out w2).mono ?_
        rintro e w3 ⟨rfl, hb3⟩
        go_wp2_with fail
        refine (H4.out w3).mono ?_
        rintro e w4 ⟨rfl, hb4⟩
        go_wp2
        go_ret
        exact ⟨rfl, saidBelow hb1 hb2 hb3 hb4 (Below.refl _ w4) 0⟩
end Go.Proofs.YteeldajkfplomaaDoor
