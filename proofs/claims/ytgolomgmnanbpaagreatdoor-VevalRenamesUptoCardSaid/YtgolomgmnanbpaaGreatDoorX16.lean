import Derived.Test.YtgolomgmnanbpaaGreatDoorX12
import Derived.Deep.RegionHeld3
import Derived.Test.YtgolomgmnanbpaaGreatDoorX11
import Derived.Shelf.Spec.SearchS
import Derived.Shelf.Lay
import Derived.Shelf.SlGeneric
import Derived.Ground.Names2Prog
import Derived.Test.YtgolomgmnanbpaaGreatDoorX14
namespace Go.Proofs.YtgolomgmnanbpaaGreatDoor
set_option linter.unusedVariables false
set_option linter.unusedSimpArgs false
open Go.RowKit
attribute [local go_sem] run_index_arr run_part_agg run_part_one run_field_agg
def fidK (k : Int) : Nat := if k = 1 then 71 else if k = 2 then 72 else if k = 3 then 73 else if k = 4 then 74 else if k = 5 then 75 else if k = 6 then 76 else if k = 7 then 77 else if k = 8 then 78 else if k = 9 then 79 else if k = 10 then 80 else if k = 11 then 81 else if k = 12 then 82 else if k = 13 then 83 else if k = 14 then 84 else 85
set_option maxRecDepth 100000 in
set_option maxHeartbeats 16000000 in
theorem mExprK {o : Option JV} {F : Nat → Prop} {w : World} {pv : Value} (k k1 n1 : Int) (s1 : ByteArray) (A1 : Option Addr) (na1 ca1 : Nat) (B1 : Option Addr) (nb1 cb1 : Nat) (t : ByteArray) (A : Option Addr) (nr ca : Nat) (hk15 : 1 ≤ k ∧ k ≤ 15) (hF : ∀ b, F b → b < w.heap.size)
    (hk : ∀ W, Below w.heap.size w W → Calls Tryz.prog (fidK k) #[pv, .agg #[.int .i64 k, .int .i64 k1, .int .i64 n1, .string s1, .slice A1 na1 ca1, .slice B1 nb1 cb1, .string t, .slice A nr ca]] W (ExP o F W)) :
    Calls Tryz.prog 41 #[pv, .agg #[.int .i64 k, .int .i64 k1, .int .i64 n1, .string s1, .slice A1 na1 ca1, .slice B1 nb1 cb1, .string t, .slice A nr ca]] w (ExP o F w) := by
  have HK := Lib.hid hk
  have HFF := Lib.hid hF
  have HH0 := Lib.hid ((((Held.nil w).push 28 #[.int .i64 k, .int .i64 k1, .int .i64 n1, .string s1, .slice A1 na1 ca1, .slice B1 nb1 cb1, .string t, .slice A nr ca] (g := w.heap.size) rfl).push 25 #[.int .i64 0, .int .i64 0, .string ⟨#[]⟩, .slice none 0 0, .slice none 0 0] (g := w.heap.size + 1) (by simp)).push 124 #[.nilFunc, .func (.func 71) #[] #[], .func (.func 72) #[] #[], .func (.func 73) #[] #[], .func (.func 74) #[] #[], .func (.func 75) #[] #[], .func (.func 76) #[] #[], .func (.func 77) #[] #[], .func (.func 78) #[] #[], .func (.func 79) #[] #[], .func (.func 80) #[] #[], .func (.func 81) #[] #[], .func (.func 82) #[] #[], .func (.func 83) #[] #[], .func (.func 84) #[] #[], .func (.func 85) #[] #[]] (g := w.heap.size + 1 + 1) (by simp))
  clear hk hF
  go_enter Tryz.func41, Tryz.ntmps41
  go_wp2_with fail
  have HX := Lib.hid HH0.out.drew
  have d0 := HH0.out.b2.cell 0
  have d1 := HH0.out.b2.cell 1
  have d2 := HH0.out.b2.cell 2
  have d3 := HH0.out.b2.cell 3
  have d4 := HH0.out.b2.cell 4
  have d5 := HH0.out.b2.cell 5
  have d6 := HH0.out.b2.cell 6
  have d7 := HH0.out.b2.cell 7
  simp at d0 d1 d2 d3 d4 d5 d6 d7
  obtain ⟨K9, hK9⟩ : ∃ q, k = q := ⟨_, rfl⟩
  rcases (by omega : k = 1 ∨ k = 2 ∨ k = 3 ∨ k = 4 ∨ k = 5 ∨ k = 6 ∨ k = 7 ∨ k = 8 ∨ k = 9 ∨ k = 10 ∨ k = 11 ∨ k = 12 ∨ k = 13 ∨ k = 14 ∨ k = 15) with rfl | rfl | rfl | rfl | rfl | rfl | rfl | rfl | rfl | rfl | rfl | rfl | rfl | rfl | rfl
  · have HKF := Lib.hid (show ∀ W, Below w.heap.size w W → Calls Tryz.prog 71 #[pv, .agg #[.int .i64 1, .int .i64 k1, .int .i64 n1, .string s1, .slice A1 na1 ca1, .slice B1 nb1 cb1, .string t, .slice A nr ca]] W (ExP o F W) from HK.out)
    have e0 := HH0.out.b0.cell 1
    simp at e0
    clear HK hk15 hK9
    go_region_held3 (fun w' => w'.cell? ⟨w.heap.size, 0, none⟩ = some (.int .i64 1) ∧ w'.cell? ⟨w.heap.size, 1, none⟩ = some (.int .i64 k1) ∧ w'.cell? ⟨w.heap.size, 2, none⟩ = some (.int .i64 n1) ∧ w'.cell? ⟨w.heap.size, 3, none⟩ = some (.string s1) ∧ w'.cell? ⟨w.heap.size, 4, none⟩ = some (.slice A1 na1 ca1) ∧ w'.cell? ⟨w.heap.size, 5, none⟩ = some (.slice B1 nb1 cb1) ∧ w'.cell? ⟨w.heap.size, 6, none⟩ = some (.string t) ∧ w'.cell? ⟨w.heap.size, 7, none⟩ = some (.slice A nr ca) ∧ w'.cell? ⟨w.heap.size + 1 + 1, 1, none⟩ = some (.func (.func 71) #[] #[])) (go_keep) ((go_at_call 71; refine (HKF.out _ HX.out.1).mono ?_; rintro e w1 ⟨cs1, v1, b1, rfl, hv1, hc1, ho1, hg1, hb1⟩; obtain ⟨k5, n5, s5, A5, na5, ca5, B5, nb5, cb5, rfl⟩ := hv1.form; have HH1 := Lib.hid (HX.out.keep hb1); have HQ := Lib.hid (And.intro hv1 (And.intro hc1 (And.intro ho1 hg1))); have d0 := HH1.out.b2.cell 0; have d1 := HH1.out.b2.cell 1; have d2 := HH1.out.b2.cell 2; have d3 := HH1.out.b2.cell 3; have d4 := HH1.out.b2.cell 4; have d5 := HH1.out.b2.cell 5; have d6 := HH1.out.b2.cell 6; have d7 := HH1.out.b2.cell 7; have e0 := HH1.out.b0.cell 1; simp at d0 d1 d2 d3 d4 d5 d6 d7 e0; obtain ⟨c9, f9, l9⟩ := HH1.out.b1.rules))
    all_goals
      go_wp2
      refine bodyPost_ret (v := .tuple #[.agg #[.int .i64 k5, .int .i64 n5, .string s5, .slice A5 na5 ca5, .slice B5 nb5 cb5], .bool b1]) (by simp only [results, Tryz.results41]; go_simp) rfl ?_
      exact ⟨_, v1, b1, rfl, HQ.out.1.out5 HFF.out (by simp; omega) (g := w.heap.size + 1) (by omega) (by simp) _ _ _ _ _, HQ.out.2.1, HQ.out.2.2.1, HQ.out.2.2.2, five_bel HH1.out.1 (by omega) _ _ _ _ _⟩
  · have HKF := Lib.hid (show ∀ W, Below w.heap.size w W → Calls Tryz.prog 72 #[pv, .agg #[.int .i64 2, .int .i64 k1, .int .i64 n1, .string s1, .slice A1 na1 ca1, .slice B1 nb1 cb1, .string t, .slice A nr ca]] W (ExP o F W) from HK.out)
    have e0 := HH0.out.b0.cell 2
    simp at e0
    clear HK hk15 hK9
    go_region_held3 (fun w' => w'.cell? ⟨w.heap.size, 0, none⟩ = some (.int .i64 2) ∧ w'.cell? ⟨w.heap.size, 1, none⟩ = some (.int .i64 k1) ∧ w'.cell? ⟨w.heap.size, 2, none⟩ = some (.int .i64 n1) ∧ w'.cell? ⟨w.heap.size, 3, none⟩ = some (.string s1) ∧ w'.cell? ⟨w.heap.size, 4, none⟩ = some (.slice A1 na1 ca1) ∧ w'.cell? ⟨w.heap.size, 5, none⟩ = some (.slice B1 nb1 cb1) ∧ w'.cell? ⟨w.heap.size, 6, none⟩ = some (.string t) ∧ w'.cell? ⟨w.heap.size, 7, none⟩ = some (.slice A nr ca) ∧ w'.cell? ⟨w.heap.size + 1 + 1, 2, none⟩ = some (.func (.func 72) #[] #[])) (go_keep) ((go_at_call 72; refine (HKF.out _ HX.out.1).mono ?_; rintro e w1 ⟨cs1, v1, b1, rfl, hv1, hc1, ho1, hg1, hb1⟩; obtain ⟨k5, n5, s5, A5, na5, ca5, B5, nb5, cb5, rfl⟩ := hv1.form; have HH1 := Lib.hid (HX.out.keep hb1); have HQ := Lib.hid (And.intro hv1 (And.intro hc1 (And.intro ho1 hg1))); have d0 := HH1.out.b2.cell 0; have d1 := HH1.out.b2.cell 1; have d2 := HH1.out.b2.cell 2; have d3 := HH1.out.b2.cell 3; have d4 := HH1.out.b2.cell 4; have d5 := HH1.out.b2.cell 5; have d6 := HH1.out.b2.cell 6; have d7 := HH1.out.b2.cell 7; have e0 := HH1.out.b0.cell 2; simp at d0 d1 d2 d3 d4 d5 d6 d7 e0; obtain ⟨c9, f9, l9⟩ := HH1.out.b1.rules))
    all_goals
      go_wp2
      refine bodyPost_ret (v := .tuple #[.agg #[.int .i64 k5, .int .i64 n5, .string s5, .slice A5 na5 ca5, .slice B5 nb5 cb5], .bool b1]) (by simp only [results, Tryz.results41]; go_simp) rfl ?_
      exact ⟨_, v1, b1, rfl, HQ.out.1.out5 HFF.out (by simp; omega) (g := w.heap.size + 1) (by omega) (by simp) _ _ _ _ _, HQ.out.2.1, HQ.out.2.2.1, HQ.out.2.2.2, five_bel HH1.out.1 (by omega) _ _ _ _ _⟩
  · have HKF := Lib.hid (show ∀ W, Below w.heap.size w W → Calls Tryz.prog 73 #[pv, .agg #[.int .i64 3, .int .i64 k1, .int .i64 n1, .string s1, .slice A1 na1 ca1, .slice B1 nb1 cb1, .string t, .slice A nr ca]] W (ExP o F W) from HK.out)
    have e0 := HH0.out.b0.cell 3
    simp at e0
    clear HK hk15 hK9
    go_region_held3 (fun w' => w'.cell? ⟨w.heap.size, 0, none⟩ = some (.int .i64 3) ∧ w'.cell? ⟨w.heap.size, 1, none⟩ = some (.int .i64 k1) ∧ w'.cell? ⟨w.heap.size, 2, none⟩ = some (.int .i64 n1) ∧ w'.cell? ⟨w.heap.size, 3, none⟩ = some (.string s1) ∧ w'.cell? ⟨w.heap.size, 4, none⟩ = some (.slice A1 na1 ca1) ∧ w'.cell? ⟨w.heap.size, 5, none⟩ = some (.slice B1 nb1 cb1) ∧ w'.cell? ⟨w.heap.size, 6, none⟩ = some (.string t) ∧ w'.cell? ⟨w.heap.size, 7, none⟩ = some (.slice A nr ca) ∧ w'.cell? ⟨w.heap.size + 1 + 1, 3, none⟩ = some (.func (.func 73) #[] #[])) (go_keep) ((go_at_call 73; refine (HKF.out _ HX.out.1).mono ?_; rintro e w1 ⟨cs1, v1, b1, rfl, hv1, hc1, ho1, hg1, hb1⟩; obtain ⟨k5, n5, s5, A5, na5, ca5, B5, nb5, cb5, rfl⟩ := hv1.form; have HH1 := Lib.hid (HX.out.keep hb1); have HQ := Lib.hid (And.intro hv1 (And.intro hc1 (And.intro ho1 hg1))); have d0 := HH1.out.b2.cell 0; have d1 := HH1.out.b2.cell 1; have d2 := HH1.out.b2.cell 2; have d3 := HH1.out.b2.cell 3; have d4 := HH1.out.b2.cell 4; have d5 := HH1.out.b2.cell 5; have d6 := HH1.out.b2.cell 6; have d7 := HH1.out.b2.cell 7; have e0 := HH1.out.b0.cell 3; simp at d0 d1 d2 d3 d4 d5 d6 d7 e0; obtain ⟨c9, f9, l9⟩ := HH1.out.b1.rules))
    all_goals
      go_wp2
      refine bodyPost_ret (v := .tuple #[.agg #[.int .i64 k5, .int .i64 n5, .string s5, .slice A5 na5 ca5, .slice B5 nb5 cb5], .bool b1]) (by simp only [results, Tryz.results41]; go_simp) rfl ?_
      exact ⟨_, v1, b1, rfl, HQ.out.1.out5 HFF.out (by simp; omega) (g := w.heap.size + 1) (by omega) (by simp) _ _ _ _ _, HQ.out.2.1, HQ.out.2.2.1, HQ.out.2.2.2, five_bel HH1.out.1 (by omega) _ _ _ _ _⟩
  · have HKF := Lib.hid (show ∀ W, Below w.heap.size w W → Calls Tryz.prog 74 #[pv, .agg #[.int .i64 4, .int .i64 k1, .int .i64 n1, .string s1, .slice A1 na1 ca1, .slice B1 nb1 cb1, .string t, .slice A nr ca]] W (ExP o F W) from HK.out)
    have e0 := HH0.out.b0.cell 4
    simp at e0
    clear HK hk15 hK9
    go_region_held3 (fun w' => w'.cell? ⟨w.heap.size, 0, none⟩ = some (.int .i64 4) ∧ w'.cell? ⟨w.heap.size, 1, none⟩ = some (.int .i64 k1) ∧ w'.cell? ⟨w.heap.size, 2, none⟩ = some (.int .i64 n1) ∧ w'.cell? ⟨w.heap.size, 3, none⟩ = some (.string s1) ∧ w'.cell? ⟨w.heap.size, 4, none⟩ = some (.slice A1 na1 ca1) ∧ w'.cell? ⟨w.heap.size, 5, none⟩ = some (.slice B1 nb1 cb1) ∧ w'.cell? ⟨w.heap.size, 6, none⟩ = some (.string t) ∧ w'.cell? ⟨w.heap.size, 7, none⟩ = some (.slice A nr ca) ∧ w'.cell? ⟨w.heap.size + 1 + 1, 4, none⟩ = some (.func (.func 74) #[] #[])) (go_keep) ((go_at_call 74; refine (HKF.out _ HX.out.1).mono ?_; rintro e w1 ⟨cs1, v1, b1, rfl, hv1, hc1, ho1, hg1, hb1⟩; obtain ⟨k5, n5, s5, A5, na5, ca5, B5, nb5, cb5, rfl⟩ := hv1.form; have HH1 := Lib.hid (HX.out.keep hb1); have HQ := Lib.hid (And.intro hv1 (And.intro hc1 (And.intro ho1 hg1))); have d0 := HH1.out.b2.cell 0; have d1 := HH1.out.b2.cell 1; have d2 := HH1.out.b2.cell 2; have d3 := HH1.out.b2.cell 3; have d4 := HH1.out.b2.cell 4; have d5 := HH1.out.b2.cell 5; have d6 := HH1.out.b2.cell 6; have d7 := HH1.out.b2.cell 7; have e0 := HH1.out.b0.cell 4; simp at d0 d1 d2 d3 d4 d5 d6 d7 e0; obtain ⟨c9, f9, l9⟩ := HH1.out.b1.rules))
    all_goals
      go_wp2
      refine bodyPost_ret (v := .tuple #[.agg #[.int .i64 k5, .int .i64 n5, .string s5, .slice A5 na5 ca5, .slice B5 nb5 cb5], .bool b1]) (by simp only [results, Tryz.results41]; go_simp) rfl ?_
      exact ⟨_, v1, b1, rfl, HQ.out.1.out5 HFF.out (by simp; omega) (g := w.heap.size + 1) (by omega) (by simp) _ _ _ _ _, HQ.out.2.1, HQ.out.2.2.1, HQ.out.2.2.2, five_bel HH1.out.1 (by omega) _ _ _ _ _⟩
  · have HKF := Lib.hid (show ∀ W, Below w.heap.size w W → Calls Tryz.prog 75 #[pv, .agg #[.int .i64 5, .int .i64 k1, .int .i64 n1, .string s1, .slice A1 na1 ca1, .slice B1 nb1 cb1, .string t, .slice A nr ca]] W (ExP o F W) from HK.out)
    have e0 := HH0.out.b0.cell 5
    simp at e0
    clear HK hk15 hK9
    go_region_held3 (fun w' => w'.cell? ⟨w.heap.size, 0, none⟩ = some (.int .i64 5) ∧ w'.cell? ⟨w.heap.size, 1, none⟩ = some (.int .i64 k1) ∧ w'.cell? ⟨w.heap.size, 2, none⟩ = some (.int .i64 n1) ∧ w'.cell? ⟨w.heap.size, 3, none⟩ = some (.string s1) ∧ w'.cell? ⟨w.heap.size, 4, none⟩ = some (.slice A1 na1 ca1) ∧ w'.cell? ⟨w.heap.size, 5, none⟩ = some (.slice B1 nb1 cb1) ∧ w'.cell? ⟨w.heap.size, 6, none⟩ = some (.string t) ∧ w'.cell? ⟨w.heap.size, 7, none⟩ = some (.slice A nr ca) ∧ w'.cell? ⟨w.heap.size + 1 + 1, 5, none⟩ = some (.func (.func 75) #[] #[])) (go_keep) ((go_at_call 75; refine (HKF.out _ HX.out.1).mono ?_; rintro e w1 ⟨cs1, v1, b1, rfl, hv1, hc1, ho1, hg1, hb1⟩; obtain ⟨k5, n5, s5, A5, na5, ca5, B5, nb5, cb5, rfl⟩ := hv1.form; have HH1 := Lib.hid (HX.out.keep hb1); have HQ := Lib.hid (And.intro hv1 (And.intro hc1 (And.intro ho1 hg1))); have d0 := HH1.out.b2.cell 0; have d1 := HH1.out.b2.cell 1; have d2 := HH1.out.b2.cell 2; have d3 := HH1.out.b2.cell 3; have d4 := HH1.out.b2.cell 4; have d5 := HH1.out.b2.cell 5; have d6 := HH1.out.b2.cell 6; have d7 := HH1.out.b2.cell 7; have e0 := HH1.out.b0.cell 5; simp at d0 d1 d2 d3 d4 d5 d6 d7 e0; obtain ⟨c9, f9, l9⟩ := HH1.out.b1.rules))
    all_goals
      go_wp2
      refine bodyPost_ret (v := .tuple #[.agg #[.int .i64 k5, .int .i64 n5, .string s5, .slice A5 na5 ca5, .slice B5 nb5 cb5], .bool b1]) (by simp only [results, Tryz.results41]; go_simp) rfl ?_
      exact ⟨_, v1, b1, rfl, HQ.out.1.out5 HFF.out (by simp; omega) (g := w.heap.size + 1) (by omega) (by simp) _ _ _ _ _, HQ.out.2.1, HQ.out.2.2.1, HQ.out.2.2.2, five_bel HH1.out.1 (by omega) _ _ _ _ _⟩
  · have HKF := Lib.hid (show ∀ W, Below w.heap.size w W → Calls Tryz.prog 76 #[pv, .agg #[.int .i64 6, .int .i64 k1, .int .i64 n1, .string s1, .slice A1 na1 ca1, .slice B1 nb1 cb1, .string t, .slice A nr ca]] W (ExP o F W) from HK.out)
    have e0 := HH0.out.b0.cell 6
    simp at e0
    clear HK hk15 hK9
    go_region_held3 (fun w' => w'.cell? ⟨w.heap.size, 0, none⟩ = some (.int .i64 6) ∧ w'.cell? ⟨w.heap.size, 1, none⟩ = some (.int .i64 k1) ∧ w'.cell? ⟨w.heap.size, 2, none⟩ = some (.int .i64 n1) ∧ w'.cell? ⟨w.heap.size, 3, none⟩ = some (.string s1) ∧ w'.cell? ⟨w.heap.size, 4, none⟩ = some (.slice A1 na1 ca1) ∧ w'.cell? ⟨w.heap.size, 5, none⟩ = some (.slice B1 nb1 cb1) ∧ w'.cell? ⟨w.heap.size, 6, none⟩ = some (.string t) ∧ w'.cell? ⟨w.heap.size, 7, none⟩ = some (.slice A nr ca) ∧ w'.cell? ⟨w.heap.size + 1 + 1, 6, none⟩ = some (.func (.func 76) #[] #[])) (go_keep) ((go_at_call 76; refine (HKF.out _ HX.out.1).mono ?_; rintro e w1 ⟨cs1, v1, b1, rfl, hv1, hc1, ho1, hg1, hb1⟩; obtain ⟨k5, n5, s5, A5, na5, ca5, B5, nb5, cb5, rfl⟩ := hv1.form; have HH1 := Lib.hid (HX.out.keep hb1); have HQ := Lib.hid (And.intro hv1 (And.intro hc1 (And.intro ho1 hg1))); have d0 := HH1.out.b2.cell 0; have d1 := HH1.out.b2.cell 1; have d2 := HH1.out.b2.cell 2; have d3 := HH1.out.b2.cell 3; have d4 := HH1.out.b2.cell 4; have d5 := HH1.out.b2.cell 5; have d6 := HH1.out.b2.cell 6; have d7 := HH1.out.b2.cell 7; have e0 := HH1.out.b0.cell 6; simp at d0 d1 d2 d3 d4 d5 d6 d7 e0; obtain ⟨c9, f9, l9⟩ := HH1.out.b1.rules))
    all_goals
      go_wp2
      refine bodyPost_ret (v := .tuple #[.agg #[.int .i64 k5, .int .i64 n5, .string s5, .slice A5 na5 ca5, .slice B5 nb5 cb5], .bool b1]) (by simp only [results, Tryz.results41]; go_simp) rfl ?_
      exact ⟨_, v1, b1, rfl, HQ.out.1.out5 HFF.out (by simp; omega) (g := w.heap.size + 1) (by omega) (by simp) _ _ _ _ _, HQ.out.2.1, HQ.out.2.2.1, HQ.out.2.2.2, five_bel HH1.out.1 (by omega) _ _ _ _ _⟩
  · have HKF := Lib.hid (show ∀ W, Below w.heap.size w W → Calls Tryz.prog 77 #[pv, .agg #[.int .i64 7, .int .i64 k1, .int .i64 n1, .string s1, .slice A1 na1 ca1, .slice B1 nb1 cb1, .string t, .slice A nr ca]] W (ExP o F W) from HK.out)
    have e0 := HH0.out.b0.cell 7
    simp at e0
    clear HK hk15 hK9
    go_region_held3 (fun w' => w'.cell? ⟨w.heap.size, 0, none⟩ = some (.int .i64 7) ∧ w'.cell? ⟨w.heap.size, 1, none⟩ = some (.int .i64 k1) ∧ w'.cell? ⟨w.heap.size, 2, none⟩ = some (.int .i64 n1) ∧ w'.cell? ⟨w.heap.size, 3, none⟩ = some (.string s1) ∧ w'.cell? ⟨w.heap.size, 4, none⟩ = some (.slice A1 na1 ca1) ∧ w'.cell? ⟨w.heap.size, 5, none⟩ = some (.slice B1 nb1 cb1) ∧ w'.cell? ⟨w.heap.size, 6, none⟩ = some (.string t) ∧ w'.cell? ⟨w.heap.size, 7, none⟩ = some (.slice A nr ca) ∧ w'.cell? ⟨w.heap.size + 1 + 1, 7, none⟩ = some (.func (.func 77) #[] #[])) (go_keep) ((go_at_call 77; refine (HKF.out _ HX.out.1).mono ?_; rintro e w1 ⟨cs1, v1, b1, rfl, hv1, hc1, ho1, hg1, hb1⟩; obtain ⟨k5, n5, s5, A5, na5, ca5, B5, nb5, cb5, rfl⟩ := hv1.form; have HH1 := Lib.hid (HX.out.keep hb1); have HQ := Lib.hid (And.intro hv1 (And.intro hc1 (And.intro ho1 hg1))); have d0 := HH1.out.b2.cell 0; have d1 := HH1.out.b2.cell 1; have d2 := HH1.out.b2.cell 2; have d3 := HH1.out.b2.cell 3; have d4 := HH1.out.b2.cell 4; have d5 := HH1.out.b2.cell 5; have d6 := HH1.out.b2.cell 6; have d7 := HH1.out.b2.cell 7; have e0 := HH1.out.b0.cell 7; simp at d0 d1 d2 d3 d4 d5 d6 d7 e0; obtain ⟨c9, f9, l9⟩ := HH1.out.b1.rules))
    all_goals
      go_wp2
      refine bodyPost_ret (v := .tuple #[.agg #[.int .i64 k5, .int .i64 n5, .string s5, .slice A5 na5 ca5, .slice B5 nb5 cb5], .bool b1]) (by simp only [results, Tryz.results41]; go_simp) rfl ?_
      exact ⟨_, v1, b1, rfl, HQ.out.1.out5 HFF.out (by simp; omega) (g := w.heap.size + 1) (by omega) (by simp) _ _ _ _ _, HQ.out.2.1, HQ.out.2.2.1, HQ.out.2.2.2, five_bel HH1.out.1 (by omega) _ _ _ _ _⟩
  · have HKF := Lib.hid (show ∀ W, Below w.heap.size w W → Calls Tryz.prog 78 #[pv, .agg #[.int .i64 8, .int .i64 k1, .int .i64 n1, .string s1, .slice A1 na1 ca1, .slice B1 nb1 cb1, .string t, .slice A nr ca]] W (ExP o F W) from HK.out)
    have e0 := HH0.out.b0.cell 8
    simp at e0
    clear HK hk15 hK9
    go_region_held3 (fun w' => w'.cell? ⟨w.heap.size, 0, none⟩ = some (.int .i64 8) ∧ w'.cell? ⟨w.heap.size, 1, none⟩ = some (.int .i64 k1) ∧ w'.cell? ⟨w.heap.size, 2, none⟩ = some (.int .i64 n1) ∧ w'.cell? ⟨w.heap.size, 3, none⟩ = some (.string s1) ∧ w'.cell? ⟨w.heap.size, 4, none⟩ = some (.slice A1 na1 ca1) ∧ w'.cell? ⟨w.heap.size, 5, none⟩ = some (.slice B1 nb1 cb1) ∧ w'.cell? ⟨w.heap.size, 6, none⟩ = some (.string t) ∧ w'.cell? ⟨w.heap.size, 7, none⟩ = some (.slice A nr ca) ∧ w'.cell? ⟨w.heap.size + 1 + 1, 8, none⟩ = some (.func (.func 78) #[] #[])) (go_keep) ((go_at_call 78; refine (HKF.out _ HX.out.1).mono ?_; rintro e w1 ⟨cs1, v1, b1, rfl, hv1, hc1, ho1, hg1, hb1⟩; obtain ⟨k5, n5, s5, A5, na5, ca5, B5, nb5, cb5, rfl⟩ := hv1.form; have HH1 := Lib.hid (HX.out.keep hb1); have HQ := Lib.hid (And.intro hv1 (And.intro hc1 (And.intro ho1 hg1))); have d0 := HH1.out.b2.cell 0; have d1 := HH1.out.b2.cell 1; have d2 := HH1.out.b2.cell 2; have d3 := HH1.out.b2.cell 3; have d4 := HH1.out.b2.cell 4; have d5 := HH1.out.b2.cell 5; have d6 := HH1.out.b2.cell 6; have d7 := HH1.out.b2.cell 7; have e0 := HH1.out.b0.cell 8; simp at d0 d1 d2 d3 d4 d5 d6 d7 e0; obtain ⟨c9, f9, l9⟩ := HH1.out.b1.rules))
    all_goals
      go_wp2
      refine bodyPost_ret (v := .tuple #[.agg #[.int .i64 k5, .int .i64 n5, .string s5, .slice A5 na5 ca5, .slice B5 nb5 cb5], .bool b1]) (by simp only [results, Tryz.results41]; go_simp) rfl ?_
      exact ⟨_, v1, b1, rfl, HQ.out.1.out5 HFF.out (by simp; omega) (g := w.heap.size + 1) (by omega) (by simp) _ _ _ _ _, HQ.out.2.1, HQ.out.2.2.1, HQ.out.2.2.2, five_bel HH1.out.1 (by omega) _ _ _ _ _⟩
  · have HKF := Lib.hid (show ∀ W, Below w.heap.size w W → Calls Tryz.prog 79 #[pv, .agg #[.int .i64 9, .int .i64 k1, .int .i64 n1, .string s1, .slice A1 na1 ca1, .slice B1 nb1 cb1, .string t, .slice A nr ca]] W (ExP o F W) from HK.out)
    have e0 := HH0.out.b0.cell 9
    simp at e0
    clear HK hk15 hK9
    go_region_held3 (fun w' => w'.cell? ⟨w.heap.size, 0, none⟩ = some (.int .i64 9) ∧ w'.cell? ⟨w.heap.size, 1, none⟩ = some (.int .i64 k1) ∧ w'.cell? ⟨w.heap.size, 2, none⟩ = some (.int .i64 n1) ∧ w'.cell? ⟨w.heap.size, 3, none⟩ = some (.string s1) ∧ w'.cell? ⟨w.heap.size, 4, none⟩ = some (.slice A1 na1 ca1) ∧ w'.cell? ⟨w.heap.size, 5, none⟩ = some (.slice B1 nb1 cb1) ∧ w'.cell? ⟨w.heap.size, 6, none⟩ = some (.string t) ∧ w'.cell? ⟨w.heap.size, 7, none⟩ = some (.slice A nr ca) ∧ w'.cell? ⟨w.heap.size + 1 + 1, 9, none⟩ = some (.func (.func 79) #[] #[])) (go_keep) ((go_at_call 79; refine (HKF.out _ HX.out.1).mono ?_; rintro e w1 ⟨cs1, v1, b1, rfl, hv1, hc1, ho1, hg1, hb1⟩; obtain ⟨k5, n5, s5, A5, na5, ca5, B5, nb5, cb5, rfl⟩ := hv1.form; have HH1 := Lib.hid (HX.out.keep hb1); have HQ := Lib.hid (And.intro hv1 (And.intro hc1 (And.intro ho1 hg1))); have d0 := HH1.out.b2.cell 0; have d1 := HH1.out.b2.cell 1; have d2 := HH1.out.b2.cell 2; have d3 := HH1.out.b2.cell 3; have d4 := HH1.out.b2.cell 4; have d5 := HH1.out.b2.cell 5; have d6 := HH1.out.b2.cell 6; have d7 := HH1.out.b2.cell 7; have e0 := HH1.out.b0.cell 9; simp at d0 d1 d2 d3 d4 d5 d6 d7 e0; obtain ⟨c9, f9, l9⟩ := HH1.out.b1.rules))
    all_goals
      go_wp2
      refine bodyPost_ret (v := .tuple #[.agg #[.int .i64 k5, .int .i64 n5, .string s5, .slice A5 na5 ca5, .slice B5 nb5 cb5], .bool b1]) (by simp only [results, Tryz.results41]; go_simp) rfl ?_
      exact ⟨_, v1, b1, rfl, HQ.out.1.out5 HFF.out (by simp; omega) (g := w.heap.size + 1) (by omega) (by simp) _ _ _ _ _, HQ.out.2.1, HQ.out.2.2.1, HQ.out.2.2.2, five_bel HH1.out.1 (by omega) _ _ _ _ _⟩
  · have HKF := Lib.hid (show ∀ W, Below w.heap.size w W → Calls Tryz.prog 80 #[pv, .agg #[.int .i64 10, .int .i64 k1, .int .i64 n1, .string s1, .slice A1 na1 ca1, .slice B1 nb1 cb1, .string t, .slice A nr ca]] W (ExP o F W) from HK.out)
    have e0 := HH0.out.b0.cell 10
    simp at e0
    clear HK hk15 hK9
    go_region_held3 (fun w' => w'.cell? ⟨w.heap.size, 0, none⟩ = some (.int .i64 10) ∧ w'.cell? ⟨w.heap.size, 1, none⟩ = some (.int .i64 k1) ∧ w'.cell? ⟨w.heap.size, 2, none⟩ = some (.int .i64 n1) ∧ w'.cell? ⟨w.heap.size, 3, none⟩ = some (.string s1) ∧ w'.cell? ⟨w.heap.size, 4, none⟩ = some (.slice A1 na1 ca1) ∧ w'.cell? ⟨w.heap.size, 5, none⟩ = some (.slice B1 nb1 cb1) ∧ w'.cell? ⟨w.heap.size, 6, none⟩ = some (.string t) ∧ w'.cell? ⟨w.heap.size, 7, none⟩ = some (.slice A nr ca) ∧ w'.cell? ⟨w.heap.size + 1 + 1, 10, none⟩ = some (.func (.func 80) #[] #[])) (go_keep) ((go_at_call 80; refine (HKF.out _ HX.out.1).mono ?_; rintro e w1 ⟨cs1, v1, b1, rfl, hv1, hc1, ho1, hg1, hb1⟩; obtain ⟨k5, n5, s5, A5, na5, ca5, B5, nb5, cb5, rfl⟩ := hv1.form; have HH1 := Lib.hid (HX.out.keep hb1); have HQ := Lib.hid (And.intro hv1 (And.intro hc1 (And.intro ho1 hg1))); have d0 := HH1.out.b2.cell 0; have d1 := HH1.out.b2.cell 1; have d2 := HH1.out.b2.cell 2; have d3 := HH1.out.b2.cell 3; have d4 := HH1.out.b2.cell 4; have d5 := HH1.out.b2.cell 5; have d6 := HH1.out.b2.cell 6; have d7 := HH1.out.b2.cell 7; have e0 := HH1.out.b0.cell 10; simp at d0 d1 d2 d3 d4 d5 d6 d7 e0; obtain ⟨c9, f9, l9⟩ := HH1.out.b1.rules))
    all_goals
      go_wp2
      refine bodyPost_ret (v := .tuple #[.agg #[.int .i64 k5, .int .i64 n5, .string s5, .slice A5 na5 ca5, .slice B5 nb5 cb5], .bool b1]) (by simp only [results, Tryz.results41]; go_simp) rfl ?_
      exact ⟨_, v1, b1, rfl, HQ.out.1.out5 HFF.out (by simp; omega) (g := w.heap.size + 1) (by omega) (by simp) _ _ _ _ _, HQ.out.2.1, HQ.out.2.2.1, HQ.out.2.2.2, five_bel HH1.out.1 (by omega) _ _ _ _ _⟩
  · have HKF := Lib.hid (show ∀ W, Below w.heap.size w W → Calls Tryz.prog 81 #[pv, .agg #[.int .i64 11, .int .i64 k1, .int .i64 n1, .string s1, .slice A1 na1 ca1, .slice B1 nb1 cb1, .string t, .slice A nr ca]] W (ExP o F W) from HK.out)
    have e0 := HH0.out.b0.cell 11
    simp at e0
    clear HK hk15 hK9
    go_region_held3 (fun w' => w'.cell? ⟨w.heap.size, 0, none⟩ = some (.int .i64 11) ∧ w'.cell? ⟨w.heap.size, 1, none⟩ = some (.int .i64 k1) ∧ w'.cell? ⟨w.heap.size, 2, none⟩ = some (.int .i64 n1) ∧ w'.cell? ⟨w.heap.size, 3, none⟩ = some (.string s1) ∧ w'.cell? ⟨w.heap.size, 4, none⟩ = some (.slice A1 na1 ca1) ∧ w'.cell? ⟨w.heap.size, 5, none⟩ = some (.slice B1 nb1 cb1) ∧ w'.cell? ⟨w.heap.size, 6, none⟩ = some (.string t) ∧ w'.cell? ⟨w.heap.size, 7, none⟩ = some (.slice A nr ca) ∧ w'.cell? ⟨w.heap.size + 1 + 1, 11, none⟩ = some (.func (.func 81) #[] #[])) (go_keep) ((go_at_call 81; refine (HKF.out _ HX.out.1).mono ?_; rintro e w1 ⟨cs1, v1, b1, rfl, hv1, hc1, ho1, hg1, hb1⟩; obtain ⟨k5, n5, s5, A5, na5, ca5, B5, nb5, cb5, rfl⟩ := hv1.form; have HH1 := Lib.hid (HX.out.keep hb1); have HQ := Lib.hid (And.intro hv1 (And.intro hc1 (And.intro ho1 hg1))); have d0 := HH1.out.b2.cell 0; have d1 := HH1.out.b2.cell 1; have d2 := HH1.out.b2.cell 2; have d3 := HH1.out.b2.cell 3; have d4 := HH1.out.b2.cell 4; have d5 := HH1.out.b2.cell 5; have d6 := HH1.out.b2.cell 6; have d7 := HH1.out.b2.cell 7; have e0 := HH1.out.b0.cell 11; simp at d0 d1 d2 d3 d4 d5 d6 d7 e0; obtain ⟨c9, f9, l9⟩ := HH1.out.b1.rules))
    all_goals
      go_wp2
      refine bodyPost_ret (v := .tuple #[.agg #[.int .i64 k5, .int .i64 n5, .string s5, .slice A5 na5 ca5, .slice B5 nb5 cb5], .bool b1]) (by simp only [results, Tryz.results41]; go_simp) rfl ?_
      exact ⟨_, v1, b1, rfl, HQ.out.1.out5 HFF.out (by simp; omega) (g := w.heap.size + 1) (by omega) (by simp) _ _ _ _ _, HQ.out.2.1, HQ.out.2.2.1, HQ.out.2.2.2, five_bel HH1.out.1 (by omega) _ _ _ _ _⟩
  · have HKF := Lib.hid (show ∀ W, Below w.heap.size w W → Calls Tryz.prog 82 #[pv, .agg #[.int .i64 12, .int .i64 k1, .int .i64 n1, .string s1, .slice A1 na1 ca1, .slice B1 nb1 cb1, .string t, .slice A nr ca]] W (ExP o F W) from HK.out)
    have e0 := HH0.out.b0.cell 12
    simp at e0
    clear HK hk15 hK9
    go_region_held3 (fun w' => w'.cell? ⟨w.heap.size, 0, none⟩ = some (.int .i64 12) ∧ w'.cell? ⟨w.heap.size, 1, none⟩ = some (.int .i64 k1) ∧ w'.cell? ⟨w.heap.size, 2, none⟩ = some (.int .i64 n1) ∧ w'.cell? ⟨w.heap.size, 3, none⟩ = some (.string s1) ∧ w'.cell? ⟨w.heap.size, 4, none⟩ = some (.slice A1 na1 ca1) ∧ w'.cell? ⟨w.heap.size, 5, none⟩ = some (.slice B1 nb1 cb1) ∧ w'.cell? ⟨w.heap.size, 6, none⟩ = some (.string t) ∧ w'.cell? ⟨w.heap.size, 7, none⟩ = some (.slice A nr ca) ∧ w'.cell? ⟨w.heap.size + 1 + 1, 12, none⟩ = some (.func (.func 82) #[] #[])) (go_keep) ((go_at_call 82; refine (HKF.out _ HX.out.1).mono ?_; rintro e w1 ⟨cs1, v1, b1, rfl, hv1, hc1, ho1, hg1, hb1⟩; obtain ⟨k5, n5, s5, A5, na5, ca5, B5, nb5, cb5, rfl⟩ := hv1.form; have HH1 := Lib.hid (HX.out.keep hb1); have HQ := Lib.hid (And.intro hv1 (And.intro hc1 (And.intro ho1 hg1))); have d0 := HH1.out.b2.cell 0; have d1 := HH1.out.b2.cell 1; have d2 := HH1.out.b2.cell 2; have d3 := HH1.out.b2.cell 3; have d4 := HH1.out.b2.cell 4; have d5 := HH1.out.b2.cell 5; have d6 := HH1.out.b2.cell 6; have d7 := HH1.out.b2.cell 7; have e0 := HH1.out.b0.cell 12; simp at d0 d1 d2 d3 d4 d5 d6 d7 e0; obtain ⟨c9, f9, l9⟩ := HH1.out.b1.rules))
    all_goals
      go_wp2
      refine bodyPost_ret (v := .tuple #[.agg #[.int .i64 k5, .int .i64 n5, .string s5, .slice A5 na5 ca5, .slice B5 nb5 cb5], .bool b1]) (by simp only [results, Tryz.results41]; go_simp) rfl ?_
      exact ⟨_, v1, b1, rfl, HQ.out.1.out5 HFF.out (by simp; omega) (g := w.heap.size + 1) (by omega) (by simp) _ _ _ _ _, HQ.out.2.1, HQ.out.2.2.1, HQ.out.2.2.2, five_bel HH1.out.1 (by omega) _ _ _ _ _⟩
  · have HKF := Lib.hid (show ∀ W, Below w.heap.size w W → Calls Tryz.prog 83 #[pv, .agg #[.int .i64 13, .int .i64 k1, .int .i64 n1, .string s1, .slice A1 na1 ca1, .slice B1 nb1 cb1, .string t, .slice A nr ca]] W (ExP o F W) from HK.out)
    have e0 := HH0.out.b0.cell 13
    simp at e0
    clear HK hk15 hK9
    go_region_held3 (fun w' => w'.cell? ⟨w.heap.size, 0, none⟩ = some (.int .i64 13) ∧ w'.cell? ⟨w.heap.size, 1, none⟩ = some (.int .i64 k1) ∧ w'.cell? ⟨w.heap.size, 2, none⟩ = some (.int .i64 n1) ∧ w'.cell? ⟨w.heap.size, 3, none⟩ = some (.string s1) ∧ w'.cell? ⟨w.heap.size, 4, none⟩ = some (.slice A1 na1 ca1) ∧ w'.cell? ⟨w.heap.size, 5, none⟩ = some (.slice B1 nb1 cb1) ∧ w'.cell? ⟨w.heap.size, 6, none⟩ = some (.string t) ∧ w'.cell? ⟨w.heap.size, 7, none⟩ = some (.slice A nr ca) ∧ w'.cell? ⟨w.heap.size + 1 + 1, 13, none⟩ = some (.func (.func 83) #[] #[])) (go_keep) ((go_at_call 83; refine (HKF.out _ HX.out.1).mono ?_; rintro e w1 ⟨cs1, v1, b1, rfl, hv1, hc1, ho1, hg1, hb1⟩; obtain ⟨k5, n5, s5, A5, na5, ca5, B5, nb5, cb5, rfl⟩ := hv1.form; have HH1 := Lib.hid (HX.out.keep hb1); have HQ := Lib.hid (And.intro hv1 (And.intro hc1 (And.intro ho1 hg1))); have d0 := HH1.out.b2.cell 0; have d1 := HH1.out.b2.cell 1; have d2 := HH1.out.b2.cell 2; have d3 := HH1.out.b2.cell 3; have d4 := HH1.out.b2.cell 4; have d5 := HH1.out.b2.cell 5; have d6 := HH1.out.b2.cell 6; have d7 := HH1.out.b2.cell 7; have e0 := HH1.out.b0.cell 13; simp at d0 d1 d2 d3 d4 d5 d6 d7 e0; obtain ⟨c9, f9, l9⟩ := HH1.out.b1.rules))
    all_goals
      go_wp2
      refine bodyPost_ret (v := .tuple #[.agg #[.int .i64 k5, .int .i64 n5, .string s5, .slice A5 na5 ca5, .slice B5 nb5 cb5], .bool b1]) (by simp only [results, Tryz.results41]; go_simp) rfl ?_
      exact ⟨_, v1, b1, rfl, HQ.out.1.out5 HFF.out (by simp; omega) (g := w.heap.size + 1) (by omega) (by simp) _ _ _ _ _, HQ.out.2.1, HQ.out.2.2.1, HQ.out.2.2.2, five_bel HH1.out.1 (by omega) _ _ _ _ _⟩
  · have HKF := Lib.hid (show ∀ W, Below w.heap.size w W → Calls Tryz.prog 84 #[pv, .agg #[.int .i64 14, .int .i64 k1, .int .i64 n1, .string s1, .slice A1 na1 ca1, .slice B1 nb1 cb1, .string t, .slice A nr ca]] W (ExP o F W) from HK.out)
    have e0 := HH0.out.b0.cell 14
    simp at e0
    clear HK hk15 hK9
    go_region_held3 (fun w' => w'.cell? ⟨w.heap.size, 0, none⟩ = some (.int .i64 14) ∧ w'.cell? ⟨w.heap.size, 1, none⟩ = some (.int .i64 k1) ∧ w'.cell? ⟨w.heap.size, 2, none⟩ = some (.int .i64 n1) ∧ w'.cell? ⟨w.heap.size, 3, none⟩ = some (.string s1) ∧ w'.cell? ⟨w.heap.size, 4, none⟩ = some (.slice A1 na1 ca1) ∧ w'.cell? ⟨w.heap.size, 5, none⟩ = some (.slice B1 nb1 cb1) ∧ w'.cell? ⟨w.heap.size, 6, none⟩ = some (.string t) ∧ w'.cell? ⟨w.heap.size, 7, none⟩ = some (.slice A nr ca) ∧ w'.cell? ⟨w.heap.size + 1 + 1, 14, none⟩ = some (.func (.func 84) #[] #[])) (go_keep) ((go_at_call 84; refine (HKF.out _ HX.out.1).mono ?_; rintro e w1 ⟨cs1, v1, b1, rfl, hv1, hc1, ho1, hg1, hb1⟩; obtain ⟨k5, n5, s5, A5, na5, ca5, B5, nb5, cb5, rfl⟩ := hv1.form; have HH1 := Lib.hid (HX.out.keep hb1); have HQ := Lib.hid (And.intro hv1 (And.intro hc1 (And.intro ho1 hg1))); have d0 := HH1.out.b2.cell 0; have d1 := HH1.out.b2.cell 1; have d2 := HH1.out.b2.cell 2; have d3 := HH1.out.b2.cell 3; have d4 := HH1.out.b2.cell 4; have d5 := HH1.out.b2.cell 5; have d6 := HH1.out.b2.cell 6; have d7 := HH1.out.b2.cell 7; have e0 := HH1.out.b0.cell 14; simp at d0 d1 d2 d3 d4 d5 d6 d7 e0; obtain ⟨c9, f9, l9⟩ := HH1.out.b1.rules))
    all_goals
      go_wp2
      refine bodyPost_ret (v := .tuple #[.agg #[.int .i64 k5, .int .i64 n5, .string s5, .slice A5 na5 ca5, .slice B5 nb5 cb5], .bool b1]) (by simp only [results, Tryz.results41]; go_simp) rfl ?_
      exact ⟨_, v1, b1, rfl, HQ.out.1.out5 HFF.out (by simp; omega) (g := w.heap.size + 1) (by omega) (by simp) _ _ _ _ _, HQ.out.2.1, HQ.out.2.2.1, HQ.out.2.2.2, five_bel HH1.out.1 (by omega) _ _ _ _ _⟩
  · have HKF := Lib.hid (show ∀ W, Below w.heap.size w W → Calls Tryz.prog 85 #[pv, .agg #[.int .i64 15, .int .i64 k1, .int .i64 n1, .string s1, .slice A1 na1 ca1, .slice B1 nb1 cb1, .string t, .slice A nr ca]] W (ExP o F W) from HK.out)
    have e0 := HH0.out.b0.cell 15
    simp at e0
    clear HK hk15 hK9
    go_region_held3 (fun w' => w'.cell? ⟨w.heap.size, 0, none⟩ = some (.int .i64 15) ∧ w'.cell? ⟨w.heap.size, 1, none⟩ = some (.int .i64 k1) ∧ w'.cell? ⟨w.heap.size, 2, none⟩ = some (.int .i64 n1) ∧ w'.cell? ⟨w.heap.size, 3, none⟩ = some (.string s1) ∧ w'.cell? ⟨w.heap.size, 4, none⟩ = some (.slice A1 na1 ca1) ∧ w'.cell? ⟨w.heap.size, 5, none⟩ = some (.slice B1 nb1 cb1) ∧ w'.cell? ⟨w.heap.size, 6, none⟩ = some (.string t) ∧ w'.cell? ⟨w.heap.size, 7, none⟩ = some (.slice A nr ca) ∧ w'.cell? ⟨w.heap.size + 1 + 1, 15, none⟩ = some (.func (.func 85) #[] #[])) (go_keep) ((go_at_call 85; refine (HKF.out _ HX.out.1).mono ?_; rintro e w1 ⟨cs1, v1, b1, rfl, hv1, hc1, ho1, hg1, hb1⟩; obtain ⟨k5, n5, s5, A5, na5, ca5, B5, nb5, cb5, rfl⟩ := hv1.form; have HH1 := Lib.hid (HX.out.keep hb1); have HQ := Lib.hid (And.intro hv1 (And.intro hc1 (And.intro ho1 hg1))); have d0 := HH1.out.b2.cell 0; have d1 := HH1.out.b2.cell 1; have d2 := HH1.out.b2.cell 2; have d3 := HH1.out.b2.cell 3; have d4 := HH1.out.b2.cell 4; have d5 := HH1.out.b2.cell 5; have d6 := HH1.out.b2.cell 6; have d7 := HH1.out.b2.cell 7; have e0 := HH1.out.b0.cell 15; simp at d0 d1 d2 d3 d4 d5 d6 d7 e0; obtain ⟨c9, f9, l9⟩ := HH1.out.b1.rules))
    all_goals
      go_wp2
      refine bodyPost_ret (v := .tuple #[.agg #[.int .i64 k5, .int .i64 n5, .string s5, .slice A5 na5 ca5, .slice B5 nb5 cb5], .bool b1]) (by simp only [results, Tryz.results41]; go_simp) rfl ?_
      exact ⟨_, v1, b1, rfl, HQ.out.1.out5 HFF.out (by simp; omega) (g := w.heap.size + 1) (by omega) (by simp) _ _ _ _ _, HQ.out.2.1, HQ.out.2.2.1, HQ.out.2.2.2, five_bel HH1.out.1 (by omega) _ _ _ _ _⟩
end Go.Proofs.YtgolomgmnanbpaaGreatDoor
namespace Go.Proofs
open Go.Shelf
shelf_lay Lays2.n26 Nm2 26 at Tryz as Tryz.bsS
end Go.Proofs
namespace Go.Proofs.YtgolomgmnanbpaaGreatDoor
set_option linter.unusedVariables false
set_option linter.unusedSimpArgs false
open Go.RowKit
attribute [local go_sem] run_index_arr run_part_agg run_part_one run_field_agg
theorem up_head : ∀ (keys : List (List UInt8)) (x : List UInt8), UpB keys → ∃ k, k ≤ keys.length ∧ (∀ t, t < k → ltB (keys.getD t x) x = true) ∧ (∀ t, k ≤ t → ltB (keys.getD t x) x = false)
  | [], x, _ => ⟨0, Nat.le_refl _, fun t h => by omega, fun t _ => by simpa using ltB_irrefl x⟩
  | a :: r, x, h => by
    have h2 := List.pairwise_cons.1 h
    by_cases ha : ltB a x = true
    · obtain ⟨k, h3, h4, h5⟩ := up_head r x h2.2
      refine ⟨k + 1, by simp; omega, fun t ht => ?_, fun t ht => ?_⟩
      · cases t with
        | zero => simpa using ha
        | succ t => simpa using h4 t (by omega)
      · cases t with
        | zero => omega
        | succ t => simpa using h5 t (by omega)
    · refine ⟨0, by simp, fun t ht => by omega, fun t _ => ?_⟩
      cases t with
      | zero => simpa using ha
      | succ t =>
        rw [List.getD_cons_succ]
        rcases Nat.lt_or_ge t r.length with hlt | hge
        · rw [List.getD_eq_getElem?_getD, List.getElem?_eq_getElem hlt, Option.getD_some]
          cases hq : ltB r[t] x with
          | false => rfl
          | true => exact absurd (ltB_trans (h2.1 _ (List.getElem_mem hlt)) hq) ha
        · rw [List.getD_eq_getElem?_getD, List.getElem?_eq_none hge]; simpa using ltB_irrefl x
def bsI (keys : List (List UInt8)) (x : List UInt8) : Nat := Go.Lib.bsGo (fun t => ltB (keys.getD t x) x) keys.length 0 keys.length
theorem bs_idx {keys : List (List UInt8)} {x : List UInt8} (h : UpB keys) : keys.idxOf? x = if bsI keys x < keys.length ∧ keys.getD (bsI keys x) x = x then some (bsI keys x) else none := by
  obtain ⟨k, hk, h1, h2⟩ := up_head keys x h
  have e : bsI keys x = k := Go.Lib.bsGo_spec _ k h1 h2 _ 0 _ (by omega) (Nat.zero_le _) hk
  rw [e]
  have hat : ∀ j (hj : j < keys.length), keys.getD j x = keys[j] := fun j hj => by rw [List.getD_eq_getElem?_getD, List.getElem?_eq_getElem hj, Option.getD_some]
  split
  · rename_i hc
    refine List.idxOf?_eq_some_iff.2 ⟨hc.1, by rw [← hat k hc.1]; exact hc.2, fun j hj he => ?_⟩
    have := h1 j hj
    rw [hat j (by omega), he] at this
    exact ltB_irrefl x this
  · rename_i hc
    refine List.idxOf?_eq_none_iff.2 fun hm => ?_
    obtain ⟨j, hj, he⟩ := List.getElem_of_mem hm
    rcases Nat.lt_trichotomy j k with hlt | rfl | hgt
    · have := h1 j hlt
      rw [hat j hj, he] at this
      exact ltB_irrefl x this
    · exact hc ⟨hj, by rw [hat j hj, he]⟩
    · have h3 := List.pairwise_iff_getElem.1 h k j (by omega) hj hgt
      have h4 := h2 k (Nat.le_refl _)
      rw [hat k (by omega)] at h4
      rw [he, h4] at h3; cases h3
theorem bsS_any (keys : List (List UInt8)) (x : List UInt8) (F : Nat → Prop) (B : Option Addr) (n cb : Nat) (w : World) (hn : keys.length = n) (hr : RdF w F B (strV keys)) (hl : n ≤ 4194304) :
    Calls Tryz.prog 188 #[.slice B n cb, .string ⟨x.toArray⟩] w fun e w' => e = .returned (.tuple #[.int .i64 (bsI keys x : Nat), .bool (decide (bsI keys x < n ∧ keys.getD (bsI keys x) x = x))]) ∧ Below w.heap.size w w' := by
  by_cases hne : keys = []
  · subst hne
    obtain rfl : 0 = n := hn
    refine (Any2.slices_BinarySearch_string_empty Tryz.bsS B cb ⟨x.toArray⟩ w).mono ?_
    rintro e w' ⟨rfl, rfl⟩
    exact ⟨by simp [bsI, Go.Lib.bsGo], Below.refl _ _⟩
  · obtain ⟨b, o, rfl, hb, _, hx⟩ := hr (by simpa [strV] using hne)
    refine (Any2.slices_BinarySearch_string Tryz.bsS b o n cb (fun t => ⟨(keys.getD t x).toArray⟩) ⟨x.toArray⟩ w (by omega) (fun j hj => ?_)).mono ?_
    · have hj' : j < keys.length := by omega
      rw [hx j (by rw [strV_len]; exact hj')]
      simp [strV, List.getD_eq_getElem?_getD, List.getElem?_eq_getElem hj']
    · rintro e w' ⟨rfl, q, rfl⟩
      have e1 : (Go.Lib.bsGo (fun t => Op.bytesLess (ByteArray.mk (keys.getD t x).toArray).toList (ByteArray.mk x.toArray).toList) n 0 n) = bsI keys x := by
        unfold bsI ltB
        rw [hn]
        simp only [Go.Lib.toList_data, List.toList_toArray]
      rw [e1]
      have e2 : decide (bsI keys x < n ∧ (⟨(keys.getD (bsI keys x) x).toArray⟩ : ByteArray) = ⟨x.toArray⟩) = decide (bsI keys x < n ∧ keys.getD (bsI keys x) x = x) := by
        refine decide_eq_decide.2 ⟨fun h => ⟨h.1, ?_⟩, fun h => ⟨h.1, by rw [h.2]⟩⟩
        have := h.2
        injection this with this
        exact List.toArray_inj this
      exact ⟨by rw [e2], bel_drewN (Below.refl _ _) q⟩
def plI (keys : List (List UInt8)) (x : List UInt8) : Int := match keys.idxOf? x with | some i => (i : Int) | none => -1
set_option maxRecDepth 100000 in
set_option maxHeartbeats 4000000 in
theorem vPlace (keys : List (List UInt8)) (x : List UInt8) (F : Nat → Prop) (B : Option Addr) (n cb : Nat) (w : World) (hn : keys.length = n) (hr : RdF w F B (strV keys)) (hl : n ≤ 4194304) (hu : UpB keys) :
    Calls Tryz.prog 166 #[.slice B n cb, .string ⟨x.toArray⟩] w fun e w' => e = .returned (.int .i64 (plI keys x)) ∧ Below w.heap.size w w' := by
  have HB := Lib.hid (bsS_any keys x F B n cb w hn hr hl)
  have hq : plI keys x = if bsI keys x < n ∧ keys.getD (bsI keys x) x = x then (bsI keys x : Int) else -1 := by
    unfold plI
    rw [bs_idx hu, hn]
    by_cases hc : bsI keys x < n ∧ keys.getD (bsI keys x) x = x
    · rw [if_pos hc, if_pos hc]
    · rw [if_neg hc, if_neg hc]
  obtain ⟨p, hp⟩ : ∃ p, plI keys x = p := ⟨_, rfl⟩
  obtain ⟨j, hj⟩ : ∃ j, bsI keys x = j := ⟨_, rfl⟩
  rw [hp] at hq ⊢
  rw [hj] at hq HB
  clear hn hr hl hu hp hj
  by_cases hc : j < n ∧ keys.getD j x = x
  · rw [decide_eq_true hc] at HB
    rw [if_pos hc] at hq
    have HQ := Lib.hid hq
    clear hc hq
    go_enter Tryz.func166, Tryz.ntmps166
    go_wp2_with fail
    refine HB.out.mono ?_
    rintro e w1 ⟨rfl, hb1⟩
    have HB1 := Lib.hid hb1
    clear hb1
    go_wp2
    go_ret
    exact ⟨by rw [HQ.out]; rfl, HB1.out⟩
  · rw [decide_eq_false hc] at HB
    rw [if_neg hc] at hq
    have HQ := Lib.hid hq
    clear hc hq
    go_enter Tryz.func166, Tryz.ntmps166
    go_wp2_with fail
    refine HB.out.mono ?_
    rintro e w1 ⟨rfl, hb1⟩
    have HB1 := Lib.hid hb1
    clear hb1
    go_wp2
    go_ret
    exact ⟨by rw [HQ.out]; rfl, HB1.out⟩
end Go.Proofs.YtgolomgmnanbpaaGreatDoor
namespace Go.Proofs.YtgolomgmnanbpaaGreatDoor
set_option linter.unusedVariables false
set_option linter.unusedSimpArgs false
open Go.RowKit
attribute [local go_sem] run_index_arr run_part_agg run_part_one run_field_agg
def KidP (o : Option JV) (F : Nat → Prop) (w : World) (e : Ending) (w' : World) : Prop := ∃ (cs : List Value) (u : JV) (b : Bool), e = .returned (.tuple #[.agg cs.toArray, .bool b]) ∧ VR w' F cs u ∧ Came u ∧ o = (if b = true then some u else none) ∧ (b = true → good u = true) ∧ Below w.heap.size w w'
theorem KidP.none_ {o : Option JV} {F : Nat → Prop} {w w' : World} (ho : o = none) (hb : Below w.heap.size w w') :
    KidP o F w (.returned (.tuple #[.agg #[.int .i64 0, .int .i64 0, .string ⟨#[]⟩, .slice none 0 0, .slice none 0 0], .bool false])) w' :=
  ⟨_, jZero, false, rfl, VR.zero, came_atom (by unfold iw; omega) (by unfold iw; omega) (by simp), by rw [ho]; rfl, (fun h => by cases h), hb⟩
set_option maxRecDepth 100000 in
set_option maxHeartbeats 4000000 in
theorem vKid {k n : Int} {s : List UInt8} {kids : List JV} {keys : List (List UInt8)} {cs : List Value} {F : Nat → Prop} (i : Int) (w : World) (hG : GOK w) (hv : VR w F cs (.mk k n s kids keys)) (hc : Came (.mk k n s kids keys)) (hg : good (.mk k n s kids keys) = true) :
    Calls Tryz.prog 165 #[.agg cs.toArray, .int .i64 6, .int .i64 i] w (KidP (if k = 6 ∧ 0 ≤ i then kids[i.toNat]? else none) F w) := by
  have HR := Lib.hid (fun (W : World) (h : Below w.heap.size w W) => vRightG _ cs F W (hG.keep h) (hv.bel h) hc)
  rw [hg] at HR
  obtain ⟨A, B, ca, cb, css, rfl, hvs, h1, h2, h3, h4, h5, h6⟩ := hv.out
  have HGD := Lib.hid (fun (u : JV) (hu : u ∈ kids) => And.intro (good_kid (v := .mk k n s kids keys) hg hu) (hc.out.2.2.2.2.2.2 u hu))
  have hnk : kids.length ≤ 4194304 := hc.out.2.2.2.1
  have HKC := Lib.hid (fun (j : Nat) (x : JV) (hx : kids[j]? = some x) => kid_cellsG (hvs.mono (F' := fun b => F b ∧ b < w.heap.size) fun b hb hF => ⟨hF, hb⟩) (h5.mono (F' := fun b => F b ∧ b < w.heap.size) fun b hb hF => ⟨hF, hb⟩) hx)
  obtain ⟨nk, hnk2⟩ : ∃ q, kids.length = q := ⟨_, rfl⟩
  obtain ⟨ny, hny⟩ : ∃ q, keys.length = q := ⟨_, rfl⟩
  rw [hnk2] at hnk h1
  rw [hnk2, hny] at HR ⊢
  rw [hny] at h2
  have HNK := Lib.hid hnk2
  have HH0 := Lib.hid (((Held.nil w).push 25 #[.int .i64 k, .int .i64 n, .string ⟨s.toArray⟩, .slice A nk ca, .slice B ny cb] (g := w.heap.size) rfl).push 25 #[.int .i64 0, .int .i64 0, .string ⟨#[]⟩, .slice none 0 0, .slice none 0 0] (g := w.heap.size + 1) (by simp))
  clear hG hv hc hg hvs h3 h4 h5 h6 hnk2 hny
  obtain ⟨c0, f0, l0⟩ := HH0.out.b1.rules
  obtain ⟨c1, f1, l1⟩ := HH0.out.b0.rules
  obtain ⟨op, hop⟩ : ∃ p, (if k = 6 ∧ 0 ≤ i then kids[i.toNat]? else none) = p := ⟨_, rfl⟩
  have HOP := Lib.hid hop
  rw [hop]
  clear hop
  by_cases h6 : k = 6
  · subst h6
    by_cases hi : i < 0
    · have HI := Lib.hid hi
      go_enter Tryz.func165, Tryz.ntmps165
      go_wp2
      refine bodyPost_ret (v := .tuple #[.agg #[.int .i64 0, .int .i64 0, .string ⟨#[]⟩, .slice none 0 0, .slice none 0 0], .bool false]) (by simp only [results, Tryz.results165]; go_simp) rfl ?_
      exact KidP.none_ (by rw [← HOP.out, if_neg (by have := HI.out; omega)]) HH0.out.1
    · obtain ⟨j, rfl⟩ : ∃ j : Nat, (j : Int) = i := ⟨i.toNat, by omega⟩
      by_cases hj : j < nk
      · obtain ⟨x, hx⟩ : ∃ x, kids[j]? = some x := ⟨_, List.getElem?_eq_getElem (by rw [HNK.out]; exact hj)⟩
        obtain ⟨b, o, kx, nx, sx, Ax, nax, cax, Bx, nbx, cbx, rfl, hb, hVR, hz⟩ := HKC.out j x hx
        have HX := Lib.hid (HGD.out x (List.mem_of_getElem? hx))
        have HOX := Lib.hid (show op = some x by rw [← HOP.out, if_pos (by first | exact ⟨rfl, by omega⟩ | exact ⟨trivial, by omega⟩), show ((j : Int)).toNat = j by omega, hx])
        have HVR := Lib.hid hVR
        have HZ := Lib.hid hz
        have HLB := Lib.hid hb
        clear hVR hz hx hi hb HOP HGD HKC
        go_enter Tryz.func165, Tryz.ntmps165
        go_wp2_with fail
        refine (HR.out _ HH0.out.1).mono ?_
        rintro e w1 ⟨rfl, hb1⟩
        have HH1 := Lib.hid (HH0.out.keep hb1)
        clear hb1 c0 f0 l0 c1 f1 l1
        obtain ⟨c0, f0, l0⟩ := HH1.out.b1.rules
        obtain ⟨c1, f1, l1⟩ := HH1.out.b0.rules
        obtain ⟨z0, z1, z2, z3, z4⟩ := HZ.out _ HH1.out.1
        have lb : b < w1.heap.size := by have := HLB.out; have := HH1.out.1.size; omega
        go_wp2
        refine bodyPost_ret (v := .tuple #[.agg #[.int .i64 kx, .int .i64 nx, .string sx, .slice Ax nax cax, .slice Bx nbx cbx], .bool true]) (by simp only [results, Tryz.results165]; go_simp) rfl ?_
        have hne : ∀ b, (F b ∧ b < w.heap.size) → b ≠ w.heap.size + 1 := fun b hb => by have := hb.2; omega
        exact ⟨_, x, true, rfl, ((HVR.out.bel HH1.out.1).keep (((((KeepF.refl.set hne 0 _).set hne 1 _).set hne 2 _).set hne 3 _).set hne 4 _)).mono (fun b _ hb => hb.1), HX.out.2, HOX.out, fun _ => HX.out.1, five_bel HH1.out.1 (by omega) _ _ _ _ _⟩
      · have HJ := Lib.hid hj
        go_enter Tryz.func165, Tryz.ntmps165
        go_wp2
        refine bodyPost_ret (v := .tuple #[.agg #[.int .i64 0, .int .i64 0, .string ⟨#[]⟩, .slice none 0 0, .slice none 0 0], .bool false]) (by simp only [results, Tryz.results165]; go_simp) rfl ?_
        exact KidP.none_ (by rw [← HOP.out, if_pos (by first | exact ⟨rfl, by omega⟩ | exact ⟨trivial, by omega⟩), List.getElem?_eq_none (by rw [HNK.out]; have := HJ.out; omega)]) HH0.out.1
  · have e1 : (k == 6) = false := by simp [h6]
    have e2 : (k != 6) = true := by simp [h6]
    have H6 := Lib.hid h6
    clear h6
    go_enter Tryz.func165, Tryz.ntmps165
    go_wp2
    refine bodyPost_ret (v := .tuple #[.agg #[.int .i64 0, .int .i64 0, .string ⟨#[]⟩, .slice none 0 0, .slice none 0 0], .bool false]) (by simp only [results, Tryz.results165]; go_simp) rfl ?_
    exact KidP.none_ (by rw [← HOP.out, if_neg (fun h => H6.out h.1)]) HH0.out.1
end Go.Proofs.YtgolomgmnanbpaaGreatDoor
namespace Go.Proofs.YtgolomgmnanbpaaGreatDoor
set_option linter.unusedVariables false
set_option linter.unusedSimpArgs false
open Go.RowKit
attribute [local go_sem] run_index_arr run_part_agg run_part_one run_field_agg
set_option maxRecDepth 100000 in
set_option maxHeartbeats 4000000 in
theorem vGet {v : JV} {cs : List Value} {F : Nat → Prop} (t : List UInt8) (w : World) (hG : GOK w) (hv : VR w F cs v) (hc : Came v) (hg : good v = true) :
    Calls Tryz.prog 122 #[.agg cs.toArray, .string ⟨t.toArray⟩] w (KidP (getJ v t) F w) := by
  obtain ⟨k, n, s, kids, keys⟩ := v
  have HK := Lib.hid (fun (W : World) (i : Int) (h : Below w.heap.size w W) => vKid i W (hG.keep h) ((hv.mono (F' := fun b => F b ∧ b < w.heap.size) fun b hb hF => ⟨hF, hb⟩).bel h) hc hg)
  have hup : UpB keys := by
    have h1 := (goodJ_out (good_J hg).1).1
    by_cases h6 : k = 6
    · subst h6; exact (keysOk_iff.1 (goodA_obj h1).2.2.2).2
    · have := goodA_kind h1
      have hky : keys = [] := by
        by_cases h5 : k = 5
        · subst h5; exact (goodA_list h1).2.2
        · exact (goodA_leaf h1 (by omega)).2
      rw [hky]; exact List.Pairwise.nil
  have hgj : getJ (.mk k n s kids keys) t = (if k = 6 ∧ 0 ≤ plI keys t then kids[(plI keys t).toNat]? else none) := by
    unfold getJ plI
    show (if k = 6 then _ else none) = _
    by_cases h6 : k = 6
    · rw [if_pos h6]
      show (match keys.idxOf? t with | some i => kids[i]? | none => none) = _
      cases keys.idxOf? t with
      | none => simp
      | some i => simp [h6]
    · rw [if_neg h6, if_neg (fun h => h6 h.1)]
  rw [hgj]
  obtain ⟨A, B, ca, cb, css, rfl, hvs, h1, h2, h3, h4, h5, h6⟩ := hv.out
  obtain ⟨ny, hny⟩ : ∃ q, keys.length = q := ⟨_, rfl⟩
  obtain ⟨nk, hnk⟩ : ∃ q, kids.length = q := ⟨_, rfl⟩
  have hcy : ny ≤ 4194304 := by rw [← hny]; exact hc.out.2.2.2.2.1
  have HPL := Lib.hid (fun (W : World) (h : Below w.heap.size w W) => vPlace keys t F B ny cb W hny (h6.keep (KeepF.of_below h)) hcy hup)
  obtain ⟨p, hp⟩ : ∃ p, plI keys t = p := ⟨_, rfl⟩
  rw [hnk, hny] at HK ⊢
  rw [hp] at HPL ⊢
  have HH0 := Lib.hid (((Held.nil w).push 25 #[.int .i64 k, .int .i64 n, .string ⟨s.toArray⟩, .slice A nk ca, .slice B ny cb] (g := w.heap.size) rfl).push 25 #[.int .i64 0, .int .i64 0, .string ⟨#[]⟩, .slice none 0 0, .slice none 0 0] (g := w.heap.size + 1) (by simp))
  clear hG hv hc hg hvs h1 h2 h3 h4 h5 h6 hnk hny hcy hup hgj hp
  obtain ⟨op, hop⟩ : ∃ q, (if k = 6 ∧ 0 ≤ p then kids[p.toNat]? else none) = q := ⟨_, rfl⟩
  have HKP := Lib.hid (HK.out · p)
  rw [hop] at HKP ⊢
  clear hop HK
  obtain ⟨c0, f0, l0⟩ := HH0.out.b1.rules
  have k0 := c0 0
  have k1 := c0 1
  have k2 := c0 2
  have k3 := c0 3
  have k4 := c0 4
  simp at k0 k1 k2 k3 k4
  go_enter Tryz.func122, Tryz.ntmps122
  go_wp2
  go_region_held3 (fun w' => w'.cell? ⟨w.heap.size, 0, none⟩ = some (.int .i64 k) ∧ w'.cell? ⟨w.heap.size, 1, none⟩ = some (.int .i64 n) ∧ w'.cell? ⟨w.heap.size, 2, none⟩ = some (.string ⟨s.toArray⟩) ∧ w'.cell? ⟨w.heap.size, 3, none⟩ = some (.slice A nk ca) ∧ w'.cell? ⟨w.heap.size, 4, none⟩ = some (.slice B ny cb)) (go_keep) (first | (go_at_call 165; refine (HKP.out _ HH1.out.1).mono ?_; rintro e w2 ⟨cs2, u2, b2, rfl, hv2, hc2, ho2, hg2, hb2⟩; obtain ⟨k6, n6, s6, A6, na6, ca6, B6, nb6, cb6, rfl⟩ := hv2.form; have HH2 := Lib.hid (HH1.out.keep hb2); have HQ2 := Lib.hid (And.intro hv2 (And.intro hc2 (And.intro ho2 hg2))); have d0 := HH2.out.b1.cell 0; have d1 := HH2.out.b1.cell 1; have d2 := HH2.out.b1.cell 2; have d3 := HH2.out.b1.cell 3; have d4 := HH2.out.b1.cell 4; simp at d0 d1 d2 d3 d4; obtain ⟨c9, f9, l9⟩ := HH2.out.b0.rules) | (go_at_call 166; refine (HPL.out _ HH0.out.drew.1).mono ?_; rintro e w1 ⟨rfl, hb1⟩; have HH1 := Lib.hid (HH0.out.drew.keep hb1); have d0 := HH1.out.b1.cell 0; have d1 := HH1.out.b1.cell 1; have d2 := HH1.out.b1.cell 2; have d3 := HH1.out.b1.cell 3; have d4 := HH1.out.b1.cell 4; simp at d0 d1 d2 d3 d4))
  all_goals
    go_wp2
    refine bodyPost_ret (v := .tuple #[.agg #[.int .i64 k6, .int .i64 n6, .string s6, .slice A6 na6 ca6, .slice B6 nb6 cb6], .bool b2]) (by simp only [results, Tryz.results122]; go_simp) rfl ?_
    have hne : ∀ b, (F b ∧ b < w.heap.size) → b ≠ w.heap.size + 1 := fun b hb => by have := hb.2; omega
    exact ⟨_, u2, b2, rfl, (HQ2.out.1.keep (((((KeepF.refl.set hne 0 _).set hne 1 _).set hne 2 _).set hne 3 _).set hne 4 _)).mono (fun b _ hb => hb.1), HQ2.out.2.1, HQ2.out.2.2.1, HQ2.out.2.2.2, five_bel HH2.out.1 (by omega) _ _ _ _ _⟩
end Go.Proofs.YtgolomgmnanbpaaGreatDoor
namespace Go.Proofs.YtgolomgmnanbpaaGreatDoor
set_option linter.unusedVariables false
set_option linter.unusedSimpArgs false
open Go.RowKit
attribute [local go_sem] run_index_arr run_part_agg run_part_one run_field_agg
set_option maxRecDepth 100000 in
set_option maxHeartbeats 4000000 in
theorem mPath {pv : Value} {F : Nat → Prop} {env : List (List UInt8 × JV)} {w : World} {k : Int} {v : JV} {s : List UInt8} {y : EJ} {r : List EJ} {cs : List Value} (hG : GOE w) (hF : ∀ b, F b → b < w.heap.size) (hk : KidC pv F env w y) (hx : ER w F cs (.mk k v s (y :: r))) :
    Calls Tryz.prog 73 #[pv, .agg cs.toArray] w (ExP (match evE env y with | some a => getJ a s | none => none) F w) := by
  obtain ⟨k1, n1, s1, A1, na1, ca1, B1, nb1, cb1, A, ca, css, rfl, hv, h1, h2, h3, h4⟩ := hx.out
  obtain ⟨b, o, kx, px, nx, sx, Ax, nax, cax, Bx, nbx, cbx, tx, Cx, ncx, ccx, rfl, hb, hER, hz⟩ := kid_cellsE h1 h4 (i := 0) (x := y) rfl
  have HKC := Lib.hid (fun (W : World) (h : Below w.heap.size w W) => hk W _ h (hER.bel h))
  have HZZ := Lib.hid (fun (W : World) (h : Below w.heap.size w W) => hz W h)
  obtain ⟨nr, hnr⟩ : ∃ q, (y :: r).length = q := ⟨_, rfl⟩
  have hnr1 : 1 ≤ nr := by rw [← hnr]; simp
  rw [hnr] at h2 ⊢
  have HLB := Lib.hid hb
  obtain ⟨o0, ho0⟩ : ∃ o, evE env y = o := ⟨_, rfl⟩
  rw [ho0] at HKC ⊢
  have HH0 := Lib.hid (((Held.nil w).push 28 #[.int .i64 k, .int .i64 k1, .int .i64 n1, .string s1, .slice A1 na1 ca1, .slice B1 nb1 cb1, .string ⟨s.toArray⟩, .slice (some ⟨b, o, none⟩) nr ca] (g := w.heap.size) rfl).push 25 #[.int .i64 0, .int .i64 0, .string ⟨#[]⟩, .slice none 0 0, .slice none 0 0] (g := w.heap.size + 1) (by simp))
  have HG := Lib.hid hG
  have HFF := Lib.hid hF
  clear hk hx hv h1 h2 h3 h4 hER hz hb hnr ho0 hG hF
  obtain ⟨op, hop⟩ : ∃ p, (match o0 with | some a => getJ a s | none => none) = p := ⟨_, rfl⟩
  have HOP := Lib.hid hop
  rw [hop]
  clear hop
  obtain ⟨c0, f0, l0⟩ := HH0.out.b1.rules
  obtain ⟨z0, z1, z2, z3, z4, z5, z6, z7⟩ := HZZ.out _ (Below.refl _ _)
  simp only [Nat.zero_mul, Nat.add_zero] at z0 z1 z2 z3 z4 z5 z6 z7
  have lb := HLB.out
  go_enter Tryz.func73, Tryz.ntmps73
  go_wp2_with fail
  refine (HKC.out _ HH0.out.1).mono ?_
  rintro e w1 ⟨cs1, v1, b1, rfl, hv1, hc1, ho, hg1, hb1⟩
  have HV1 := Lib.hid hv1
  obtain ⟨k5, n5, s5, A5, na5, ca5, B5, nb5, cb5, rfl⟩ := hv1.form
  have HH1 := Lib.hid ((HH0.out.keep hb1).push 25 #[.int .i64 k5, .int .i64 n5, .string s5, .slice A5 na5 ca5, .slice B5 nb5 cb5] (g := w1.heap.size) rfl)
  have HO := Lib.hid ho
  have HGD := Lib.hid hg1
  have HC1 := Lib.hid hc1
  have HB01 := Lib.hid hb1
  clear hb1 c0 f0 l0 hv1 hc1 ho hg1 z0 z1 z2 z3 z4 z5 z6 z7 lb
  cases b1
  · go_wp2_with fail
    refine (mNone _).mono ?_
    rintro e wn ⟨rfl, hbn⟩
    have HHN := Lib.hid (HH1.out.keep hbn)
    clear hbn
    obtain ⟨c1, f1, l1⟩ := HHN.out.b1.rules
    go_wp2
    refine bodyPost_ret (v := .tuple #[.agg #[.int .i64 0, .int .i64 0, .string ⟨#[]⟩, .slice none 0 0, .slice none 0 0], .bool false]) (by simp only [results, Tryz.results73]; go_simp) rfl ?_
    exact ExP.none_ (w1 := w) (by rw [← HOP.out, HO.out]; rfl) (five_bel HHN.out.1 (by omega) _ _ _ _ _)
  · obtain ⟨c0, f0, l0⟩ := HH1.out.b0.rules
    obtain ⟨c2, f2, l2⟩ := HH1.out.b2.rules
    have HGT := Lib.hid (vGet s _ (HG.out.keep HH1.out.1).gok (HV1.out.bel ((Below.refl _ w1).alloc (Nat.le_refl _) (.cells #[.int .i64 k5, .int .i64 n5, .string s5, .slice A5 na5 ca5, .slice B5 nb5 cb5] 25))) HC1.out (HGD.out rfl))
    have HOQ := Lib.hid (show op = getJ v1 s by rw [← HOP.out, HO.out]; rfl)
    go_wp2_with fail
    refine HGT.out.mono ?_
    rintro e w2 ⟨cs2, u, b2, rfl, hv2, hc2, ho2, hg2, hb2⟩
    have HV2 := Lib.hid hv2
    obtain ⟨k6, n6, s6, A6, na6, ca6, B6, nb6, cb6, rfl⟩ := hv2.form
    have HH2 := Lib.hid (HH1.out.keep hb2)
    have HQ2 := Lib.hid (And.intro hc2 (And.intro ho2 hg2))
    have hsz : w.heap.size + 2 ≤ w1.heap.size := by have := HB01.out.size; simpa using this
    have hsz2 : w1.heap.size < w2.heap.size := by have := hb2.size; simp at this; omega
    have HSZ := Lib.hid (And.intro hsz hsz2)
    clear hb2 hv2 hc2 ho2 hg2 c0 f0 l0 c2 f2 l2 HGT hsz hsz2
    obtain ⟨c9, f9, l9⟩ := HH2.out.b1.rules
    go_wp2
    refine bodyPost_ret (v := .tuple #[.agg #[.int .i64 k6, .int .i64 n6, .string s6, .slice A6 na6 ca6, .slice B6 nb6 cb6], .bool b2]) (by simp only [results, Tryz.results73]; go_simp) rfl ?_
    refine ⟨_, u, b2, rfl, ?_, HQ2.out.1, by rw [HOQ.out, HQ2.out.2.1], HQ2.out.2.2, five_bel HH2.out.1 (by omega) _ _ _ _ _⟩
    exact HV2.out.out5 HFF.out (by simp; omega) (g := w.heap.size + 1) (by omega) (by simp) _ _ _ _ _
end Go.Proofs.YtgolomgmnanbpaaGreatDoor
