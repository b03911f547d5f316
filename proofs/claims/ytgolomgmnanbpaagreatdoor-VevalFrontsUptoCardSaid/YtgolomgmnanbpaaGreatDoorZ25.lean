import Derived.Test.YtgolomgmnanbpaaGreatDoorZ24
import Derived.Test.YtgolomgmnanbpaaGreatDoorZ03
import Derived.Test.YtgolomgmnanbpaaGreatDoorZ05
import Derived.Test.YtgolomgmnanbpaaGreatDoorZ01
import Derived.Deep.RegionHeld3
import Derived.Deep.RegionLawGrows
import Derived.Test.YtgolomgmnanbpaaGreatDoorZ04
import Derived.Test.YtgolomgmnanbpaaGreatDoorZ09
import Derived.Test.YtgolomgmnanbpaaGreatDoorZ07
import Derived.Test.YtgolomgmnanbpaaGreatDoorZ21
import Derived.Test.YtgolomgmnanbpaaGreatDoorZ08
import Derived.Test.YtgolomgmnanbpaaGreatDoorZ18
namespace Go.Proofs.YtgolomgmnanbpaaGreatDoor
set_option linter.unusedVariables false
set_option linter.unusedSimpArgs false
open Go.RowKit
attribute [local go_sem] run_index_arr run_part_agg run_part_one run_field_agg
set_option maxRecDepth 100000 in
set_option maxHeartbeats 4000000 in
theorem lOf25 (k : Int) (A : Option Addr) (n c : Nat) (w : World) : Calls Tryz.prog 28 #[.int .i64 k, .slice A n c] w (CelP #[.int .i64 k, .int .i64 0, .int .i64 0, .string ⟨#[]⟩, .slice none 0 0, .slice none 0 0, .string ⟨#[]⟩, .slice A n c] w) := by
  go_enter Tryz.func28, Tryz.ntmps28
  go_wp2
  refine bodyPost_ret (v := .agg #[.int .i64 k, .int .i64 0, .int .i64 0, .string ⟨#[]⟩, .slice none 0 0, .slice none 0 0, .string ⟨#[]⟩, .slice A n c]) (by simp only [results, Tryz.results28]; go_simp) rfl ?_
  exact ⟨rfl, by go_grown⟩
theorem rdF_blk {w : World} {g : Nat} {t : TypeId} {l : List Value} (h : Blk w g t l.toArray) : RdF w TT (some ⟨g, 0, none⟩) l := fun hne =>
  ⟨g, 0, rfl, h.lt, trivial, fun i hi => by rw [Nat.zero_add, h.cell]; simp [hi]⟩
theorem er_two {w : World} {c1 c2 : List Value} {x1 x2 : EJ} {g : Nat} (k : Int) (h1 : ER w TT c1 x1) (h2 : ER w TT c2 x2) (hb : Blk w g 28 (c1 ++ c2).toArray) : ER w TT [.int .i64 k, .int .i64 0, .int .i64 0, .string ⟨#[]⟩, .slice none 0 0, .slice none 0 0, .string ⟨#[]⟩, .slice (some ⟨g, 0, none⟩) 2 2] (xOf k [x1, x2]) :=
  ER.into (kids := [x1, x2]) (css := [c1, c2]) (s := []) VR.zero ((RR.nil.snoc h1).snoc h2) rfl (Nat.le_refl _) (fun e => by cases e) (by simpa using rdF_blk hb)
theorem er_name {w : World} (s : List UInt8) : ER w TT [.int .i64 2, .int .i64 0, .int .i64 0, .string ⟨#[]⟩, .slice none 0 0, .slice none 0 0, .string ⟨s.toArray⟩, .slice none 0 0] (xName s) := ER.leaf 2 s VR.zero
theorem er_int {w : World} (n : Int) : ER w TT [.int .i64 1, .int .i64 3, .int .i64 n, .string ⟨#[]⟩, .slice none 0 0, .slice none 0 0, .string ⟨#[]⟩, .slice none 0 0] (xInt n) := ER.leaf 1 [] (VR.atom 3 n [])
theorem er_false {w : World} : ER w TT [.int .i64 1, .int .i64 2, .int .i64 0, .string ⟨#[]⟩, .slice none 0 0, .slice none 0 0, .string ⟨#[]⟩, .slice none 0 0] xFalse := ER.leaf 1 [] (VR.atom 2 0 [])
theorem cam_leaf {k : Int} {v : JV} {s : List UInt8} (hk : iw k) (hv : Came v) (hs : s.length ≤ 4194304) : camE (.mk k v s []) := by unfold camE; exact ⟨hk, hv, hs, by simp, trivial⟩
theorem came_z : Came jZero := came_atom (by unfold iw; omega) (by unfold iw; omega) (by simp)
theorem cam_name {s : List UInt8} (hs : s.length ≤ 4194304) : camE (xName s) := cam_leaf (by unfold iw; omega) came_z hs
theorem cam_int {n : Int} (h : iw n) : camE (xInt n) := cam_leaf (by unfold iw; omega) (came_num h) (by simp)
theorem cam_of {k : Int} {l : List EJ} (hk : iw k) (hl : l.length ≤ 4194304) (h : ∀ x ∈ l, camE x) : camE (xOf k l) := by unfold xOf camE; exact ⟨hk, came_z, by simp, hl, camEL_iff.2 h⟩
theorem sml_leaf {k : Int} {v : JV} {s : List UInt8} : smlE (.mk k v s []) := by unfold smlE; exact ⟨by simp, trivial⟩
theorem sml_of {k : Int} {l : List EJ} (hl : l.length ≤ 16000) (h : ∀ x ∈ l, smlE x) : smlE (xOf k l) := by unfold xOf smlE; exact ⟨hl, smlEL_iff.2 h⟩
theorem cam_two {a b : EJ} (ha : camE a) (hb : camE b) : ∀ x ∈ [a, b], camE x := fun x hx => by
  rcases List.mem_cons.1 hx with rfl | hx
  · exact ha
  · obtain rfl := List.mem_singleton.1 hx; exact hb
theorem sml_two {a b : EJ} (ha : smlE a) (hb : smlE b) : ∀ x ∈ [a, b], smlE x := fun x hx => by
  rcases List.mem_cons.1 hx with rfl | hx
  · exact ha
  · obtain rfl := List.mem_singleton.1 hx; exact hb
theorem EvaP.some_ {v : JV} {w w' : World} {e : Ending} (h : EvaP (some v) w e w') : ∃ cs : List Value, e = .returned (.tuple #[.agg cs.toArray, .bool true]) ∧ VR w' TT cs v ∧ Came v ∧ Below w.heap.size w w' := by
  obtain ⟨cs, u, b, rfl, h1, h2, h3, _, _, h4⟩ := h
  cases b with
  | false => cases h3
  | true =>
    rw [if_pos rfl] at h3
    obtain rfl := Option.some.inj h3
    exact ⟨cs, rfl, h1, h2, h4⟩
theorem EvaP.none__ {w w' : World} {e : Ending} (h : EvaP none w e w') : ∃ cs : List Value, e = .returned (.tuple #[.agg cs.toArray, .bool false]) ∧ VR w' TT cs jZero ∧ Below w.heap.size w w' := by
  obtain ⟨cs, u, b, rfl, h1, h2, h3, _, h5, h4⟩ := h
  cases b with
  | true => cases h3
  | false => rw [h5 rfl] at h1; exact ⟨cs, rfl, h1, h4⟩
theorem VR.atom_cells {W : World} {F : Nat → Prop} {cs : List Value} {k n : Int} {s : List UInt8} (h : VR W F cs (.mk k n s [] [])) : ∃ (A B : Option Addr) (ca cb : Nat), cs = [.int .i64 k, .int .i64 n, .string ⟨s.toArray⟩, .slice A 0 ca, .slice B 0 cb] := by
  obtain ⟨A, B, ca, cb, css, rfl, _⟩ := h.out
  exact ⟨A, B, ca, cb, rfl⟩
set_option maxRecDepth 100000 in
set_option maxHeartbeats 16000000 in
theorem lWakes (w : World) (hG : GOE w) : Calls Tryz.prog 10 #[] w fun e w' => e = .returned (.bool true) ∧ Below w.heap.size w w' := by
  have HG := Lib.hid hG
  clear hG
  go_enter Tryz.func10, Tryz.ntmps10
  have HH0 := Lib.hid (Held.nil w)
  go_wp2_with fail
  refine (lNamed ⟨#[110]⟩ _).mono ?_
  rintro e w1 ⟨rfl, hb⟩
  have HH1 := Lib.hid (HH0.out.keep hb)
  clear hb
  go_wp2_with fail
  refine (lIn25 1 _).mono ?_
  rintro e w2 ⟨rfl, hb⟩
  have HH2 := Lib.hid (HH1.out.keep hb)
  clear hb
  have HP3 := Lib.hid (HH2.out.push 28 #[.int .i64 2, .int .i64 0, .int .i64 0, .string ⟨#[]⟩, .slice none 0 0, .slice none 0 0, .string ⟨#[110]⟩, .slice none 0 0, .int .i64 1, .int .i64 3, .int .i64 1, .string ⟨#[]⟩, .slice none 0 0, .slice none 0 0, .string ⟨#[]⟩, .slice none 0 0] (g := w2.heap.size) rfl)
  go_wp2_with fail
  refine (lOf25 9 _ 2 2 _).mono ?_
  rintro e w3 ⟨rfl, hb⟩
  have HH3 := Lib.hid (HP3.out.keep hb)
  clear hb
  have HQ3 := Lib.hid (HH3.out.push 37 #[.string ⟨#[110]⟩, .int .i64 3, .int .i64 3, .string ⟨#[]⟩, .slice none 0 0, .slice none 0 0] (g := w3.heap.size) rfl)
  have HEV := Lib.hid (vEval wx1 [.int .i64 9, .int .i64 0, .int .i64 0, .string ⟨#[]⟩, .slice none 0 0, .slice none 0 0, .string ⟨#[]⟩, .slice (some ⟨w2.heap.size, 0, none⟩) 2 2] [([110], jNum 3)] [[.string ⟨#[110]⟩, .int .i64 3, .int .i64 3, .string ⟨#[]⟩, .slice none 0 0, .slice none 0 0]] (some ⟨w3.heap.size, 0, none⟩) 1 1 _ (HG.out.keep HQ3.out.1) (er_two 9 (er_name [110]) (er_int 1) HQ3.out.b1) (RR.nil.snoc ⟨_, rfl, VR.atom 3 3 []⟩) rfl (Nat.le_refl _) (by simpa using rdF_blk HQ3.out.b0) (by omega)
    (cam_of (by unfold iw; omega) (by simp) (cam_two (cam_name (by simp)) (cam_int (by unfold iw; omega)))) (sml_of (by simp) (sml_two sml_leaf sml_leaf)) (fun b hb => by obtain rfl := List.mem_singleton.1 hb; exact came_num (by unfold iw; omega)))
  rw [wk1] at HEV
  go_wp2_with fail
  refine HEV.out.mono ?_
  intro e w4 h
  obtain ⟨cs4, rfl, hv, _, hb⟩ := h.some_
  obtain ⟨A4, B4, ca4, cb4, rfl⟩ := (show VR w4 TT cs4 (.mk 3 4 [] [] []) from hv).atom_cells
  have HH4 := Lib.hid ((HQ3.out.keep hb).pop.pop.push 25 #[.int .i64 3, .int .i64 4, .string ⟨#[]⟩, .slice A4 0 ca4, .slice B4 0 cb4] (g := w4.heap.size) rfl)
  clear h hv hb HEV
  obtain ⟨W4, hW4⟩ : ∃ W, w4.alloc (.cells #[.int .i64 3, .int .i64 4, .string ⟨#[]⟩, .slice A4 0 ca4, .slice B4 0 cb4] 25) = W := ⟨_, rfl⟩
  rw [hW4] at HH4
  have HW4 := Lib.hid hW4
  clear hW4
  go_upto_region 2 with fail
  rw [HW4.out]
  go_wp2_with fail
  refine (lIn25 9223372036854775807 _).mono ?_
  rintro e w5 ⟨rfl, hb⟩
  have HH5 := Lib.hid (HH4.out.keep hb)
  clear hb
  go_wp2_with fail
  refine (lIn25 1 _).mono ?_
  rintro e w6 ⟨rfl, hb⟩
  have HH6 := Lib.hid (HH5.out.keep hb)
  clear hb
  have HP7 := Lib.hid (HH6.out.push 28 #[.int .i64 1, .int .i64 3, .int .i64 9223372036854775807, .string ⟨#[]⟩, .slice none 0 0, .slice none 0 0, .string ⟨#[]⟩, .slice none 0 0, .int .i64 1, .int .i64 3, .int .i64 1, .string ⟨#[]⟩, .slice none 0 0, .slice none 0 0, .string ⟨#[]⟩, .slice none 0 0] (g := w6.heap.size) rfl)
  go_wp2_with fail
  refine (lOf25 9 _ 2 2 _).mono ?_
  rintro e w7 ⟨rfl, hb⟩
  have HH7 := Lib.hid (HP7.out.keep hb)
  clear hb
  have HEV := Lib.hid (vEval wx2 [.int .i64 9, .int .i64 0, .int .i64 0, .string ⟨#[]⟩, .slice none 0 0, .slice none 0 0, .string ⟨#[]⟩, .slice (some ⟨w6.heap.size, 0, none⟩) 2 2] [] [] none 0 0 _ (HG.out.keep HH7.out.1) (er_two 9 (er_int 9223372036854775807) (er_int 1) HH7.out.b0) RR.nil rfl (Nat.le_refl _) RdF.nil (by omega)
    (cam_of (by unfold iw; omega) (by simp) (cam_two (cam_int (by unfold iw; omega)) (cam_int (by unfold iw; omega)))) (sml_of (by simp) (sml_two sml_leaf sml_leaf)) (fun b hb => by cases hb))
  rw [wk2] at HEV
  go_wp2_with fail
  refine HEV.out.mono ?_
  intro e w8 h
  obtain ⟨cs8, rfl, hv, hb⟩ := h.none__
  obtain ⟨A8, B8, ca8, cb8, rfl⟩ := (show VR w8 TT cs8 (.mk 0 0 [] [] []) from hv).atom_cells
  have HH8 := Lib.hid ((HH7.out.keep hb).pop.push 25 #[.int .i64 0, .int .i64 0, .string ⟨#[]⟩, .slice A8 0 ca8, .slice B8 0 cb8] (g := w8.heap.size) rfl)
  clear h hv hb HEV
  obtain ⟨W8, hW8⟩ : ∃ W, w8.alloc (.cells #[.int .i64 0, .int .i64 0, .string ⟨#[]⟩, .slice A8 0 ca8, .slice B8 0 cb8] 25) = W := ⟨_, rfl⟩
  rw [hW8] at HH8
  have HW8 := Lib.hid hW8
  clear hW8
  go_upto_region 3 with fail
  rw [HW8.out]
  go_wp2_with fail
  refine (lIn25 1 _).mono ?_
  rintro e w9 ⟨rfl, hb⟩
  have HH9 := Lib.hid (HH8.out.keep hb)
  clear hb
  have HP10 := Lib.hid (HH9.out.push 28 #[.int .i64 1, .int .i64 2, .int .i64 0, .string ⟨#[]⟩, .slice none 0 0, .slice none 0 0, .string ⟨#[]⟩, .slice none 0 0, .int .i64 1, .int .i64 3, .int .i64 1, .string ⟨#[]⟩, .slice none 0 0, .slice none 0 0, .string ⟨#[]⟩, .slice none 0 0] (g := w9.heap.size) rfl)
  go_wp2_with fail
  refine (lOf25 14 _ 2 2 _).mono ?_
  rintro e w10 ⟨rfl, hb⟩
  have HH10 := Lib.hid (HP10.out.keep hb)
  clear hb
  have HEV := Lib.hid (vEval wx3 [.int .i64 14, .int .i64 0, .int .i64 0, .string ⟨#[]⟩, .slice none 0 0, .slice none 0 0, .string ⟨#[]⟩, .slice (some ⟨w9.heap.size, 0, none⟩) 2 2] [] [] none 0 0 _ (HG.out.keep HH10.out.1) (er_two 14 er_false (er_int 1) HH10.out.b0) RR.nil rfl (Nat.le_refl _) RdF.nil (by omega)
    (cam_of (by unfold iw; omega) (by simp) (cam_two (cam_leaf (by unfold iw; omega) (came_bool false) (by simp)) (cam_int (by unfold iw; omega)))) (sml_of (by simp) (sml_two sml_leaf sml_leaf)) (fun b hb => by cases hb))
  rw [wk3] at HEV
  go_wp2_with fail
  refine HEV.out.mono ?_
  intro e w11 h
  obtain ⟨cs11, rfl, hv, _, hb⟩ := h.some_
  obtain ⟨A11, B11, ca11, cb11, rfl⟩ := (show VR w11 TT cs11 (.mk 2 0 [] [] []) from hv).atom_cells
  have HH11 := Lib.hid ((HH10.out.keep hb).pop.push 25 #[.int .i64 2, .int .i64 0, .string ⟨#[]⟩, .slice A11 0 ca11, .slice B11 0 cb11] (g := w11.heap.size) rfl)
  clear h hv hb HEV
  obtain ⟨W11, hW11⟩ : ∃ W, w11.alloc (.cells #[.int .i64 2, .int .i64 0, .string ⟨#[]⟩, .slice A11 0 ca11, .slice B11 0 cb11] 25) = W := ⟨_, rfl⟩
  rw [hW11] at HH11
  have HW11 := Lib.hid hW11
  clear hW11
  go_upto_region 4 with fail
  rw [HW11.out]
  go_wp2_with fail
  refine (lNamed ⟨#[100, 111, 99]⟩ _).mono ?_
  rintro e w12 ⟨rfl, hb⟩
  have HH12 := Lib.hid (HH11.out.keep hb)
  clear hb
  go_wp2_with fail
  refine (lNamed ⟨#[120]⟩ _).mono ?_
  rintro e w13 ⟨rfl, hb⟩
  have HH13 := Lib.hid (HH12.out.keep hb)
  clear hb
  go_wp2_with fail
  refine (lNamed ⟨#[105, 100]⟩ _).mono ?_
  rintro e w14 ⟨rfl, hb⟩
  have HH14 := Lib.hid (HH13.out.keep hb)
  clear hb
  obtain ⟨WP, hWP⟩ : ∃ W, ((w14.alloc (.cells #[.int .i64 1, .string ⟨#[]⟩, .int .i64 2, .int .i64 0, .int .i64 0, .string ⟨#[]⟩, .slice none 0 0, .slice none 0 0, .string ⟨#[120]⟩, .slice none 0 0, .int .i64 2, .int .i64 0, .int .i64 0, .string ⟨#[]⟩, .slice none 0 0, .slice none 0 0, .string ⟨#[105, 100]⟩, .slice none 0 0, .slice none 0 0, .slice none 0 0] 69)).alloc (.cells #[.int .i64 3, .string ⟨#[120]⟩, .int .i64 2, .int .i64 0, .int .i64 0, .string ⟨#[]⟩, .slice none 0 0, .slice none 0 0, .string ⟨#[100, 111, 99]⟩, .slice none 0 0, .int .i64 0, .int .i64 0, .int .i64 0, .string ⟨#[]⟩, .slice none 0 0, .slice none 0 0, .string ⟨#[]⟩, .slice none 0 0, .slice (some ⟨w14.heap.size, 0, none⟩) 1 1, .slice none 0 0] 69)).alloc (.cells #[.slice (some ⟨w14.heap.size + 1, 0, none⟩) 1 1] 46) = W := ⟨_, rfl⟩
  have HHP := Lib.hid (show Held (((w14.heap.size + 1 + 1), 46, #[.slice (some ⟨w14.heap.size + 1, 0, none⟩) 1 1]) :: ((w14.heap.size + 1), 69, #[.int .i64 3, .string ⟨#[120]⟩, .int .i64 2, .int .i64 0, .int .i64 0, .string ⟨#[]⟩, .slice none 0 0, .slice none 0 0, .string ⟨#[100, 111, 99]⟩, .slice none 0 0, .int .i64 0, .int .i64 0, .int .i64 0, .string ⟨#[]⟩, .slice none 0 0, .slice none 0 0, .string ⟨#[]⟩, .slice none 0 0, .slice (some ⟨w14.heap.size, 0, none⟩) 1 1, .slice none 0 0]) :: (w14.heap.size, 69, #[.int .i64 1, .string ⟨#[]⟩, .int .i64 2, .int .i64 0, .int .i64 0, .string ⟨#[]⟩, .slice none 0 0, .slice none 0 0, .string ⟨#[120]⟩, .slice none 0 0, .int .i64 2, .int .i64 0, .int .i64 0, .string ⟨#[]⟩, .slice none 0 0, .slice none 0 0, .string ⟨#[105, 100]⟩, .slice none 0 0, .slice none 0 0, .slice none 0 0]) :: _) w WP by
    rw [← hWP]
    exact ((HH14.out.push 69 #[.int .i64 1, .string ⟨#[]⟩, .int .i64 2, .int .i64 0, .int .i64 0, .string ⟨#[]⟩, .slice none 0 0, .slice none 0 0, .string ⟨#[120]⟩, .slice none 0 0, .int .i64 2, .int .i64 0, .int .i64 0, .string ⟨#[]⟩, .slice none 0 0, .slice none 0 0, .string ⟨#[105, 100]⟩, .slice none 0 0, .slice none 0 0, .slice none 0 0] (g := w14.heap.size) rfl).push 69 #[.int .i64 3, .string ⟨#[120]⟩, .int .i64 2, .int .i64 0, .int .i64 0, .string ⟨#[]⟩, .slice none 0 0, .slice none 0 0, .string ⟨#[100, 111, 99]⟩, .slice none 0 0, .int .i64 0, .int .i64 0, .int .i64 0, .string ⟨#[]⟩, .slice none 0 0, .slice none 0 0, .string ⟨#[]⟩, .slice none 0 0, .slice (some ⟨w14.heap.size, 0, none⟩) 1 1, .slice none 0 0] (g := w14.heap.size + 1) (by simp)).push 46 #[.slice (some ⟨w14.heap.size + 1, 0, none⟩) 1 1] (g := w14.heap.size + 1 + 1) (by simp))
  have HWP := Lib.hid hWP
  clear hWP
  have HSR := Lib.hid (show ∀ W, Below WP.heap.size WP W → SRs W TT [[.int .i64 3, .string ⟨#[120]⟩, .int .i64 2, .int .i64 0, .int .i64 0, .string ⟨#[]⟩, .slice none 0 0, .slice none 0 0, .string ⟨#[100, 111, 99]⟩, .slice none 0 0, .int .i64 0, .int .i64 0, .int .i64 0, .string ⟨#[]⟩, .slice none 0 0, .slice none 0 0, .string ⟨#[]⟩, .slice none 0 0, .slice (some ⟨w14.heap.size, 0, none⟩) 1 1, .slice none 0 0]] wpr ∧ RdF W TT (some ⟨w14.heap.size + 1, 0, none⟩) ([[.int .i64 3, .string ⟨#[120]⟩, .int .i64 2, .int .i64 0, .int .i64 0, .string ⟨#[]⟩, .slice none 0 0, .slice none 0 0, .string ⟨#[100, 111, 99]⟩, .slice none 0 0, .int .i64 0, .int .i64 0, .int .i64 0, .string ⟨#[]⟩, .slice none 0 0, .slice none 0 0, .string ⟨#[]⟩, .slice none 0 0, .slice (some ⟨w14.heap.size, 0, none⟩) 1 1, .slice none 0 0]] : List (List Value)).flatten from fun W hW => by
    have hh := HHP.out.keep hW
    have h1 : SR W TT [.int .i64 1, .string ⟨#[]⟩, .int .i64 2, .int .i64 0, .int .i64 0, .string ⟨#[]⟩, .slice none 0 0, .slice none 0 0, .string ⟨#[120]⟩, .slice none 0 0, .int .i64 2, .int .i64 0, .int .i64 0, .string ⟨#[]⟩, .slice none 0 0, .slice none 0 0, .string ⟨#[105, 100]⟩, .slice none 0 0, .slice none 0 0, .slice none 0 0] (.mk 1 [] (xName [120]) (xName idT) [] []) := SR.into (er_name [120]) (er_name idT) (body := []) (els := []) (css := []) (dss := []) RR.nil rfl (Nat.le_refl _) (fun _ => rfl) RdF.nil RR.nil rfl (Nat.le_refl _) (fun _ => rfl) RdF.nil
    have h2 : SR W TT [.int .i64 3, .string ⟨#[120]⟩, .int .i64 2, .int .i64 0, .int .i64 0, .string ⟨#[]⟩, .slice none 0 0, .slice none 0 0, .string ⟨#[100, 111, 99]⟩, .slice none 0 0, .int .i64 0, .int .i64 0, .int .i64 0, .string ⟨#[]⟩, .slice none 0 0, .slice none 0 0, .string ⟨#[]⟩, .slice none 0 0, .slice (some ⟨w14.heap.size, 0, none⟩) 1 1, .slice none 0 0] (.mk 3 [120] (xName docT) eZero [.mk 1 [] (xName [120]) (xName idT) [] []] []) := SR.into (er_name docT) ER.zero (css := [[.int .i64 1, .string ⟨#[]⟩, .int .i64 2, .int .i64 0, .int .i64 0, .string ⟨#[]⟩, .slice none 0 0, .slice none 0 0, .string ⟨#[120]⟩, .slice none 0 0, .int .i64 2, .int .i64 0, .int .i64 0, .string ⟨#[]⟩, .slice none 0 0, .slice none 0 0, .string ⟨#[105, 100]⟩, .slice none 0 0, .slice none 0 0, .slice none 0 0]]) (dss := []) (RR.nil.snoc h1) rfl (Nat.le_refl _) (fun e => by cases e) (by simpa using rdF_blk hh.b2) RR.nil rfl (Nat.le_refl _) (fun _ => rfl) RdF.nil
    exact ⟨RR.nil.snoc h2, by simpa using rdF_blk hh.b1⟩)
  have hcs : camSL wpr := by
    have hz : camE eZero := cam_leaf (by unfold iw; omega) came_z (by simp)
    unfold wpr camSL camS camSL camS
    exact ⟨⟨by unfold iw; omega, by simp, cam_name (by decide), hz, by simp, by simp, ⟨⟨by unfold iw; omega, by simp, cam_name (by decide), cam_name (by decide), by simp, by simp, trivial, trivial⟩, trivial⟩, trivial⟩, trivial⟩
  have hss : smlSL wpr := by
    unfold wpr smlSL smlS smlSL smlS
    exact ⟨⟨sml_leaf, sml_leaf, ⟨⟨sml_leaf, sml_leaf, trivial, trivial⟩, trivial⟩, trivial⟩, trivial⟩
  have HCS := Lib.hid (And.intro hcs hss)
  clear hcs hss
  go_upto_region 5 with fail
  rw [HWP.out]
  have HHV := Lib.hid (HHP.out.push 25 #[.int .i64 3, .int .i64 7, .string ⟨#[]⟩, .slice none 0 0, .slice none 0 0] (g := WP.heap.size) rfl)
  have HMA := Lib.hid (mMap wpr [[.int .i64 3, .string ⟨#[120]⟩, .int .i64 2, .int .i64 0, .int .i64 0, .string ⟨#[]⟩, .slice none 0 0, .slice none 0 0, .string ⟨#[100, 111, 99]⟩, .slice none 0 0, .int .i64 0, .int .i64 0, .int .i64 0, .string ⟨#[]⟩, .slice none 0 0, .slice none 0 0, .string ⟨#[]⟩, .slice none 0 0, .slice (some ⟨w14.heap.size, 0, none⟩) 1 1, .slice none 0 0]] (some ⟨w14.heap.size + 1, 0, none⟩) 1 1 [97] (jArr [jNum 7]) [.int .i64 5, .int .i64 0, .string ⟨#[]⟩, .slice (some ⟨WP.heap.size, 0, none⟩) 1 1, .slice none 0 0] _ (HG.out.keep HHV.out.1) (HSR.out _ ((Below.refl _ WP).alloc (Nat.le_refl _) (.cells #[.int .i64 3, .int .i64 7, .string ⟨#[]⟩, .slice none 0 0, .slice none 0 0] 25))).1 rfl (Nat.le_refl _) (HSR.out _ ((Below.refl _ WP).alloc (Nat.le_refl _) (.cells #[.int .i64 3, .int .i64 7, .string ⟨#[]⟩, .slice none 0 0, .slice none 0 0] 25))).2 HCS.out.1 HCS.out.2 (by omega) (by simp)
    (VR.into 5 0 [] (kids := [jNum 7]) (keys := []) (css := [[.int .i64 3, .int .i64 7, .string ⟨#[]⟩, .slice none 0 0, .slice none 0 0]]) (VRs.nil.snoc (VR.atom 3 7 [])) (Nat.le_refl _) (Nat.le_refl _) (fun e => by cases e) (fun _ => rfl) (by simpa using rdF_blk HHV.out.b0) RdF.nil rfl rfl)
    (came_good (xs := [jNum 7]) (fun x hx => by obtain rfl := List.mem_singleton.1 hx; exact ⟨came_num (by unfold iw; omega), by decide⟩) (by simp)))
  rw [wk4] at HMA
  obtain ⟨c0, f0, l0⟩ := HHP.out.b0.rules
  go_wp2_with fail
  refine HMA.out.mono ?_
  rintro e wA ⟨MA, mn, mcap, ess, rfl, hmn, hmc, _, hem, hrd, _, hbA⟩
  obtain rfl : 1 = mn := hmn
  have HHA := Lib.hid (HHV.out.keep hbA)
  have hbPA : Below WP.heap.size WP wA := ((Below.refl _ WP).alloc (Nat.le_refl _) (.cells #[.int .i64 3, .int .i64 7, .string ⟨#[]⟩, .slice none 0 0, .slice none 0 0] 25)).trans (hbA.mono (by simp))
  have HSA := Lib.hid (HSR.out _ hbPA)
  obtain ⟨ce, hce, hev⟩ := hem.get_ (i := 0) (x := (jNum 7, jText [97])) rfl
  obtain ⟨kcs, vcs, rfl, hk9, hv9⟩ := hev
  obtain ⟨A8, B8, ca8, cb8, rfl⟩ := (show VR wA TT kcs (.mk 3 7 [] [] []) from hk9).atom_cells
  obtain ⟨A9, B9, ca9, cb9, rfl⟩ := (show VR wA TT vcs (.mk 4 0 [97] [] []) from hv9).atom_cells
  obtain ⟨eb, eo, ec, rfl, heb, _, hce2, _, hcell⟩ := hem.cell (fun c x h => h.len) (by decide) hrd (i := 0) (x := (jNum 7, jText [97])) rfl
  rw [hce] at hce2
  obtain rfl := Option.some.inj hce2
  have e1 := hcell 1 (.int .i64 7) (by decide) rfl
  have e7 := hcell 7 (.string ⟨#[97]⟩) (by decide) rfl
  rw [Nat.zero_mul, Nat.zero_add] at e1 e7
  have HEC := Lib.hid (And.intro heb (And.intro e1 e7))
  clear hmc hem hrd hbA hbPA hce hk9 hv9 heb hce2 hcell e1 e7 c0 f0 l0
  have HMB := Lib.hid (mMap wpr [[.int .i64 3, .string ⟨#[120]⟩, .int .i64 2, .int .i64 0, .int .i64 0, .string ⟨#[]⟩, .slice none 0 0, .slice none 0 0, .string ⟨#[100, 111, 99]⟩, .slice none 0 0, .int .i64 0, .int .i64 0, .int .i64 0, .string ⟨#[]⟩, .slice none 0 0, .slice none 0 0, .string ⟨#[]⟩, .slice none 0 0, .slice (some ⟨w14.heap.size, 0, none⟩) 1 1, .slice none 0 0]] (some ⟨w14.heap.size + 1, 0, none⟩) 1 1 [65] (.mk 1 0 [] [] []) [.int .i64 1, .int .i64 0, .string ⟨#[]⟩, .slice none 0 0, .slice none 0 0] wA (HG.out.keep HHA.out.1) HSA.out.1 rfl (Nat.le_refl _) HSA.out.2 HCS.out.1 HCS.out.2 (by omega) (by simp) (VR.atom 1 0 []) (came_atom (by unfold iw; omega) (by unfold iw; omega) (by simp)))
  rw [wk5] at HMB
  obtain ⟨c0, f0, l0⟩ := HHA.out.b1.rules
  go_wp2_with fail
  refine HMB.out.mono ?_
  rintro e wB ⟨MB2, mn2, mcap2, ess2, rfl, hmn2, _, _, _, _, _, hbB⟩
  have HHB := Lib.hid (HHA.out.keep hbB)
  have heb : eb < wB.heap.size := Nat.lt_of_lt_of_le HEC.out.1 hbB.size
  have e1 := (hbB.cell (p := ⟨eb, eo + 1, none⟩) HEC.out.1).trans HEC.out.2.1
  have e7 := (hbB.cell (p := ⟨eb, eo + 7, none⟩) HEC.out.1).trans HEC.out.2.2
  clear hbB c0 f0 l0
  obtain ⟨c1, f1, l1⟩ := HHB.out.b6.rules
  obtain ⟨c5, f5, l5⟩ := HHB.out.b4.rules
  go_wp2
  go_ret
  exact ⟨rfl, HHB.out.1⟩
end Go.Proofs.YtgolomgmnanbpaaGreatDoor
namespace Go.Proofs.YtgolomgmnanbpaaGreatDoor
set_option linter.unusedVariables false
set_option linter.unusedSimpArgs false
open Go.RowKit
attribute [local go_sem] run_index_arr run_part_agg run_part_one run_field_agg
end Go.Proofs.YtgolomgmnanbpaaGreatDoor
namespace Go.Proofs.YtgolomgmnanbpaaGreatDoor
set_option linter.unusedVariables false
set_option linter.unusedSimpArgs false
open Go.RowKit
attribute [local go_sem] run_index_arr run_part_agg run_part_one run_field_agg
end Go.Proofs.YtgolomgmnanbpaaGreatDoor
namespace Go.Proofs.YtgolomgmnanbpaaGreatDoor
set_option linter.unusedVariables false
set_option linter.unusedSimpArgs false
open Go.RowKit
attribute [local go_sem] run_index_arr run_part_agg run_part_one run_field_agg
end Go.Proofs.YtgolomgmnanbpaaGreatDoor
namespace Go.Proofs.YtgolomgmnanbpaaGreatDoor
set_option linter.unusedVariables false
set_option linter.unusedSimpArgs false
open Go.RowKit
attribute [local go_sem] run_index_arr run_part_agg run_part_one run_field_agg
section
variable {w W W' : World} {g cap : Nat} {A : Option Addr} {l : List UInt8} {p many why : Int} {ov t0 t1 t2 t3 t4 : Value}
end
end Go.Proofs.YtgolomgmnanbpaaGreatDoor
namespace Go.Proofs.YtgolomgmnanbpaaGreatDoor
set_option linter.unusedVariables false
set_option linter.unusedSimpArgs false
open Go.RowKit
attribute [local go_sem] run_index_arr run_part_agg run_part_one run_field_agg
section
variable {W W' : World} {F : Nat → Prop} {A : Option Addr} {xs : List Value}
theorem RdF.take (h : RdF W F A xs) (k : Nat) : RdF W F A (xs.take k) := fun hn => by
  have hne : xs ≠ [] := fun e => hn (by simp [e])
  obtain ⟨b, o, rfl, hb, hf, hx⟩ := h hne
  exact ⟨b, o, rfl, hb, hf, fun i hi => by simp at hi; have := hx i (by omega); rw [this]; simp⟩
theorem RdF.cells {a : Addr} (h : RdF W F (some a) xs) : ∀ (j : Nat) (u : Value), xs[j]? = some u → W.cell? (a.add j) = some u := fun j u hu => by
  obtain ⟨ad, e, hc⟩ := h.rd.at_ (by intro e; rw [e] at hu; simp at hu)
  obtain rfl : a = ad := by simpa using e
  exact hc j u hu
theorem RdF.of_own {B : Nat} {e : TypeId} {size n : Nat} {v : Value} (h : W.ownsRow B e size v n xs) (hF : ∀ b, B ≤ b → F b) : ∃ A cap, v = .slice A n cap ∧ n ≤ cap ∧ (A = none → cap = 0) ∧ RdF W F A xs := by
  rcases h.2 with ⟨rfl, h0⟩ | ⟨g, cap, cur, rfl, hB, hg, hnc, _, _, _⟩
  · subst h0
    have : xs = [] := List.eq_nil_of_length_eq_zero (by simpa using h.1)
    subst this
    exact ⟨none, 0, rfl, Nat.le_refl _, fun _ => rfl, RdF.nil⟩
  · refine ⟨_, cap, rfl, hnc, (fun h => by cases h), fun _ => ⟨g, 0, rfl, (Array.getElem?_eq_some_iff.1 hg).1, hF g hB, fun i hi => ?_⟩⟩
    have := h.cells (g := g) rfl i xs[i] (List.getElem?_eq_getElem hi)
    rw [Nat.zero_add, ← this]; unfold Addr.add
    split
    · rename_i h0; subst h0; rfl
    · simp
end
end Go.Proofs.YtgolomgmnanbpaaGreatDoor
namespace Go.Proofs.YtgolomgmnanbpaaGreatDoor
set_option linter.unusedVariables false
set_option linter.unusedSimpArgs false
open Go.RowKit
attribute [local go_sem] run_index_arr run_part_agg run_part_one run_field_agg
def TwoB (w : World) (t : TypeId) (cs cs' : Array Value) (wr : World) : Prop := Blk wr w.heap.size t cs ∧ Blk wr (w.heap.size + 1) t cs' ∧ Below w.heap.size w wr
theorem TwoB.new (w : World) (t : TypeId) (cs cs' : Array Value) : TwoB w t cs cs' ((w.alloc (.cells cs t)).alloc (.cells cs' t)) := by
  refine ⟨(Blk.new w t cs).alloc _, ?_, ((Below.refl _ w).alloc (Nat.le_refl _) _).alloc (by simp) _⟩
  have := Blk.new (w.alloc (.cells cs t)) t cs'
  rw [World.size_alloc] at this; exact this
theorem TwoB.keep {w wr wx : World} {t : TypeId} {cs cs' : Array Value} (h : TwoB w t cs cs' wr) (hb : Below wr.heap.size wr wx) : TwoB w t cs cs' wx := ⟨h.1.keep hb, h.2.1.keep hb, h.2.2.trans (hb.mono h.2.2.size)⟩
theorem TwoB.drewN {w wr : World} {t : TypeId} {cs cs' : Array Value} (h : TwoB w t cs cs' wr) (k : Nat) : TwoB w t cs cs' (wr.drewN k) := ⟨h.1.drewN k, h.2.1.drewN k, bel_drewN h.2.2 k⟩
theorem TwoB.drew {w wr : World} {t : TypeId} {cs cs' : Array Value} (h : TwoB w t cs cs' wr) : TwoB w t cs cs' wr.drew := ⟨h.1.drew, h.2.1.drew, h.2.2.drew⟩
def EqS (p : Prop) (w : World) (e : Ending) (w' : World) : Prop := ∃ t : Bool, e = .returned (.bool t) ∧ (t = true ↔ p) ∧ Below w.heap.size w w'
theorem EqS.no {p : Prop} {w w' : World} (h : ¬ p) (hb : Below w.heap.size w w') : EqS p w (.returned (.bool false)) w' := ⟨false, rfl, by simp [h], hb⟩
end Go.Proofs.YtgolomgmnanbpaaGreatDoor
namespace Go.Proofs.YtgolomgmnanbpaaGreatDoor
set_option linter.unusedVariables false
set_option linter.unusedSimpArgs false
open Go.RowKit Go.Shelf
attribute [local go_sem] run_index_arr run_part_agg run_part_one run_field_agg
end Go.Proofs.YtgolomgmnanbpaaGreatDoor
namespace Go.Proofs.YtgolomgmnanbpaaGreatDoor
set_option linter.unusedVariables false
set_option linter.unusedSimpArgs false
open Go.RowKit
attribute [local go_sem] run_index_arr run_part_agg run_part_one run_field_agg
theorem kid_cellsM {W : World} {F : Nat → Prop} {css : List (List Value)} {xs : List (JV × JV)} {A : Option Addr} (h : EmRs W F css xs) (hr : RdF W F A css.flatten) {i : Nat} {x : JV × JV} (hx : xs[i]? = some x) :
    ∃ (b o : Nat) (k n : Int) (s : ByteArray) (A1 : Option Addr) (na ca : Nat) (B1 : Option Addr) (nb cb : Nat) (k' n' : Int) (s' : ByteArray) (A1' : Option Addr) (na' ca' : Nat) (B1' : Option Addr) (nb' cb' : Nat), A = some ⟨b, o, none⟩ ∧ b < W.heap.size ∧
      VR W F [.int .i64 k, .int .i64 n, .string s, .slice A1 na ca, .slice B1 nb cb] x.1 ∧ VR W F [.int .i64 k', .int .i64 n', .string s', .slice A1' na' ca', .slice B1' nb' cb'] x.2 ∧
      ∀ W', Below W.heap.size W W' → (W'.cell? ⟨b, o + i * 10, none⟩ = some (.int .i64 k) ∧ W'.cell? ⟨b, o + i * 10 + 1, none⟩ = some (.int .i64 n) ∧ W'.cell? ⟨b, o + i * 10 + 2, none⟩ = some (.string s) ∧ W'.cell? ⟨b, o + i * 10 + 3, none⟩ = some (.slice A1 na ca) ∧
        W'.cell? ⟨b, o + i * 10 + 4, none⟩ = some (.slice B1 nb cb)) ∧ (W'.cell? ⟨b, o + i * 10 + 5, none⟩ = some (.int .i64 k') ∧ W'.cell? ⟨b, o + i * 10 + 6, none⟩ = some (.int .i64 n') ∧ W'.cell? ⟨b, o + i * 10 + 7, none⟩ = some (.string s') ∧
        W'.cell? ⟨b, o + i * 10 + 8, none⟩ = some (.slice A1' na' ca') ∧ W'.cell? ⟨b, o + i * 10 + 9, none⟩ = some (.slice B1' nb' cb')) := by
  obtain ⟨b, o, c, rfl, hb, _, hc, hv, hz⟩ := h.cell (fun c x h => h.len) (by decide) hr hx
  obtain ⟨c1, c2, rfl, hv1, hv2⟩ := hv
  obtain ⟨k, n, s, A1, na, ca, B1, nb, cb, rfl⟩ := hv1.form
  obtain ⟨k', n', s', A1', na', ca', B1', nb', cb', rfl⟩ := hv2.form
  refine ⟨b, o, k, n, s, A1, na, ca, B1, nb, cb, k', n', s', A1', na', ca', B1', nb', cb', rfl, hb, hv1, hv2, fun W' hW => ?_⟩
  have z := fun (j : Nat) u (hj : j < 10) hu => (hW.cell (p := ⟨b, o + (i * 10 + j), none⟩) hb).trans (hz j u hj hu)
  exact ⟨⟨z 0 _ (by decide) rfl, z 1 _ (by decide) rfl, z 2 _ (by decide) rfl, z 3 _ (by decide) rfl, z 4 _ (by decide) rfl⟩, z 5 _ (by decide) rfl, z 6 _ (by decide) rfl, z 7 _ (by decide) rfl, z 8 _ (by decide) rfl, z 9 _ (by decide) rfl⟩
end Go.Proofs.YtgolomgmnanbpaaGreatDoor
namespace Go.Proofs.YtgolomgmnanbpaaGreatDoor
set_option linter.unusedVariables false
set_option linter.unusedSimpArgs false
open Go.RowKit
attribute [local go_sem] run_index_arr run_part_agg run_part_one run_field_agg
mutual
theorem cam_locE : ∀ (x : EJ), locE 4194304 x → camE x
  | .mk k v s kids, h => by
    unfold locE at h
    obtain ⟨_, h1, h2, h3, h4, h5, h6⟩ := h
    unfold camE
    exact ⟨h1, Came.of h2 h3, h4, h5, cam_locEL kids h6⟩
theorem cam_locEL : ∀ (l : List EJ), locEL 4194304 l → camEL l
  | [], _ => trivial
  | x :: r, h => by unfold locEL at h; unfold camEL; exact ⟨cam_locE x h.1, cam_locEL r h.2⟩
end
mutual
theorem cam_locS : ∀ (x : SJ), locS 4194304 x → camS x
  | .mk k s a b body els, h => by
    unfold locS at h
    obtain ⟨_, h1, h2, h3, h4, h5, h6, h7, h8⟩ := h
    unfold camS
    exact ⟨h1, h2, cam_locE a h3, cam_locE b h4, h5, h6, cam_locSL body h7, cam_locSL els h8⟩
theorem cam_locSL : ∀ (l : List SJ), locSL 4194304 l → camSL l
  | [], _ => trivial
  | x :: r, h => by unfold locSL at h; unfold camSL; exact ⟨cam_locS x h.1, cam_locSL r h.2⟩
end
theorem cam_locSA {l : List SJ} (h : ∀ v ∈ l, locS 4194304 v) : camSL l := cam_locSL l (locSL_iff.2 h)
theorem prn_good {v : JV} (hg : good v = true) (h : (canJ v).length ≤ 100) : prnR v = (canJ v, 0) := by
  unfold prnR
  rw [if_pos hg, if_neg (by omega)]
theorem mapJ_out (l : List SJ) (id : List UInt8) (v : JV) : (∃ q, mapJ l id v = ([], q) ∧ (q = 332 ∨ q = 290 ∨ q = 140)) ∨
    (mapJ l id v).2 = 0 ∧ (mapJ l id v).1.length ≤ 4 ∧ ∀ y ∈ (mapJ l id v).1, good y.1 = true ∧ good y.2 = true ∧ (codeJ y.1).length ≤ 90 ∧ (canJ y.2).length ≤ 100 := by
  unfold mapJ
  by_cases h1 : mayP l = false
  · rw [if_pos h1]; exact .inl ⟨332, rfl, .inl rfl⟩
  rw [if_neg h1]
  by_cases h2 : idOk id = false
  · rw [if_pos h2]; exact .inl ⟨290, rfl, .inr (.inl rfl)⟩
  rw [if_neg h2]
  by_cases h3 : good v = false
  · rw [if_pos h3]; exact .inl ⟨140, rfl, .inr (.inr rfl)⟩
  rw [if_neg h3]
  right
  have hgt : good (jText id) = true := by
    have h1 := idOk_txt (show idOk id = true by simpa using h2)
    unfold good jText goodJ goodA nodesJ nodesL goodL
    simp [h1]
  have h := (goL_ok l (envM id v) 12 (0, []) (fun b hb => by
    rcases List.mem_cons.1 hb with rfl | hb
    · simpa using h3
    · obtain rfl := List.mem_singleton.1 hb; exact hgt) (by unfold mayP at h1; simpa using h1) ⟨by show 0 ≤ 4; omega, by show 0 ≤ 256; omega, fun e he => by cases he⟩).1
  exact ⟨rfl, h.1, h.2.2⟩
set_option maxRecDepth 100000 in
set_option maxHeartbeats 16000000 in
theorem vevalMay_any (A : Option Addr) (ca : Nat) (l : List SJ) (s1 : ByteArray) (cs2 : Array Value) (x2 : JV) (w : World) (hG : GOE w) (hS0 : RowS w A ca l) (hL : ∀ v ∈ l, locS 4194304 v) (hn0 : l.length ≤ 4194304) (h1 : s1.size ≤ maxLen) (h2 : VR w TT cs2.toList x2) (c2 : Came x2) :
    Calls Tryz.prog 9 #[.agg #[.slice A l.length ca], .string s1, .agg cs2] w (BoolS true w) := by
  obtain ⟨l2, rfl⟩ : ∃ l : List Value, cs2 = l.toArray := ⟨cs2.toList, by simp⟩
  replace h2 : VR w TT l2 x2 := by simpa using h2
  obtain ⟨css, hS, hnc, hA, hR⟩ := hS0
  obtain ⟨n, hn⟩ : ∃ n, l.length = n := ⟨_, rfl⟩
  rw [hn] at hnc hn0 ⊢
  have hcl := cam_locSA hL
  have HFW := Lib.hid (fun (W : World) (hb : Below w.heap.size w W) => lFew (fun b => b < w.heap.size) l A n ca css W (fun b hb' => Nat.lt_of_lt_of_le hb' hb.size) (RR.imp hS fun c x hc => (hc.mono (F' := fun b => b < w.heap.size) fun b hb' _ => hb').bel hb) ((hR.mono (F' := fun b => b < w.heap.size) fun b hb' _ => hb').keep (KeepF.of_below hb)) hn hnc hcl hn0)
  obtain ⟨r, hr⟩ : ∃ r, mapJ (cutS 6 l) ((sl s1).take 60) x2 = r := ⟨_, rfl⟩
  have hlen6 := cutS_len 6 l
  have HMAP := Lib.hid (fun (W : World) (A3 : Option Addr) (n3 ca3 : Nat) (css3 : List (List Value)) (hb : Below w.heap.size w W) (h3 : SRs W TT css3 (cutS 6 l)) (hR3 : RdF W TT A3 css3.flatten) (hl3 : (cutS 6 l).length = n3) (hc3 : n3 ≤ ca3) =>
    show Calls Tryz.prog 21 #[.agg #[.slice A3 n3 ca3], .string ⟨((sl s1).take 60).toArray⟩, .agg l2.toArray] W (MapP r W) by
      rw [← hr]
      exact mMap (cutS 6 l) css3 A3 n3 ca3 ((sl s1).take 60) x2 l2 W (hG.keep hb) h3 hl3 hc3 hR3 (cam_cutS 6 l hcl) (sml_cutS 6 l) (by omega) (by simp; omega) (h2.bel hb) c2)
  have HCUT := Lib.hid (fun (W : World) => lCut s1 60 W rfl h1)
  have HOUT := Lib.hid (show (∃ q, r = ([], q) ∧ (q = 332 ∨ q = 290 ∨ q = 140)) ∨ r.2 = 0 ∧ r.1.length ≤ 4 ∧ ∀ y ∈ r.1, good y.1 = true ∧ good y.2 = true ∧ (codeJ y.1).length ≤ 90 ∧ (canJ y.2).length ≤ 100 by rw [← hr]; exact mapJ_out _ _ _)
  obtain ⟨k2, n2, s2, A2, na2, ca2, B2, nb2, cb2, rfl⟩ := h2.form
  have HG := Lib.hid hG
  have HH0 := Lib.hid (((Held.nil w).push 46 #[.slice A n ca] (g := w.heap.size) rfl).push 25 #[.int .i64 k2, .int .i64 n2, .string s2, .slice A2 na2 ca2, .slice B2 nb2 cb2] (g := w.heap.size + 1) (by simp))
  clear hG hS hnc hA hR hn hcl hr h1 h2 c2 hL hn0 hlen6
  go_enter Tryz.func9, Tryz.ntmps9
  go_wp2_with fail
  refine (lWakes _ (HG.out.keep HH0.out.1)).mono ?_
  rintro e w1 ⟨rfl, hb1⟩
  have HH1 := Lib.hid (HH0.out.keep hb1)
  clear hb1 HH0
  go_upto_region 3 with fail
  refine wp_region_held_drew (S := fun W' => Blk W' w.heap.size 46 #[.slice A n ca] ∧ Blk W' (w.heap.size + 1) 25 #[.int .i64 k2, .int .i64 n2, .string s2, .slice A2 na2 ca2, .slice B2 nb2 cb2]) (by kernel_rfl) (by exact ⟨HH1.out.b1.drew, HH1.out.b0.drew⟩) (fun hHeld => ?_)
  refine wpAnyH_worldM (fun w2 hw2 => ?_)
  have HH2 := Lib.hid (show Held [(w.heap.size + 1, 25, #[.int .i64 k2, .int .i64 n2, .string s2, .slice A2 na2 ca2, .slice B2 nb2 cb2]), (w.heap.size, 46, #[.slice A n ca])] w w2 by rw [hw2]; exact HH1.out.drew)
  clear hw2 hHeld
  have hHeld := And.intro HH2.out.b1 HH2.out.b0
  refine wpAnyH_take (i := 0) (oi := ⟨some 18, _, _, _, _, _⟩) (v := .agg #[.slice A n ca]) rfl (by kernel_rfl) (by kernel_rfl) (by kernel_rfl) (fun _ _ _ h => h) (Or.inl ⟨by kernel_rfl, ?_⟩) (by assumption) ?_
  · intro W hSw; obtain ⟨c8, f8, l8⟩ := hSw.1.rules; go_simp
  try simp only [Act.put, List.setIfInBounds_toArray, List.set_cons_zero, List.set_cons_succ]
  refine wpAnyH_take (i := 2) (oi := ⟨some 20, _, _, _, _, _⟩) (v := .string s1) rfl (by kernel_rfl) (by kernel_rfl) (by kernel_rfl) (fun _ _ _ h => h) (Or.inl ⟨by kernel_rfl, ?_⟩) (by assumption) ?_
  · intro W hSw; go_simp
  try simp only [Act.put, List.setIfInBounds_toArray, List.set_cons_zero, List.set_cons_succ]
  refine wpAnyH_take (i := 4) (oi := ⟨some 22, _, _, _, _, _⟩) (v := .agg #[.int .i64 k2, .int .i64 n2, .string s2, .slice A2 na2 ca2, .slice B2 nb2 cb2]) rfl (by kernel_rfl) (by kernel_rfl) (by kernel_rfl) (fun _ _ _ h => h) (Or.inl ⟨by kernel_rfl, ?_⟩) (by assumption) ?_
  · intro W hSw; obtain ⟨c8, f8, l8⟩ := hSw.2.rules; go_simp
  try simp only [Act.put, List.setIfInBounds_toArray, List.set_cons_zero, List.set_cons_succ]
  refine wpAnyH_ready (rs := [1]) (by kernel_rfl) (by simp) ?_
  refine AllReadyH.cons (o := ⟨some 19, _, _, _, _, _⟩) rfl (fun K hK => ?_) AllReadyH.nil
  go_simp
  refine (HFW.out _ HH2.out.1).mono ?_
  rintro e w3 ⟨A3, n3, ca3, css3, rfl, hn3, hnc3, hA3, hS3, hR3, hb3⟩
  have HH3 := Lib.hid (HH2.out.keep hb3)
  have HMP := Lib.hid (fun (W : World) (hb : Below w3.heap.size w3 W) => HMAP.out W A3 n3 ca3 css3 (HH3.out.1.trans (hb.mono HH3.out.1.size)) (RR.imp hS3 fun c x hc => (hc.mono (F' := TT) fun _ _ _ => trivial).bel hb) ((hR3.mono (F' := TT) fun _ _ _ => trivial).keep (KeepF.of_below hb)) hn3.symm hnc3)
  clear hn3 hnc3 hA3 hS3 hR3 hb3
  refine hK.out _ _ (by exact ⟨HH3.out.b1, HH3.out.b0⟩) (fun hHeld2 => ?_)
  clear hK K hHeld
  have hHeld := hHeld2
  clear hHeld2
  try simp only [Act.put, List.setIfInBounds_toArray, List.set_cons_zero, List.set_cons_succ]
  refine wpAnyH_ready (rs := [3]) (by kernel_rfl) (by simp) ?_
  refine AllReadyH.cons (o := ⟨some 21, _, _, _, _, _⟩) rfl (fun K hK => ?_) AllReadyH.nil
  go_simp
  refine (HCUT.out _).mono ?_
  rintro e w4 ⟨rfl, rfl⟩
  refine hK.out _ _ (by exact ⟨HH3.out.b1, HH3.out.b0⟩) (fun hHeld2 => ?_)
  clear hK K hHeld
  have hHeld := hHeld2
  clear hHeld2
  try simp only [Act.put, List.setIfInBounds_toArray, List.set_cons_zero, List.set_cons_succ]
  refine wpAnyH_ready (rs := [5]) (by kernel_rfl) (by simp) ?_
  refine AllReadyH.cons (o := ⟨some 23, _, _, _, _, _⟩) rfl (fun K hK => ?_) AllReadyH.nil
  go_simp
  refine (HMP.out _ (Below.refl _ _)).mono ?_
  rintro e w5 ⟨A5, n5, ca5, css5, rfl, hl5, hnc5, hA5, hE5, hR5, hC5, hb5⟩
  have HH5 := Lib.hid (HH3.out.keep hb5)
  have HEM := Lib.hid (And.intro hl5 (And.intro hE5 (And.intro hR5 hC5)))
  clear hl5 hnc5 hA5 hE5 hR5 hC5 hb5
  refine hK.out _ _ (by exact ⟨HH5.out.b1, HH5.out.b0⟩) (fun hHeld2 => ?_)
  clear hK K hHeld
  have hHeld := hHeld2
  clear hHeld2
  try simp only [Act.put, List.setIfInBounds_toArray, List.set_cons_zero, List.set_cons_succ]
  refine wpAnyH_take (i := 6) (oi := ⟨some 17, _, _, _, _, _⟩) (v := .tuple #[.slice A5 n5 ca5, .int .i64 r.2]) rfl (by kernel_rfl) (by kernel_rfl) (by kernel_rfl) (fun _ _ _ h => h) (Or.inl ⟨by kernel_rfl, ?_⟩) (by assumption) ?_
  · intro W hSw; go_simp
  try simp only [Act.put, List.setIfInBounds_toArray, List.set_cons_zero, List.set_cons_succ]
  refine wpAnyH_take (i := 7) (oi := ⟨some 24, _, _, _, _, _⟩) (v := .slice A5 n5 ca5) rfl (by kernel_rfl) (by kernel_rfl) (by kernel_rfl) (fun _ _ _ h => h) (Or.inl ⟨by kernel_rfl, ?_⟩) (by assumption) ?_
  · intro W hSw; go_simp
  try simp only [Act.put, List.setIfInBounds_toArray, List.set_cons_zero, List.set_cons_succ]
  refine wpAnyH_take (i := 8) (oi := ⟨some 25, _, _, _, _, _⟩) (v := .int .i64 r.2) rfl (by kernel_rfl) (by kernel_rfl) (by kernel_rfl) (fun _ _ _ h => h) (Or.inl ⟨by kernel_rfl, ?_⟩) (by assumption) ?_
  · intro W hSw; go_simp
  try simp only [Act.put, List.setIfInBounds_toArray, List.set_cons_zero, List.set_cons_succ]
  refine wpAnyH_take (i := 9) (oi := ⟨some 7, _, _, _, _, _⟩) (v := .slice A5 n5 ca5) rfl (by kernel_rfl) (by kernel_rfl) (by kernel_rfl) (fun _ _ _ h => h) (Or.inl ⟨by kernel_rfl, ?_⟩) (by assumption) ?_
  · intro W hSw; go_simp
  try simp only [Act.put, List.setIfInBounds_toArray, List.set_cons_zero, List.set_cons_succ]
  refine wpAnyH_take (i := 10) (oi := ⟨some 8, _, _, _, _, _⟩) (v := .int .i64 r.2) rfl (by kernel_rfl) (by kernel_rfl) (by kernel_rfl) (fun _ _ _ h => h) (Or.inl ⟨by kernel_rfl, ?_⟩) (by assumption) ?_
  · intro W hSw; go_simp
  try simp only [Act.put, List.setIfInBounds_toArray, List.set_cons_zero, List.set_cons_succ]
  refine wpAnyH_done (by kernel_rfl) ?_ _
  clear hHeld
  rcases HOUT.out with ⟨q, hq, hq3⟩ | ⟨hr2, hr4, hrg⟩
  · subst hq
    obtain rfl : 0 = n5 := HEM.out.1
    rcases hq3 with rfl | rfl | rfl
    all_goals
      go_wp2
      go_ret
      exact ⟨rfl, HH5.out.1⟩
  · obtain ⟨ems, r2⟩ := r
    obtain rfl : r2 = 0 := hr2
    have HRG := Lib.hid (show ∀ y ∈ ems, good y.1 = true ∧ good y.2 = true ∧ (codeJ y.1).length ≤ 90 ∧ (canJ y.2).length ≤ 100 from hrg)
    have HLN := Lib.hid (show ems.length = n5 from HEM.out.1)
    have hn5 : n5 ≤ 4 := by have := HLN.out; have : ems.length ≤ 4 := hr4; omega
    clear hr4 hrg HOUT
    go_upto_region 7 with fail
    go_loopg [45] n5 (fun gk s45 wr => ∃ (i : Nat), i ≤ n5 ∧ gk = n5 - i ∧ s45 = .int .i64 (i : Int) ∧ Hid (Below w5.heap.size w5 wr))
    case atStart => exact ⟨0, Nat.zero_le _, by go_num, rfl, Lib.hid (Below.refl _ _)⟩
    case round =>
      obtain ⟨i, hin, hgk, rfl, HWR⟩ := hrel
      have HGK := Lib.hid hgk
      clear hgk
      by_cases hlt : i < n5
      · obtain ⟨x, hx⟩ : ∃ x, ems[i]? = some x := ⟨_, List.getElem?_eq_getElem (by rw [HLN.out]; omega)⟩
        have hxm := List.mem_of_getElem? hx
        obtain ⟨b1, o1, k1, n1, s1', A1, na1, ca1, B1, nb1, cb1, k3, n3', s3, A3', na3, ca3', B3, nb3, cb3, rfl, hb1, hv1, hv3, hz1⟩ := kid_cellsM HEM.out.2.1 HEM.out.2.2.1 hx
        obtain ⟨⟨z0, z1, z2, z3, z4⟩, z5, z6, z7, z8, z9⟩ := hz1 wr HWR.out
        have hp1 : b1 < wr.heap.size := Nat.lt_of_lt_of_le hb1 HWR.out.size
        have HXG := Lib.hid (HRG.out x hxm)
        have HGW := Lib.hid (fun (W : World) (h : Below wr.heap.size wr W) => (HG.out.keep ((HH5.out.1.trans (HWR.out.mono HH5.out.1.size)).trans (h.mono (HH5.out.1.trans (HWR.out.mono HH5.out.1.size)).size))).gok)
        have HEN := Lib.hid (fun (W : World) (h : Below wr.heap.size wr W) => kEncode x.1 [.int .i64 k1, .int .i64 n1, .string s1', .slice A1 na1 ca1, .slice B1 nb1 cb1] TT W (HGW.out W h) ((hv1.bel HWR.out).bel h) (HEM.out.2.2.2 x hxm).1)
        have HPR := Lib.hid (fun (W : World) (h : Below wr.heap.size wr W) => pPrn_is (prn_good HXG.out.2.1 HXG.out.2.2.2) ((hv3.bel HWR.out).bel h) (HGW.out W h) (HEM.out.2.2.2 x hxm).2)
        have HHE := Lib.hid ((Held.nil wr).push 75 #[.int .i64 k1, .int .i64 n1, .string s1', .slice A1 na1 ca1, .slice B1 nb1 cb1, .int .i64 k3, .int .i64 n3', .string s3, .slice A3' na3 ca3', .slice B3 nb3 cb3] (g := wr.heap.size) rfl)
        obtain ⟨c0, f0, l0⟩ := HHE.out.b0.rules
        clear hz1 hv1 hv3 hx hxm hb1
        go_wp2_with fail
        refine (HEN.out _ HHE.out.1).mono ?_
        rintro e w7 ⟨A7, n7, ca7, er7, rfl, hg7, _, hb7⟩
        obtain ⟨rfl, hn7⟩ := hg7 HXG.out.1
        have hn90 : n7 ≤ 90 := by rw [hn7]; exact HXG.out.2.2.1
        have HH7 := Lib.hid (HHE.out.keep hb7)
        clear hg7 hn7 hb7 c0 f0 l0 z0 z1 z2 z3 z4 z5 z6 z7 z8 z9
        obtain ⟨c0, f0, l0⟩ := HH7.out.b0.rules
        go_wp2_with fail
        refine (HPR.out _ HH7.out.1).mono ?_
        rintro e w8 ⟨rfl, hb8⟩
        have HH8 := Lib.hid (HH7.out.keep hb8)
        obtain ⟨sb, hsb⟩ : ∃ b : ByteArray, (⟨(canJ x.2).toArray⟩ : ByteArray) = b := ⟨_, rfl⟩
        have hs100 : sb.size ≤ 100 := by rw [← hsb]; simpa [ByteArray.size] using HXG.out.2.2.2
        simp only []
        rw [hsb]
        clear hb8 c0 f0 l0 hsb
        go_wp2
        go_roundg (n5 - (i + 1))
        case measure => have := HGK.out; omega
        case rel => exact ⟨i + 1, by omega, rfl, by go_num, Lib.hid (HWR.out.trans (HH8.out.1.mono HWR.out.size))⟩
      · obtain rfl : i = n5 := by omega
        have hi4 : (i : Int) ≤ 4 := by omega
        have hd4 : decide ((i : Int) ≤ 4) = true := decide_eq_true hi4
        go_wp2
        go_ret
        exact ⟨rfl, HH5.out.1.trans (HWR.out.mono HH5.out.1.size)⟩
end Go.Proofs.YtgolomgmnanbpaaGreatDoor
