import Derived.Test.YtgolomgmnanbpaaGreatDoorX23
import Derived.Test.YtgolomgmnanbpaaGreatDoorX08
import Derived.Test.YtgolomgmnanbpaaGreatDoorX03
import Derived.Test.YtgolomgmnanbpaaGreatDoorX05
import Derived.Test.YtgolomgmnanbpaaGreatDoorX01
import Derived.Deep.RegionHeld3
import Derived.Deep.RegionLawGrows
import Derived.Test.YtgolomgmnanbpaaGreatDoorX04
import Derived.Test.YtgolomgmnanbpaaGreatDoorX09
import Derived.Test.YtgolomgmnanbpaaGreatDoorX07
namespace Go.Proofs.YtgolomgmnanbpaaGreatDoor
set_option linter.unusedVariables false
set_option linter.unusedSimpArgs false
open Go.RowKit
attribute [local go_sem] run_index_arr run_part_agg run_part_one run_field_agg
set_option maxRecDepth 100000 in
set_option maxHeartbeats 4000000 in
theorem lOf25 (k : Int) (A : Option Addr) (n c : Nat) (w : World) : Calls Tryz.prog 28 #[.int .i64 k, .slice A n c] w (CelP #[.int .i64 k, .int .i64 0, .int .i64 0, .string ⟨#[]⟩, .slice none 0 0, .slice none 0 0, .string ⟨#[]⟩, .slice A n c] w) := by
  go_enter Tryz.func28, Tryz.ntmps28
  go_wp2
  refine bodyPost_ret (v := .agg #[.int .i64 k, .int .i64 0, .int .i64 0, .string ⟨#[]⟩, .slice none 0 0, .slice none 0 0, .string ⟨#[]⟩, .slice A n c]) (by simp only [results, Tryz.results28]; go_simp) rfl ?_
  exact ⟨rfl, by go_grown⟩
theorem rdF_blk {w : World} {g : Nat} {t : TypeId} {l : List Value} (h : Blk w g t l.toArray) : RdF w TT (some ⟨g, 0, none⟩) l := fun hne =>
  ⟨g, 0, rfl, h.lt, trivial, fun i hi => by rw [Nat.zero_add, h.cell]; simp [hi]⟩
theorem er_two {w : World} {c1 c2 : List Value} {x1 x2 : EJ} {g : Nat} (k : Int) (h1 : ER w TT c1 x1) (h2 : ER w TT c2 x2) (hb : Blk w g 28 (c1 ++ c2).toArray) : ER w TT [.int .i64 k, .int .i64 0, .int .i64 0, .string ⟨#[]⟩, .slice none 0 0, .slice none 0 0, .string ⟨#[]⟩, .slice (some ⟨g, 0, none⟩) 2 2] (xOf k [x1, x2]) :=
  ER.into (kids := [x1, x2]) (css := [c1, c2]) (s := []) VR.zero ((RR.nil.snoc h1).snoc h2) rfl (Nat.le_refl _) (fun e => by cases e) (by simpa using rdF_blk hb)
theorem er_name {w : World} (s : List UInt8) : ER w TT [.int .i64 2, .int .i64 0, .int .i64 0, .string ⟨#[]⟩, .slice none 0 0, .slice none 0 0, .string ⟨s.toArray⟩, .slice none 0 0] (xName s) := ER.leaf 2 s VR.zero
theorem er_int {w : World} (n : Int) : ER w TT [.int .i64 1, .int .i64 3, .int .i64 n, .string ⟨#[]⟩, .slice none 0 0, .slice none 0 0, .string ⟨#[]⟩, .slice none 0 0] (xInt n) := ER.leaf 1 [] (VR.atom 3 n [])
theorem er_false {w : World} : ER w TT [.int .i64 1, .int .i64 2, .int .i64 0, .string ⟨#[]⟩, .slice none 0 0, .slice none 0 0, .string ⟨#[]⟩, .slice none 0 0] xFalse := ER.leaf 1 [] (VR.atom 2 0 [])
theorem cam_leaf {k : Int} {v : JV} {s : List UInt8} (hk : iw k) (hv : Came v) (hs : s.length ≤ 4194304) : camE (.mk k v s []) := by unfold camE; exact ⟨hk, hv, hs, by simp, trivial⟩
theorem came_z : Came jZero := came_atom (by unfold iw; omega) (by unfold iw; omega) (by simp)
theorem cam_name {s : List UInt8} (hs : s.length ≤ 4194304) : camE (xName s) := cam_leaf (by unfold iw; omega) came_z hs
theorem cam_int {n : Int} (h : iw n) : camE (xInt n) := cam_leaf (by unfold iw; omega) (came_num h) (by simp)
theorem cam_of {k : Int} {l : List EJ} (hk : iw k) (hl : l.length ≤ 4194304) (h : ∀ x ∈ l, camE x) : camE (xOf k l) := by unfold xOf camE; exact ⟨hk, came_z, by simp, hl, camEL_iff.2 h⟩
theorem sml_leaf {k : Int} {v : JV} {s : List UInt8} : smlE (.mk k v s []) := by unfold smlE; exact ⟨by simp, trivial⟩
theorem sml_of {k : Int} {l : List EJ} (hl : l.length ≤ 16000) (h : ∀ x ∈ l, smlE x) : smlE (xOf k l) := by unfold xOf smlE; exact ⟨hl, smlEL_iff.2 h⟩
theorem cam_two {a b : EJ} (ha : camE a) (hb : camE b) : ∀ x ∈ [a, b], camE x := fun x hx => by
  rcases List.mem_cons.1 hx with rfl | hx
  · exact ha
  · obtain rfl := List.mem_singleton.1 hx; exact hb
theorem sml_two {a b : EJ} (ha : smlE a) (hb : smlE b) : ∀ x ∈ [a, b], smlE x := fun x hx => by
  rcases List.mem_cons.1 hx with rfl | hx
  · exact ha
  · obtain rfl := List.mem_singleton.1 hx; exact hb
theorem EvaP.some_ {v : JV} {w w' : World} {e : Ending} (h : EvaP (some v) w e w') : ∃ cs : List Value, e = .returned (.tuple #[.agg cs.toArray, .bool true]) ∧ VR w' TT cs v ∧ Came v ∧ Below w.heap.size w w' := by
  obtain ⟨cs, u, b, rfl, h1, h2, h3, _, _, h4⟩ := h
  cases b with
  | false => cases h3
  | true =>
    rw [if_pos rfl] at h3
    obtain rfl := Option.some.inj h3
    exact ⟨cs, rfl, h1, h2, h4⟩
theorem EvaP.none__ {w w' : World} {e : Ending} (h : EvaP none w e w') : ∃ cs : List Value, e = .returned (.tuple #[.agg cs.toArray, .bool false]) ∧ VR w' TT cs jZero ∧ Below w.heap.size w w' := by
  obtain ⟨cs, u, b, rfl, h1, h2, h3, _, h5, h4⟩ := h
  cases b with
  | true => cases h3
  | false => rw [h5 rfl] at h1; exact ⟨cs, rfl, h1, h4⟩
theorem VR.atom_cells {W : World} {F : Nat → Prop} {cs : List Value} {k n : Int} {s : List UInt8} (h : VR W F cs (.mk k n s [] [])) : ∃ (A B : Option Addr) (ca cb : Nat), cs = [.int .i64 k, .int .i64 n, .string ⟨s.toArray⟩, .slice A 0 ca, .slice B 0 cb] := by
  obtain ⟨A, B, ca, cb, css, rfl, _⟩ := h.out
  exact ⟨A, B, ca, cb, rfl⟩
set_option maxRecDepth 100000 in
set_option maxHeartbeats 16000000 in
theorem lWakes (w : World) (hG : GOE w) : Calls Tryz.prog 10 #[] w fun e w' => e = .returned (.bool true) ∧ Below w.heap.size w w' := by
  have HG := Lib.hid hG
  clear hG
  go_enter Tryz.func10, Tryz.ntmps10
  have HH0 := Lib.hid (Held.nil w)
  go_wp2_with fail
  refine (lNamed ⟨#[110]⟩ _).mono ?_
  rintro e w1 ⟨rfl, hb⟩
  have HH1 := Lib.hid (HH0.out.keep hb)
  clear hb
  go_wp2_with fail
  refine (lIn25 1 _).mono ?_
  rintro e w2 ⟨rfl, hb⟩
  have HH2 := Lib.hid (HH1.out.keep hb)
  clear hb
  have HP3 := Lib.hid (HH2.out.push 28 #[.int .i64 2, .int .i64 0, .int .i64 0, .string ⟨#[]⟩, .slice none 0 0, .slice none 0 0, .string ⟨#[110]⟩, .slice none 0 0, .int .i64 1, .int .i64 3, .int .i64 1, .string ⟨#[]⟩, .slice none 0 0, .slice none 0 0, .string ⟨#[]⟩, .slice none 0 0] (g := w2.heap.size) rfl)
  go_wp2_with fail
  refine (lOf25 9 _ 2 2 _).mono ?_
  rintro e w3 ⟨rfl, hb⟩
  have HH3 := Lib.hid (HP3.out.keep hb)
  clear hb
  have HQ3 := Lib.hid (HH3.out.push 37 #[.string ⟨#[110]⟩, .int .i64 3, .int .i64 3, .string ⟨#[]⟩, .slice none 0 0, .slice none 0 0] (g := w3.heap.size) rfl)
  have HEV := Lib.hid (vEval wx1 [.int .i64 9, .int .i64 0, .int .i64 0, .string ⟨#[]⟩, .slice none 0 0, .slice none 0 0, .string ⟨#[]⟩, .slice (some ⟨w2.heap.size, 0, none⟩) 2 2] [([110], jNum 3)] [[.string ⟨#[110]⟩, .int .i64 3, .int .i64 3, .string ⟨#[]⟩, .slice none 0 0, .slice none 0 0]] (some ⟨w3.heap.size, 0, none⟩) 1 1 _ (HG.out.keep HQ3.out.1) (er_two 9 (er_name [110]) (er_int 1) HQ3.out.b1) (RR.nil.snoc ⟨_, rfl, VR.atom 3 3 []⟩) rfl (Nat.le_refl _) (by simpa using rdF_blk HQ3.out.b0) (by omega)
    (cam_of (by unfold iw; omega) (by simp) (cam_two (cam_name (by simp)) (cam_int (by unfold iw; omega)))) (sml_of (by simp) (sml_two sml_leaf sml_leaf)) (fun b hb => by obtain rfl := List.mem_singleton.1 hb; exact came_num (by unfold iw; omega)))
  rw [wk1] at HEV
  go_wp2_with fail
  refine HEV.out.mono ?_
  intro e w4 h
  obtain ⟨cs4, rfl, hv, _, hb⟩ := h.some_
  obtain ⟨A4, B4, ca4, cb4, rfl⟩ := (show VR w4 TT cs4 (.mk 3 4 [] [] []) from hv).atom_cells
  have HH4 := Lib.hid ((HQ3.out.keep hb).pop.pop.push 25 #[.int .i64 3, .int .i64 4, .string ⟨#[]⟩, .slice A4 0 ca4, .slice B4 0 cb4] (g := w4.heap.size) rfl)
  clear h hv hb HEV
  obtain ⟨W4, hW4⟩ : ∃ W, w4.alloc (.cells #[.int .i64 3, .int .i64 4, .string ⟨#[]⟩, .slice A4 0 ca4, .slice B4 0 cb4] 25) = W := ⟨_, rfl⟩
  rw [hW4] at HH4
  have HW4 := Lib.hid hW4
  clear hW4
  go_upto_region 2 with fail
  rw [HW4.out]
  go_wp2_with fail
  refine (lIn25 9223372036854775807 _).mono ?_
  rintro e w5 ⟨rfl, hb⟩
  have HH5 := Lib.hid (HH4.out.keep hb)
  clear hb
  go_wp2_with fail
  refine (lIn25 1 _).mono ?_
  rintro e w6 ⟨rfl, hb⟩
  have HH6 := Lib.hid (HH5.out.keep hb)
  clear hb
  have HP7 := Lib.hid (HH6.out.push 28 #[.int .i64 1, .int .i64 3, .int .i64 9223372036854775807, .string ⟨#[]⟩, .slice none 0 0, .slice none 0 0, .string ⟨#[]⟩, .slice none 0 0, .int .i64 1, .int .i64 3, .int .i64 1, .string ⟨#[]⟩, .slice none 0 0, .slice none 0 0, .string ⟨#[]⟩, .slice none 0 0] (g := w6.heap.size) rfl)
  go_wp2_with fail
  refine (lOf25 9 _ 2 2 _).mono ?_
  rintro e w7 ⟨rfl, hb⟩
  have HH7 := Lib.hid (HP7.out.keep hb)
  clear hb
  have HEV := Lib.hid (vEval wx2 [.int .i64 9, .int .i64 0, .int .i64 0, .string ⟨#[]⟩, .slice none 0 0, .slice none 0 0, .string ⟨#[]⟩, .slice (some ⟨w6.heap.size, 0, none⟩) 2 2] [] [] none 0 0 _ (HG.out.keep HH7.out.1) (er_two 9 (er_int 9223372036854775807) (er_int 1) HH7.out.b0) RR.nil rfl (Nat.le_refl _) RdF.nil (by omega)
    (cam_of (by unfold iw; omega) (by simp) (cam_two (cam_int (by unfold iw; omega)) (cam_int (by unfold iw; omega)))) (sml_of (by simp) (sml_two sml_leaf sml_leaf)) (fun b hb => by cases hb))
  rw [wk2] at HEV
  go_wp2_with fail
  refine HEV.out.mono ?_
  intro e w8 h
  obtain ⟨cs8, rfl, hv, hb⟩ := h.none__
  obtain ⟨A8, B8, ca8, cb8, rfl⟩ := (show VR w8 TT cs8 (.mk 0 0 [] [] []) from hv).atom_cells
  have HH8 := Lib.hid ((HH7.out.keep hb).pop.push 25 #[.int .i64 0, .int .i64 0, .string ⟨#[]⟩, .slice A8 0 ca8, .slice B8 0 cb8] (g := w8.heap.size) rfl)
  clear h hv hb HEV
  obtain ⟨W8, hW8⟩ : ∃ W, w8.alloc (.cells #[.int .i64 0, .int .i64 0, .string ⟨#[]⟩, .slice A8 0 ca8, .slice B8 0 cb8] 25) = W := ⟨_, rfl⟩
  rw [hW8] at HH8
  have HW8 := Lib.hid hW8
  clear hW8
  go_upto_region 3 with fail
  rw [HW8.out]
  go_wp2_with fail
  refine (lIn25 1 _).mono ?_
  rintro e w9 ⟨rfl, hb⟩
  have HH9 := Lib.hid (HH8.out.keep hb)
  clear hb
  have HP10 := Lib.hid (HH9.out.push 28 #[.int .i64 1, .int .i64 2, .int .i64 0, .string ⟨#[]⟩, .slice none 0 0, .slice none 0 0, .string ⟨#[]⟩, .slice none 0 0, .int .i64 1, .int .i64 3, .int .i64 1, .string ⟨#[]⟩, .slice none 0 0, .slice none 0 0, .string ⟨#[]⟩, .slice none 0 0] (g := w9.heap.size) rfl)
  go_wp2_with fail
  refine (lOf25 14 _ 2 2 _).mono ?_
  rintro e w10 ⟨rfl, hb⟩
  have HH10 := Lib.hid (HP10.out.keep hb)
  clear hb
  have HEV := Lib.hid (vEval wx3 [.int .i64 14, .int .i64 0, .int .i64 0, .string ⟨#[]⟩, .slice none 0 0, .slice none 0 0, .string ⟨#[]⟩, .slice (some ⟨w9.heap.size, 0, none⟩) 2 2] [] [] none 0 0 _ (HG.out.keep HH10.out.1) (er_two 14 er_false (er_int 1) HH10.out.b0) RR.nil rfl (Nat.le_refl _) RdF.nil (by omega)
    (cam_of (by unfold iw; omega) (by simp) (cam_two (cam_leaf (by unfold iw; omega) (came_bool false) (by simp)) (cam_int (by unfold iw; omega)))) (sml_of (by simp) (sml_two sml_leaf sml_leaf)) (fun b hb => by cases hb))
  rw [wk3] at HEV
  go_wp2_with fail
  refine HEV.out.mono ?_
  intro e w11 h
  obtain ⟨cs11, rfl, hv, _, hb⟩ := h.some_
  obtain ⟨A11, B11, ca11, cb11, rfl⟩ := (show VR w11 TT cs11 (.mk 2 0 [] [] []) from hv).atom_cells
  have HH11 := Lib.hid ((HH10.out.keep hb).pop.push 25 #[.int .i64 2, .int .i64 0, .string ⟨#[]⟩, .slice A11 0 ca11, .slice B11 0 cb11] (g := w11.heap.size) rfl)
  clear h hv hb HEV
  obtain ⟨W11, hW11⟩ : ∃ W, w11.alloc (.cells #[.int .i64 2, .int .i64 0, .string ⟨#[]⟩, .slice A11 0 ca11, .slice B11 0 cb11] 25) = W := ⟨_, rfl⟩
  rw [hW11] at HH11
  have HW11 := Lib.hid hW11
  clear hW11
  go_upto_region 4 with fail
  rw [HW11.out]
  go_wp2_with fail
  refine (lNamed ⟨#[100, 111, 99]⟩ _).mono ?_
  rintro e w12 ⟨rfl, hb⟩
  have HH12 := Lib.hid (HH11.out.keep hb)
  clear hb
  go_wp2_with fail
  refine (lNamed ⟨#[120]⟩ _).mono ?_
  rintro e w13 ⟨rfl, hb⟩
  have HH13 := Lib.hid (HH12.out.keep hb)
  clear hb
  go_wp2_with fail
  refine (lNamed ⟨#[105, 100]⟩ _).mono ?_
  rintro e w14 ⟨rfl, hb⟩
  have HH14 := Lib.hid (HH13.out.keep hb)
  clear hb
  obtain ⟨WP, hWP⟩ : ∃ W, ((w14.alloc (.cells #[.int .i64 1, .string ⟨#[]⟩, .int .i64 2, .int .i64 0, .int .i64 0, .string ⟨#[]⟩, .slice none 0 0, .slice none 0 0, .string ⟨#[120]⟩, .slice none 0 0, .int .i64 2, .int .i64 0, .int .i64 0, .string ⟨#[]⟩, .slice none 0 0, .slice none 0 0, .string ⟨#[105, 100]⟩, .slice none 0 0, .slice none 0 0, .slice none 0 0] 69)).alloc (.cells #[.int .i64 3, .string ⟨#[120]⟩, .int .i64 2, .int .i64 0, .int .i64 0, .string ⟨#[]⟩, .slice none 0 0, .slice none 0 0, .string ⟨#[100, 111, 99]⟩, .slice none 0 0, .int .i64 0, .int .i64 0, .int .i64 0, .string ⟨#[]⟩, .slice none 0 0, .slice none 0 0, .string ⟨#[]⟩, .slice none 0 0, .slice (some ⟨w14.heap.size, 0, none⟩) 1 1, .slice none 0 0] 69)).alloc (.cells #[.slice (some ⟨w14.heap.size + 1, 0, none⟩) 1 1] 46) = W := ⟨_, rfl⟩
  have HHP := Lib.hid (show Held (((w14.heap.size + 1 + 1), 46, #[.slice (some ⟨w14.heap.size + 1, 0, none⟩) 1 1]) :: ((w14.heap.size + 1), 69, #[.int .i64 3, .string ⟨#[120]⟩, .int .i64 2, .int .i64 0, .int .i64 0, .string ⟨#[]⟩, .slice none 0 0, .slice none 0 0, .string ⟨#[100, 111, 99]⟩, .slice none 0 0, .int .i64 0, .int .i64 0, .int .i64 0, .string ⟨#[]⟩, .slice none 0 0, .slice none 0 0, .string ⟨#[]⟩, .slice none 0 0, .slice (some ⟨w14.heap.size, 0, none⟩) 1 1, .slice none 0 0]) :: (w14.heap.size, 69, #[.int .i64 1, .string ⟨#[]⟩, .int .i64 2, .int .i64 0, .int .i64 0, .string ⟨#[]⟩, .slice none 0 0, .slice none 0 0, .string ⟨#[120]⟩, .slice none 0 0, .int .i64 2, .int .i64 0, .int .i64 0, .string ⟨#[]⟩, .slice none 0 0, .slice none 0 0, .string ⟨#[105, 100]⟩, .slice none 0 0, .slice none 0 0, .slice none 0 0]) :: _) w WP by
    rw [← hWP]
    exact ((HH14.out.push 69 #[.int .i64 1, .string ⟨#[]⟩, .int .i64 2, .int .i64 0, .int .i64 0, .string ⟨#[]⟩, .slice none 0 0, .slice none 0 0, .string ⟨#[120]⟩, .slice none 0 0, .int .i64 2, .int .i64 0, .int .i64 0, .string ⟨#[]⟩, .slice none 0 0, .slice none 0 0, .string ⟨#[105, 100]⟩, .slice none 0 0, .slice none 0 0, .slice none 0 0] (g := w14.heap.size) rfl).push 69 #[.int .i64 3, .string ⟨#[120]⟩, .int .i64 2, .int .i64 0, .int .i64 0, .string ⟨#[]⟩, .slice none 0 0, .slice none 0 0, .string ⟨#[100, 111, 99]⟩, .slice none 0 0, .int .i64 0, .int .i64 0, .int .i64 0, .string ⟨#[]⟩, .slice none 0 0, .slice none 0 0, .string ⟨#[]⟩, .slice none 0 0, .slice (some ⟨w14.heap.size, 0, none⟩) 1 1, .slice none 0 0] (g := w14.heap.size + 1) (by simp)).push 46 #[.slice (some ⟨w14.heap.size + 1, 0, none⟩) 1 1] (g := w14.heap.size + 1 + 1) (by simp))
  have HWP := Lib.hid hWP
  clear hWP
  have HSR := Lib.hid (show ∀ W, Below WP.heap.size WP W → SRs W TT [[.int .i64 3, .string ⟨#[120]⟩, .int .i64 2, .int .i64 0, .int .i64 0, .string ⟨#[]⟩, .slice none 0 0, .slice none 0 0, .string ⟨#[100, 111, 99]⟩, .slice none 0 0, .int .i64 0, .int .i64 0, .int .i64 0, .string ⟨#[]⟩, .slice none 0 0, .slice none 0 0, .string ⟨#[]⟩, .slice none 0 0, .slice (some ⟨w14.heap.size, 0, none⟩) 1 1, .slice none 0 0]] wpr ∧ RdF W TT (some ⟨w14.heap.size + 1, 0, none⟩) ([[.int .i64 3, .string ⟨#[120]⟩, .int .i64 2, .int .i64 0, .int .i64 0, .string ⟨#[]⟩, .slice none 0 0, .slice none 0 0, .string ⟨#[100, 111, 99]⟩, .slice none 0 0, .int .i64 0, .int .i64 0, .int .i64 0, .string ⟨#[]⟩, .slice none 0 0, .slice none 0 0, .string ⟨#[]⟩, .slice none 0 0, .slice (some ⟨w14.heap.size, 0, none⟩) 1 1, .slice none 0 0]] : List (List Value)).flatten from fun W hW => by
    have hh := HHP.out.keep hW
    have h1 : SR W TT [.int .i64 1, .string ⟨#[]⟩, .int .i64 2, .int .i64 0, .int .i64 0, .string ⟨#[]⟩, .slice none 0 0, .slice none 0 0, .string ⟨#[120]⟩, .slice none 0 0, .int .i64 2, .int .i64 0, .int .i64 0, .string ⟨#[]⟩, .slice none 0 0, .slice none 0 0, .string ⟨#[105, 100]⟩, .slice none 0 0, .slice none 0 0, .slice none 0 0] (.mk 1 [] (xName [120]) (xName idT) [] []) := SR.into (er_name [120]) (er_name idT) (body := []) (els := []) (css := []) (dss := []) RR.nil rfl (Nat.le_refl _) (fun _ => rfl) RdF.nil RR.nil rfl (Nat.le_refl _) (fun _ => rfl) RdF.nil
    have h2 : SR W TT [.int .i64 3, .string ⟨#[120]⟩, .int .i64 2, .int .i64 0, .int .i64 0, .string ⟨#[]⟩, .slice none 0 0, .slice none 0 0, .string ⟨#[100, 111, 99]⟩, .slice none 0 0, .int .i64 0, .int .i64 0, .int .i64 0, .string ⟨#[]⟩, .slice none 0 0, .slice none 0 0, .string ⟨#[]⟩, .slice none 0 0, .slice (some ⟨w14.heap.size, 0, none⟩) 1 1, .slice none 0 0] (.mk 3 [120] (xName docT) eZero [.mk 1 [] (xName [120]) (xName idT) [] []] []) := SR.into (er_name docT) ER.zero (css := [[.int .i64 1, .string ⟨#[]⟩, .int .i64 2, .int .i64 0, .int .i64 0, .string ⟨#[]⟩, .slice none 0 0, .slice none 0 0, .string ⟨#[120]⟩, .slice none 0 0, .int .i64 2, .int .i64 0, .int .i64 0, .string ⟨#[]⟩, .slice none 0 0, .slice none 0 0, .string ⟨#[105, 100]⟩, .slice none 0 0, .slice none 0 0, .slice none 0 0]]) (dss := []) (RR.nil.snoc h1) rfl (Nat.le_refl _) (fun e => by cases e) (by simpa using rdF_blk hh.b2) RR.nil rfl (Nat.le_refl _) (fun _ => rfl) RdF.nil
    exact ⟨RR.nil.snoc h2, by simpa using rdF_blk hh.b1⟩)
  have hcs : camSL wpr := by
    have hz : camE eZero := cam_leaf (by unfold iw; omega) came_z (by simp)
    unfold wpr camSL camS camSL camS
    exact ⟨⟨by unfold iw; omega, by simp, cam_name (by decide), hz, by simp, by simp, ⟨⟨by unfold iw; omega, by simp, cam_name (by decide), cam_name (by decide), by simp, by simp, trivial, trivial⟩, trivial⟩, trivial⟩, trivial⟩
  have hss : smlSL wpr := by
    unfold wpr smlSL smlS smlSL smlS
    exact ⟨⟨sml_leaf, sml_leaf, ⟨⟨sml_leaf, sml_leaf, trivial, trivial⟩, trivial⟩, trivial⟩, trivial⟩
  have HCS := Lib.hid (And.intro hcs hss)
  clear hcs hss
  go_upto_region 5 with fail
  rw [HWP.out]
  have HHV := Lib.hid (HHP.out.push 25 #[.int .i64 3, .int .i64 7, .string ⟨#[]⟩, .slice none 0 0, .slice none 0 0] (g := WP.heap.size) rfl)
  have HMA := Lib.hid (mMap wpr [[.int .i64 3, .string ⟨#[120]⟩, .int .i64 2, .int .i64 0, .int .i64 0, .string ⟨#[]⟩, .slice none 0 0, .slice none 0 0, .string ⟨#[100, 111, 99]⟩, .slice none 0 0, .int .i64 0, .int .i64 0, .int .i64 0, .string ⟨#[]⟩, .slice none 0 0, .slice none 0 0, .string ⟨#[]⟩, .slice none 0 0, .slice (some ⟨w14.heap.size, 0, none⟩) 1 1, .slice none 0 0]] (some ⟨w14.heap.size + 1, 0, none⟩) 1 1 [97] (jArr [jNum 7]) [.int .i64 5, .int .i64 0, .string ⟨#[]⟩, .slice (some ⟨WP.heap.size, 0, none⟩) 1 1, .slice none 0 0] _ (HG.out.keep HHV.out.1) (HSR.out _ ((Below.refl _ WP).alloc (Nat.le_refl _) (.cells #[.int .i64 3, .int .i64 7, .string ⟨#[]⟩, .slice none 0 0, .slice none 0 0] 25))).1 rfl (Nat.le_refl _) (HSR.out _ ((Below.refl _ WP).alloc (Nat.le_refl _) (.cells #[.int .i64 3, .int .i64 7, .string ⟨#[]⟩, .slice none 0 0, .slice none 0 0] 25))).2 HCS.out.1 HCS.out.2 (by omega) (by simp)
    (VR.into 5 0 [] (kids := [jNum 7]) (keys := []) (css := [[.int .i64 3, .int .i64 7, .string ⟨#[]⟩, .slice none 0 0, .slice none 0 0]]) (VRs.nil.snoc (VR.atom 3 7 [])) (Nat.le_refl _) (Nat.le_refl _) (fun e => by cases e) (fun _ => rfl) (by simpa using rdF_blk HHV.out.b0) RdF.nil rfl rfl)
    (came_good (xs := [jNum 7]) (fun x hx => by obtain rfl := List.mem_singleton.1 hx; exact ⟨came_num (by unfold iw; omega), by decide⟩) (by simp)))
  rw [wk4] at HMA
  obtain ⟨c0, f0, l0⟩ := HHP.out.b0.rules
  go_wp2_with fail
  refine HMA.out.mono ?_
  rintro e wA ⟨MA, mn, mcap, ess, rfl, hmn, hmc, _, hem, hrd, _, hbA⟩
  obtain rfl : 1 = mn := hmn
  have HHA := Lib.hid (HHV.out.keep hbA)
  have hbPA : Below WP.heap.size WP wA := ((Below.refl _ WP).alloc (Nat.le_refl _) (.cells #[.int .i64 3, .int .i64 7, .string ⟨#[]⟩, .slice none 0 0, .slice none 0 0] 25)).trans (hbA.mono (by simp))
  have HSA := Lib.hid (HSR.out _ hbPA)
  obtain ⟨ce, hce, hev⟩ := hem.get_ (i := 0) (x := (jNum 7, jText [97])) rfl
  obtain ⟨kcs, vcs, rfl, hk9, hv9⟩ := hev
  obtain ⟨A8, B8, ca8, cb8, rfl⟩ := (show VR wA TT kcs (.mk 3 7 [] [] []) from hk9).atom_cells
  obtain ⟨A9, B9, ca9, cb9, rfl⟩ := (show VR wA TT vcs (.mk 4 0 [97] [] []) from hv9).atom_cells
  obtain ⟨eb, eo, ec, rfl, heb, _, hce2, _, hcell⟩ := hem.cell (fun c x h => h.len) (by decide) hrd (i := 0) (x := (jNum 7, jText [97])) rfl
  rw [hce] at hce2
  obtain rfl := Option.some.inj hce2
  have e1 := hcell 1 (.int .i64 7) (by decide) rfl
  have e7 := hcell 7 (.string ⟨#[97]⟩) (by decide) rfl
  rw [Nat.zero_mul, Nat.zero_add] at e1 e7
  have HEC := Lib.hid (And.intro heb (And.intro e1 e7))
  clear hmc hem hrd hbA hbPA hce hk9 hv9 heb hce2 hcell e1 e7 c0 f0 l0
  have HMB := Lib.hid (mMap wpr [[.int .i64 3, .string ⟨#[120]⟩, .int .i64 2, .int .i64 0, .int .i64 0, .string ⟨#[]⟩, .slice none 0 0, .slice none 0 0, .string ⟨#[100, 111, 99]⟩, .slice none 0 0, .int .i64 0, .int .i64 0, .int .i64 0, .string ⟨#[]⟩, .slice none 0 0, .slice none 0 0, .string ⟨#[]⟩, .slice none 0 0, .slice (some ⟨w14.heap.size, 0, none⟩) 1 1, .slice none 0 0]] (some ⟨w14.heap.size + 1, 0, none⟩) 1 1 [65] (.mk 1 0 [] [] []) [.int .i64 1, .int .i64 0, .string ⟨#[]⟩, .slice none 0 0, .slice none 0 0] wA (HG.out.keep HHA.out.1) HSA.out.1 rfl (Nat.le_refl _) HSA.out.2 HCS.out.1 HCS.out.2 (by omega) (by simp) (VR.atom 1 0 []) (came_atom (by unfold iw; omega) (by unfold iw; omega) (by simp)))
  rw [wk5] at HMB
  obtain ⟨c0, f0, l0⟩ := HHA.out.b1.rules
  go_wp2_with fail
  refine HMB.out.mono ?_
  rintro e wB ⟨MB2, mn2, mcap2, ess2, rfl, hmn2, _, _, _, _, _, hbB⟩
  have HHB := Lib.hid (HHA.out.keep hbB)
  have heb : eb < wB.heap.size := Nat.lt_of_lt_of_le HEC.out.1 hbB.size
  have e1 := (hbB.cell (p := ⟨eb, eo + 1, none⟩) HEC.out.1).trans HEC.out.2.1
  have e7 := (hbB.cell (p := ⟨eb, eo + 7, none⟩) HEC.out.1).trans HEC.out.2.2
  clear hbB c0 f0 l0
  obtain ⟨c1, f1, l1⟩ := HHB.out.b6.rules
  obtain ⟨c5, f5, l5⟩ := HHB.out.b4.rules
  go_wp2
  go_ret
  exact ⟨rfl, HHB.out.1⟩
end Go.Proofs.YtgolomgmnanbpaaGreatDoor
namespace Go.Proofs.YtgolomgmnanbpaaGreatDoor
set_option linter.unusedVariables false
set_option linter.unusedSimpArgs false
open Go.RowKit
attribute [local go_sem] run_index_arr run_part_agg run_part_one run_field_agg
def loopJ (nm : List UInt8) (a k v : EJ) : List SJ := [.mk 3 nm a eZero [.mk 1 [] k v [] []] []]
set_option maxRecDepth 100000 in
set_option maxHeartbeats 16000000 in
theorem lLoop (nm : List UInt8) (a kx vx : EJ) (acs kcs vcs : List Value) (g : Nat) (w : World) (hA : ER w TT acs a) (hK : ER w TT kcs kx) (hV : ER w TT vcs vx) (hb : Blk w g 28 acs.toArray) :
    Calls Tryz.prog 33 #[.string ⟨nm.toArray⟩, .agg kcs.toArray, .agg vcs.toArray, .pointer (some ⟨g, 0, none⟩)] w (FewP (loopJ nm a kx vx) TT w) := by
  have HA := Lib.hid hA
  have HK := Lib.hid hK
  have HV := Lib.hid hV
  obtain ⟨k0, p0, n0, s0, A0, na0, ca0, B0, nb0, cb0, z0, C0, nc0, cc0, rfl⟩ := hA.form
  obtain ⟨k1, p1, n1, s1, A1, na1, ca1, B1, nb1, cb1, z1, C1, nc1, cc1, rfl⟩ := hK.form
  obtain ⟨k2, p2, n2, s2, A2, na2, ca2, B2, nb2, cb2, z2, C2, nc2, cc2, rfl⟩ := hV.form
  have HW5 := Lib.hid (show Held [(w.heap.size + 1 + 1 + 1 + 1, 69, #[.int .i64 3, .string ⟨nm.toArray⟩, .int .i64 k0, .int .i64 p0, .int .i64 n0, .string s0, .slice A0 na0 ca0, .slice B0 nb0 cb0, .string z0, .slice C0 nc0 cc0, .int .i64 0, .int .i64 0, .int .i64 0, .string ⟨#[]⟩, .slice none 0 0, .slice none 0 0, .string ⟨#[]⟩, .slice none 0 0, .slice (some ⟨w.heap.size + 1 + 1 + 1, 0, none⟩) 1 1, .slice none 0 0]), (w.heap.size + 1 + 1 + 1, 69, #[.int .i64 1, .string ⟨#[]⟩, .int .i64 k1, .int .i64 p1, .int .i64 n1, .string s1, .slice A1 na1 ca1, .slice B1 nb1 cb1, .string z1, .slice C1 nc1 cc1, .int .i64 k2, .int .i64 p2, .int .i64 n2, .string s2, .slice A2 na2 ca2, .slice B2 nb2 cb2, .string z2, .slice C2 nc2 cc2, .slice none 0 0, .slice none 0 0])] w (((((w.alloc (.cells #[.int .i64 k1, .int .i64 p1, .int .i64 n1, .string s1, .slice A1 na1 ca1, .slice B1 nb1 cb1, .string z1, .slice C1 nc1 cc1] 28)).alloc (.cells #[.int .i64 k2, .int .i64 p2, .int .i64 n2, .string s2, .slice A2 na2 ca2, .slice B2 nb2 cb2, .string z2, .slice C2 nc2 cc2] 28)).alloc (.cells #[.slice (some ⟨w.heap.size + 1 + 1 + 1 + 1, 0, none⟩) 1 1] 46)).alloc (.cells #[.int .i64 1, .string ⟨#[]⟩, .int .i64 k1, .int .i64 p1, .int .i64 n1, .string s1, .slice A1 na1 ca1, .slice B1 nb1 cb1, .string z1, .slice C1 nc1 cc1, .int .i64 k2, .int .i64 p2, .int .i64 n2, .string s2, .slice A2 na2 ca2, .slice B2 nb2 cb2, .string z2, .slice C2 nc2 cc2, .slice none 0 0, .slice none 0 0] 69)).alloc (.cells #[.int .i64 3, .string ⟨nm.toArray⟩, .int .i64 k0, .int .i64 p0, .int .i64 n0, .string s0, .slice A0 na0 ca0, .slice B0 nb0 cb0, .string z0, .slice C0 nc0 cc0, .int .i64 0, .int .i64 0, .int .i64 0, .string ⟨#[]⟩, .slice none 0 0, .slice none 0 0, .string ⟨#[]⟩, .slice none 0 0, .slice (some ⟨w.heap.size + 1 + 1 + 1, 0, none⟩) 1 1, .slice none 0 0] 69)) from
    (((((Held.nil w).alloc _).alloc _).alloc _).push 69 #[.int .i64 1, .string ⟨#[]⟩, .int .i64 k1, .int .i64 p1, .int .i64 n1, .string s1, .slice A1 na1 ca1, .slice B1 nb1 cb1, .string z1, .slice C1 nc1 cc1, .int .i64 k2, .int .i64 p2, .int .i64 n2, .string s2, .slice A2 na2 ca2, .slice B2 nb2 cb2, .string z2, .slice C2 nc2 cc2, .slice none 0 0, .slice none 0 0] (g := w.heap.size + 1 + 1 + 1) (by simp)).push 69 #[.int .i64 3, .string ⟨nm.toArray⟩, .int .i64 k0, .int .i64 p0, .int .i64 n0, .string s0, .slice A0 na0 ca0, .slice B0 nb0 cb0, .string z0, .slice C0 nc0 cc0, .int .i64 0, .int .i64 0, .int .i64 0, .string ⟨#[]⟩, .slice none 0 0, .slice none 0 0, .string ⟨#[]⟩, .slice none 0 0, .slice (some ⟨w.heap.size + 1 + 1 + 1, 0, none⟩) 1 1, .slice none 0 0] (g := w.heap.size + 1 + 1 + 1 + 1) (by simp))
  have hb9 : Below w.heap.size w (((((w.alloc (.cells #[.int .i64 k1, .int .i64 p1, .int .i64 n1, .string s1, .slice A1 na1 ca1, .slice B1 nb1 cb1, .string z1, .slice C1 nc1 cc1] 28)).alloc (.cells #[.int .i64 k2, .int .i64 p2, .int .i64 n2, .string s2, .slice A2 na2 ca2, .slice B2 nb2 cb2, .string z2, .slice C2 nc2 cc2] 28)).alloc (.cells #[.slice (some ⟨w.heap.size + 1 + 1 + 1 + 1, 0, none⟩) 1 1] 46)).alloc (.cells #[.int .i64 1, .string ⟨#[]⟩, .int .i64 k1, .int .i64 p1, .int .i64 n1, .string s1, .slice A1 na1 ca1, .slice B1 nb1 cb1, .string z1, .slice C1 nc1 cc1, .int .i64 k2, .int .i64 p2, .int .i64 n2, .string s2, .slice A2 na2 ca2, .slice B2 nb2 cb2, .string z2, .slice C2 nc2 cc2, .slice none 0 0, .slice none 0 0] 69)).alloc (.cells #[.int .i64 3, .string ⟨nm.toArray⟩, .int .i64 k0, .int .i64 p0, .int .i64 n0, .string s0, .slice A0 na0 ca0, .slice B0 nb0 cb0, .string z0, .slice C0 nc0 cc0, .int .i64 0, .int .i64 0, .int .i64 0, .string ⟨#[]⟩, .slice none 0 0, .slice none 0 0, .string ⟨#[]⟩, .slice none 0 0, .slice (some ⟨w.heap.size + 1 + 1 + 1, 0, none⟩) 1 1, .slice none 0 0] 69)) := HW5.out.1
  have hB4 := HW5.out.b0
  have hB3 := HW5.out.b1
  have HF := Lib.hid (show FewP (loopJ nm a kx vx) TT w (.returned (.agg #[.slice (some ⟨w.heap.size + 1 + 1 + 1 + 1, 0, none⟩) 1 1])) (((((w.alloc (.cells #[.int .i64 k1, .int .i64 p1, .int .i64 n1, .string s1, .slice A1 na1 ca1, .slice B1 nb1 cb1, .string z1, .slice C1 nc1 cc1] 28)).alloc (.cells #[.int .i64 k2, .int .i64 p2, .int .i64 n2, .string s2, .slice A2 na2 ca2, .slice B2 nb2 cb2, .string z2, .slice C2 nc2 cc2] 28)).alloc (.cells #[.slice (some ⟨w.heap.size + 1 + 1 + 1 + 1, 0, none⟩) 1 1] 46)).alloc (.cells #[.int .i64 1, .string ⟨#[]⟩, .int .i64 k1, .int .i64 p1, .int .i64 n1, .string s1, .slice A1 na1 ca1, .slice B1 nb1 cb1, .string z1, .slice C1 nc1 cc1, .int .i64 k2, .int .i64 p2, .int .i64 n2, .string s2, .slice A2 na2 ca2, .slice B2 nb2 cb2, .string z2, .slice C2 nc2 cc2, .slice none 0 0, .slice none 0 0] 69)).alloc (.cells #[.int .i64 3, .string ⟨nm.toArray⟩, .int .i64 k0, .int .i64 p0, .int .i64 n0, .string s0, .slice A0 na0 ca0, .slice B0 nb0 cb0, .string z0, .slice C0 nc0 cc0, .int .i64 0, .int .i64 0, .int .i64 0, .string ⟨#[]⟩, .slice none 0 0, .slice none 0 0, .string ⟨#[]⟩, .slice none 0 0, .slice (some ⟨w.heap.size + 1 + 1 + 1, 0, none⟩) 1 1, .slice none 0 0] 69)) from by
    have h1 : SR (((((w.alloc (.cells #[.int .i64 k1, .int .i64 p1, .int .i64 n1, .string s1, .slice A1 na1 ca1, .slice B1 nb1 cb1, .string z1, .slice C1 nc1 cc1] 28)).alloc (.cells #[.int .i64 k2, .int .i64 p2, .int .i64 n2, .string s2, .slice A2 na2 ca2, .slice B2 nb2 cb2, .string z2, .slice C2 nc2 cc2] 28)).alloc (.cells #[.slice (some ⟨w.heap.size + 1 + 1 + 1 + 1, 0, none⟩) 1 1] 46)).alloc (.cells #[.int .i64 1, .string ⟨#[]⟩, .int .i64 k1, .int .i64 p1, .int .i64 n1, .string s1, .slice A1 na1 ca1, .slice B1 nb1 cb1, .string z1, .slice C1 nc1 cc1, .int .i64 k2, .int .i64 p2, .int .i64 n2, .string s2, .slice A2 na2 ca2, .slice B2 nb2 cb2, .string z2, .slice C2 nc2 cc2, .slice none 0 0, .slice none 0 0] 69)).alloc (.cells #[.int .i64 3, .string ⟨nm.toArray⟩, .int .i64 k0, .int .i64 p0, .int .i64 n0, .string s0, .slice A0 na0 ca0, .slice B0 nb0 cb0, .string z0, .slice C0 nc0 cc0, .int .i64 0, .int .i64 0, .int .i64 0, .string ⟨#[]⟩, .slice none 0 0, .slice none 0 0, .string ⟨#[]⟩, .slice none 0 0, .slice (some ⟨w.heap.size + 1 + 1 + 1, 0, none⟩) 1 1, .slice none 0 0] 69)) TT [.int .i64 1, .string ⟨#[]⟩, .int .i64 k1, .int .i64 p1, .int .i64 n1, .string s1, .slice A1 na1 ca1, .slice B1 nb1 cb1, .string z1, .slice C1 nc1 cc1, .int .i64 k2, .int .i64 p2, .int .i64 n2, .string s2, .slice A2 na2 ca2, .slice B2 nb2 cb2, .string z2, .slice C2 nc2 cc2, .slice none 0 0, .slice none 0 0] (.mk 1 [] kx vx [] []) := SR.into (hK.bel hb9) (hV.bel hb9) (body := []) (els := []) (css := []) (dss := []) RR.nil rfl (Nat.le_refl _) (fun _ => rfl) RdF.nil RR.nil rfl (Nat.le_refl _) (fun _ => rfl) RdF.nil
    have h2 : SR (((((w.alloc (.cells #[.int .i64 k1, .int .i64 p1, .int .i64 n1, .string s1, .slice A1 na1 ca1, .slice B1 nb1 cb1, .string z1, .slice C1 nc1 cc1] 28)).alloc (.cells #[.int .i64 k2, .int .i64 p2, .int .i64 n2, .string s2, .slice A2 na2 ca2, .slice B2 nb2 cb2, .string z2, .slice C2 nc2 cc2] 28)).alloc (.cells #[.slice (some ⟨w.heap.size + 1 + 1 + 1 + 1, 0, none⟩) 1 1] 46)).alloc (.cells #[.int .i64 1, .string ⟨#[]⟩, .int .i64 k1, .int .i64 p1, .int .i64 n1, .string s1, .slice A1 na1 ca1, .slice B1 nb1 cb1, .string z1, .slice C1 nc1 cc1, .int .i64 k2, .int .i64 p2, .int .i64 n2, .string s2, .slice A2 na2 ca2, .slice B2 nb2 cb2, .string z2, .slice C2 nc2 cc2, .slice none 0 0, .slice none 0 0] 69)).alloc (.cells #[.int .i64 3, .string ⟨nm.toArray⟩, .int .i64 k0, .int .i64 p0, .int .i64 n0, .string s0, .slice A0 na0 ca0, .slice B0 nb0 cb0, .string z0, .slice C0 nc0 cc0, .int .i64 0, .int .i64 0, .int .i64 0, .string ⟨#[]⟩, .slice none 0 0, .slice none 0 0, .string ⟨#[]⟩, .slice none 0 0, .slice (some ⟨w.heap.size + 1 + 1 + 1, 0, none⟩) 1 1, .slice none 0 0] 69)) TT [.int .i64 3, .string ⟨nm.toArray⟩, .int .i64 k0, .int .i64 p0, .int .i64 n0, .string s0, .slice A0 na0 ca0, .slice B0 nb0 cb0, .string z0, .slice C0 nc0 cc0, .int .i64 0, .int .i64 0, .int .i64 0, .string ⟨#[]⟩, .slice none 0 0, .slice none 0 0, .string ⟨#[]⟩, .slice none 0 0, .slice (some ⟨w.heap.size + 1 + 1 + 1, 0, none⟩) 1 1, .slice none 0 0] (.mk 3 nm a eZero [.mk 1 [] kx vx [] []] []) := SR.into (hA.bel hb9) ER.zero (css := [[.int .i64 1, .string ⟨#[]⟩, .int .i64 k1, .int .i64 p1, .int .i64 n1, .string s1, .slice A1 na1 ca1, .slice B1 nb1 cb1, .string z1, .slice C1 nc1 cc1, .int .i64 k2, .int .i64 p2, .int .i64 n2, .string s2, .slice A2 na2 ca2, .slice B2 nb2 cb2, .string z2, .slice C2 nc2 cc2, .slice none 0 0, .slice none 0 0]]) (dss := []) (RR.nil.snoc h1) rfl (Nat.le_refl _) (fun e => by cases e) (by simpa using rdF_blk hB3) RR.nil rfl (Nat.le_refl _) (fun _ => rfl) RdF.nil
    exact ⟨some ⟨w.heap.size + 1 + 1 + 1 + 1, 0, none⟩, 1, 1, [[.int .i64 3, .string ⟨nm.toArray⟩, .int .i64 k0, .int .i64 p0, .int .i64 n0, .string s0, .slice A0 na0 ca0, .slice B0 nb0 cb0, .string z0, .slice C0 nc0 cc0, .int .i64 0, .int .i64 0, .int .i64 0, .string ⟨#[]⟩, .slice none 0 0, .slice none 0 0, .string ⟨#[]⟩, .slice none 0 0, .slice (some ⟨w.heap.size + 1 + 1 + 1, 0, none⟩) 1 1, .slice none 0 0]], rfl, rfl, Nat.le_refl _, (fun e => by cases e), RR.imp (RR.nil.snoc h2) (fun c x hc => hc.mono fun _ _ _ => .inl trivial), (by simpa using (rdF_blk hB4).mono fun _ _ _ => .inl trivial), hb9⟩)
  have hb : Blk w g 28 #[.int .i64 k0, .int .i64 p0, .int .i64 n0, .string s0, .slice A0 na0 ca0, .slice B0 nb0 cb0, .string z0, .slice C0 nc0 cc0] := hb
  have hlg := hb.lt
  have hg1 : g ≠ w.heap.size + 1 := by omega
  have hg2 : g ≠ w.heap.size + 1 + 1 := by omega
  have hg3 : g < w.heap.size + 1 := by omega
  have hg4 : g < w.heap.size + 1 + 1 := by omega
  obtain ⟨c0, f0, l0⟩ := hb.rules
  clear hA hK hV hb hb9 hB4 hB3 HW5 HA HK HV
  go_enter Tryz.func33, Tryz.ntmps33
  go_wp2
  refine bodyPost_ret (v := .agg #[.slice (some ⟨w.heap.size + 1 + 1 + 1 + 1, 0, none⟩) 1 1]) (by simp only [results, Tryz.results33]; go_simp) rfl ?_
  exact HF.out
end Go.Proofs.YtgolomgmnanbpaaGreatDoor
namespace Go.Proofs.YtgolomgmnanbpaaGreatDoor
set_option linter.unusedVariables false
set_option linter.unusedSimpArgs false
def xT : List UInt8 := [120]
def oT : List UInt8 := [111, 116, 104, 101, 114]
theorem fit_rn (x : EJ) : fitE (rnE xT oT x) ↔ fitE x := by
  unfold fitE
  rw [deep_rn (by decide) (by decide)]
theorem may_loop (nm : List UInt8) (a k v : EJ) (hn : nameOk nm = true) : mayP (loopJ nm a k v) = (decide (fitE a) && (decide (fitE k) && decide (fitE v))) := by
  have hz : blankE eZero = true := by decide
  unfold mayP loopJ
  simp [mayL, mayS, hn, hz]
theorem rn_law {a k v : EJ} {id : List UInt8} {doc : JV} (hk : hasE oT k = false) (hv : hasE oT v = false) : mapJ (loopJ oT a (rnE xT oT k) (rnE xT oT v)) id doc = mapJ (loopJ xT a k v) id doc := by
  have hm : mayP (loopJ oT a (rnE xT oT k) (rnE xT oT v)) = mayP (loopJ xT a k v) := by
    rw [may_loop _ _ _ _ (by decide), may_loop _ _ _ _ (by decide)]
    simp only [fit_rn]
  have henv : ∀ b ∈ envM id doc, b.1 ≠ xT ∧ b.1 ≠ oT := fun b hb => by
    rcases List.mem_cons.1 hb with rfl | hb
    · exact ⟨show docT ≠ xT by decide, show docT ≠ oT by decide⟩
    · obtain rfl := List.mem_singleton.1 hb; exact ⟨show idT ≠ xT by decide, show idT ≠ oT by decide⟩
  have hg : ∀ st, goL (envM id doc) st (loopJ oT a (rnE xT oT k) (rnE xT oT v)) = goL (envM id doc) st (loopJ xT a k v) := fun st => by
    unfold loopJ
    rw [goL, goL, goL, goL, goS, goS, if_neg (by omega), if_neg (by omega), if_neg (by omega), if_neg (by omega)]
    cases evE (envM id doc) a with
    | none => rfl
    | some u =>
      simp only
      split
      · congr 1
        funext st x
        split
        · rw [goL, goL, goL, goL, goS, goS, if_pos rfl, if_pos rfl, evE_rn k hk henv, evE_rn v hv henv]
        · rfl
      · rfl
  unfold mapJ
  rw [hm, hg]
end Go.Proofs.YtgolomgmnanbpaaGreatDoor
namespace Go.Proofs.YtgolomgmnanbpaaGreatDoor
set_option linter.unusedVariables false
set_option linter.unusedSimpArgs false
open Go.RowKit
attribute [local go_sem] run_index_arr run_part_agg run_part_one run_field_agg
end Go.Proofs.YtgolomgmnanbpaaGreatDoor
namespace Go.Proofs.YtgolomgmnanbpaaGreatDoor
set_option linter.unusedVariables false
set_option linter.unusedSimpArgs false
open Go.RowKit
attribute [local go_sem] run_index_arr run_part_agg run_part_one run_field_agg
end Go.Proofs.YtgolomgmnanbpaaGreatDoor
namespace Go.Proofs.YtgolomgmnanbpaaGreatDoor
set_option linter.unusedVariables false
set_option linter.unusedSimpArgs false
open Go.RowKit
attribute [local go_sem] run_index_arr run_part_agg run_part_one run_field_agg
end Go.Proofs.YtgolomgmnanbpaaGreatDoor
namespace Go.Proofs.YtgolomgmnanbpaaGreatDoor
set_option linter.unusedVariables false
set_option linter.unusedSimpArgs false
open Go.RowKit
attribute [local go_sem] run_index_arr run_part_agg run_part_one run_field_agg
section
variable {w W W' : World} {g cap : Nat} {A : Option Addr} {l : List UInt8} {p many why : Int} {ov t0 t1 t2 t3 t4 : Value}
end
end Go.Proofs.YtgolomgmnanbpaaGreatDoor
namespace Go.Proofs.YtgolomgmnanbpaaGreatDoor
set_option linter.unusedVariables false
set_option linter.unusedSimpArgs false
open Go.RowKit
attribute [local go_sem] run_index_arr run_part_agg run_part_one run_field_agg
section
variable {W W' : World} {F : Nat → Prop} {A : Option Addr} {xs : List Value}
theorem RdF.take (h : RdF W F A xs) (k : Nat) : RdF W F A (xs.take k) := fun hn => by
  have hne : xs ≠ [] := fun e => hn (by simp [e])
  obtain ⟨b, o, rfl, hb, hf, hx⟩ := h hne
  exact ⟨b, o, rfl, hb, hf, fun i hi => by simp at hi; have := hx i (by omega); rw [this]; simp⟩
theorem RdF.cells {a : Addr} (h : RdF W F (some a) xs) : ∀ (j : Nat) (u : Value), xs[j]? = some u → W.cell? (a.add j) = some u := fun j u hu => by
  obtain ⟨ad, e, hc⟩ := h.rd.at_ (by intro e; rw [e] at hu; simp at hu)
  obtain rfl : a = ad := by simpa using e
  exact hc j u hu
theorem RdF.of_own {B : Nat} {e : TypeId} {size n : Nat} {v : Value} (h : W.ownsRow B e size v n xs) (hF : ∀ b, B ≤ b → F b) : ∃ A cap, v = .slice A n cap ∧ n ≤ cap ∧ (A = none → cap = 0) ∧ RdF W F A xs := by
  rcases h.2 with ⟨rfl, h0⟩ | ⟨g, cap, cur, rfl, hB, hg, hnc, _, _, _⟩
  · subst h0
    have : xs = [] := List.eq_nil_of_length_eq_zero (by simpa using h.1)
    subst this
    exact ⟨none, 0, rfl, Nat.le_refl _, fun _ => rfl, RdF.nil⟩
  · refine ⟨_, cap, rfl, hnc, (fun h => by cases h), fun _ => ⟨g, 0, rfl, (Array.getElem?_eq_some_iff.1 hg).1, hF g hB, fun i hi => ?_⟩⟩
    have := h.cells (g := g) rfl i xs[i] (List.getElem?_eq_getElem hi)
    rw [Nat.zero_add, ← this]; unfold Addr.add
    split
    · rename_i h0; subst h0; rfl
    · simp
end
end Go.Proofs.YtgolomgmnanbpaaGreatDoor
namespace Go.Proofs.YtgolomgmnanbpaaGreatDoor
set_option linter.unusedVariables false
set_option linter.unusedSimpArgs false
open Go.RowKit
attribute [local go_sem] run_index_arr run_part_agg run_part_one run_field_agg
def TwoB (w : World) (t : TypeId) (cs cs' : Array Value) (wr : World) : Prop := Blk wr w.heap.size t cs ∧ Blk wr (w.heap.size + 1) t cs' ∧ Below w.heap.size w wr
theorem TwoB.new (w : World) (t : TypeId) (cs cs' : Array Value) : TwoB w t cs cs' ((w.alloc (.cells cs t)).alloc (.cells cs' t)) := by
  refine ⟨(Blk.new w t cs).alloc _, ?_, ((Below.refl _ w).alloc (Nat.le_refl _) _).alloc (by simp) _⟩
  have := Blk.new (w.alloc (.cells cs t)) t cs'
  rw [World.size_alloc] at this; exact this
theorem TwoB.keep {w wr wx : World} {t : TypeId} {cs cs' : Array Value} (h : TwoB w t cs cs' wr) (hb : Below wr.heap.size wr wx) : TwoB w t cs cs' wx := ⟨h.1.keep hb, h.2.1.keep hb, h.2.2.trans (hb.mono h.2.2.size)⟩
theorem TwoB.drewN {w wr : World} {t : TypeId} {cs cs' : Array Value} (h : TwoB w t cs cs' wr) (k : Nat) : TwoB w t cs cs' (wr.drewN k) := ⟨h.1.drewN k, h.2.1.drewN k, bel_drewN h.2.2 k⟩
theorem TwoB.drew {w wr : World} {t : TypeId} {cs cs' : Array Value} (h : TwoB w t cs cs' wr) : TwoB w t cs cs' wr.drew := ⟨h.1.drew, h.2.1.drew, h.2.2.drew⟩
def EqS (p : Prop) (w : World) (e : Ending) (w' : World) : Prop := ∃ t : Bool, e = .returned (.bool t) ∧ (t = true ↔ p) ∧ Below w.heap.size w w'
theorem EqS.no {p : Prop} {w w' : World} (h : ¬ p) (hb : Below w.heap.size w w') : EqS p w (.returned (.bool false)) w' := ⟨false, rfl, by simp [h], hb⟩
theorem EqS.yes {p : Prop} {w w' : World} (h : p) (hb : Below w.heap.size w w') : EqS p w (.returned (.bool true)) w' := ⟨true, rfl, by simp [h], hb⟩
end Go.Proofs.YtgolomgmnanbpaaGreatDoor
namespace Go.Proofs.YtgolomgmnanbpaaGreatDoor
set_option linter.unusedVariables false
set_option linter.unusedSimpArgs false
open Go.RowKit Go.Shelf
attribute [local go_sem] run_index_arr run_part_agg run_part_one run_field_agg
set_option maxRecDepth 100000 in
set_option maxHeartbeats 4000000 in
theorem vEqFG (kids kidsq : List JV) (css css' : List (List Value)) (A A' : Option Addr) (nk nkq ca ca' : Nat) (F F' : Nat → Prop) (w : World) (hnk : kids.length = nk) (hnkq : kidsq.length = nkq) (hk9 : nk ≤ 4194304) (hkq9 : nkq ≤ 4194304) (h1 : VRs w F css kids) (h6 : RdF w F A css.flatten) (h1' : VRs w F' css' kidsq) (h6' : RdF w F' A' css'.flatten) (h2 : nk ≤ ca) (h2' : nkq ≤ ca')
    (heq : ∀ (x y : JV) (c c' : List Value) (W : World), x ∈ kids → y ∈ kidsq → Below w.heap.size w W → VR W F c x → VR W F' c' y → Calls Tryz.prog 101 #[.agg c.toArray, .agg c'.toArray] W (EqS (x = y) W)) :
    Calls Tryz.prog 149 #[.slice A nk ca, .slice A' nkq ca', .func (.func 101) #[] #[]] w (EqS (kids = kidsq) w) := by
  have HIH := Lib.hid (fun (i : Nat) (x : JV) (hx : kids[i]? = some x) => kid_cellsG h1 h6 hx)
  have HIH' := Lib.hid (fun (i : Nat) (x : JV) (hx : kidsq[i]? = some x) => kid_cellsG h1' h6' hx)
  have HEQ := Lib.hid heq
  have HNK := Lib.hid hnk
  have HNKQ := Lib.hid hnkq
  clear h1 h6 h1' h6' heq hnk hnkq
  by_cases el : nk = nkq
  case neg =>
    have HNO := Lib.hid (show ¬ (kids = kidsq) from fun e => el (by rw [← HNK.out, ← HNKQ.out, e]))
    have hb1 : ((nk : Int) == nkq) = false := by simp; omega
    have hb2 : ((nk : Int) != nkq) = true := by simp; omega
    go_enter Tryz.func149, Tryz.ntmps149
    go_wp2
    go_ret
    exact EqS.no HNO.out (Below.refl _ _)
  subst el
  go_enter Tryz.func149, Tryz.ntmps149
  go_wp2
  go_loopg [17] nk (fun gk s17 wr => ∃ i : Nat, i ≤ nk ∧ gk = nk - i ∧ s17 = .int .i64 i ∧ Hid (kids.take i = kidsq.take i) ∧ Hid (Below w.heap.size w wr))
  case atStart => exact ⟨0, Nat.zero_le _, rfl, by go_num, Lib.hid rfl, Lib.hid (Below.refl _ _)⟩
  case round =>
    obtain ⟨i, hi, hgk, rfl, HSM, HB⟩ := hrel
    have HG := Lib.hid hgk
    clear hgk
    by_cases hlt : i < nk
    · obtain ⟨x, hx⟩ : ∃ x, kids[i]? = some x := ⟨_, List.getElem?_eq_getElem (by rw [HNK.out]; exact hlt)⟩
      obtain ⟨y, hy⟩ : ∃ y, kidsq[i]? = some y := ⟨_, List.getElem?_eq_getElem (by rw [HNKQ.out]; exact hlt)⟩
      obtain ⟨b, o, k1, n1, s1, A1, na1, ca1, B1, nb1, cb1, rfl, hb, hvx, hz⟩ := HIH.out i x hx
      obtain ⟨b', o', k2, n2, s2, A2, na2, ca2, B2, nb2, cb2, rfl, hb', hvx', hz'⟩ := HIH'.out i y hy
      have hbA := (Below.refl wr.heap.size wr).alloc (Nat.le_refl _) (.cells #[.int .i64 k1, .int .i64 n1, .string s1, .slice A1 na1 ca1, .slice B1 nb1 cb1] 25)
      obtain ⟨q0, q1, q2, q3, q4⟩ := hz _ HB.out
      obtain ⟨p0, p1, p2, p3, p4⟩ := hz' _ (HB.out.trans (hbA.mono HB.out.size))
      have hTS := TwoB.new wr 25 #[.int .i64 k1, .int .i64 n1, .string s1, .slice A1 na1 ca1, .slice B1 nb1 cb1] #[.int .i64 k2, .int .i64 n2, .string s2, .slice A2 na2 ca2, .slice B2 nb2 cb2]
      have HB2 := Lib.hid (HB.out.trans (hTS.2.2.mono HB.out.size))
      have HCL := Lib.hid (HEQ.out x y _ _ _ (List.mem_of_getElem? hx) (List.mem_of_getElem? hy) HB2.out (hvx.bel HB2.out) (hvx'.bel HB2.out))
      have HXY := Lib.hid (show x = y → kids.take (i + 1) = kidsq.take (i + 1) from fun e => by rw [List.take_add_one, List.take_add_one, HSM.out, hx, hy, e])
      have HXN := Lib.hid (show x ≠ y → ¬ kids = kidsq from fun e h => e (by rw [h, hy] at hx; exact (Option.some.inj hx).symm))
      obtain ⟨c1, f1, l1⟩ := hTS.1.rules
      obtain ⟨c2, f2, l2⟩ := hTS.2.1.rules
      have hb1 : b < wr.heap.size := Nat.lt_of_lt_of_le hb HB.out.size
      have hb1' : b' < wr.heap.size := Nat.lt_of_lt_of_le hb' HB.out.size
      clear hz hz' hvx hvx' hx hy hbA hTS
      go_wp2_with fail
      refine HCL.out.mono ?_
      rintro e w2 ⟨tt, rfl, htt, hb2⟩
      have HB3 := Lib.hid (HB2.out.trans (hb2.mono HB2.out.size))
      have HTT := Lib.hid htt
      clear hb2 htt
      cases tt with
      | true =>
        have HK := Lib.hid (HXY.out (HTT.out.1 (by trivial)))
        go_wp2
        go_roundg (nk - (i + 1))
        case measure => rw [HG.out]; omega
        case rel => exact ⟨i + 1, hlt, rfl, by go_num, HK, HB3⟩
      | false =>
        have HF := Lib.hid (HXN.out (fun e => by have := HTT.out.2 e; cases this))
        go_wp2
        go_ret
        exact EqS.no HF.out HB3.out
    · obtain rfl : i = nk := by omega
      have HF := Lib.hid (show kids = kidsq by
        have e1 := HSM.out
        rwa [List.take_of_length_le (Nat.le_of_eq HNK.out), List.take_of_length_le (Nat.le_of_eq HNKQ.out)] at e1)
      go_wp2
      go_ret
      exact EqS.yes HF.out HB.out
set_option maxRecDepth 100000 in
set_option maxHeartbeats 4000000 in
theorem vEqualG : ∀ (N : Nat) (v v' : JV), nodesJ v ≤ N → ∀ (cs cs' : List Value) (F F' : Nat → Prop) (w : World), VR w F cs v → VR w F' cs' v' → Came v → Came v' → Calls Tryz.prog 101 #[.agg cs.toArray, .agg cs'.toArray] w (EqS (v = v') w)
  | 0, v, _, h, _, _, _, _, _, _, _, _, _ => by have := nodesJ_pos v; omega
  | N + 1, .mk k n s kids keys, .mk kq nq sq kidsq keysq, hN, cs, cs', F, F', w, hv, hv', hC, hC' => by
    have ih := vEqualG N
    unfold nodesJ at hN
    obtain ⟨_, _, hsl, hkl, hyl, _, hck⟩ := hC.out
    obtain ⟨_, _, hsl', hkl', hyl', _, hck'⟩ := hC'.out
    obtain ⟨A, B, ca, cb, css, rfl, h1, h2, h3, h4, h5, h6, h7⟩ := hv.out
    obtain ⟨A', B', ca', cb', css', rfl, h1', h2', h3', h4', h5', h6', h7'⟩ := hv'.out
    have HEF := Lib.hid (fun W (h : Below w.heap.size w W) => vEqFG kids kidsq css css' A A' kids.length kidsq.length ca ca' F F' W rfl rfl hkl hkl' (h1.below h) (h6.keep (KeepF.of_below h)) (h1'.below h) (h6'.keep (KeepF.of_below h)) h2 h2'
      (fun x y c c' W2 hx hy hW2 hc hc' => by
        obtain ⟨i, hi⟩ := List.mem_iff_getElem?.1 hx
        obtain ⟨hn1, hn2⟩ := nodesL_at hi
        exact ih x y (by omega) c c' F F' W2 hc hc' (hck x hx) (hck' y hy)))
    have HSE := Lib.hid (fun W (h : Below w.heap.size w W) => strEqual_any B B' keys.length keysq.length cb cb' keys keysq W rfl rfl (h7.keep (KeepF.of_below h)).rd (h7'.keep (KeepF.of_below h)).rd h3 h3' hyl hyl')
    have HTB := Lib.hid (TwoB.new w 25 #[.int .i64 k, .int .i64 n, .string ⟨s.toArray⟩, .slice A kids.length ca, .slice B keys.length cb] #[.int .i64 kq, .int .i64 nq, .string ⟨sq.toArray⟩, .slice A' kidsq.length ca', .slice B' keysq.length cb'])
    obtain ⟨nk, hnk⟩ : ∃ nk, kids.length = nk := ⟨_, rfl⟩
    obtain ⟨ny, hny⟩ : ∃ ny, keys.length = ny := ⟨_, rfl⟩
    obtain ⟨nkq, hnkq⟩ : ∃ nkq, kidsq.length = nkq := ⟨_, rfl⟩
    obtain ⟨nyq, hnyq⟩ : ∃ nyq, keysq.length = nyq := ⟨_, rfl⟩
    rw [hnk, hny, hnkq, hnyq] at HTB ⊢
    rw [hnk, hnkq] at HEF
    rw [hny, hnyq] at HSE
    have y1 : w.heap.size ≠ w.heap.size + 1 := by omega
    have y2 : w.heap.size + 1 ≠ w.heap.size := by omega
    clear hv hv' hC hC' hck hck' h1 h1' h2 h2' h3 h3' h4 h4' h5 h5' h6 h6' h7 h7' hnk hny hnkq hnyq ih hN
    obtain ⟨PP, hPP⟩ : ∃ PP : Prop, (JV.mk k n s kids keys = JV.mk kq nq sq kidsq keysq) = PP := ⟨_, rfl⟩
    rw [hPP]
    have HPN := Lib.hid (show (k ≠ kq ∨ n ≠ nq ∨ s ≠ sq ∨ kids ≠ kidsq ∨ keys ≠ keysq) → ¬ PP by
      rw [← hPP]; intro h e; injection e with e1 e2 e3 e4 e5
      rcases h with h | h | h | h | h
      · exact h e1
      · exact h e2
      · exact h e3
      · exact h e4
      · exact h e5)
    have HPY := Lib.hid (show k = kq → n = nq → s = sq → kids = kidsq → keys = keysq → PP by rw [← hPP]; rintro rfl rfl rfl rfl rfl; rfl)
    clear hPP
    by_cases ek : k = kq
    case neg =>
      have HNO := Lib.hid (HPN.out (.inl ek))
      have hb1 : (k == kq) = false := by simp [ek]
      go_enter Tryz.func101, Tryz.ntmps101
      go_wp2
      go_ret
      exact EqS.no HNO.out HTB.out.2.2
    by_cases en : n = nq
    case neg =>
      have HNO := Lib.hid (HPN.out (.inr (.inl en)))
      have hb1 : (n == nq) = false := by simp [en]
      subst ek
      go_enter Tryz.func101, Tryz.ntmps101
      go_wp2
      go_ret
      exact EqS.no HNO.out HTB.out.2.2
    by_cases es : s = sq
    case neg =>
      have HNO := Lib.hid (HPN.out (.inr (.inr (.inl es))))
      have hb1 : (s == sq) = false := by simp [es]
      subst ek en
      go_enter Tryz.func101, Tryz.ntmps101
      go_wp2
      go_ret
      exact EqS.no HNO.out HTB.out.2.2
    subst ek en es
    obtain ⟨dk, hdk⟩ : ∃ dk : Bool, decide (keys = keysq) = dk := ⟨_, rfl⟩
    rw [hdk] at HSE
    have HDK := Lib.hid hdk
    clear hdk
    cases dk with
    | false =>
      have HNO := Lib.hid (HPN.out (.inr (.inr (.inr (.inr (of_decide_eq_false HDK.out))))))
      go_enter Tryz.func101, Tryz.ntmps101
      go_wp2_with fail
      refine (HSE.out _ HTB.out.2.2).mono ?_
      rintro e w1 ⟨rfl, q, rfl⟩
      have HTQ := Lib.hid (HTB.out.drewN q)
      go_wp2
      go_ret
      exact EqS.no HNO.out HTQ.out.2.2
    | true =>
    have HKE := Lib.hid (of_decide_eq_true HDK.out)
    go_enter Tryz.func101, Tryz.ntmps101
    go_wp2_with fail
    refine (HSE.out _ HTB.out.2.2).mono ?_
    rintro e w1 ⟨rfl, q, rfl⟩
    have HTQ := Lib.hid (HTB.out.drewN q)
    obtain ⟨W1, hW1⟩ : ∃ W1, World.drewN ((w.alloc (.cells #[.int .i64 k, .int .i64 n, .string ⟨s.toArray⟩, .slice A nk ca, .slice B ny cb] 25)).alloc (.cells #[.int .i64 k, .int .i64 n, .string ⟨s.toArray⟩, .slice A' nkq ca', .slice B' nyq cb'] 25)) q = W1 := ⟨_, rfl⟩
    rw [hW1] at HTQ ⊢
    clear hW1
    obtain ⟨c1, f1, l1⟩ := HTQ.out.1.rules
    obtain ⟨c2, f2, l2⟩ := HTQ.out.2.1.rules
    go_wp2_with fail
    refine (HEF.out _ HTQ.out.2.2).mono ?_
    rintro e w2 ⟨tt, rfl, htt, hb2⟩
    have HB2 := Lib.hid (HTQ.out.2.2.trans (hb2.mono HTQ.out.2.2.size))
    have HTT := Lib.hid htt
    clear hb2 htt
    go_wp2
    go_ret
    refine ⟨tt, rfl, ⟨fun h => HPY.out (by trivial) (by trivial) (by trivial) (HTT.out.1 h) HKE.out, fun h => ?_⟩, HB2.out⟩
    cases tt with
    | true => rfl
    | false => exact absurd h (HPN.out (.inr (.inr (.inr (.inl fun e => by have := HTT.out.2 e; cases this)))))
set_option maxRecDepth 100000 in
set_option maxHeartbeats 4000000 in
theorem vSameG (v v' : JV) (cs cs' : List Value) (F F' : Nat → Prop) (w : World) (hG : GOK w) (hv : VR w F cs v) (hv' : VR w F' cs' v') (hC : Came v) (hC' : Came v') :
    Calls Tryz.prog 64 #[.agg cs.toArray, .agg cs'.toArray] w (EqS (good v = true ∧ good v' = true ∧ v = v') w) := by
  have H1 := Lib.hid (fun W (h : Below w.heap.size w W) => vRightG v cs F W (hG.keep h) (hv.bel h) hC)
  have H2 := Lib.hid (fun W (h : Below w.heap.size w W) => vRightG v' cs' F' W (hG.keep h) (hv'.bel h) hC')
  have H3 := Lib.hid (fun W (h : Below w.heap.size w W) => vEqualG _ v v' (Nat.le_refl _) cs cs' F F' W (hv.bel h) (hv'.bel h) hC hC')
  obtain ⟨k0, n0, s0, A0, na0, ca0, B0, nb0, cb0, rfl⟩ := hv.form
  obtain ⟨k1, n1, s1, A1, na1, ca1, B1, nb1, cb1, rfl⟩ := hv'.form
  have HB := Lib.hid (TwoB.new w 25 #[.int .i64 k0, .int .i64 n0, .string s0, .slice A0 na0 ca0, .slice B0 nb0 cb0] #[.int .i64 k1, .int .i64 n1, .string s1, .slice A1 na1 ca1, .slice B1 nb1 cb1])
  clear hv hv' hC hC' hG
  obtain ⟨g, hg⟩ : ∃ g, good v = g := ⟨_, rfl⟩
  obtain ⟨g', hg'⟩ : ∃ g', good v' = g' := ⟨_, rfl⟩
  rw [hg] at H1 ⊢
  rw [hg'] at H2 ⊢
  clear hg hg'
  cases g with
  | false =>
    go_enter Tryz.func64, Tryz.ntmps64
    go_wp2_with fail
    refine (H1.out _ HB.out.2.2).mono ?_
    rintro e w1 ⟨rfl, hb1⟩
    have HB1 := Lib.hid (HB.out.keep hb1)
    clear hb1
    go_wp2
    go_ret
    exact EqS.no (fun e => by cases e.1) HB1.out.2.2
  | true =>
  cases g' with
  | false =>
    go_enter Tryz.func64, Tryz.ntmps64
    go_wp2_with fail
    refine (H1.out _ HB.out.2.2).mono ?_
    rintro e w1 ⟨rfl, hb1⟩
    have HB1 := Lib.hid (HB.out.keep hb1)
    clear hb1
    obtain ⟨c1, f1, l1⟩ := HB1.out.1.rules
    obtain ⟨c2, f2, l2⟩ := HB1.out.2.1.rules
    go_wp2_with fail
    refine (H2.out _ HB1.out.2.2).mono ?_
    rintro e w2 ⟨rfl, hb2⟩
    have HB2 := Lib.hid (HB1.out.keep hb2)
    clear hb2
    go_wp2
    go_ret
    exact EqS.no (fun e => by cases e.2.1) HB2.out.2.2
  | true =>
    go_enter Tryz.func64, Tryz.ntmps64
    go_wp2_with fail
    refine (H1.out _ HB.out.2.2).mono ?_
    rintro e w1 ⟨rfl, hb1⟩
    have HB1 := Lib.hid (HB.out.keep hb1)
    clear hb1
    obtain ⟨c1, f1, l1⟩ := HB1.out.1.rules
    obtain ⟨c2, f2, l2⟩ := HB1.out.2.1.rules
    go_wp2_with fail
    refine (H2.out _ HB1.out.2.2).mono ?_
    rintro e w2 ⟨rfl, hb2⟩
    have HB2 := Lib.hid (HB1.out.keep hb2)
    clear hb2 c1 f1 l1 c2 f2 l2
    obtain ⟨c1, f1, l1⟩ := HB2.out.1.rules
    obtain ⟨c2, f2, l2⟩ := HB2.out.2.1.rules
    go_wp2_with fail
    refine (H3.out _ HB2.out.2.2).mono ?_
    rintro e w3 ⟨tt, rfl, htt, hb3⟩
    have HB3 := Lib.hid (HB2.out.keep hb3)
    have HTT := Lib.hid htt
    clear hb3 htt
    go_wp2
    go_ret
    exact ⟨tt, rfl, by rw [HTT.out]; simp, HB3.out.2.2⟩
end Go.Proofs.YtgolomgmnanbpaaGreatDoor
