import Derived.Test.YtgolomgmnanbpaaGreatDoorY01
import Derived.Test.YtgolomgmnanbpaaGreatDoorZ03
import Derived.Deep.RegionHeld3
namespace Go.Proofs.YtgolomgmnanbpaaGreatDoor
set_option linter.unusedVariables false
set_option linter.unusedSimpArgs false
open Go.RowKit
attribute [local go_sem] run_index_arr run_part_agg run_part_one run_field_agg
theorem bel_alc2 {B : Nat} {a w : World} (h : Below B a w) (hB : B ≤ a.heap.size) (o : Obj) : Below B a (w.alloc o) := h.alloc (Nat.le_trans hB h.size) o
theorem EvaP.num {n : Int} {w w' : World} {e : Ending} (h : EvaP (some (jNum n)) w e w') : ∃ (A B : Option Addr) (ca cb : Nat), e = .returned (.tuple #[.agg #[.int .i64 3, .int .i64 n, .string ⟨#[]⟩, .slice A 0 ca, .slice B 0 cb], .bool true]) ∧ Below w.heap.size w w' := by
  obtain ⟨cs, rfl, hv, _, hb⟩ := h.some_
  obtain ⟨A, B, ca, cb, rfl⟩ := hv.atom_cells
  exact ⟨A, B, ca, cb, rfl, hb⟩
theorem EvaP.numR {n : Int} {w w' : World} {e : Ending} (h : EvaP (numR n) w e w') : ∃ (p : Bool) (kk q : Int) (A : Option Addr) (ca : Nat) (B : Option Addr) (cb : Nat), e = .returned (.tuple #[.agg #[.int .i64 kk, .int .i64 q, .string ⟨#[]⟩, .slice A 0 ca, .slice B 0 cb], .bool p]) ∧ (p = true → iw n ∧ q = n) ∧ (p = false → ¬ iw n) ∧ Below w.heap.size w w' := by
  by_cases hn : iw n
  · rw [numR_ok hn] at h
    obtain ⟨A, B, ca, cb, rfl, hb⟩ := h.num
    exact ⟨true, 3, n, A, ca, B, cb, rfl, fun _ => ⟨hn, rfl⟩, (fun h => by cases h), hb⟩
  · rw [numR_bad hn] at h
    obtain ⟨cs, rfl, hv, hb⟩ := h.none__
    obtain ⟨A, B, ca, cb, rfl⟩ := hv.atom_cells
    exact ⟨false, 0, 0, A, ca, B, cb, rfl, (fun h => by cases h), fun _ => hn, hb⟩
theorem rdF_blkF {w : World} {F : Nat → Prop} {g : Nat} {t : TypeId} {l : List Value} (h : Blk w g t l.toArray) (hF : F g) : RdF w F (some ⟨g, 0, none⟩) l := fun hne =>
  ⟨g, 0, rfl, h.lt, hF, fun i hi => by rw [Nat.zero_add, h.cell]; simp [hi]⟩
theorem er_intF {w : World} {F : Nat → Prop} (n : Int) : ER w F [.int .i64 1, .int .i64 3, .int .i64 n, .string ⟨#[]⟩, .slice none 0 0, .slice none 0 0, .string ⟨#[]⟩, .slice none 0 0] (xInt n) := ER.leaf 1 [] (VR.atom 3 n [])
theorem er_two_F {w : World} {F : Nat → Prop} {c1 c2 : List Value} {x1 x2 : EJ} {g : Nat} (k : Int) (h1 : ER w F c1 x1) (h2 : ER w F c2 x2) (hF : F g) (hb : Blk w g 28 (c1 ++ c2).toArray) : ER w F [.int .i64 k, .int .i64 0, .int .i64 0, .string ⟨#[]⟩, .slice none 0 0, .slice none 0 0, .string ⟨#[]⟩, .slice (some ⟨g, 0, none⟩) 2 2] (xOf k [x1, x2]) :=
  ER.into (kids := [x1, x2]) (css := [c1, c2]) (s := []) VR.zero ((RR.nil.snoc h1).snoc h2) rfl (Nat.le_refl _) (fun e => by cases e) (by simpa using rdF_blkF hb hF)
set_option maxHeartbeats 4000000 in
theorem Blk.set8C {w : World} {g : Nat} {t : TypeId} {c0 c1 c2 c3 c4 c5 c6 c7 : Value} (h : Blk w g t #[c0, c1, c2, c3, c4, c5, c6, c7]) (x0 x1 x2 x3 x4 x5 x6 x7 : Value) : Blk (w.setCells g 0 [x0, x1, x2, x3, x4, x5, x6, x7]) g t #[x0, x1, x2, x3, x4, x5, x6, x7] :=
  (((((((h.set_ 0 x0).set_ 1 x1).set_ 2 x2).set_ 3 x3).set_ 4 x4).set_ 5 x5).set_ 6 x6).set_ 7 x7
theorem cam_sum : ∀ n : Nat, camE (sumX n)
  | 0 => cam_int (by unfold iw; omega)
  | n + 1 => (cam_of (by unfold iw; omega) (by simp) (cam_two (cam_sum n) (cam_name (by decide))))
theorem sml_sum : ∀ n : Nat, smlE (sumX n)
  | 0 => sml_leaf
  | n + 1 => (sml_of (by simp) (sml_two (sml_sum n) sml_leaf))
set_option maxRecDepth 100000 in
set_option maxHeartbeats 32000000 in
theorem counts_walk (a b k : Int) (n : Nat) (w : World) (hG : GOE w) (ha : iw a) (hb : iw b) (hk0 : 0 ≤ k) (hk1 : k < 256) (hn : n = (k % 8).toNat) :
    Calls Tryz.prog 6 #[.int .i64 a, .int .i64 b, .int .u8 k] w (BoolS true w) := by
  have HG := Lib.hid hG
  have HAI := Lib.hid ha
  have HBI := Lib.hid hb
  have HH0 := Lib.hid (Held.nil w)
  have HN := Lib.hid hn
  clear hG hn ha hb
  go_enter Tryz.func6, Tryz.ntmps6
  go_wp2_with fail
  refine (lWakes _ (HG.out.keep HH0.out.1)).mono ?_
  rintro e w1 ⟨rfl, hb1⟩
  have HH1 := Lib.hid (HH0.out.keep hb1)
  clear hb1
  go_wp2_with fail
  refine (vIntV a _).mono ?_
  rintro e w2 ⟨rfl, hb2⟩
  have HH2 := Lib.hid (HH1.out.keep hb2)
  clear hb2
  go_wp2_with fail
  refine (vIntV b _).mono ?_
  rintro e w3 ⟨rfl, hb3⟩
  have HH3 := Lib.hid (HH2.out.keep hb3)
  clear hb3
  go_wp2_with fail
  have HH4 := Lib.hid (HH3.out.push 37 #[.string ⟨#[97]⟩, .int .i64 3, .int .i64 a, .string ⟨#[]⟩, .slice none 0 0, .slice none 0 0, .string ⟨#[98]⟩, .int .i64 3, .int .i64 b, .string ⟨#[]⟩, .slice none 0 0, .slice none 0 0] (g := w3.heap.size) rfl)
  refine (lNamed ⟨#[97]⟩ _).mono ?_
  rintro e w4 ⟨rfl, hb4⟩
  have HH5 := Lib.hid (HH4.out.keep hb4)
  clear hb4
  go_wp2_with fail
  refine (lNamed ⟨#[98]⟩ _).mono ?_
  rintro e w5 ⟨rfl, hb5⟩
  have HH6 := Lib.hid (HH5.out.keep hb5)
  clear hb5
  obtain ⟨WE, hWE⟩ : ∃ W, (w5.alloc (.cells #[.int .i64 2, .int .i64 0, .int .i64 0, .string ⟨#[]⟩, .slice none 0 0, .slice none 0 0, .string ⟨#[97]⟩, .slice none 0 0] 28)).alloc (.cells #[.int .i64 2, .int .i64 0, .int .i64 0, .string ⟨#[]⟩, .slice none 0 0, .slice none 0 0, .string ⟨#[98]⟩, .slice none 0 0] 28) = W := ⟨_, rfl⟩
  have HHE := Lib.hid (show Held ((w5.heap.size + 1, 28, #[.int .i64 2, .int .i64 0, .int .i64 0, .string ⟨#[]⟩, .slice none 0 0, .slice none 0 0, .string ⟨#[98]⟩, .slice none 0 0]) :: (w5.heap.size, 28, #[.int .i64 2, .int .i64 0, .int .i64 0, .string ⟨#[]⟩, .slice none 0 0, .slice none 0 0, .string ⟨#[97]⟩, .slice none 0 0]) :: _) w WE by rw [← hWE]; exact (HH6.out.push 28 #[.int .i64 2, .int .i64 0, .int .i64 0, .string ⟨#[]⟩, .slice none 0 0, .slice none 0 0, .string ⟨#[97]⟩, .slice none 0 0] (g := w5.heap.size) rfl).push 28 #[.int .i64 2, .int .i64 0, .int .i64 0, .string ⟨#[]⟩, .slice none 0 0, .slice none 0 0, .string ⟨#[98]⟩, .slice none 0 0] (g := w5.heap.size + 1) (by simp))
  have HWE := Lib.hid hWE
  clear hWE
  have HBA := Lib.hid HHE.out.b1
  have HBB := Lib.hid HHE.out.b0
  have HASK := Lib.hid (fun (x : EJ) (cs : List Value) (W : World) (hW : Below WE.heap.size WE W) (hx : ER W TT cs x) (hcx : camE x) (hsx : smlE x) =>
    have hh := HHE.out.keep hW
    vEval x cs (env2 (jNum a) (jNum b)) [[.string ⟨#[97]⟩, .int .i64 3, .int .i64 a, .string ⟨#[]⟩, .slice none 0 0, .slice none 0 0], [.string ⟨#[98]⟩, .int .i64 3, .int .i64 b, .string ⟨#[]⟩, .slice none 0 0, .slice none 0 0]] (some ⟨w3.heap.size, 0, none⟩) 2 2 W (HG.out.keep hh.1) hx ((RR.nil.snoc ⟨_, rfl, VR.atom 3 a []⟩).snoc ⟨_, rfl, VR.atom 3 b []⟩) rfl (Nat.le_refl _) (by simpa using rdF_blk hh.b2) (by omega) hcx hsx
      (fun y hy => by rcases List.mem_cons.1 hy with rfl | hy; exact came_num HAI.out; obtain rfl := List.mem_singleton.1 hy; exact came_num HBI.out))
  have HB := Lib.hid (Below.refl WE.heap.size WE)
  have HBE := Lib.hid HHE.out.1
  go_upto_region 5 with fail
  rw [HWE.out]
  clear HH0 HH1 HH2 HH3 HH4 HH5 HH6
  obtain ⟨ca, fa, la⟩ := (HBA.out.keep HB.out).rules
  obtain ⟨cb, fb, lb⟩ := (HBB.out.keep HB.out).rules
  have HK11 := Lib.hid (Blk.new WE 28 #[.int .i64 2, .int .i64 0, .int .i64 0, .string ⟨#[]⟩, .slice none 0 0, .slice none 0 0, .string ⟨#[97]⟩, .slice none 0 0, .int .i64 2, .int .i64 0, .int .i64 0, .string ⟨#[]⟩, .slice none 0 0, .slice none 0 0, .string ⟨#[98]⟩, .slice none 0 0])
  have HB11 := Lib.hid (bel_alc2 HB.out (Nat.le_refl _) (.cells #[.int .i64 2, .int .i64 0, .int .i64 0, .string ⟨#[]⟩, .slice none 0 0, .slice none 0 0, .string ⟨#[97]⟩, .slice none 0 0, .int .i64 2, .int .i64 0, .int .i64 0, .string ⟨#[]⟩, .slice none 0 0, .slice none 0 0, .string ⟨#[98]⟩, .slice none 0 0] 28))
  go_wp2_with fail
  refine (lOf25 9 _ 2 2 _).mono ?_
  rintro e w11 ⟨rfl, hb⟩
  have HBo11 := Lib.hid (HB11.out.trans (hb.mono HB11.out.size))
  have HKo11 := Lib.hid (HK11.out.keep hb)
  have HQ11 := Lib.hid (HASK.out (xAB 9) [.int .i64 9, .int .i64 0, .int .i64 0, .string ⟨#[]⟩, .slice none 0 0, .slice none 0 0, .string ⟨#[]⟩, .slice (some ⟨WE.heap.size, 0, none⟩) 2 2] _ HBo11.out (er_two 9 (er_name aT) (er_name bT) HKo11.out) (cam_of (by unfold iw; omega) (by simp) (cam_two (cam_name (by decide)) (cam_name (by decide)))) (sml_of (by simp) (sml_two sml_leaf sml_leaf)))
  rw [cnt_two (by omega), show numO 9 a b = numR (a + b) from rfl] at HQ11
  clear hb ca fa la cb fb lb HB
  go_wp2_with fail
  refine HQ11.out.mono ?_
  intro e x1 h
  obtain ⟨p1, kk1, q1, VA1, va1, VB1, vb1, rfl, hp1, hp2, hb⟩ := EvaP.numR h
  have HP11 := Lib.hid hp1
  have HP21 := Lib.hid hp2
  have HV1 := Lib.hid (Blk.new x1 25 #[.int .i64 kk1, .int .i64 q1, .string ⟨#[]⟩, .slice VA1 0 va1, .slice VB1 0 vb1])
  have HB := Lib.hid (bel_alc2 (HBo11.out.trans (hb.mono HBo11.out.size)) (Nat.le_refl _) (.cells #[.int .i64 kk1, .int .i64 q1, .string ⟨#[]⟩, .slice VA1 0 va1, .slice VB1 0 vb1] 25))
  clear hb hp1 hp2 h HBo11 HKo11 HQ11 HB11 HK11
  obtain ⟨WV1, hWV⟩ : ∃ W, x1.alloc (.cells #[.int .i64 kk1, .int .i64 q1, .string ⟨#[]⟩, .slice VA1 0 va1, .slice VB1 0 vb1] 25) = W := ⟨_, rfl⟩
  rw [hWV] at HV1 HB
  have HWV := Lib.hid hWV
  clear hWV
  go_upto_if 45 with fail
  rw [HWV.out]
  clear HWV
  go_cut [] (fun wx => ∃ W : World, W = wx ∧ Hid (Below WE.heap.size WE W))
  case first =>
    cases p1
    · go_wp2
      go_meet
      case rel => exact ⟨_, rfl, HB⟩
    · obtain ⟨hi, rfl⟩ := HP11.out rfl
      have HI := Lib.hid hi
      obtain ⟨hi1, hi2⟩ := hi
      obtain ⟨c8, f8, l8⟩ := HV1.out.rules
      go_upto_region 9 with fail
      go_cut [12, 13] (fun sA sB wx => ∃ (g : Nat) (A B : Option Addr) (ca cb : Nat) (W : World), W = wx ∧ sA = .pointer (some ⟨g, 0, none⟩) ∧ sB = .bool true ∧ Hid (Below WV1.heap.size WV1 W) ∧ Hid (Blk W g 25 #[.int .i64 3, .int .i64 a, .string ⟨#[]⟩, .slice A 0 ca, .slice B 0 cb]))
      case first =>
        refine wp_region_held_drew (S := fun W' => Below WV1.heap.size WV1 W') (by kernel_rfl) (by exact (Below.refl _ _).drew) (fun hHeld => ?_)
        refine wpAnyH_worldM (fun z12 hw0 => ?_)
        have HS := Lib.hid (show Below WV1.heap.size WV1 z12 by rw [hw0]; exact (Below.refl _ _).drew)
        clear hw0
        refine wpAnyH_take (i := 0) (oi := ⟨some 53, _, _, _, _, _⟩) (v := .agg #[.int .i64 2, .int .i64 0, .int .i64 0, .string ⟨#[]⟩, .slice none 0 0, .slice none 0 0, .string ⟨#[97]⟩, .slice none 0 0]) rfl (by kernel_rfl) (by kernel_rfl) (by kernel_rfl) (fun _ _ _ h => h) (Or.inl ⟨by kernel_rfl, ?_⟩) (by assumption) ?_
        · intro W hSw; obtain ⟨c8, f8, l8⟩ := (HBA.out.keep (HB.out.trans (hSw.mono HB.out.size))).rules; go_simp
        try simp only [Act.put, List.setIfInBounds_toArray, List.set_cons_zero, List.set_cons_succ]
        refine wpAnyH_take (i := 1) (oi := ⟨some 54, _, _, _, _, _⟩) (v := .agg #[.int .i64 2, .int .i64 0, .int .i64 0, .string ⟨#[]⟩, .slice none 0 0, .slice none 0 0, .string ⟨#[98]⟩, .slice none 0 0]) rfl (by kernel_rfl) (by kernel_rfl) (by kernel_rfl) (fun _ _ _ h => h) (Or.inl ⟨by kernel_rfl, ?_⟩) (by assumption) ?_
        · intro W hSw; obtain ⟨c8, f8, l8⟩ := (HBB.out.keep (HB.out.trans (hSw.mono HB.out.size))).rules; go_simp
        try simp only [Act.put, List.setIfInBounds_toArray, List.set_cons_zero, List.set_cons_succ]
        refine wpAnyH_take (i := 4) (oi := ⟨some 57, _, _, _, _, _⟩) (v := .agg #[.int .i64 2, .int .i64 0, .int .i64 0, .string ⟨#[]⟩, .slice none 0 0, .slice none 0 0, .string ⟨#[98]⟩, .slice none 0 0]) rfl (by kernel_rfl) (by kernel_rfl) (by kernel_rfl) (fun _ _ _ h => h) (Or.inl ⟨by kernel_rfl, ?_⟩) (by assumption) ?_
        · intro W hSw; obtain ⟨c8, f8, l8⟩ := (HBB.out.keep (HB.out.trans (hSw.mono HB.out.size))).rules; go_simp
        try simp only [Act.put, List.setIfInBounds_toArray, List.set_cons_zero, List.set_cons_succ]
        refine wpAnyH_take (i := 7) (oi := ⟨some 60, _, _, _, _, _⟩) (v := .slice (some ⟨w3.heap.size, 0, none⟩) 2 2) rfl (by kernel_rfl) (by kernel_rfl) (by kernel_rfl) (fun _ _ _ h => h) (Or.inl ⟨by kernel_rfl, ?_⟩) (by assumption) ?_
        · intro W hSw; go_simp
        try simp only [Act.put, List.setIfInBounds_toArray, List.set_cons_zero, List.set_cons_succ]
        refine wpAnyH_ready (rs := [2, 12]) (by kernel_rfl) (by simp) ?_
        refine AllReadyH.cons (o := ⟨some 55, _, _, _, _, _⟩) rfl (fun K hK => ?_) (AllReadyH.cons (o := ⟨some 12, _, _, _, _, _⟩) rfl (fun K hK => ?_) AllReadyH.nil)
        · go_simp
          refine hK.out _ _ (by exact bel_alc2 HS.out (Nat.le_refl _) _) (fun hHeld2 => ?_)
          clear hK K
          try simp only [Act.put, List.setIfInBounds_toArray, List.set_cons_zero, List.set_cons_succ]
          refine wpAnyH_worldM (fun z13 hW => ?_)
          have HS2 := Lib.hid (show Below WV1.heap.size WV1 z13 by rw [hW]; exact bel_alc2 HS.out (Nat.le_refl _) _)
          have HPk1_2 := Lib.hid (show Blk z13 z12.heap.size 28 #[.int .i64 2, .int .i64 0, .int .i64 0, .string ⟨#[]⟩, .slice none 0 0, .slice none 0 0, .string ⟨#[97]⟩, .slice none 0 0, .int .i64 2, .int .i64 0, .int .i64 0, .string ⟨#[]⟩, .slice none 0 0, .slice none 0 0, .string ⟨#[98]⟩, .slice none 0 0] by rw [hW]; exact Blk.new _ _ _)
          clear hW hHeld2 HS 
          have HS := HS2
          clear HS2
          have HPk1 := HPk1_2
          clear HPk1_2
          have hHeld := HS.out
          refine wpAnyH_ready (rs := [3, 12]) (by kernel_rfl) (by simp) ?_
          refine AllReadyH.cons (o := ⟨some 56, _, _, _, _, _⟩) rfl (fun K hK => ?_) (AllReadyH.cons (o := ⟨some 12, _, _, _, _, _⟩) rfl (fun K hK => ?_) AllReadyH.nil)
          · go_simp
            refine (lOf25 9 _ 2 2 _).mono ?_
            rintro e z14 ⟨rfl, hb⟩
            have HS2 := Lib.hid (HS.out.trans (hb.mono HS.out.size))
            have HPk1_2 := Lib.hid (HPk1.out.keep hb)
            refine hK.out _ _ (by exact HS2.out) (fun hHeld2 => ?_)
            clear hK K hb hHeld2 HS HPk1
            have HS := HS2
            clear HS2
            have HPk1 := HPk1_2
            clear HPk1_2
            try simp only [Act.put, List.setIfInBounds_toArray, List.set_cons_zero, List.set_cons_succ]
            have hHeld := HS.out
            refine wpAnyH_ready (rs := [5, 12]) (by kernel_rfl) (by simp) ?_
            refine AllReadyH.cons (o := ⟨some 58, _, _, _, _, _⟩) rfl (fun K hK => ?_) (AllReadyH.cons (o := ⟨some 12, _, _, _, _, _⟩) rfl (fun K hK => ?_) AllReadyH.nil)
            · go_simp
              refine hK.out _ _ (by exact bel_alc2 HS.out (Nat.le_refl _) _) (fun hHeld2 => ?_)
              clear hK K
              try simp only [Act.put, List.setIfInBounds_toArray, List.set_cons_zero, List.set_cons_succ]
              refine wpAnyH_worldM (fun z15 hW => ?_)
              have HS2 := Lib.hid (show Below WV1.heap.size WV1 z15 by rw [hW]; exact bel_alc2 HS.out (Nat.le_refl _) _)
              have HPk2_2 := Lib.hid (show Blk z15 z14.heap.size 28 #[.int .i64 9, .int .i64 0, .int .i64 0, .string ⟨#[]⟩, .slice none 0 0, .slice none 0 0, .string ⟨#[]⟩, .slice (some ⟨z12.heap.size, 0, none⟩) 2 2, .int .i64 2, .int .i64 0, .int .i64 0, .string ⟨#[]⟩, .slice none 0 0, .slice none 0 0, .string ⟨#[98]⟩, .slice none 0 0] by rw [hW]; exact Blk.new _ _ _)
              have HPk1_2 := Lib.hid (show Blk z15 z12.heap.size 28 #[.int .i64 2, .int .i64 0, .int .i64 0, .string ⟨#[]⟩, .slice none 0 0, .slice none 0 0, .string ⟨#[97]⟩, .slice none 0 0, .int .i64 2, .int .i64 0, .int .i64 0, .string ⟨#[]⟩, .slice none 0 0, .slice none 0 0, .string ⟨#[98]⟩, .slice none 0 0] by rw [hW]; exact Blk.alloc HPk1.out _)
              clear hW hHeld2 HS HPk1
              have HS := HS2
              clear HS2
              have HPk1 := HPk1_2
              clear HPk1_2
              have HPk2 := HPk2_2
              clear HPk2_2
              have hHeld := HS.out
              refine wpAnyH_ready (rs := [6, 12]) (by kernel_rfl) (by simp) ?_
              refine AllReadyH.cons (o := ⟨some 59, _, _, _, _, _⟩) rfl (fun K hK => ?_) (AllReadyH.cons (o := ⟨some 12, _, _, _, _, _⟩) rfl (fun K hK => ?_) AllReadyH.nil)
              · go_simp
                refine (lOf25 10 _ 2 2 _).mono ?_
                rintro e z16 ⟨rfl, hb⟩
                have HS2 := Lib.hid (HS.out.trans (hb.mono HS.out.size))
                have HPk1_2 := Lib.hid (HPk1.out.keep hb)
                have HPk2_2 := Lib.hid (HPk2.out.keep hb)
                refine hK.out _ _ (by exact HS2.out) (fun hHeld2 => ?_)
                clear hK K hb hHeld2 HS HPk1 HPk2
                have HS := HS2
                clear HS2
                have HPk1 := HPk1_2
                clear HPk1_2
                have HPk2 := HPk2_2
                clear HPk2_2
                try simp only [Act.put, List.setIfInBounds_toArray, List.set_cons_zero, List.set_cons_succ]
                have hHeld := HS.out
                refine wpAnyH_ready (rs := [8, 12]) (by kernel_rfl) (by simp) ?_
                refine AllReadyH.cons (o := ⟨some 61, _, _, _, _, _⟩) rfl (fun K hK => ?_) (AllReadyH.cons (o := ⟨some 12, _, _, _, _, _⟩) rfl (fun K hK => ?_) AllReadyH.nil)
                · go_simp
                  have HQ := Lib.hid (HASK.out (xOf 10 [xAB 9, xName bT]) [.int .i64 10, .int .i64 0, .int .i64 0, .string ⟨#[]⟩, .slice none 0 0, .slice none 0 0, .string ⟨#[]⟩, .slice (some ⟨z14.heap.size, 0, none⟩) 2 2] z16 (HB.out.trans (HS.out.mono HB.out.size)) (er_two 10 (er_two 9 (er_name aT) (er_name bT) HPk1.out) (er_name bT) HPk2.out) (cam_of (by unfold iw; omega) (by simp) (cam_two (cam_of (by unfold iw; omega) (by simp) (cam_two (cam_name (by decide)) (cam_name (by decide)))) (cam_name (by decide)))) (sml_of (by simp) (sml_two (sml_of (by simp) (sml_two sml_leaf sml_leaf)) sml_leaf)))
                  rw [cnt_back1 HAI.out HI.out] at HQ
                  refine HQ.out.mono ?_
                  intro e z17 h
                  obtain ⟨VA9, VB9, va9, vb9, rfl, hb⟩ := EvaP.num h
                  have HS2 := Lib.hid (HS.out.trans (hb.mono HS.out.size))
                  refine hK.out _ _ (by exact HS2.out) (fun hHeld2 => ?_)
                  clear hK K hb hHeld2 HS HQ h HPk1 HPk2
                  have HS := HS2
                  clear HS2
                  try simp only [Act.put, List.setIfInBounds_toArray, List.set_cons_zero, List.set_cons_succ]
                  have hHeld := HS.out
                  refine wpAnyH_take (i := 9) (oi := ⟨some 52, _, _, _, _, _⟩) (v := .tuple #[.agg #[.int .i64 3, .int .i64 a, .string ⟨#[]⟩, .slice VA9 0 va9, .slice VB9 0 vb9], .bool true]) rfl (by kernel_rfl) (by kernel_rfl) (by kernel_rfl) (fun _ _ _ h => h) (Or.inl ⟨by kernel_rfl, ?_⟩) (by assumption) ?_
                  · intro W hSw; go_simp
                  try simp only [Act.put, List.setIfInBounds_toArray, List.set_cons_zero, List.set_cons_succ]
                  refine wpAnyH_take (i := 10) (oi := ⟨some 62, _, _, _, _, _⟩) (v := .agg #[.int .i64 3, .int .i64 a, .string ⟨#[]⟩, .slice VA9 0 va9, .slice VB9 0 vb9]) rfl (by kernel_rfl) (by kernel_rfl) (by kernel_rfl) (fun _ _ _ h => h) (Or.inl ⟨by kernel_rfl, ?_⟩) (by assumption) ?_
                  · intro W hSw; go_simp
                  try simp only [Act.put, List.setIfInBounds_toArray, List.set_cons_zero, List.set_cons_succ]
                  refine wpAnyH_take (i := 11) (oi := ⟨some 63, _, _, _, _, _⟩) (v := .bool true) rfl (by kernel_rfl) (by kernel_rfl) (by kernel_rfl) (fun _ _ _ h => h) (Or.inl ⟨by kernel_rfl, ?_⟩) (by assumption) ?_
                  · intro W hSw; go_simp
                  try simp only [Act.put, List.setIfInBounds_toArray, List.set_cons_zero, List.set_cons_succ]
                  refine wpAnyH_ready (rs := [12]) (by kernel_rfl) (by simp) ?_
                  refine AllReadyH.cons (o := ⟨some 12, _, _, _, _, _⟩) rfl (fun K hK => ?_) AllReadyH.nil
                  go_simp
                  refine hK.out _ _ (by exact bel_alc2 HS.out (Nat.le_refl _) _) (fun hHeld2 => ?_)
                  clear hK K
                  try simp only [Act.put, List.setIfInBounds_toArray, List.set_cons_zero, List.set_cons_succ]
                  refine wpAnyH_worldM (fun z18 hW => ?_)
                  have HS2 := Lib.hid (show Below WV1.heap.size WV1 z18 by rw [hW]; exact bel_alc2 HS.out (Nat.le_refl _) _)
                  have HPv_2 := Lib.hid (show Blk z18 z17.heap.size 25 #[.int .i64 0, .int .i64 0, .string ⟨#[]⟩, .slice none 0 0, .slice none 0 0] by rw [hW]; exact Blk.new _ _ _)
                  have HGV := Lib.hid (show WV1.heap.size ≤ z17.heap.size from HS.out.size)
                  clear hW hHeld2 HS 
                  have HS := HS2
                  clear HS2
                  have HPv := HPv_2
                  clear HPv_2
                  have hHeld := HS.out
                  refine wpAnyH_ready (rs := [13]) (by kernel_rfl) (by simp) ?_
                  refine AllReadyH.cons (o := ⟨none, _, _, _, _, _⟩) rfl (fun K hK => ?_) AllReadyH.nil
                  rw [if_pos (by kernel_rfl)]
                  refine wp_store_mid 25 (.tmp 12) (.tmp 62) rfl (z17.heap.size) 0 #[.int .i64 3, .int .i64 a, .string ⟨#[]⟩, .slice VA9 0 va9, .slice VB9 0 vb9] rfl rfl HPv.out.there (by kernel_rfl) (by first | kernel_rfl | simp [Value.oneCell']) ?_
                  have HS2 := Lib.hid (bel_setC (B := WV1.heap.size) (b := z17.heap.size) HGV.out [.int .i64 3, .int .i64 a, .string ⟨#[]⟩, .slice VA9 0 va9, .slice VB9 0 vb9] 0 HS.out)
                  have HF := Lib.hid (HPv.out.set5C (.int .i64 3) (.int .i64 a) (.string ⟨#[]⟩) (.slice VA9 0 va9) (.slice VB9 0 vb9))
                  refine hK.out _ _ (by exact HS2.out) (fun hHeld2 => ?_)
                  clear hK K hHeld2 HS HPv
                  try simp only [Act.put, List.setIfInBounds_toArray, List.set_cons_zero, List.set_cons_succ]
                  have hHeld := HS2.out
                  refine wpAnyH_take (i := 14) (oi := ⟨some 13, _, _, _, _, _⟩) (v := .bool true) rfl (by kernel_rfl) (by kernel_rfl) (by kernel_rfl) (fun _ _ _ h => h) (Or.inl ⟨by kernel_rfl, ?_⟩) (by assumption) ?_
                  · intro W hSw; go_simp
                  try simp only [Act.put, List.setIfInBounds_toArray, List.set_cons_zero, List.set_cons_succ]
                  refine wpAnyH_done (by kernel_rfl) ?_ _
                  go_wp2
                  go_meet
                  case rel => exact ⟨_, _, _, _, _, _, rfl, rfl, rfl, HS2, HF⟩
                · go_simp
                  refine hK.out _ _ (by exact bel_alc2 HS.out (Nat.le_refl _) _) (fun hHeld2 => ?_)
                  clear hK K
                  try simp only [Act.put, List.setIfInBounds_toArray, List.set_cons_zero, List.set_cons_succ]
                  refine wpAnyH_worldM (fun z19 hW => ?_)
                  have HS2 := Lib.hid (show Below WV1.heap.size WV1 z19 by rw [hW]; exact bel_alc2 HS.out (Nat.le_refl _) _)
                  have HPv_2 := Lib.hid (show Blk z19 z16.heap.size 25 #[.int .i64 0, .int .i64 0, .string ⟨#[]⟩, .slice none 0 0, .slice none 0 0] by rw [hW]; exact Blk.new _ _ _)
                  have HGV := Lib.hid (show WV1.heap.size ≤ z16.heap.size from HS.out.size)
                  have HPk1_2 := Lib.hid (show Blk z19 z12.heap.size 28 #[.int .i64 2, .int .i64 0, .int .i64 0, .string ⟨#[]⟩, .slice none 0 0, .slice none 0 0, .string ⟨#[97]⟩, .slice none 0 0, .int .i64 2, .int .i64 0, .int .i64 0, .string ⟨#[]⟩, .slice none 0 0, .slice none 0 0, .string ⟨#[98]⟩, .slice none 0 0] by rw [hW]; exact Blk.alloc HPk1.out _)
                  have HPk2_2 := Lib.hid (show Blk z19 z14.heap.size 28 #[.int .i64 9, .int .i64 0, .int .i64 0, .string ⟨#[]⟩, .slice none 0 0, .slice none 0 0, .string ⟨#[]⟩, .slice (some ⟨z12.heap.size, 0, none⟩) 2 2, .int .i64 2, .int .i64 0, .int .i64 0, .string ⟨#[]⟩, .slice none 0 0, .slice none 0 0, .string ⟨#[98]⟩, .slice none 0 0] by rw [hW]; exact Blk.alloc HPk2.out _)
                  clear hW hHeld2 HS HPk1 HPk2
                  have HS := HS2
                  clear HS2
                  have HPk1 := HPk1_2
                  clear HPk1_2
                  have HPk2 := HPk2_2
                  clear HPk2_2
                  have HPv := HPv_2
                  clear HPv_2
                  have hHeld := HS.out
                  refine wpAnyH_ready (rs := [8]) (by kernel_rfl) (by simp) ?_
                  refine AllReadyH.cons (o := ⟨some 61, _, _, _, _, _⟩) rfl (fun K hK => ?_) AllReadyH.nil
                  go_simp
                  have HQ := Lib.hid (HASK.out (xOf 10 [xAB 9, xName bT]) [.int .i64 10, .int .i64 0, .int .i64 0, .string ⟨#[]⟩, .slice none 0 0, .slice none 0 0, .string ⟨#[]⟩, .slice (some ⟨z14.heap.size, 0, none⟩) 2 2] z19 (HB.out.trans (HS.out.mono HB.out.size)) (er_two 10 (er_two 9 (er_name aT) (er_name bT) HPk1.out) (er_name bT) HPk2.out) (cam_of (by unfold iw; omega) (by simp) (cam_two (cam_of (by unfold iw; omega) (by simp) (cam_two (cam_name (by decide)) (cam_name (by decide)))) (cam_name (by decide)))) (sml_of (by simp) (sml_two (sml_of (by simp) (sml_two sml_leaf sml_leaf)) sml_leaf)))
                  rw [cnt_back1 HAI.out HI.out] at HQ
                  refine HQ.out.mono ?_
                  intro e z20 h
                  obtain ⟨VA9, VB9, va9, vb9, rfl, hb⟩ := EvaP.num h
                  have HS2 := Lib.hid (HS.out.trans (hb.mono HS.out.size))
                  have HPv_2 := Lib.hid (HPv.out.keep hb)
                  refine hK.out _ _ (by exact HS2.out) (fun hHeld2 => ?_)
                  clear hK K hb hHeld2 HS HQ h HPk1 HPk2 HPv
                  have HS := HS2
                  clear HS2
                  have HPv := HPv_2
                  clear HPv_2
                  try simp only [Act.put, List.setIfInBounds_toArray, List.set_cons_zero, List.set_cons_succ]
                  have hHeld := HS.out
                  refine wpAnyH_take (i := 9) (oi := ⟨some 52, _, _, _, _, _⟩) (v := .tuple #[.agg #[.int .i64 3, .int .i64 a, .string ⟨#[]⟩, .slice VA9 0 va9, .slice VB9 0 vb9], .bool true]) rfl (by kernel_rfl) (by kernel_rfl) (by kernel_rfl) (fun _ _ _ h => h) (Or.inl ⟨by kernel_rfl, ?_⟩) (by assumption) ?_
                  · intro W hSw; go_simp
                  try simp only [Act.put, List.setIfInBounds_toArray, List.set_cons_zero, List.set_cons_succ]
                  refine wpAnyH_take (i := 10) (oi := ⟨some 62, _, _, _, _, _⟩) (v := .agg #[.int .i64 3, .int .i64 a, .string ⟨#[]⟩, .slice VA9 0 va9, .slice VB9 0 vb9]) rfl (by kernel_rfl) (by kernel_rfl) (by kernel_rfl) (fun _ _ _ h => h) (Or.inl ⟨by kernel_rfl, ?_⟩) (by assumption) ?_
                  · intro W hSw; go_simp
                  try simp only [Act.put, List.setIfInBounds_toArray, List.set_cons_zero, List.set_cons_succ]
                  refine wpAnyH_take (i := 11) (oi := ⟨some 63, _, _, _, _, _⟩) (v := .bool true) rfl (by kernel_rfl) (by kernel_rfl) (by kernel_rfl) (fun _ _ _ h => h) (Or.inl ⟨by kernel_rfl, ?_⟩) (by assumption) ?_
                  · intro W hSw; go_simp
                  try simp only [Act.put, List.setIfInBounds_toArray, List.set_cons_zero, List.set_cons_succ]
                  refine wpAnyH_ready (rs := [13]) (by kernel_rfl) (by simp) ?_
                  refine AllReadyH.cons (o := ⟨none, _, _, _, _, _⟩) rfl (fun K hK => ?_) AllReadyH.nil
                  rw [if_pos (by kernel_rfl)]
                  refine wp_store_mid 25 (.tmp 12) (.tmp 62) rfl (z16.heap.size) 0 #[.int .i64 3, .int .i64 a, .string ⟨#[]⟩, .slice VA9 0 va9, .slice VB9 0 vb9] rfl rfl HPv.out.there (by kernel_rfl) (by first | kernel_rfl | simp [Value.oneCell']) ?_
                  have HS2 := Lib.hid (bel_setC (B := WV1.heap.size) (b := z16.heap.size) HGV.out [.int .i64 3, .int .i64 a, .string ⟨#[]⟩, .slice VA9 0 va9, .slice VB9 0 vb9] 0 HS.out)
                  have HF := Lib.hid (HPv.out.set5C (.int .i64 3) (.int .i64 a) (.string ⟨#[]⟩) (.slice VA9 0 va9) (.slice VB9 0 vb9))
                  refine hK.out _ _ (by exact HS2.out) (fun hHeld2 => ?_)
                  clear hK K hHeld2 HS HPv
                  try simp only [Act.put, List.setIfInBounds_toArray, List.set_cons_zero, List.set_cons_succ]
                  have hHeld := HS2.out
                  refine wpAnyH_take (i := 14) (oi := ⟨some 13, _, _, _, _, _⟩) (v := .bool true) rfl (by kernel_rfl) (by kernel_rfl) (by kernel_rfl) (fun _ _ _ h => h) (Or.inl ⟨by kernel_rfl, ?_⟩) (by assumption) ?_
                  · intro W hSw; go_simp
                  try simp only [Act.put, List.setIfInBounds_toArray, List.set_cons_zero, List.set_cons_succ]
                  refine wpAnyH_done (by kernel_rfl) ?_ _
                  go_wp2
                  go_meet
                  case rel => exact ⟨_, _, _, _, _, _, rfl, rfl, rfl, HS2, HF⟩
              · go_simp
                refine hK.out _ _ (by exact bel_alc2 HS.out (Nat.le_refl _) _) (fun hHeld2 => ?_)
                clear hK K
                try simp only [Act.put, List.setIfInBounds_toArray, List.set_cons_zero, List.set_cons_succ]
                refine wpAnyH_worldM (fun z21 hW => ?_)
                have HS2 := Lib.hid (show Below WV1.heap.size WV1 z21 by rw [hW]; exact bel_alc2 HS.out (Nat.le_refl _) _)
                have HPv_2 := Lib.hid (show Blk z21 z15.heap.size 25 #[.int .i64 0, .int .i64 0, .string ⟨#[]⟩, .slice none 0 0, .slice none 0 0] by rw [hW]; exact Blk.new _ _ _)
                have HGV := Lib.hid (show WV1.heap.size ≤ z15.heap.size from HS.out.size)
                have HPk1_2 := Lib.hid (show Blk z21 z12.heap.size 28 #[.int .i64 2, .int .i64 0, .int .i64 0, .string ⟨#[]⟩, .slice none 0 0, .slice none 0 0, .string ⟨#[97]⟩, .slice none 0 0, .int .i64 2, .int .i64 0, .int .i64 0, .string ⟨#[]⟩, .slice none 0 0, .slice none 0 0, .string ⟨#[98]⟩, .slice none 0 0] by rw [hW]; exact Blk.alloc HPk1.out _)
                have HPk2_2 := Lib.hid (show Blk z21 z14.heap.size 28 #[.int .i64 9, .int .i64 0, .int .i64 0, .string ⟨#[]⟩, .slice none 0 0, .slice none 0 0, .string ⟨#[]⟩, .slice (some ⟨z12.heap.size, 0, none⟩) 2 2, .int .i64 2, .int .i64 0, .int .i64 0, .string ⟨#[]⟩, .slice none 0 0, .slice none 0 0, .string ⟨#[98]⟩, .slice none 0 0] by rw [hW]; exact Blk.alloc HPk2.out _)
                clear hW hHeld2 HS HPk1 HPk2
                have HS := HS2
                clear HS2
                have HPk1 := HPk1_2
                clear HPk1_2
                have HPk2 := HPk2_2
                clear HPk2_2
                have HPv := HPv_2
                clear HPv_2
                have hHeld := HS.out
                refine wpAnyH_ready (rs := [6]) (by kernel_rfl) (by simp) ?_
                refine AllReadyH.cons (o := ⟨some 59, _, _, _, _, _⟩) rfl (fun K hK => ?_) AllReadyH.nil
                go_simp
                refine (lOf25 10 _ 2 2 _).mono ?_
                rintro e z22 ⟨rfl, hb⟩
                have HS2 := Lib.hid (HS.out.trans (hb.mono HS.out.size))
                have HPk1_2 := Lib.hid (HPk1.out.keep hb)
                have HPk2_2 := Lib.hid (HPk2.out.keep hb)
                have HPv_2 := Lib.hid (HPv.out.keep hb)
                refine hK.out _ _ (by exact HS2.out) (fun hHeld2 => ?_)
                clear hK K hb hHeld2 HS HPk1 HPk2 HPv
                have HS := HS2
                clear HS2
                have HPk1 := HPk1_2
                clear HPk1_2
                have HPk2 := HPk2_2
                clear HPk2_2
                have HPv := HPv_2
                clear HPv_2
                try simp only [Act.put, List.setIfInBounds_toArray, List.set_cons_zero, List.set_cons_succ]
                have hHeld := HS.out
                refine wpAnyH_ready (rs := [8]) (by kernel_rfl) (by simp) ?_
                refine AllReadyH.cons (o := ⟨some 61, _, _, _, _, _⟩) rfl (fun K hK => ?_) AllReadyH.nil
                go_simp
                have HQ := Lib.hid (HASK.out (xOf 10 [xAB 9, xName bT]) [.int .i64 10, .int .i64 0, .int .i64 0, .string ⟨#[]⟩, .slice none 0 0, .slice none 0 0, .string ⟨#[]⟩, .slice (some ⟨z14.heap.size, 0, none⟩) 2 2] z22 (HB.out.trans (HS.out.mono HB.out.size)) (er_two 10 (er_two 9 (er_name aT) (er_name bT) HPk1.out) (er_name bT) HPk2.out) (cam_of (by unfold iw; omega) (by simp) (cam_two (cam_of (by unfold iw; omega) (by simp) (cam_two (cam_name (by decide)) (cam_name (by decide)))) (cam_name (by decide)))) (sml_of (by simp) (sml_two (sml_of (by simp) (sml_two sml_leaf sml_leaf)) sml_leaf)))
                rw [cnt_back1 HAI.out HI.out] at HQ
                refine HQ.out.mono ?_
                intro e z23 h
                obtain ⟨VA9, VB9, va9, vb9, rfl, hb⟩ := EvaP.num h
                have HS2 := Lib.hid (HS.out.trans (hb.mono HS.out.size))
                have HPv_2 := Lib.hid (HPv.out.keep hb)
                refine hK.out _ _ (by exact HS2.out) (fun hHeld2 => ?_)
                clear hK K hb hHeld2 HS HQ h HPk1 HPk2 HPv
                have HS := HS2
                clear HS2
                have HPv := HPv_2
                clear HPv_2
                try simp only [Act.put, List.setIfInBounds_toArray, List.set_cons_zero, List.set_cons_succ]
                have hHeld := HS.out
                refine wpAnyH_take (i := 9) (oi := ⟨some 52, _, _, _, _, _⟩) (v := .tuple #[.agg #[.int .i64 3, .int .i64 a, .string ⟨#[]⟩, .slice VA9 0 va9, .slice VB9 0 vb9], .bool true]) rfl (by kernel_rfl) (by kernel_rfl) (by kernel_rfl) (fun _ _ _ h => h) (Or.inl ⟨by kernel_rfl, ?_⟩) (by assumption) ?_
                · intro W hSw; go_simp
                try simp only [Act.put, List.setIfInBounds_toArray, List.set_cons_zero, List.set_cons_succ]
                refine wpAnyH_take (i := 10) (oi := ⟨some 62, _, _, _, _, _⟩) (v := .agg #[.int .i64 3, .int .i64 a, .string ⟨#[]⟩, .slice VA9 0 va9, .slice VB9 0 vb9]) rfl (by kernel_rfl) (by kernel_rfl) (by kernel_rfl) (fun _ _ _ h => h) (Or.inl ⟨by kernel_rfl, ?_⟩) (by assumption) ?_
                · intro W hSw; go_simp
                try simp only [Act.put, List.setIfInBounds_toArray, List.set_cons_zero, List.set_cons_succ]
                refine wpAnyH_take (i := 11) (oi := ⟨some 63, _, _, _, _, _⟩) (v := .bool true) rfl (by kernel_rfl) (by kernel_rfl) (by kernel_rfl) (fun _ _ _ h => h) (Or.inl ⟨by kernel_rfl, ?_⟩) (by assumption) ?_
                · intro W hSw; go_simp
                try simp only [Act.put, List.setIfInBounds_toArray, List.set_cons_zero, List.set_cons_succ]
                refine wpAnyH_ready (rs := [13]) (by kernel_rfl) (by simp) ?_
                refine AllReadyH.cons (o := ⟨none, _, _, _, _, _⟩) rfl (fun K hK => ?_) AllReadyH.nil
                rw [if_pos (by kernel_rfl)]
                refine wp_store_mid 25 (.tmp 12) (.tmp 62) rfl (z15.heap.size) 0 #[.int .i64 3, .int .i64 a, .string ⟨#[]⟩, .slice VA9 0 va9, .slice VB9 0 vb9] rfl rfl HPv.out.there (by kernel_rfl) (by first | kernel_rfl | simp [Value.oneCell']) ?_
                have HS2 := Lib.hid (bel_setC (B := WV1.heap.size) (b := z15.heap.size) HGV.out [.int .i64 3, .int .i64 a, .string ⟨#[]⟩, .slice VA9 0 va9, .slice VB9 0 vb9] 0 HS.out)
                have HF := Lib.hid (HPv.out.set5C (.int .i64 3) (.int .i64 a) (.string ⟨#[]⟩) (.slice VA9 0 va9) (.slice VB9 0 vb9))
                refine hK.out _ _ (by exact HS2.out) (fun hHeld2 => ?_)
                clear hK K hHeld2 HS HPv
                try simp only [Act.put, List.setIfInBounds_toArray, List.set_cons_zero, List.set_cons_succ]
                have hHeld := HS2.out
                refine wpAnyH_take (i := 14) (oi := ⟨some 13, _, _, _, _, _⟩) (v := .bool true) rfl (by kernel_rfl) (by kernel_rfl) (by kernel_rfl) (fun _ _ _ h => h) (Or.inl ⟨by kernel_rfl, ?_⟩) (by assumption) ?_
                · intro W hSw; go_simp
                try simp only [Act.put, List.setIfInBounds_toArray, List.set_cons_zero, List.set_cons_succ]
                refine wpAnyH_done (by kernel_rfl) ?_ _
                go_wp2
                go_meet
                case rel => exact ⟨_, _, _, _, _, _, rfl, rfl, rfl, HS2, HF⟩
            · go_simp
              refine hK.out _ _ (by exact bel_alc2 HS.out (Nat.le_refl _) _) (fun hHeld2 => ?_)
              clear hK K
              try simp only [Act.put, List.setIfInBounds_toArray, List.set_cons_zero, List.set_cons_succ]
              refine wpAnyH_worldM (fun z24 hW => ?_)
              have HS2 := Lib.hid (show Below WV1.heap.size WV1 z24 by rw [hW]; exact bel_alc2 HS.out (Nat.le_refl _) _)
              have HPv_2 := Lib.hid (show Blk z24 z14.heap.size 25 #[.int .i64 0, .int .i64 0, .string ⟨#[]⟩, .slice none 0 0, .slice none 0 0] by rw [hW]; exact Blk.new _ _ _)
              have HGV := Lib.hid (show WV1.heap.size ≤ z14.heap.size from HS.out.size)
              have HPk1_2 := Lib.hid (show Blk z24 z12.heap.size 28 #[.int .i64 2, .int .i64 0, .int .i64 0, .string ⟨#[]⟩, .slice none 0 0, .slice none 0 0, .string ⟨#[97]⟩, .slice none 0 0, .int .i64 2, .int .i64 0, .int .i64 0, .string ⟨#[]⟩, .slice none 0 0, .slice none 0 0, .string ⟨#[98]⟩, .slice none 0 0] by rw [hW]; exact Blk.alloc HPk1.out _)
              clear hW hHeld2 HS HPk1
              have HS := HS2
              clear HS2
              have HPk1 := HPk1_2
              clear HPk1_2
              have HPv := HPv_2
              clear HPv_2
              have hHeld := HS.out
              refine wpAnyH_ready (rs := [5]) (by kernel_rfl) (by simp) ?_
              refine AllReadyH.cons (o := ⟨some 58, _, _, _, _, _⟩) rfl (fun K hK => ?_) AllReadyH.nil
              go_simp
              refine hK.out _ _ (by exact bel_alc2 HS.out (Nat.le_refl _) _) (fun hHeld2 => ?_)
              clear hK K
              try simp only [Act.put, List.setIfInBounds_toArray, List.set_cons_zero, List.set_cons_succ]
              refine wpAnyH_worldM (fun z25 hW => ?_)
              have HS2 := Lib.hid (show Below WV1.heap.size WV1 z25 by rw [hW]; exact bel_alc2 HS.out (Nat.le_refl _) _)
              have HPk2_2 := Lib.hid (show Blk z25 z24.heap.size 28 #[.int .i64 9, .int .i64 0, .int .i64 0, .string ⟨#[]⟩, .slice none 0 0, .slice none 0 0, .string ⟨#[]⟩, .slice (some ⟨z12.heap.size, 0, none⟩) 2 2, .int .i64 2, .int .i64 0, .int .i64 0, .string ⟨#[]⟩, .slice none 0 0, .slice none 0 0, .string ⟨#[98]⟩, .slice none 0 0] by rw [hW]; exact Blk.new _ _ _)
              have HPk1_2 := Lib.hid (show Blk z25 z12.heap.size 28 #[.int .i64 2, .int .i64 0, .int .i64 0, .string ⟨#[]⟩, .slice none 0 0, .slice none 0 0, .string ⟨#[97]⟩, .slice none 0 0, .int .i64 2, .int .i64 0, .int .i64 0, .string ⟨#[]⟩, .slice none 0 0, .slice none 0 0, .string ⟨#[98]⟩, .slice none 0 0] by rw [hW]; exact Blk.alloc HPk1.out _)
              have HPv_2 := Lib.hid (show Blk z25 z14.heap.size 25 #[.int .i64 0, .int .i64 0, .string ⟨#[]⟩, .slice none 0 0, .slice none 0 0] by rw [hW]; exact Blk.alloc HPv.out _)
              clear hW hHeld2 HS HPk1 HPv
              have HS := HS2
              clear HS2
              have HPk1 := HPk1_2
              clear HPk1_2
              have HPv := HPv_2
              clear HPv_2
              have HPk2 := HPk2_2
              clear HPk2_2
              have hHeld := HS.out
              refine wpAnyH_ready (rs := [6]) (by kernel_rfl) (by simp) ?_
              refine AllReadyH.cons (o := ⟨some 59, _, _, _, _, _⟩) rfl (fun K hK => ?_) AllReadyH.nil
              go_simp
              refine (lOf25 10 _ 2 2 _).mono ?_
              rintro e z26 ⟨rfl, hb⟩
              have HS2 := Lib.hid (HS.out.trans (hb.mono HS.out.size))
              have HPk1_2 := Lib.hid (HPk1.out.keep hb)
              have HPv_2 := Lib.hid (HPv.out.keep hb)
              have HPk2_2 := Lib.hid (HPk2.out.keep hb)
              refine hK.out _ _ (by exact HS2.out) (fun hHeld2 => ?_)
              clear hK K hb hHeld2 HS HPk1 HPv HPk2
              have HS := HS2
              clear HS2
              have HPk1 := HPk1_2
              clear HPk1_2
              have HPv := HPv_2
              clear HPv_2
              have HPk2 := HPk2_2
              clear HPk2_2
              try simp only [Act.put, List.setIfInBounds_toArray, List.set_cons_zero, List.set_cons_succ]
              have hHeld := HS.out
              refine wpAnyH_ready (rs := [8]) (by kernel_rfl) (by simp) ?_
              refine AllReadyH.cons (o := ⟨some 61, _, _, _, _, _⟩) rfl (fun K hK => ?_) AllReadyH.nil
              go_simp
              have HQ := Lib.hid (HASK.out (xOf 10 [xAB 9, xName bT]) [.int .i64 10, .int .i64 0, .int .i64 0, .string ⟨#[]⟩, .slice none 0 0, .slice none 0 0, .string ⟨#[]⟩, .slice (some ⟨z24.heap.size, 0, none⟩) 2 2] z26 (HB.out.trans (HS.out.mono HB.out.size)) (er_two 10 (er_two 9 (er_name aT) (er_name bT) HPk1.out) (er_name bT) HPk2.out) (cam_of (by unfold iw; omega) (by simp) (cam_two (cam_of (by unfold iw; omega) (by simp) (cam_two (cam_name (by decide)) (cam_name (by decide)))) (cam_name (by decide)))) (sml_of (by simp) (sml_two (sml_of (by simp) (sml_two sml_leaf sml_leaf)) sml_leaf)))
              rw [cnt_back1 HAI.out HI.out] at HQ
              refine HQ.out.mono ?_
              intro e z27 h
              obtain ⟨VA9, VB9, va9, vb9, rfl, hb⟩ := EvaP.num h
              have HS2 := Lib.hid (HS.out.trans (hb.mono HS.out.size))
              have HPv_2 := Lib.hid (HPv.out.keep hb)
              refine hK.out _ _ (by exact HS2.out) (fun hHeld2 => ?_)
              clear hK K hb hHeld2 HS HQ h HPk1 HPv HPk2
              have HS := HS2
              clear HS2
              have HPv := HPv_2
              clear HPv_2
              try simp only [Act.put, List.setIfInBounds_toArray, List.set_cons_zero, List.set_cons_succ]
              have hHeld := HS.out
              refine wpAnyH_take (i := 9) (oi := ⟨some 52, _, _, _, _, _⟩) (v := .tuple #[.agg #[.int .i64 3, .int .i64 a, .string ⟨#[]⟩, .slice VA9 0 va9, .slice VB9 0 vb9], .bool true]) rfl (by kernel_rfl) (by kernel_rfl) (by kernel_rfl) (fun _ _ _ h => h) (Or.inl ⟨by kernel_rfl, ?_⟩) (by assumption) ?_
              · intro W hSw; go_simp
              try simp only [Act.put, List.setIfInBounds_toArray, List.set_cons_zero, List.set_cons_succ]
              refine wpAnyH_take (i := 10) (oi := ⟨some 62, _, _, _, _, _⟩) (v := .agg #[.int .i64 3, .int .i64 a, .string ⟨#[]⟩, .slice VA9 0 va9, .slice VB9 0 vb9]) rfl (by kernel_rfl) (by kernel_rfl) (by kernel_rfl) (fun _ _ _ h => h) (Or.inl ⟨by kernel_rfl, ?_⟩) (by assumption) ?_
              · intro W hSw; go_simp
              try simp only [Act.put, List.setIfInBounds_toArray, List.set_cons_zero, List.set_cons_succ]
              refine wpAnyH_take (i := 11) (oi := ⟨some 63, _, _, _, _, _⟩) (v := .bool true) rfl (by kernel_rfl) (by kernel_rfl) (by kernel_rfl) (fun _ _ _ h => h) (Or.inl ⟨by kernel_rfl, ?_⟩) (by assumption) ?_
              · intro W hSw; go_simp
              try simp only [Act.put, List.setIfInBounds_toArray, List.set_cons_zero, List.set_cons_succ]
              refine wpAnyH_ready (rs := [13]) (by kernel_rfl) (by simp) ?_
              refine AllReadyH.cons (o := ⟨none, _, _, _, _, _⟩) rfl (fun K hK => ?_) AllReadyH.nil
              rw [if_pos (by kernel_rfl)]
              refine wp_store_mid 25 (.tmp 12) (.tmp 62) rfl (z14.heap.size) 0 #[.int .i64 3, .int .i64 a, .string ⟨#[]⟩, .slice VA9 0 va9, .slice VB9 0 vb9] rfl rfl HPv.out.there (by kernel_rfl) (by first | kernel_rfl | simp [Value.oneCell']) ?_
              have HS2 := Lib.hid (bel_setC (B := WV1.heap.size) (b := z14.heap.size) HGV.out [.int .i64 3, .int .i64 a, .string ⟨#[]⟩, .slice VA9 0 va9, .slice VB9 0 vb9] 0 HS.out)
              have HF := Lib.hid (HPv.out.set5C (.int .i64 3) (.int .i64 a) (.string ⟨#[]⟩) (.slice VA9 0 va9) (.slice VB9 0 vb9))
              refine hK.out _ _ (by exact HS2.out) (fun hHeld2 => ?_)
              clear hK K hHeld2 HS HPv
              try simp only [Act.put, List.setIfInBounds_toArray, List.set_cons_zero, List.set_cons_succ]
              have hHeld := HS2.out
              refine wpAnyH_take (i := 14) (oi := ⟨some 13, _, _, _, _, _⟩) (v := .bool true) rfl (by kernel_rfl) (by kernel_rfl) (by kernel_rfl) (fun _ _ _ h => h) (Or.inl ⟨by kernel_rfl, ?_⟩) (by assumption) ?_
              · intro W hSw; go_simp
              try simp only [Act.put, List.setIfInBounds_toArray, List.set_cons_zero, List.set_cons_succ]
              refine wpAnyH_done (by kernel_rfl) ?_ _
              go_wp2
              go_meet
              case rel => exact ⟨_, _, _, _, _, _, rfl, rfl, rfl, HS2, HF⟩
          · go_simp
            refine hK.out _ _ (by exact bel_alc2 HS.out (Nat.le_refl _) _) (fun hHeld2 => ?_)
            clear hK K
            try simp only [Act.put, List.setIfInBounds_toArray, List.set_cons_zero, List.set_cons_succ]
            refine wpAnyH_worldM (fun z28 hW => ?_)
            have HS2 := Lib.hid (show Below WV1.heap.size WV1 z28 by rw [hW]; exact bel_alc2 HS.out (Nat.le_refl _) _)
            have HPv_2 := Lib.hid (show Blk z28 z13.heap.size 25 #[.int .i64 0, .int .i64 0, .string ⟨#[]⟩, .slice none 0 0, .slice none 0 0] by rw [hW]; exact Blk.new _ _ _)
            have HGV := Lib.hid (show WV1.heap.size ≤ z13.heap.size from HS.out.size)
            have HPk1_2 := Lib.hid (show Blk z28 z12.heap.size 28 #[.int .i64 2, .int .i64 0, .int .i64 0, .string ⟨#[]⟩, .slice none 0 0, .slice none 0 0, .string ⟨#[97]⟩, .slice none 0 0, .int .i64 2, .int .i64 0, .int .i64 0, .string ⟨#[]⟩, .slice none 0 0, .slice none 0 0, .string ⟨#[98]⟩, .slice none 0 0] by rw [hW]; exact Blk.alloc HPk1.out _)
            clear hW hHeld2 HS HPk1
            have HS := HS2
            clear HS2
            have HPk1 := HPk1_2
            clear HPk1_2
            have HPv := HPv_2
            clear HPv_2
            have hHeld := HS.out
            refine wpAnyH_ready (rs := [3]) (by kernel_rfl) (by simp) ?_
            refine AllReadyH.cons (o := ⟨some 56, _, _, _, _, _⟩) rfl (fun K hK => ?_) AllReadyH.nil
            go_simp
            refine (lOf25 9 _ 2 2 _).mono ?_
            rintro e z29 ⟨rfl, hb⟩
            have HS2 := Lib.hid (HS.out.trans (hb.mono HS.out.size))
            have HPk1_2 := Lib.hid (HPk1.out.keep hb)
            have HPv_2 := Lib.hid (HPv.out.keep hb)
            refine hK.out _ _ (by exact HS2.out) (fun hHeld2 => ?_)
            clear hK K hb hHeld2 HS HPk1 HPv
            have HS := HS2
            clear HS2
            have HPk1 := HPk1_2
            clear HPk1_2
            have HPv := HPv_2
            clear HPv_2
            try simp only [Act.put, List.setIfInBounds_toArray, List.set_cons_zero, List.set_cons_succ]
            have hHeld := HS.out
            refine wpAnyH_ready (rs := [5]) (by kernel_rfl) (by simp) ?_
            refine AllReadyH.cons (o := ⟨some 58, _, _, _, _, _⟩) rfl (fun K hK => ?_) AllReadyH.nil
            go_simp
            refine hK.out _ _ (by exact bel_alc2 HS.out (Nat.le_refl _) _) (fun hHeld2 => ?_)
            clear hK K
            try simp only [Act.put, List.setIfInBounds_toArray, List.set_cons_zero, List.set_cons_succ]
            refine wpAnyH_worldM (fun z30 hW => ?_)
            have HS2 := Lib.hid (show Below WV1.heap.size WV1 z30 by rw [hW]; exact bel_alc2 HS.out (Nat.le_refl _) _)
            have HPk2_2 := Lib.hid (show Blk z30 z29.heap.size 28 #[.int .i64 9, .int .i64 0, .int .i64 0, .string ⟨#[]⟩, .slice none 0 0, .slice none 0 0, .string ⟨#[]⟩, .slice (some ⟨z12.heap.size, 0, none⟩) 2 2, .int .i64 2, .int .i64 0, .int .i64 0, .string ⟨#[]⟩, .slice none 0 0, .slice none 0 0, .string ⟨#[98]⟩, .slice none 0 0] by rw [hW]; exact Blk.new _ _ _)
            have HPk1_2 := Lib.hid (show Blk z30 z12.heap.size 28 #[.int .i64 2, .int .i64 0, .int .i64 0, .string ⟨#[]⟩, .slice none 0 0, .slice none 0 0, .string ⟨#[97]⟩, .slice none 0 0, .int .i64 2, .int .i64 0, .int .i64 0, .string ⟨#[]⟩, .slice none 0 0, .slice none 0 0, .string ⟨#[98]⟩, .slice none 0 0] by rw [hW]; exact Blk.alloc HPk1.out _)
            have HPv_2 := Lib.hid (show Blk z30 z13.heap.size 25 #[.int .i64 0, .int .i64 0, .string ⟨#[]⟩, .slice none 0 0, .slice none 0 0] by rw [hW]; exact Blk.alloc HPv.out _)
            clear hW hHeld2 HS HPk1 HPv
            have HS := HS2
            clear HS2
            have HPk1 := HPk1_2
            clear HPk1_2
            have HPv := HPv_2
            clear HPv_2
            have HPk2 := HPk2_2
            clear HPk2_2
            have hHeld := HS.out
            refine wpAnyH_ready (rs := [6]) (by kernel_rfl) (by simp) ?_
            refine AllReadyH.cons (o := ⟨some 59, _, _, _, _, _⟩) rfl (fun K hK => ?_) AllReadyH.nil
            go_simp
            refine (lOf25 10 _ 2 2 _).mono ?_
            rintro e z31 ⟨rfl, hb⟩
            have HS2 := Lib.hid (HS.out.trans (hb.mono HS.out.size))
            have HPk1_2 := Lib.hid (HPk1.out.keep hb)
            have HPv_2 := Lib.hid (HPv.out.keep hb)
            have HPk2_2 := Lib.hid (HPk2.out.keep hb)
            refine hK.out _ _ (by exact HS2.out) (fun hHeld2 => ?_)
            clear hK K hb hHeld2 HS HPk1 HPv HPk2
            have HS := HS2
            clear HS2
            have HPk1 := HPk1_2
            clear HPk1_2
            have HPv := HPv_2
            clear HPv_2
            have HPk2 := HPk2_2
            clear HPk2_2
            try simp only [Act.put, List.setIfInBounds_toArray, List.set_cons_zero, List.set_cons_succ]
            have hHeld := HS.out
            refine wpAnyH_ready (rs := [8]) (by kernel_rfl) (by simp) ?_
            refine AllReadyH.cons (o := ⟨some 61, _, _, _, _, _⟩) rfl (fun K hK => ?_) AllReadyH.nil
            go_simp
            have HQ := Lib.hid (HASK.out (xOf 10 [xAB 9, xName bT]) [.int .i64 10, .int .i64 0, .int .i64 0, .string ⟨#[]⟩, .slice none 0 0, .slice none 0 0, .string ⟨#[]⟩, .slice (some ⟨z29.heap.size, 0, none⟩) 2 2] z31 (HB.out.trans (HS.out.mono HB.out.size)) (er_two 10 (er_two 9 (er_name aT) (er_name bT) HPk1.out) (er_name bT) HPk2.out) (cam_of (by unfold iw; omega) (by simp) (cam_two (cam_of (by unfold iw; omega) (by simp) (cam_two (cam_name (by decide)) (cam_name (by decide)))) (cam_name (by decide)))) (sml_of (by simp) (sml_two (sml_of (by simp) (sml_two sml_leaf sml_leaf)) sml_leaf)))
            rw [cnt_back1 HAI.out HI.out] at HQ
            refine HQ.out.mono ?_
            intro e z32 h
            obtain ⟨VA9, VB9, va9, vb9, rfl, hb⟩ := EvaP.num h
            have HS2 := Lib.hid (HS.out.trans (hb.mono HS.out.size))
            have HPv_2 := Lib.hid (HPv.out.keep hb)
            refine hK.out _ _ (by exact HS2.out) (fun hHeld2 => ?_)
            clear hK K hb hHeld2 HS HQ h HPk1 HPv HPk2
            have HS := HS2
            clear HS2
            have HPv := HPv_2
            clear HPv_2
            try simp only [Act.put, List.setIfInBounds_toArray, List.set_cons_zero, List.set_cons_succ]
            have hHeld := HS.out
            refine wpAnyH_take (i := 9) (oi := ⟨some 52, _, _, _, _, _⟩) (v := .tuple #[.agg #[.int .i64 3, .int .i64 a, .string ⟨#[]⟩, .slice VA9 0 va9, .slice VB9 0 vb9], .bool true]) rfl (by kernel_rfl) (by kernel_rfl) (by kernel_rfl) (fun _ _ _ h => h) (Or.inl ⟨by kernel_rfl, ?_⟩) (by assumption) ?_
            · intro W hSw; go_simp
            try simp only [Act.put, List.setIfInBounds_toArray, List.set_cons_zero, List.set_cons_succ]
            refine wpAnyH_take (i := 10) (oi := ⟨some 62, _, _, _, _, _⟩) (v := .agg #[.int .i64 3, .int .i64 a, .string ⟨#[]⟩, .slice VA9 0 va9, .slice VB9 0 vb9]) rfl (by kernel_rfl) (by kernel_rfl) (by kernel_rfl) (fun _ _ _ h => h) (Or.inl ⟨by kernel_rfl, ?_⟩) (by assumption) ?_
            · intro W hSw; go_simp
            try simp only [Act.put, List.setIfInBounds_toArray, List.set_cons_zero, List.set_cons_succ]
            refine wpAnyH_take (i := 11) (oi := ⟨some 63, _, _, _, _, _⟩) (v := .bool true) rfl (by kernel_rfl) (by kernel_rfl) (by kernel_rfl) (fun _ _ _ h => h) (Or.inl ⟨by kernel_rfl, ?_⟩) (by assumption) ?_
            · intro W hSw; go_simp
            try simp only [Act.put, List.setIfInBounds_toArray, List.set_cons_zero, List.set_cons_succ]
            refine wpAnyH_ready (rs := [13]) (by kernel_rfl) (by simp) ?_
            refine AllReadyH.cons (o := ⟨none, _, _, _, _, _⟩) rfl (fun K hK => ?_) AllReadyH.nil
            rw [if_pos (by kernel_rfl)]
            refine wp_store_mid 25 (.tmp 12) (.tmp 62) rfl (z13.heap.size) 0 #[.int .i64 3, .int .i64 a, .string ⟨#[]⟩, .slice VA9 0 va9, .slice VB9 0 vb9] rfl rfl HPv.out.there (by kernel_rfl) (by first | kernel_rfl | simp [Value.oneCell']) ?_
            have HS2 := Lib.hid (bel_setC (B := WV1.heap.size) (b := z13.heap.size) HGV.out [.int .i64 3, .int .i64 a, .string ⟨#[]⟩, .slice VA9 0 va9, .slice VB9 0 vb9] 0 HS.out)
            have HF := Lib.hid (HPv.out.set5C (.int .i64 3) (.int .i64 a) (.string ⟨#[]⟩) (.slice VA9 0 va9) (.slice VB9 0 vb9))
            refine hK.out _ _ (by exact HS2.out) (fun hHeld2 => ?_)
            clear hK K hHeld2 HS HPv
            try simp only [Act.put, List.setIfInBounds_toArray, List.set_cons_zero, List.set_cons_succ]
            have hHeld := HS2.out
            refine wpAnyH_take (i := 14) (oi := ⟨some 13, _, _, _, _, _⟩) (v := .bool true) rfl (by kernel_rfl) (by kernel_rfl) (by kernel_rfl) (fun _ _ _ h => h) (Or.inl ⟨by kernel_rfl, ?_⟩) (by assumption) ?_
            · intro W hSw; go_simp
            try simp only [Act.put, List.setIfInBounds_toArray, List.set_cons_zero, List.set_cons_succ]
            refine wpAnyH_done (by kernel_rfl) ?_ _
            go_wp2
            go_meet
            case rel => exact ⟨_, _, _, _, _, _, rfl, rfl, rfl, HS2, HF⟩
        · go_simp
          refine hK.out _ _ (by exact bel_alc2 HS.out (Nat.le_refl _) _) (fun hHeld2 => ?_)
          clear hK K
          try simp only [Act.put, List.setIfInBounds_toArray, List.set_cons_zero, List.set_cons_succ]
          refine wpAnyH_worldM (fun z33 hW => ?_)
          have HS2 := Lib.hid (show Below WV1.heap.size WV1 z33 by rw [hW]; exact bel_alc2 HS.out (Nat.le_refl _) _)
          have HPv_2 := Lib.hid (show Blk z33 z12.heap.size 25 #[.int .i64 0, .int .i64 0, .string ⟨#[]⟩, .slice none 0 0, .slice none 0 0] by rw [hW]; exact Blk.new _ _ _)
          have HGV := Lib.hid (show WV1.heap.size ≤ z12.heap.size from HS.out.size)
          clear hW hHeld2 HS 
          have HS := HS2
          clear HS2
          have HPv := HPv_2
          clear HPv_2
          have hHeld := HS.out
          refine wpAnyH_ready (rs := [2]) (by kernel_rfl) (by simp) ?_
          refine AllReadyH.cons (o := ⟨some 55, _, _, _, _, _⟩) rfl (fun K hK => ?_) AllReadyH.nil
          go_simp
          refine hK.out _ _ (by exact bel_alc2 HS.out (Nat.le_refl _) _) (fun hHeld2 => ?_)
          clear hK K
          try simp only [Act.put, List.setIfInBounds_toArray, List.set_cons_zero, List.set_cons_succ]
          refine wpAnyH_worldM (fun z34 hW => ?_)
          have HS2 := Lib.hid (show Below WV1.heap.size WV1 z34 by rw [hW]; exact bel_alc2 HS.out (Nat.le_refl _) _)
          have HPk1_2 := Lib.hid (show Blk z34 z33.heap.size 28 #[.int .i64 2, .int .i64 0, .int .i64 0, .string ⟨#[]⟩, .slice none 0 0, .slice none 0 0, .string ⟨#[97]⟩, .slice none 0 0, .int .i64 2, .int .i64 0, .int .i64 0, .string ⟨#[]⟩, .slice none 0 0, .slice none 0 0, .string ⟨#[98]⟩, .slice none 0 0] by rw [hW]; exact Blk.new _ _ _)
          have HPv_2 := Lib.hid (show Blk z34 z12.heap.size 25 #[.int .i64 0, .int .i64 0, .string ⟨#[]⟩, .slice none 0 0, .slice none 0 0] by rw [hW]; exact Blk.alloc HPv.out _)
          clear hW hHeld2 HS HPv
          have HS := HS2
          clear HS2
          have HPv := HPv_2
          clear HPv_2
          have HPk1 := HPk1_2
          clear HPk1_2
          have hHeld := HS.out
          refine wpAnyH_ready (rs := [3]) (by kernel_rfl) (by simp) ?_
          refine AllReadyH.cons (o := ⟨some 56, _, _, _, _, _⟩) rfl (fun K hK => ?_) AllReadyH.nil
          go_simp
          refine (lOf25 9 _ 2 2 _).mono ?_
          rintro e z35 ⟨rfl, hb⟩
          have HS2 := Lib.hid (HS.out.trans (hb.mono HS.out.size))
          have HPv_2 := Lib.hid (HPv.out.keep hb)
          have HPk1_2 := Lib.hid (HPk1.out.keep hb)
          refine hK.out _ _ (by exact HS2.out) (fun hHeld2 => ?_)
          clear hK K hb hHeld2 HS HPv HPk1
          have HS := HS2
          clear HS2
          have HPv := HPv_2
          clear HPv_2
          have HPk1 := HPk1_2
          clear HPk1_2
          try simp only [Act.put, List.setIfInBounds_toArray, List.set_cons_zero, List.set_cons_succ]
          have hHeld := HS.out
          refine wpAnyH_ready (rs := [5]) (by kernel_rfl) (by simp) ?_
          refine AllReadyH.cons (o := ⟨some 58, _, _, _, _, _⟩) rfl (fun K hK => ?_) AllReadyH.nil
          go_simp
          refine hK.out _ _ (by exact bel_alc2 HS.out (Nat.le_refl _) _) (fun hHeld2 => ?_)
          clear hK K
          try simp only [Act.put, List.setIfInBounds_toArray, List.set_cons_zero, List.set_cons_succ]
          refine wpAnyH_worldM (fun z36 hW => ?_)
          have HS2 := Lib.hid (show Below WV1.heap.size WV1 z36 by rw [hW]; exact bel_alc2 HS.out (Nat.le_refl _) _)
          have HPk2_2 := Lib.hid (show Blk z36 z35.heap.size 28 #[.int .i64 9, .int .i64 0, .int .i64 0, .string ⟨#[]⟩, .slice none 0 0, .slice none 0 0, .string ⟨#[]⟩, .slice (some ⟨z33.heap.size, 0, none⟩) 2 2, .int .i64 2, .int .i64 0, .int .i64 0, .string ⟨#[]⟩, .slice none 0 0, .slice none 0 0, .string ⟨#[98]⟩, .slice none 0 0] by rw [hW]; exact Blk.new _ _ _)
          have HPv_2 := Lib.hid (show Blk z36 z12.heap.size 25 #[.int .i64 0, .int .i64 0, .string ⟨#[]⟩, .slice none 0 0, .slice none 0 0] by rw [hW]; exact Blk.alloc HPv.out _)
          have HPk1_2 := Lib.hid (show Blk z36 z33.heap.size 28 #[.int .i64 2, .int .i64 0, .int .i64 0, .string ⟨#[]⟩, .slice none 0 0, .slice none 0 0, .string ⟨#[97]⟩, .slice none 0 0, .int .i64 2, .int .i64 0, .int .i64 0, .string ⟨#[]⟩, .slice none 0 0, .slice none 0 0, .string ⟨#[98]⟩, .slice none 0 0] by rw [hW]; exact Blk.alloc HPk1.out _)
          clear hW hHeld2 HS HPv HPk1
          have HS := HS2
          clear HS2
          have HPv := HPv_2
          clear HPv_2
          have HPk1 := HPk1_2
          clear HPk1_2
          have HPk2 := HPk2_2
          clear HPk2_2
          have hHeld := HS.out
          refine wpAnyH_ready (rs := [6]) (by kernel_rfl) (by simp) ?_
          refine AllReadyH.cons (o := ⟨some 59, _, _, _, _, _⟩) rfl (fun K hK => ?_) AllReadyH.nil
          go_simp
          refine (lOf25 10 _ 2 2 _).mono ?_
          rintro e z37 ⟨rfl, hb⟩
          have HS2 := Lib.hid (HS.out.trans (hb.mono HS.out.size))
          have HPv_2 := Lib.hid (HPv.out.keep hb)
          have HPk1_2 := Lib.hid (HPk1.out.keep hb)
          have HPk2_2 := Lib.hid (HPk2.out.keep hb)
          refine hK.out _ _ (by exact HS2.out) (fun hHeld2 => ?_)
          clear hK K hb hHeld2 HS HPv HPk1 HPk2
          have HS := HS2
          clear HS2
          have HPv := HPv_2
          clear HPv_2
          have HPk1 := HPk1_2
          clear HPk1_2
          have HPk2 := HPk2_2
          clear HPk2_2
          try simp only [Act.put, List.setIfInBounds_toArray, List.set_cons_zero, List.set_cons_succ]
          have hHeld := HS.out
          refine wpAnyH_ready (rs := [8]) (by kernel_rfl) (by simp) ?_
          refine AllReadyH.cons (o := ⟨some 61, _, _, _, _, _⟩) rfl (fun K hK => ?_) AllReadyH.nil
          go_simp
          have HQ := Lib.hid (HASK.out (xOf 10 [xAB 9, xName bT]) [.int .i64 10, .int .i64 0, .int .i64 0, .string ⟨#[]⟩, .slice none 0 0, .slice none 0 0, .string ⟨#[]⟩, .slice (some ⟨z35.heap.size, 0, none⟩) 2 2] z37 (HB.out.trans (HS.out.mono HB.out.size)) (er_two 10 (er_two 9 (er_name aT) (er_name bT) HPk1.out) (er_name bT) HPk2.out) (cam_of (by unfold iw; omega) (by simp) (cam_two (cam_of (by unfold iw; omega) (by simp) (cam_two (cam_name (by decide)) (cam_name (by decide)))) (cam_name (by decide)))) (sml_of (by simp) (sml_two (sml_of (by simp) (sml_two sml_leaf sml_leaf)) sml_leaf)))
          rw [cnt_back1 HAI.out HI.out] at HQ
          refine HQ.out.mono ?_
          intro e z38 h
          obtain ⟨VA9, VB9, va9, vb9, rfl, hb⟩ := EvaP.num h
          have HS2 := Lib.hid (HS.out.trans (hb.mono HS.out.size))
          have HPv_2 := Lib.hid (HPv.out.keep hb)
          refine hK.out _ _ (by exact HS2.out) (fun hHeld2 => ?_)
          clear hK K hb hHeld2 HS HQ h HPv HPk1 HPk2
          have HS := HS2
          clear HS2
          have HPv := HPv_2
          clear HPv_2
          try simp only [Act.put, List.setIfInBounds_toArray, List.set_cons_zero, List.set_cons_succ]
          have hHeld := HS.out
          refine wpAnyH_take (i := 9) (oi := ⟨some 52, _, _, _, _, _⟩) (v := .tuple #[.agg #[.int .i64 3, .int .i64 a, .string ⟨#[]⟩, .slice VA9 0 va9, .slice VB9 0 vb9], .bool true]) rfl (by kernel_rfl) (by kernel_rfl) (by kernel_rfl) (fun _ _ _ h => h) (Or.inl ⟨by kernel_rfl, ?_⟩) (by assumption) ?_
          · intro W hSw; go_simp
          try simp only [Act.put, List.setIfInBounds_toArray, List.set_cons_zero, List.set_cons_succ]
          refine wpAnyH_take (i := 10) (oi := ⟨some 62, _, _, _, _, _⟩) (v := .agg #[.int .i64 3, .int .i64 a, .string ⟨#[]⟩, .slice VA9 0 va9, .slice VB9 0 vb9]) rfl (by kernel_rfl) (by kernel_rfl) (by kernel_rfl) (fun _ _ _ h => h) (Or.inl ⟨by kernel_rfl, ?_⟩) (by assumption) ?_
          · intro W hSw; go_simp
          try simp only [Act.put, List.setIfInBounds_toArray, List.set_cons_zero, List.set_cons_succ]
          refine wpAnyH_take (i := 11) (oi := ⟨some 63, _, _, _, _, _⟩) (v := .bool true) rfl (by kernel_rfl) (by kernel_rfl) (by kernel_rfl) (fun _ _ _ h => h) (Or.inl ⟨by kernel_rfl, ?_⟩) (by assumption) ?_
          · intro W hSw; go_simp
          try simp only [Act.put, List.setIfInBounds_toArray, List.set_cons_zero, List.set_cons_succ]
          refine wpAnyH_ready (rs := [13]) (by kernel_rfl) (by simp) ?_
          refine AllReadyH.cons (o := ⟨none, _, _, _, _, _⟩) rfl (fun K hK => ?_) AllReadyH.nil
          rw [if_pos (by kernel_rfl)]
          refine wp_store_mid 25 (.tmp 12) (.tmp 62) rfl (z12.heap.size) 0 #[.int .i64 3, .int .i64 a, .string ⟨#[]⟩, .slice VA9 0 va9, .slice VB9 0 vb9] rfl rfl HPv.out.there (by kernel_rfl) (by first | kernel_rfl | simp [Value.oneCell']) ?_
          have HS2 := Lib.hid (bel_setC (B := WV1.heap.size) (b := z12.heap.size) HGV.out [.int .i64 3, .int .i64 a, .string ⟨#[]⟩, .slice VA9 0 va9, .slice VB9 0 vb9] 0 HS.out)
          have HF := Lib.hid (HPv.out.set5C (.int .i64 3) (.int .i64 a) (.string ⟨#[]⟩) (.slice VA9 0 va9) (.slice VB9 0 vb9))
          refine hK.out _ _ (by exact HS2.out) (fun hHeld2 => ?_)
          clear hK K hHeld2 HS HPv
          try simp only [Act.put, List.setIfInBounds_toArray, List.set_cons_zero, List.set_cons_succ]
          have hHeld := HS2.out
          refine wpAnyH_take (i := 14) (oi := ⟨some 13, _, _, _, _, _⟩) (v := .bool true) rfl (by kernel_rfl) (by kernel_rfl) (by kernel_rfl) (fun _ _ _ h => h) (Or.inl ⟨by kernel_rfl, ?_⟩) (by assumption) ?_
          · intro W hSw; go_simp
          try simp only [Act.put, List.setIfInBounds_toArray, List.set_cons_zero, List.set_cons_succ]
          refine wpAnyH_done (by kernel_rfl) ?_ _
          go_wp2
          go_meet
          case rel => exact ⟨_, _, _, _, _, _, rfl, rfl, rfl, HS2, HF⟩
      case rest =>
        obtain ⟨g9, A9, B9, ca9, cb9, wq, rfl, rfl, rfl, HB2, HV9⟩ := hcut
        obtain ⟨c9, f9, l9⟩ := HV9.out.rules
        have HBF := Lib.hid (HB.out.trans (HB2.out.mono HB.out.size))
        go_wp2
        go_meet
        case rel => exact ⟨_, rfl, HBF⟩
  case rest =>
    obtain ⟨wq1, rfl, HB2⟩ := hcut
    clear HB HV1 HP11 HP21
    have HB := HB2
    clear HB2
    obtain ⟨ca, fa, la⟩ := (HBA.out.keep HB.out).rules
    obtain ⟨cb, fb, lb⟩ := (HBB.out.keep HB.out).rules
    have HK39 := Lib.hid (Blk.new wq1 28 #[.int .i64 2, .int .i64 0, .int .i64 0, .string ⟨#[]⟩, .slice none 0 0, .slice none 0 0, .string ⟨#[97]⟩, .slice none 0 0, .int .i64 2, .int .i64 0, .int .i64 0, .string ⟨#[]⟩, .slice none 0 0, .slice none 0 0, .string ⟨#[98]⟩, .slice none 0 0])
    have HB39 := Lib.hid (bel_alc2 HB.out (Nat.le_refl _) (.cells #[.int .i64 2, .int .i64 0, .int .i64 0, .string ⟨#[]⟩, .slice none 0 0, .slice none 0 0, .string ⟨#[97]⟩, .slice none 0 0, .int .i64 2, .int .i64 0, .int .i64 0, .string ⟨#[]⟩, .slice none 0 0, .slice none 0 0, .string ⟨#[98]⟩, .slice none 0 0] 28))
    go_wp2_with fail
    refine (lOf25 10 _ 2 2 _).mono ?_
    rintro e w39 ⟨rfl, hb⟩
    have HBo39 := Lib.hid (HB39.out.trans (hb.mono HB39.out.size))
    have HKo39 := Lib.hid (HK39.out.keep hb)
    have HQ39 := Lib.hid (HASK.out (xAB 10) [.int .i64 10, .int .i64 0, .int .i64 0, .string ⟨#[]⟩, .slice none 0 0, .slice none 0 0, .string ⟨#[]⟩, .slice (some ⟨wq1.heap.size, 0, none⟩) 2 2] _ HBo39.out (er_two 10 (er_name aT) (er_name bT) HKo39.out) (cam_of (by unfold iw; omega) (by simp) (cam_two (cam_name (by decide)) (cam_name (by decide)))) (sml_of (by simp) (sml_two sml_leaf sml_leaf)))
    rw [cnt_two (by omega), show numO 10 a b = numR (a - b) from rfl] at HQ39
    clear hb ca fa la cb fb lb HB
    go_wp2_with fail
    refine HQ39.out.mono ?_
    intro e x2 h
    obtain ⟨p2, kk2, q2, VA2, va2, VB2, vb2, rfl, hp1, hp2, hb⟩ := EvaP.numR h
    have HP12 := Lib.hid hp1
    have HP22 := Lib.hid hp2
    have HV2 := Lib.hid (Blk.new x2 25 #[.int .i64 kk2, .int .i64 q2, .string ⟨#[]⟩, .slice VA2 0 va2, .slice VB2 0 vb2])
    have HB := Lib.hid (bel_alc2 (HBo39.out.trans (hb.mono HBo39.out.size)) (Nat.le_refl _) (.cells #[.int .i64 kk2, .int .i64 q2, .string ⟨#[]⟩, .slice VA2 0 va2, .slice VB2 0 vb2] 25))
    clear hb hp1 hp2 h HBo39 HKo39 HQ39 HB39 HK39
    obtain ⟨WV2, hWV⟩ : ∃ W, x2.alloc (.cells #[.int .i64 kk2, .int .i64 q2, .string ⟨#[]⟩, .slice VA2 0 va2, .slice VB2 0 vb2] 25) = W := ⟨_, rfl⟩
    rw [hWV] at HV2 HB
    have HWV := Lib.hid hWV
    clear hWV
    go_upto_if 81 with fail
    rw [HWV.out]
    clear HWV
    go_cut [] (fun wx => ∃ W : World, W = wx ∧ Hid (Below WE.heap.size WE W))
    case first =>
      cases p2
      · go_wp2
        go_meet
        case rel => exact ⟨_, rfl, HB⟩
      · obtain ⟨hi, rfl⟩ := HP12.out rfl
        have HI := Lib.hid hi
        obtain ⟨hi1, hi2⟩ := hi
        obtain ⟨c8, f8, l8⟩ := HV2.out.rules
        go_upto_region 14 with fail
        go_cut [16, 17] (fun sA sB wx => ∃ (g : Nat) (A B : Option Addr) (ca cb : Nat) (W : World), W = wx ∧ sA = .pointer (some ⟨g, 0, none⟩) ∧ sB = .bool true ∧ Hid (Below WV2.heap.size WV2 W) ∧ Hid (Blk W g 25 #[.int .i64 3, .int .i64 a, .string ⟨#[]⟩, .slice A 0 ca, .slice B 0 cb]))
        case first =>
          refine wp_region_held_drew (S := fun W' => Below WV2.heap.size WV2 W') (by kernel_rfl) (by exact (Below.refl _ _).drew) (fun hHeld => ?_)
          refine wpAnyH_worldM (fun z40 hw0 => ?_)
          have HS := Lib.hid (show Below WV2.heap.size WV2 z40 by rw [hw0]; exact (Below.refl _ _).drew)
          clear hw0
          refine wpAnyH_take (i := 0) (oi := ⟨some 83, _, _, _, _, _⟩) (v := .agg #[.int .i64 2, .int .i64 0, .int .i64 0, .string ⟨#[]⟩, .slice none 0 0, .slice none 0 0, .string ⟨#[97]⟩, .slice none 0 0]) rfl (by kernel_rfl) (by kernel_rfl) (by kernel_rfl) (fun _ _ _ h => h) (Or.inl ⟨by kernel_rfl, ?_⟩) (by assumption) ?_
          · intro W hSw; obtain ⟨c8, f8, l8⟩ := (HBA.out.keep (HB.out.trans (hSw.mono HB.out.size))).rules; go_simp
          try simp only [Act.put, List.setIfInBounds_toArray, List.set_cons_zero, List.set_cons_succ]
          refine wpAnyH_take (i := 1) (oi := ⟨some 84, _, _, _, _, _⟩) (v := .agg #[.int .i64 2, .int .i64 0, .int .i64 0, .string ⟨#[]⟩, .slice none 0 0, .slice none 0 0, .string ⟨#[98]⟩, .slice none 0 0]) rfl (by kernel_rfl) (by kernel_rfl) (by kernel_rfl) (fun _ _ _ h => h) (Or.inl ⟨by kernel_rfl, ?_⟩) (by assumption) ?_
          · intro W hSw; obtain ⟨c8, f8, l8⟩ := (HBB.out.keep (HB.out.trans (hSw.mono HB.out.size))).rules; go_simp
          try simp only [Act.put, List.setIfInBounds_toArray, List.set_cons_zero, List.set_cons_succ]
          refine wpAnyH_take (i := 4) (oi := ⟨some 87, _, _, _, _, _⟩) (v := .agg #[.int .i64 2, .int .i64 0, .int .i64 0, .string ⟨#[]⟩, .slice none 0 0, .slice none 0 0, .string ⟨#[98]⟩, .slice none 0 0]) rfl (by kernel_rfl) (by kernel_rfl) (by kernel_rfl) (fun _ _ _ h => h) (Or.inl ⟨by kernel_rfl, ?_⟩) (by assumption) ?_
          · intro W hSw; obtain ⟨c8, f8, l8⟩ := (HBB.out.keep (HB.out.trans (hSw.mono HB.out.size))).rules; go_simp
          try simp only [Act.put, List.setIfInBounds_toArray, List.set_cons_zero, List.set_cons_succ]
          refine wpAnyH_take (i := 7) (oi := ⟨some 90, _, _, _, _, _⟩) (v := .slice (some ⟨w3.heap.size, 0, none⟩) 2 2) rfl (by kernel_rfl) (by kernel_rfl) (by kernel_rfl) (fun _ _ _ h => h) (Or.inl ⟨by kernel_rfl, ?_⟩) (by assumption) ?_
          · intro W hSw; go_simp
          try simp only [Act.put, List.setIfInBounds_toArray, List.set_cons_zero, List.set_cons_succ]
          refine wpAnyH_ready (rs := [2, 12]) (by kernel_rfl) (by simp) ?_
          refine AllReadyH.cons (o := ⟨some 85, _, _, _, _, _⟩) rfl (fun K hK => ?_) (AllReadyH.cons (o := ⟨some 16, _, _, _, _, _⟩) rfl (fun K hK => ?_) AllReadyH.nil)
          · go_simp
            refine hK.out _ _ (by exact bel_alc2 HS.out (Nat.le_refl _) _) (fun hHeld2 => ?_)
            clear hK K
            try simp only [Act.put, List.setIfInBounds_toArray, List.set_cons_zero, List.set_cons_succ]
            refine wpAnyH_worldM (fun z41 hW => ?_)
            have HS2 := Lib.hid (show Below WV2.heap.size WV2 z41 by rw [hW]; exact bel_alc2 HS.out (Nat.le_refl _) _)
            have HPk1_2 := Lib.hid (show Blk z41 z40.heap.size 28 #[.int .i64 2, .int .i64 0, .int .i64 0, .string ⟨#[]⟩, .slice none 0 0, .slice none 0 0, .string ⟨#[97]⟩, .slice none 0 0, .int .i64 2, .int .i64 0, .int .i64 0, .string ⟨#[]⟩, .slice none 0 0, .slice none 0 0, .string ⟨#[98]⟩, .slice none 0 0] by rw [hW]; exact Blk.new _ _ _)
            clear hW hHeld2 HS 
            have HS := HS2
            clear HS2
            have HPk1 := HPk1_2
            clear HPk1_2
            have hHeld := HS.out
            refine wpAnyH_ready (rs := [3, 12]) (by kernel_rfl) (by simp) ?_
            refine AllReadyH.cons (o := ⟨some 86, _, _, _, _, _⟩) rfl (fun K hK => ?_) (AllReadyH.cons (o := ⟨some 16, _, _, _, _, _⟩) rfl (fun K hK => ?_) AllReadyH.nil)
            · go_simp
              refine (lOf25 10 _ 2 2 _).mono ?_
              rintro e z42 ⟨rfl, hb⟩
              have HS2 := Lib.hid (HS.out.trans (hb.mono HS.out.size))
              have HPk1_2 := Lib.hid (HPk1.out.keep hb)
              refine hK.out _ _ (by exact HS2.out) (fun hHeld2 => ?_)
              clear hK K hb hHeld2 HS HPk1
              have HS := HS2
              clear HS2
              have HPk1 := HPk1_2
              clear HPk1_2
              try simp only [Act.put, List.setIfInBounds_toArray, List.set_cons_zero, List.set_cons_succ]
              have hHeld := HS.out
              refine wpAnyH_ready (rs := [5, 12]) (by kernel_rfl) (by simp) ?_
              refine AllReadyH.cons (o := ⟨some 88, _, _, _, _, _⟩) rfl (fun K hK => ?_) (AllReadyH.cons (o := ⟨some 16, _, _, _, _, _⟩) rfl (fun K hK => ?_) AllReadyH.nil)
              · go_simp
                refine hK.out _ _ (by exact bel_alc2 HS.out (Nat.le_refl _) _) (fun hHeld2 => ?_)
                clear hK K
                try simp only [Act.put, List.setIfInBounds_toArray, List.set_cons_zero, List.set_cons_succ]
                refine wpAnyH_worldM (fun z43 hW => ?_)
                have HS2 := Lib.hid (show Below WV2.heap.size WV2 z43 by rw [hW]; exact bel_alc2 HS.out (Nat.le_refl _) _)
                have HPk2_2 := Lib.hid (show Blk z43 z42.heap.size 28 #[.int .i64 10, .int .i64 0, .int .i64 0, .string ⟨#[]⟩, .slice none 0 0, .slice none 0 0, .string ⟨#[]⟩, .slice (some ⟨z40.heap.size, 0, none⟩) 2 2, .int .i64 2, .int .i64 0, .int .i64 0, .string ⟨#[]⟩, .slice none 0 0, .slice none 0 0, .string ⟨#[98]⟩, .slice none 0 0] by rw [hW]; exact Blk.new _ _ _)
                have HPk1_2 := Lib.hid (show Blk z43 z40.heap.size 28 #[.int .i64 2, .int .i64 0, .int .i64 0, .string ⟨#[]⟩, .slice none 0 0, .slice none 0 0, .string ⟨#[97]⟩, .slice none 0 0, .int .i64 2, .int .i64 0, .int .i64 0, .string ⟨#[]⟩, .slice none 0 0, .slice none 0 0, .string ⟨#[98]⟩, .slice none 0 0] by rw [hW]; exact Blk.alloc HPk1.out _)
                clear hW hHeld2 HS HPk1
                have HS := HS2
                clear HS2
                have HPk1 := HPk1_2
                clear HPk1_2
                have HPk2 := HPk2_2
                clear HPk2_2
                have hHeld := HS.out
                refine wpAnyH_ready (rs := [6, 12]) (by kernel_rfl) (by simp) ?_
                refine AllReadyH.cons (o := ⟨some 89, _, _, _, _, _⟩) rfl (fun K hK => ?_) (AllReadyH.cons (o := ⟨some 16, _, _, _, _, _⟩) rfl (fun K hK => ?_) AllReadyH.nil)
                · go_simp
                  refine (lOf25 9 _ 2 2 _).mono ?_
                  rintro e z44 ⟨rfl, hb⟩
                  have HS2 := Lib.hid (HS.out.trans (hb.mono HS.out.size))
                  have HPk1_2 := Lib.hid (HPk1.out.keep hb)
                  have HPk2_2 := Lib.hid (HPk2.out.keep hb)
                  refine hK.out _ _ (by exact HS2.out) (fun hHeld2 => ?_)
                  clear hK K hb hHeld2 HS HPk1 HPk2
                  have HS := HS2
                  clear HS2
                  have HPk1 := HPk1_2
                  clear HPk1_2
                  have HPk2 := HPk2_2
                  clear HPk2_2
                  try simp only [Act.put, List.setIfInBounds_toArray, List.set_cons_zero, List.set_cons_succ]
                  have hHeld := HS.out
                  refine wpAnyH_ready (rs := [8, 12]) (by kernel_rfl) (by simp) ?_
                  refine AllReadyH.cons (o := ⟨some 91, _, _, _, _, _⟩) rfl (fun K hK => ?_) (AllReadyH.cons (o := ⟨some 16, _, _, _, _, _⟩) rfl (fun K hK => ?_) AllReadyH.nil)
                  · go_simp
                    have HQ := Lib.hid (HASK.out (xOf 9 [xAB 10, xName bT]) [.int .i64 9, .int .i64 0, .int .i64 0, .string ⟨#[]⟩, .slice none 0 0, .slice none 0 0, .string ⟨#[]⟩, .slice (some ⟨z42.heap.size, 0, none⟩) 2 2] z44 (HB.out.trans (HS.out.mono HB.out.size)) (er_two 9 (er_two 10 (er_name aT) (er_name bT) HPk1.out) (er_name bT) HPk2.out) (cam_of (by unfold iw; omega) (by simp) (cam_two (cam_of (by unfold iw; omega) (by simp) (cam_two (cam_name (by decide)) (cam_name (by decide)))) (cam_name (by decide)))) (sml_of (by simp) (sml_two (sml_of (by simp) (sml_two sml_leaf sml_leaf)) sml_leaf)))
                    rw [cnt_back2 HAI.out HI.out] at HQ
                    refine HQ.out.mono ?_
                    intro e z45 h
                    obtain ⟨VA9, VB9, va9, vb9, rfl, hb⟩ := EvaP.num h
                    have HS2 := Lib.hid (HS.out.trans (hb.mono HS.out.size))
                    refine hK.out _ _ (by exact HS2.out) (fun hHeld2 => ?_)
                    clear hK K hb hHeld2 HS HQ h HPk1 HPk2
                    have HS := HS2
                    clear HS2
                    try simp only [Act.put, List.setIfInBounds_toArray, List.set_cons_zero, List.set_cons_succ]
                    have hHeld := HS.out
                    refine wpAnyH_take (i := 9) (oi := ⟨some 82, _, _, _, _, _⟩) (v := .tuple #[.agg #[.int .i64 3, .int .i64 a, .string ⟨#[]⟩, .slice VA9 0 va9, .slice VB9 0 vb9], .bool true]) rfl (by kernel_rfl) (by kernel_rfl) (by kernel_rfl) (fun _ _ _ h => h) (Or.inl ⟨by kernel_rfl, ?_⟩) (by assumption) ?_
                    · intro W hSw; go_simp
                    try simp only [Act.put, List.setIfInBounds_toArray, List.set_cons_zero, List.set_cons_succ]
                    refine wpAnyH_take (i := 10) (oi := ⟨some 92, _, _, _, _, _⟩) (v := .agg #[.int .i64 3, .int .i64 a, .string ⟨#[]⟩, .slice VA9 0 va9, .slice VB9 0 vb9]) rfl (by kernel_rfl) (by kernel_rfl) (by kernel_rfl) (fun _ _ _ h => h) (Or.inl ⟨by kernel_rfl, ?_⟩) (by assumption) ?_
                    · intro W hSw; go_simp
                    try simp only [Act.put, List.setIfInBounds_toArray, List.set_cons_zero, List.set_cons_succ]
                    refine wpAnyH_take (i := 11) (oi := ⟨some 93, _, _, _, _, _⟩) (v := .bool true) rfl (by kernel_rfl) (by kernel_rfl) (by kernel_rfl) (fun _ _ _ h => h) (Or.inl ⟨by kernel_rfl, ?_⟩) (by assumption) ?_
                    · intro W hSw; go_simp
                    try simp only [Act.put, List.setIfInBounds_toArray, List.set_cons_zero, List.set_cons_succ]
                    refine wpAnyH_ready (rs := [12]) (by kernel_rfl) (by simp) ?_
                    refine AllReadyH.cons (o := ⟨some 16, _, _, _, _, _⟩) rfl (fun K hK => ?_) AllReadyH.nil
                    go_simp
                    refine hK.out _ _ (by exact bel_alc2 HS.out (Nat.le_refl _) _) (fun hHeld2 => ?_)
                    clear hK K
                    try simp only [Act.put, List.setIfInBounds_toArray, List.set_cons_zero, List.set_cons_succ]
                    refine wpAnyH_worldM (fun z46 hW => ?_)
                    have HS2 := Lib.hid (show Below WV2.heap.size WV2 z46 by rw [hW]; exact bel_alc2 HS.out (Nat.le_refl _) _)
                    have HPv_2 := Lib.hid (show Blk z46 z45.heap.size 25 #[.int .i64 0, .int .i64 0, .string ⟨#[]⟩, .slice none 0 0, .slice none 0 0] by rw [hW]; exact Blk.new _ _ _)
                    have HGV := Lib.hid (show WV2.heap.size ≤ z45.heap.size from HS.out.size)
                    clear hW hHeld2 HS 
                    have HS := HS2
                    clear HS2
                    have HPv := HPv_2
                    clear HPv_2
                    have hHeld := HS.out
                    refine wpAnyH_ready (rs := [13]) (by kernel_rfl) (by simp) ?_
                    refine AllReadyH.cons (o := ⟨none, _, _, _, _, _⟩) rfl (fun K hK => ?_) AllReadyH.nil
                    rw [if_pos (by kernel_rfl)]
                    refine wp_store_mid 25 (.tmp 16) (.tmp 92) rfl (z45.heap.size) 0 #[.int .i64 3, .int .i64 a, .string ⟨#[]⟩, .slice VA9 0 va9, .slice VB9 0 vb9] rfl rfl HPv.out.there (by kernel_rfl) (by first | kernel_rfl | simp [Value.oneCell']) ?_
                    have HS2 := Lib.hid (bel_setC (B := WV2.heap.size) (b := z45.heap.size) HGV.out [.int .i64 3, .int .i64 a, .string ⟨#[]⟩, .slice VA9 0 va9, .slice VB9 0 vb9] 0 HS.out)
                    have HF := Lib.hid (HPv.out.set5C (.int .i64 3) (.int .i64 a) (.string ⟨#[]⟩) (.slice VA9 0 va9) (.slice VB9 0 vb9))
                    refine hK.out _ _ (by exact HS2.out) (fun hHeld2 => ?_)
                    clear hK K hHeld2 HS HPv
                    try simp only [Act.put, List.setIfInBounds_toArray, List.set_cons_zero, List.set_cons_succ]
                    have hHeld := HS2.out
                    refine wpAnyH_take (i := 14) (oi := ⟨some 17, _, _, _, _, _⟩) (v := .bool true) rfl (by kernel_rfl) (by kernel_rfl) (by kernel_rfl) (fun _ _ _ h => h) (Or.inl ⟨by kernel_rfl, ?_⟩) (by assumption) ?_
                    · intro W hSw; go_simp
                    try simp only [Act.put, List.setIfInBounds_toArray, List.set_cons_zero, List.set_cons_succ]
                    refine wpAnyH_done (by kernel_rfl) ?_ _
                    go_wp2
                    go_meet
                    case rel => exact ⟨_, _, _, _, _, _, rfl, rfl, rfl, HS2, HF⟩
                  · go_simp
                    refine hK.out _ _ (by exact bel_alc2 HS.out (Nat.le_refl _) _) (fun hHeld2 => ?_)
                    clear hK K
                    try simp only [Act.put, List.setIfInBounds_toArray, List.set_cons_zero, List.set_cons_succ]
                    refine wpAnyH_worldM (fun z47 hW => ?_)
                    have HS2 := Lib.hid (show Below WV2.heap.size WV2 z47 by rw [hW]; exact bel_alc2 HS.out (Nat.le_refl _) _)
                    have HPv_2 := Lib.hid (show Blk z47 z44.heap.size 25 #[.int .i64 0, .int .i64 0, .string ⟨#[]⟩, .slice none 0 0, .slice none 0 0] by rw [hW]; exact Blk.new _ _ _)
                    have HGV := Lib.hid (show WV2.heap.size ≤ z44.heap.size from HS.out.size)
                    have HPk1_2 := Lib.hid (show Blk z47 z40.heap.size 28 #[.int .i64 2, .int .i64 0, .int .i64 0, .string ⟨#[]⟩, .slice none 0 0, .slice none 0 0, .string ⟨#[97]⟩, .slice none 0 0, .int .i64 2, .int .i64 0, .int .i64 0, .string ⟨#[]⟩, .slice none 0 0, .slice none 0 0, .string ⟨#[98]⟩, .slice none 0 0] by rw [hW]; exact Blk.alloc HPk1.out _)
                    have HPk2_2 := Lib.hid (show Blk z47 z42.heap.size 28 #[.int .i64 10, .int .i64 0, .int .i64 0, .string ⟨#[]⟩, .slice none 0 0, .slice none 0 0, .string ⟨#[]⟩, .slice (some ⟨z40.heap.size, 0, none⟩) 2 2, .int .i64 2, .int .i64 0, .int .i64 0, .string ⟨#[]⟩, .slice none 0 0, .slice none 0 0, .string ⟨#[98]⟩, .slice none 0 0] by rw [hW]; exact Blk.alloc HPk2.out _)
                    clear hW hHeld2 HS HPk1 HPk2
                    have HS := HS2
                    clear HS2
                    have HPk1 := HPk1_2
                    clear HPk1_2
                    have HPk2 := HPk2_2
                    clear HPk2_2
                    have HPv := HPv_2
                    clear HPv_2
                    have hHeld := HS.out
                    refine wpAnyH_ready (rs := [8]) (by kernel_rfl) (by simp) ?_
                    refine AllReadyH.cons (o := ⟨some 91, _, _, _, _, _⟩) rfl (fun K hK => ?_) AllReadyH.nil
                    go_simp
                    have HQ := Lib.hid (HASK.out (xOf 9 [xAB 10, xName bT]) [.int .i64 9, .int .i64 0, .int .i64 0, .string ⟨#[]⟩, .slice none 0 0, .slice none 0 0, .string ⟨#[]⟩, .slice (some ⟨z42.heap.size, 0, none⟩) 2 2] z47 (HB.out.trans (HS.out.mono HB.out.size)) (er_two 9 (er_two 10 (er_name aT) (er_name bT) HPk1.out) (er_name bT) HPk2.out) (cam_of (by unfold iw; omega) (by simp) (cam_two (cam_of (by unfold iw; omega) (by simp) (cam_two (cam_name (by decide)) (cam_name (by decide)))) (cam_name (by decide)))) (sml_of (by simp) (sml_two (sml_of (by simp) (sml_two sml_leaf sml_leaf)) sml_leaf)))
                    rw [cnt_back2 HAI.out HI.out] at HQ
                    refine HQ.out.mono ?_
                    intro e z48 h
                    obtain ⟨VA9, VB9, va9, vb9, rfl, hb⟩ := EvaP.num h
                    have HS2 := Lib.hid (HS.out.trans (hb.mono HS.out.size))
                    have HPv_2 := Lib.hid (HPv.out.keep hb)
                    refine hK.out _ _ (by exact HS2.out) (fun hHeld2 => ?_)
                    clear hK K hb hHeld2 HS HQ h HPk1 HPk2 HPv
                    have HS := HS2
                    clear HS2
                    have HPv := HPv_2
                    clear HPv_2
                    try simp only [Act.put, List.setIfInBounds_toArray, List.set_cons_zero, List.set_cons_succ]
                    have hHeld := HS.out
                    refine wpAnyH_take (i := 9) (oi := ⟨some 82, _, _, _, _, _⟩) (v := .tuple #[.agg #[.int .i64 3, .int .i64 a, .string ⟨#[]⟩, .slice VA9 0 va9, .slice VB9 0 vb9], .bool true]) rfl (by kernel_rfl) (by kernel_rfl) (by kernel_rfl) (fun _ _ _ h => h) (Or.inl ⟨by kernel_rfl, ?_⟩) (by assumption) ?_
                    · intro W hSw; go_simp
                    try simp only [Act.put, List.setIfInBounds_toArray, List.set_cons_zero, List.set_cons_succ]
                    refine wpAnyH_take (i := 10) (oi := ⟨some 92, _, _, _, _, _⟩) (v := .agg #[.int .i64 3, .int .i64 a, .string ⟨#[]⟩, .slice VA9 0 va9, .slice VB9 0 vb9]) rfl (by kernel_rfl) (by kernel_rfl) (by kernel_rfl) (fun _ _ _ h => h) (Or.inl ⟨by kernel_rfl, ?_⟩) (by assumption) ?_
                    · intro W hSw; go_simp
                    try simp only [Act.put, List.setIfInBounds_toArray, List.set_cons_zero, List.set_cons_succ]
                    refine wpAnyH_take (i := 11) (oi := ⟨some 93, _, _, _, _, _⟩) (v := .bool true) rfl (by kernel_rfl) (by kernel_rfl) (by kernel_rfl) (fun _ _ _ h => h) (Or.inl ⟨by kernel_rfl, ?_⟩) (by assumption) ?_
                    · intro W hSw; go_simp
                    try simp only [Act.put, List.setIfInBounds_toArray, List.set_cons_zero, List.set_cons_succ]
                    refine wpAnyH_ready (rs := [13]) (by kernel_rfl) (by simp) ?_
                    refine AllReadyH.cons (o := ⟨none, _, _, _, _, _⟩) rfl (fun K hK => ?_) AllReadyH.nil
                    rw [if_pos (by kernel_rfl)]
                    refine wp_store_mid 25 (.tmp 16) (.tmp 92) rfl (z44.heap.size) 0 #[.int .i64 3, .int .i64 a, .string ⟨#[]⟩, .slice VA9 0 va9, .slice VB9 0 vb9] rfl rfl HPv.out.there (by kernel_rfl) (by first | kernel_rfl | simp [Value.oneCell']) ?_
                    have HS2 := Lib.hid (bel_setC (B := WV2.heap.size) (b := z44.heap.size) HGV.out [.int .i64 3, .int .i64 a, .string ⟨#[]⟩, .slice VA9 0 va9, .slice VB9 0 vb9] 0 HS.out)
                    have HF := Lib.hid (HPv.out.set5C (.int .i64 3) (.int .i64 a) (.string ⟨#[]⟩) (.slice VA9 0 va9) (.slice VB9 0 vb9))
                    refine hK.out _ _ (by exact HS2.out) (fun hHeld2 => ?_)
                    clear hK K hHeld2 HS HPv
                    try simp only [Act.put, List.setIfInBounds_toArray, List.set_cons_zero, List.set_cons_succ]
                    have hHeld := HS2.out
                    refine wpAnyH_take (i := 14) (oi := ⟨some 17, _, _, _, _, _⟩) (v := .bool true) rfl (by kernel_rfl) (by kernel_rfl) (by kernel_rfl) (fun _ _ _ h => h) (Or.inl ⟨by kernel_rfl, ?_⟩) (by assumption) ?_
                    · intro W hSw; go_simp
                    try simp only [Act.put, List.setIfInBounds_toArray, List.set_cons_zero, List.set_cons_succ]
                    refine wpAnyH_done (by kernel_rfl) ?_ _
                    go_wp2
                    go_meet
                    case rel => exact ⟨_, _, _, _, _, _, rfl, rfl, rfl, HS2, HF⟩
                · go_simp
                  refine hK.out _ _ (by exact bel_alc2 HS.out (Nat.le_refl _) _) (fun hHeld2 => ?_)
                  clear hK K
                  try simp only [Act.put, List.setIfInBounds_toArray, List.set_cons_zero, List.set_cons_succ]
                  refine wpAnyH_worldM (fun z49 hW => ?_)
                  have HS2 := Lib.hid (show Below WV2.heap.size WV2 z49 by rw [hW]; exact bel_alc2 HS.out (Nat.le_refl _) _)
                  have HPv_2 := Lib.hid (show Blk z49 z43.heap.size 25 #[.int .i64 0, .int .i64 0, .string ⟨#[]⟩, .slice none 0 0, .slice none 0 0] by rw [hW]; exact Blk.new _ _ _)
                  have HGV := Lib.hid (show WV2.heap.size ≤ z43.heap.size from HS.out.size)
                  have HPk1_2 := Lib.hid (show Blk z49 z40.heap.size 28 #[.int .i64 2, .int .i64 0, .int .i64 0, .string ⟨#[]⟩, .slice none 0 0, .slice none 0 0, .string ⟨#[97]⟩, .slice none 0 0, .int .i64 2, .int .i64 0, .int .i64 0, .string ⟨#[]⟩, .slice none 0 0, .slice none 0 0, .string ⟨#[98]⟩, .slice none 0 0] by rw [hW]; exact Blk.alloc HPk1.out _)
                  have HPk2_2 := Lib.hid (show Blk z49 z42.heap.size 28 #[.int .i64 10, .int .i64 0, .int .i64 0, .string ⟨#[]⟩, .slice none 0 0, .slice none 0 0, .string ⟨#[]⟩, .slice (some ⟨z40.heap.size, 0, none⟩) 2 2, .int .i64 2, .int .i64 0, .int .i64 0, .string ⟨#[]⟩, .slice none 0 0, .slice none 0 0, .string ⟨#[98]⟩, .slice none 0 0] by rw [hW]; exact Blk.alloc HPk2.out _)
                  clear hW hHeld2 HS HPk1 HPk2
                  have HS := HS2
                  clear HS2
                  have HPk1 := HPk1_2
                  clear HPk1_2
                  have HPk2 := HPk2_2
                  clear HPk2_2
                  have HPv := HPv_2
                  clear HPv_2
                  have hHeld := HS.out
                  refine wpAnyH_ready (rs := [6]) (by kernel_rfl) (by simp) ?_
                  refine AllReadyH.cons (o := ⟨some 89, _, _, _, _, _⟩) rfl (fun K hK => ?_) AllReadyH.nil
                  go_simp
                  refine (lOf25 9 _ 2 2 _).mono ?_
                  rintro e z50 ⟨rfl, hb⟩
                  have HS2 := Lib.hid (HS.out.trans (hb.mono HS.out.size))
                  have HPk1_2 := Lib.hid (HPk1.out.keep hb)
                  have HPk2_2 := Lib.hid (HPk2.out.keep hb)
                  have HPv_2 := Lib.hid (HPv.out.keep hb)
                  refine hK.out _ _ (by exact HS2.out) (fun hHeld2 => ?_)
                  clear hK K hb hHeld2 HS HPk1 HPk2 HPv
                  have HS := HS2
                  clear HS2
                  have HPk1 := HPk1_2
                  clear HPk1_2
                  have HPk2 := HPk2_2
                  clear HPk2_2
                  have HPv := HPv_2
                  clear HPv_2
                  try simp only [Act.put, List.setIfInBounds_toArray, List.set_cons_zero, List.set_cons_succ]
                  have hHeld := HS.out
                  refine wpAnyH_ready (rs := [8]) (by kernel_rfl) (by simp) ?_
                  refine AllReadyH.cons (o := ⟨some 91, _, _, _, _, _⟩) rfl (fun K hK => ?_) AllReadyH.nil
                  go_simp
                  have HQ := Lib.hid (HASK.out (xOf 9 [xAB 10, xName bT]) [.int .i64 9, .int .i64 0, .int .i64 0, .string ⟨#[]⟩, .slice none 0 0, .slice none 0 0, .string ⟨#[]⟩, .slice (some ⟨z42.heap.size, 0, none⟩) 2 2] z50 (HB.out.trans (HS.out.mono HB.out.size)) (er_two 9 (er_two 10 (er_name aT) (er_name bT) HPk1.out) (er_name bT) HPk2.out) (cam_of (by unfold iw; omega) (by simp) (cam_two (cam_of (by unfold iw; omega) (by simp) (cam_two (cam_name (by decide)) (cam_name (by decide)))) (cam_name (by decide)))) (sml_of (by simp) (sml_two (sml_of (by simp) (sml_two sml_leaf sml_leaf)) sml_leaf)))
                  rw [cnt_back2 HAI.out HI.out] at HQ
                  refine HQ.out.mono ?_
                  intro e z51 h
                  obtain ⟨VA9, VB9, va9, vb9, rfl, hb⟩ := EvaP.num h
                  have HS2 := Lib.hid (HS.out.trans (hb.mono HS.out.size))
                  have HPv_2 := Lib.hid (HPv.out.keep hb)
                  refine hK.out _ _ (by exact HS2.out) (fun hHeld2 => ?_)
                  clear hK K hb hHeld2 HS HQ h HPk1 HPk2 HPv
                  have HS := HS2
                  clear HS2
                  have HPv := HPv_2
                  clear HPv_2
                  try simp only [Act.put, List.setIfInBounds_toArray, List.set_cons_zero, List.set_cons_succ]
                  have hHeld := HS.out
                  refine wpAnyH_take (i := 9) (oi := ⟨some 82, _, _, _, _, _⟩) (v := .tuple #[.agg #[.int .i64 3, .int .i64 a, .string ⟨#[]⟩, .slice VA9 0 va9, .slice VB9 0 vb9], .bool true]) rfl (by kernel_rfl) (by kernel_rfl) (by kernel_rfl) (fun _ _ _ h => h) (Or.inl ⟨by kernel_rfl, ?_⟩) (by assumption) ?_
                  · intro W hSw; go_simp
                  try simp only [Act.put, List.setIfInBounds_toArray, List.set_cons_zero, List.set_cons_succ]
                  refine wpAnyH_take (i := 10) (oi := ⟨some 92, _, _, _, _, _⟩) (v := .agg #[.int .i64 3, .int .i64 a, .string ⟨#[]⟩, .slice VA9 0 va9, .slice VB9 0 vb9]) rfl (by kernel_rfl) (by kernel_rfl) (by kernel_rfl) (fun _ _ _ h => h) (Or.inl ⟨by kernel_rfl, ?_⟩) (by assumption) ?_
                  · intro W hSw; go_simp
                  try simp only [Act.put, List.setIfInBounds_toArray, List.set_cons_zero, List.set_cons_succ]
                  refine wpAnyH_take (i := 11) (oi := ⟨some 93, _, _, _, _, _⟩) (v := .bool true) rfl (by kernel_rfl) (by kernel_rfl) (by kernel_rfl) (fun _ _ _ h => h) (Or.inl ⟨by kernel_rfl, ?_⟩) (by assumption) ?_
                  · intro W hSw; go_simp
                  try simp only [Act.put, List.setIfInBounds_toArray, List.set_cons_zero, List.set_cons_succ]
                  refine wpAnyH_ready (rs := [13]) (by kernel_rfl) (by simp) ?_
                  refine AllReadyH.cons (o := ⟨none, _, _, _, _, _⟩) rfl (fun K hK => ?_) AllReadyH.nil
                  rw [if_pos (by kernel_rfl)]
                  refine wp_store_mid 25 (.tmp 16) (.tmp 92) rfl (z43.heap.size) 0 #[.int .i64 3, .int .i64 a, .string ⟨#[]⟩, .slice VA9 0 va9, .slice VB9 0 vb9] rfl rfl HPv.out.there (by kernel_rfl) (by first | kernel_rfl | simp [Value.oneCell']) ?_
                  have HS2 := Lib.hid (bel_setC (B := WV2.heap.size) (b := z43.heap.size) HGV.out [.int .i64 3, .int .i64 a, .string ⟨#[]⟩, .slice VA9 0 va9, .slice VB9 0 vb9] 0 HS.out)
                  have HF := Lib.hid (HPv.out.set5C (.int .i64 3) (.int .i64 a) (.string ⟨#[]⟩) (.slice VA9 0 va9) (.slice VB9 0 vb9))
                  refine hK.out _ _ (by exact HS2.out) (fun hHeld2 => ?_)
                  clear hK K hHeld2 HS HPv
                  try simp only [Act.put, List.setIfInBounds_toArray, List.set_cons_zero, List.set_cons_succ]
                  have hHeld := HS2.out
                  refine wpAnyH_take (i := 14) (oi := ⟨some 17, _, _, _, _, _⟩) (v := .bool true) rfl (by kernel_rfl) (by kernel_rfl) (by kernel_rfl) (fun _ _ _ h => h) (Or.inl ⟨by kernel_rfl, ?_⟩) (by assumption) ?_
                  · intro W hSw; go_simp
                  try simp only [Act.put, List.setIfInBounds_toArray, List.set_cons_zero, List.set_cons_succ]
                  refine wpAnyH_done (by kernel_rfl) ?_ _
                  go_wp2
                  go_meet
                  case rel => exact ⟨_, _, _, _, _, _, rfl, rfl, rfl, HS2, HF⟩
              · go_simp
                refine hK.out _ _ (by exact bel_alc2 HS.out (Nat.le_refl _) _) (fun hHeld2 => ?_)
                clear hK K
                try simp only [Act.put, List.setIfInBounds_toArray, List.set_cons_zero, List.set_cons_succ]
                refine wpAnyH_worldM (fun z52 hW => ?_)
                have HS2 := Lib.hid (show Below WV2.heap.size WV2 z52 by rw [hW]; exact bel_alc2 HS.out (Nat.le_refl _) _)
                have HPv_2 := Lib.hid (show Blk z52 z42.heap.size 25 #[.int .i64 0, .int .i64 0, .string ⟨#[]⟩, .slice none 0 0, .slice none 0 0] by rw [hW]; exact Blk.new _ _ _)
                have HGV := Lib.hid (show WV2.heap.size ≤ z42.heap.size from HS.out.size)
                have HPk1_2 := Lib.hid (show Blk z52 z40.heap.size 28 #[.int .i64 2, .int .i64 0, .int .i64 0, .string ⟨#[]⟩, .slice none 0 0, .slice none 0 0, .string ⟨#[97]⟩, .slice none 0 0, .int .i64 2, .int .i64 0, .int .i64 0, .string ⟨#[]⟩, .slice none 0 0, .slice none 0 0, .string ⟨#[98]⟩, .slice none 0 0] by rw [hW]; exact Blk.alloc HPk1.out _)
                clear hW hHeld2 HS HPk1
                have HS := HS2
                clear HS2
                have HPk1 := HPk1_2
                clear HPk1_2
                have HPv := HPv_2
                clear HPv_2
                have hHeld := HS.out
                refine wpAnyH_ready (rs := [5]) (by kernel_rfl) (by simp) ?_
                refine AllReadyH.cons (o := ⟨some 88, _, _, _, _, _⟩) rfl (fun K hK => ?_) AllReadyH.nil
                go_simp
                refine hK.out _ _ (by exact bel_alc2 HS.out (Nat.le_refl _) _) (fun hHeld2 => ?_)
                clear hK K
                try simp only [Act.put, List.setIfInBounds_toArray, List.set_cons_zero, List.set_cons_succ]
                refine wpAnyH_worldM (fun z53 hW => ?_)
                have HS2 := Lib.hid (show Below WV2.heap.size WV2 z53 by rw [hW]; exact bel_alc2 HS.out (Nat.le_refl _) _)
                have HPk2_2 := Lib.hid (show Blk z53 z52.heap.size 28 #[.int .i64 10, .int .i64 0, .int .i64 0, .string ⟨#[]⟩, .slice none 0 0, .slice none 0 0, .string ⟨#[]⟩, .slice (some ⟨z40.heap.size, 0, none⟩) 2 2, .int .i64 2, .int .i64 0, .int .i64 0, .string ⟨#[]⟩, .slice none 0 0, .slice none 0 0, .string ⟨#[98]⟩, .slice none 0 0] by rw [hW]; exact Blk.new _ _ _)
                have HPk1_2 := Lib.hid (show Blk z53 z40.heap.size 28 #[.int .i64 2, .int .i64 0, .int .i64 0, .string ⟨#[]⟩, .slice none 0 0, .slice none 0 0, .string ⟨#[97]⟩, .slice none 0 0, .int .i64 2, .int .i64 0, .int .i64 0, .string ⟨#[]⟩, .slice none 0 0, .slice none 0 0, .string ⟨#[98]⟩, .slice none 0 0] by rw [hW]; exact Blk.alloc HPk1.out _)
                have HPv_2 := Lib.hid (show Blk z53 z42.heap.size 25 #[.int .i64 0, .int .i64 0, .string ⟨#[]⟩, .slice none 0 0, .slice none 0 0] by rw [hW]; exact Blk.alloc HPv.out _)
                clear hW hHeld2 HS HPk1 HPv
                have HS := HS2
                clear HS2
                have HPk1 := HPk1_2
                clear HPk1_2
                have HPv := HPv_2
                clear HPv_2
                have HPk2 := HPk2_2
                clear HPk2_2
                have hHeld := HS.out
                refine wpAnyH_ready (rs := [6]) (by kernel_rfl) (by simp) ?_
                refine AllReadyH.cons (o := ⟨some 89, _, _, _, _, _⟩) rfl (fun K hK => ?_) AllReadyH.nil
                go_simp
                refine (lOf25 9 _ 2 2 _).mono ?_
                rintro e z54 ⟨rfl, hb⟩
                have HS2 := Lib.hid (HS.out.trans (hb.mono HS.out.size))
                have HPk1_2 := Lib.hid (HPk1.out.keep hb)
                have HPv_2 := Lib.hid (HPv.out.keep hb)
                have HPk2_2 := Lib.hid (HPk2.out.keep hb)
                refine hK.out _ _ (by exact HS2.out) (fun hHeld2 => ?_)
                clear hK K hb hHeld2 HS HPk1 HPv HPk2
                have HS := HS2
                clear HS2
                have HPk1 := HPk1_2
                clear HPk1_2
                have HPv := HPv_2
                clear HPv_2
                have HPk2 := HPk2_2
                clear HPk2_2
                try simp only [Act.put, List.setIfInBounds_toArray, List.set_cons_zero, List.set_cons_succ]
                have hHeld := HS.out
                refine wpAnyH_ready (rs := [8]) (by kernel_rfl) (by simp) ?_
                refine AllReadyH.cons (o := ⟨some 91, _, _, _, _, _⟩) rfl (fun K hK => ?_) AllReadyH.nil
                go_simp
                have HQ := Lib.hid (HASK.out (xOf 9 [xAB 10, xName bT]) [.int .i64 9, .int .i64 0, .int .i64 0, .string ⟨#[]⟩, .slice none 0 0, .slice none 0 0, .string ⟨#[]⟩, .slice (some ⟨z52.heap.size, 0, none⟩) 2 2] z54 (HB.out.trans (HS.out.mono HB.out.size)) (er_two 9 (er_two 10 (er_name aT) (er_name bT) HPk1.out) (er_name bT) HPk2.out) (cam_of (by unfold iw; omega) (by simp) (cam_two (cam_of (by unfold iw; omega) (by simp) (cam_two (cam_name (by decide)) (cam_name (by decide)))) (cam_name (by decide)))) (sml_of (by simp) (sml_two (sml_of (by simp) (sml_two sml_leaf sml_leaf)) sml_leaf)))
                rw [cnt_back2 HAI.out HI.out] at HQ
                refine HQ.out.mono ?_
                intro e z55 h
                obtain ⟨VA9, VB9, va9, vb9, rfl, hb⟩ := EvaP.num h
                have HS2 := Lib.hid (HS.out.trans (hb.mono HS.out.size))
                have HPv_2 := Lib.hid (HPv.out.keep hb)
                refine hK.out _ _ (by exact HS2.out) (fun hHeld2 => ?_)
                clear hK K hb hHeld2 HS HQ h HPk1 HPv HPk2
                have HS := HS2
                clear HS2
                have HPv := HPv_2
                clear HPv_2
                try simp only [Act.put, List.setIfInBounds_toArray, List.set_cons_zero, List.set_cons_succ]
                have hHeld := HS.out
                refine wpAnyH_take (i := 9) (oi := ⟨some 82, _, _, _, _, _⟩) (v := .tuple #[.agg #[.int .i64 3, .int .i64 a, .string ⟨#[]⟩, .slice VA9 0 va9, .slice VB9 0 vb9], .bool true]) rfl (by kernel_rfl) (by kernel_rfl) (by kernel_rfl) (fun _ _ _ h => h) (Or.inl ⟨by kernel_rfl, ?_⟩) (by assumption) ?_
                · intro W hSw; go_simp
                try simp only [Act.put, List.setIfInBounds_toArray, List.set_cons_zero, List.set_cons_succ]
                refine wpAnyH_take (i := 10) (oi := ⟨some 92, _, _, _, _, _⟩) (v := .agg #[.int .i64 3, .int .i64 a, .string ⟨#[]⟩, .slice VA9 0 va9, .slice VB9 0 vb9]) rfl (by kernel_rfl) (by kernel_rfl) (by kernel_rfl) (fun _ _ _ h => h) (Or.inl ⟨by kernel_rfl, ?_⟩) (by assumption) ?_
                · intro W hSw; go_simp
                try simp only [Act.put, List.setIfInBounds_toArray, List.set_cons_zero, List.set_cons_succ]
                refine wpAnyH_take (i := 11) (oi := ⟨some 93, _, _, _, _, _⟩) (v := .bool true) rfl (by kernel_rfl) (by kernel_rfl) (by kernel_rfl) (fun _ _ _ h => h) (Or.inl ⟨by kernel_rfl, ?_⟩) (by assumption) ?_
                · intro W hSw; go_simp
                try simp only [Act.put, List.setIfInBounds_toArray, List.set_cons_zero, List.set_cons_succ]
                refine wpAnyH_ready (rs := [13]) (by kernel_rfl) (by simp) ?_
                refine AllReadyH.cons (o := ⟨none, _, _, _, _, _⟩) rfl (fun K hK => ?_) AllReadyH.nil
                rw [if_pos (by kernel_rfl)]
                refine wp_store_mid 25 (.tmp 16) (.tmp 92) rfl (z42.heap.size) 0 #[.int .i64 3, .int .i64 a, .string ⟨#[]⟩, .slice VA9 0 va9, .slice VB9 0 vb9] rfl rfl HPv.out.there (by kernel_rfl) (by first | kernel_rfl | simp [Value.oneCell']) ?_
                have HS2 := Lib.hid (bel_setC (B := WV2.heap.size) (b := z42.heap.size) HGV.out [.int .i64 3, .int .i64 a, .string ⟨#[]⟩, .slice VA9 0 va9, .slice VB9 0 vb9] 0 HS.out)
                have HF := Lib.hid (HPv.out.set5C (.int .i64 3) (.int .i64 a) (.string ⟨#[]⟩) (.slice VA9 0 va9) (.slice VB9 0 vb9))
                refine hK.out _ _ (by exact HS2.out) (fun hHeld2 => ?_)
                clear hK K hHeld2 HS HPv
                try simp only [Act.put, List.setIfInBounds_toArray, List.set_cons_zero, List.set_cons_succ]
                have hHeld := HS2.out
                refine wpAnyH_take (i := 14) (oi := ⟨some 17, _, _, _, _, _⟩) (v := .bool true) rfl (by kernel_rfl) (by kernel_rfl) (by kernel_rfl) (fun _ _ _ h => h) (Or.inl ⟨by kernel_rfl, ?_⟩) (by assumption) ?_
                · intro W hSw; go_simp
                try simp only [Act.put, List.setIfInBounds_toArray, List.set_cons_zero, List.set_cons_succ]
                refine wpAnyH_done (by kernel_rfl) ?_ _
                go_wp2
                go_meet
                case rel => exact ⟨_, _, _, _, _, _, rfl, rfl, rfl, HS2, HF⟩
            · go_simp
              refine hK.out _ _ (by exact bel_alc2 HS.out (Nat.le_refl _) _) (fun hHeld2 => ?_)
              clear hK K
              try simp only [Act.put, List.setIfInBounds_toArray, List.set_cons_zero, List.set_cons_succ]
              refine wpAnyH_worldM (fun z56 hW => ?_)
              have HS2 := Lib.hid (show Below WV2.heap.size WV2 z56 by rw [hW]; exact bel_alc2 HS.out (Nat.le_refl _) _)
              have HPv_2 := Lib.hid (show Blk z56 z41.heap.size 25 #[.int .i64 0, .int .i64 0, .string ⟨#[]⟩, .slice none 0 0, .slice none 0 0] by rw [hW]; exact Blk.new _ _ _)
              have HGV := Lib.hid (show WV2.heap.size ≤ z41.heap.size from HS.out.size)
              have HPk1_2 := Lib.hid (show Blk z56 z40.heap.size 28 #[.int .i64 2, .int .i64 0, .int .i64 0, .string ⟨#[]⟩, .slice none 0 0, .slice none 0 0, .string ⟨#[97]⟩, .slice none 0 0, .int .i64 2, .int .i64 0, .int .i64 0, .string ⟨#[]⟩, .slice none 0 0, .slice none 0 0, .string ⟨#[98]⟩, .slice none 0 0] by rw [hW]; exact Blk.alloc HPk1.out _)
              clear hW hHeld2 HS HPk1
              have HS := HS2
              clear HS2
              have HPk1 := HPk1_2
              clear HPk1_2
              have HPv := HPv_2
              clear HPv_2
              have hHeld := HS.out
              refine wpAnyH_ready (rs := [3]) (by kernel_rfl) (by simp) ?_
              refine AllReadyH.cons (o := ⟨some 86, _, _, _, _, _⟩) rfl (fun K hK => ?_) AllReadyH.nil
              go_simp
              refine (lOf25 10 _ 2 2 _).mono ?_
              rintro e z57 ⟨rfl, hb⟩
              have HS2 := Lib.hid (HS.out.trans (hb.mono HS.out.size))
              have HPk1_2 := Lib.hid (HPk1.out.keep hb)
              have HPv_2 := Lib.hid (HPv.out.keep hb)
              refine hK.out _ _ (by exact HS2.out) (fun hHeld2 => ?_)
              clear hK K hb hHeld2 HS HPk1 HPv
              have HS := HS2
              clear HS2
              have HPk1 := HPk1_2
              clear HPk1_2
              have HPv := HPv_2
              clear HPv_2
              try simp only [Act.put, List.setIfInBounds_toArray, List.set_cons_zero, List.set_cons_succ]
              have hHeld := HS.out
              refine wpAnyH_ready (rs := [5]) (by kernel_rfl) (by simp) ?_
              refine AllReadyH.cons (o := ⟨some 88, _, _, _, _, _⟩) rfl (fun K hK => ?_) AllReadyH.nil
              go_simp
              refine hK.out _ _ (by exact bel_alc2 HS.out (Nat.le_refl _) _) (fun hHeld2 => ?_)
              clear hK K
              try simp only [Act.put, List.setIfInBounds_toArray, List.set_cons_zero, List.set_cons_succ]
              refine wpAnyH_worldM (fun z58 hW => ?_)
              have HS2 := Lib.hid (show Below WV2.heap.size WV2 z58 by rw [hW]; exact bel_alc2 HS.out (Nat.le_refl _) _)
              have HPk2_2 := Lib.hid (show Blk z58 z57.heap.size 28 #[.int .i64 10, .int .i64 0, .int .i64 0, .string ⟨#[]⟩, .slice none 0 0, .slice none 0 0, .string ⟨#[]⟩, .slice (some ⟨z40.heap.size, 0, none⟩) 2 2, .int .i64 2, .int .i64 0, .int .i64 0, .string ⟨#[]⟩, .slice none 0 0, .slice none 0 0, .string ⟨#[98]⟩, .slice none 0 0] by rw [hW]; exact Blk.new _ _ _)
              have HPk1_2 := Lib.hid (show Blk z58 z40.heap.size 28 #[.int .i64 2, .int .i64 0, .int .i64 0, .string ⟨#[]⟩, .slice none 0 0, .slice none 0 0, .string ⟨#[97]⟩, .slice none 0 0, .int .i64 2, .int .i64 0, .int .i64 0, .string ⟨#[]⟩, .slice none 0 0, .slice none 0 0, .string ⟨#[98]⟩, .slice none 0 0] by rw [hW]; exact Blk.alloc HPk1.out _)
              have HPv_2 := Lib.hid (show Blk z58 z41.heap.size 25 #[.int .i64 0, .int .i64 0, .string ⟨#[]⟩, .slice none 0 0, .slice none 0 0] by rw [hW]; exact Blk.alloc HPv.out _)
              clear hW hHeld2 HS HPk1 HPv
              have HS := HS2
              clear HS2
              have HPk1 := HPk1_2
              clear HPk1_2
              have HPv := HPv_2
              clear HPv_2
              have HPk2 := HPk2_2
              clear HPk2_2
              have hHeld := HS.out
              refine wpAnyH_ready (rs := [6]) (by kernel_rfl) (by simp) ?_
              refine AllReadyH.cons (o := ⟨some 89, _, _, _, _, _⟩) rfl (fun K hK => ?_) AllReadyH.nil
              go_simp
              refine (lOf25 9 _ 2 2 _).mono ?_
              rintro e z59 ⟨rfl, hb⟩
              have HS2 := Lib.hid (HS.out.trans (hb.mono HS.out.size))
              have HPk1_2 := Lib.hid (HPk1.out.keep hb)
              have HPv_2 := Lib.hid (HPv.out.keep hb)
              have HPk2_2 := Lib.hid (HPk2.out.keep hb)
              refine hK.out _ _ (by exact HS2.out) (fun hHeld2 => ?_)
              clear hK K hb hHeld2 HS HPk1 HPv HPk2
              have HS := HS2
              clear HS2
              have HPk1 := HPk1_2
              clear HPk1_2
              have HPv := HPv_2
              clear HPv_2
              have HPk2 := HPk2_2
              clear HPk2_2
              try simp only [Act.put, List.setIfInBounds_toArray, List.set_cons_zero, List.set_cons_succ]
              have hHeld := HS.out
              refine wpAnyH_ready (rs := [8]) (by kernel_rfl) (by simp) ?_
              refine AllReadyH.cons (o := ⟨some 91, _, _, _, _, _⟩) rfl (fun K hK => ?_) AllReadyH.nil
              go_simp
              have HQ := Lib.hid (HASK.out (xOf 9 [xAB 10, xName bT]) [.int .i64 9, .int .i64 0, .int .i64 0, .string ⟨#[]⟩, .slice none 0 0, .slice none 0 0, .string ⟨#[]⟩, .slice (some ⟨z57.heap.size, 0, none⟩) 2 2] z59 (HB.out.trans (HS.out.mono HB.out.size)) (er_two 9 (er_two 10 (er_name aT) (er_name bT) HPk1.out) (er_name bT) HPk2.out) (cam_of (by unfold iw; omega) (by simp) (cam_two (cam_of (by unfold iw; omega) (by simp) (cam_two (cam_name (by decide)) (cam_name (by decide)))) (cam_name (by decide)))) (sml_of (by simp) (sml_two (sml_of (by simp) (sml_two sml_leaf sml_leaf)) sml_leaf)))
              rw [cnt_back2 HAI.out HI.out] at HQ
              refine HQ.out.mono ?_
              intro e z60 h
              obtain ⟨VA9, VB9, va9, vb9, rfl, hb⟩ := EvaP.num h
              have HS2 := Lib.hid (HS.out.trans (hb.mono HS.out.size))
              have HPv_2 := Lib.hid (HPv.out.keep hb)
              refine hK.out _ _ (by exact HS2.out) (fun hHeld2 => ?_)
              clear hK K hb hHeld2 HS HQ h HPk1 HPv HPk2
              have HS := HS2
              clear HS2
              have HPv := HPv_2
              clear HPv_2
              try simp only [Act.put, List.setIfInBounds_toArray, List.set_cons_zero, List.set_cons_succ]
              have hHeld := HS.out
              refine wpAnyH_take (i := 9) (oi := ⟨some 82, _, _, _, _, _⟩) (v := .tuple #[.agg #[.int .i64 3, .int .i64 a, .string ⟨#[]⟩, .slice VA9 0 va9, .slice VB9 0 vb9], .bool true]) rfl (by kernel_rfl) (by kernel_rfl) (by kernel_rfl) (fun _ _ _ h => h) (Or.inl ⟨by kernel_rfl, ?_⟩) (by assumption) ?_
              · intro W hSw; go_simp
              try simp only [Act.put, List.setIfInBounds_toArray, List.set_cons_zero, List.set_cons_succ]
              refine wpAnyH_take (i := 10) (oi := ⟨some 92, _, _, _, _, _⟩) (v := .agg #[.int .i64 3, .int .i64 a, .string ⟨#[]⟩, .slice VA9 0 va9, .slice VB9 0 vb9]) rfl (by kernel_rfl) (by kernel_rfl) (by kernel_rfl) (fun _ _ _ h => h) (Or.inl ⟨by kernel_rfl, ?_⟩) (by assumption) ?_
              · intro W hSw; go_simp
              try simp only [Act.put, List.setIfInBounds_toArray, List.set_cons_zero, List.set_cons_succ]
              refine wpAnyH_take (i := 11) (oi := ⟨some 93, _, _, _, _, _⟩) (v := .bool true) rfl (by kernel_rfl) (by kernel_rfl) (by kernel_rfl) (fun _ _ _ h => h) (Or.inl ⟨by kernel_rfl, ?_⟩) (by assumption) ?_
              · intro W hSw; go_simp
              try simp only [Act.put, List.setIfInBounds_toArray, List.set_cons_zero, List.set_cons_succ]
              refine wpAnyH_ready (rs := [13]) (by kernel_rfl) (by simp) ?_
              refine AllReadyH.cons (o := ⟨none, _, _, _, _, _⟩) rfl (fun K hK => ?_) AllReadyH.nil
              rw [if_pos (by kernel_rfl)]
              refine wp_store_mid 25 (.tmp 16) (.tmp 92) rfl (z41.heap.size) 0 #[.int .i64 3, .int .i64 a, .string ⟨#[]⟩, .slice VA9 0 va9, .slice VB9 0 vb9] rfl rfl HPv.out.there (by kernel_rfl) (by first | kernel_rfl | simp [Value.oneCell']) ?_
              have HS2 := Lib.hid (bel_setC (B := WV2.heap.size) (b := z41.heap.size) HGV.out [.int .i64 3, .int .i64 a, .string ⟨#[]⟩, .slice VA9 0 va9, .slice VB9 0 vb9] 0 HS.out)
              have HF := Lib.hid (HPv.out.set5C (.int .i64 3) (.int .i64 a) (.string ⟨#[]⟩) (.slice VA9 0 va9) (.slice VB9 0 vb9))
              refine hK.out _ _ (by exact HS2.out) (fun hHeld2 => ?_)
              clear hK K hHeld2 HS HPv
              try simp only [Act.put, List.setIfInBounds_toArray, List.set_cons_zero, List.set_cons_succ]
              have hHeld := HS2.out
              refine wpAnyH_take (i := 14) (oi := ⟨some 17, _, _, _, _, _⟩) (v := .bool true) rfl (by kernel_rfl) (by kernel_rfl) (by kernel_rfl) (fun _ _ _ h => h) (Or.inl ⟨by kernel_rfl, ?_⟩) (by assumption) ?_
              · intro W hSw; go_simp
              try simp only [Act.put, List.setIfInBounds_toArray, List.set_cons_zero, List.set_cons_succ]
              refine wpAnyH_done (by kernel_rfl) ?_ _
              go_wp2
              go_meet
              case rel => exact ⟨_, _, _, _, _, _, rfl, rfl, rfl, HS2, HF⟩
          · go_simp
            refine hK.out _ _ (by exact bel_alc2 HS.out (Nat.le_refl _) _) (fun hHeld2 => ?_)
            clear hK K
            try simp only [Act.put, List.setIfInBounds_toArray, List.set_cons_zero, List.set_cons_succ]
            refine wpAnyH_worldM (fun z61 hW => ?_)
            have HS2 := Lib.hid (show Below WV2.heap.size WV2 z61 by rw [hW]; exact bel_alc2 HS.out (Nat.le_refl _) _)
            have HPv_2 := Lib.hid (show Blk z61 z40.heap.size 25 #[.int .i64 0, .int .i64 0, .string ⟨#[]⟩, .slice none 0 0, .slice none 0 0] by rw [hW]; exact Blk.new _ _ _)
            have HGV := Lib.hid (show WV2.heap.size ≤ z40.heap.size from HS.out.size)
            clear hW hHeld2 HS 
            have HS := HS2
            clear HS2
            have HPv := HPv_2
            clear HPv_2
            have hHeld := HS.out
            refine wpAnyH_ready (rs := [2]) (by kernel_rfl) (by simp) ?_
            refine AllReadyH.cons (o := ⟨some 85, _, _, _, _, _⟩) rfl (fun K hK => ?_) AllReadyH.nil
            go_simp
            refine hK.out _ _ (by exact bel_alc2 HS.out (Nat.le_refl _) _) (fun hHeld2 => ?_)
            clear hK K
            try simp only [Act.put, List.setIfInBounds_toArray, List.set_cons_zero, List.set_cons_succ]
            refine wpAnyH_worldM (fun z62 hW => ?_)
            have HS2 := Lib.hid (show Below WV2.heap.size WV2 z62 by rw [hW]; exact bel_alc2 HS.out (Nat.le_refl _) _)
            have HPk1_2 := Lib.hid (show Blk z62 z61.heap.size 28 #[.int .i64 2, .int .i64 0, .int .i64 0, .string ⟨#[]⟩, .slice none 0 0, .slice none 0 0, .string ⟨#[97]⟩, .slice none 0 0, .int .i64 2, .int .i64 0, .int .i64 0, .string ⟨#[]⟩, .slice none 0 0, .slice none 0 0, .string ⟨#[98]⟩, .slice none 0 0] by rw [hW]; exact Blk.new _ _ _)
            have HPv_2 := Lib.hid (show Blk z62 z40.heap.size 25 #[.int .i64 0, .int .i64 0, .string ⟨#[]⟩, .slice none 0 0, .slice none 0 0] by rw [hW]; exact Blk.alloc HPv.out _)
            clear hW hHeld2 HS HPv
            have HS := HS2
            clear HS2
            have HPv := HPv_2
            clear HPv_2
            have HPk1 := HPk1_2
            clear HPk1_2
            have hHeld := HS.out
            refine wpAnyH_ready (rs := [3]) (by kernel_rfl) (by simp) ?_
            refine AllReadyH.cons (o := ⟨some 86, _, _, _, _, _⟩) rfl (fun K hK => ?_) AllReadyH.nil
            go_simp
            refine (lOf25 10 _ 2 2 _).mono ?_
            rintro e z63 ⟨rfl, hb⟩
            have HS2 := Lib.hid (HS.out.trans (hb.mono HS.out.size))
            have HPv_2 := Lib.hid (HPv.out.keep hb)
            have HPk1_2 := Lib.hid (HPk1.out.keep hb)
            refine hK.out _ _ (by exact HS2.out) (fun hHeld2 => ?_)
            clear hK K hb hHeld2 HS HPv HPk1
            have HS := HS2
            clear HS2
            have HPv := HPv_2
            clear HPv_2
            have HPk1 := HPk1_2
            clear HPk1_2
            try simp only [Act.put, List.setIfInBounds_toArray, List.set_cons_zero, List.set_cons_succ]
            have hHeld := HS.out
            refine wpAnyH_ready (rs := [5]) (by kernel_rfl) (by simp) ?_
            refine AllReadyH.cons (o := ⟨some 88, _, _, _, _, _⟩) rfl (fun K hK => ?_) AllReadyH.nil
            go_simp
            refine hK.out _ _ (by exact bel_alc2 HS.out (Nat.le_refl _) _) (fun hHeld2 => ?_)
            clear hK K
            try simp only [Act.put, List.setIfInBounds_toArray, List.set_cons_zero, List.set_cons_succ]
            refine wpAnyH_worldM (fun z64 hW => ?_)
            have HS2 := Lib.hid (show Below WV2.heap.size WV2 z64 by rw [hW]; exact bel_alc2 HS.out (Nat.le_refl _) _)
            have HPk2_2 := Lib.hid (show Blk z64 z63.heap.size 28 #[.int .i64 10, .int .i64 0, .int .i64 0, .string ⟨#[]⟩, .slice none 0 0, .slice none 0 0, .string ⟨#[]⟩, .slice (some ⟨z61.heap.size, 0, none⟩) 2 2, .int .i64 2, .int .i64 0, .int .i64 0, .string ⟨#[]⟩, .slice none 0 0, .slice none 0 0, .string ⟨#[98]⟩, .slice none 0 0] by rw [hW]; exact Blk.new _ _ _)
            have HPv_2 := Lib.hid (show Blk z64 z40.heap.size 25 #[.int .i64 0, .int .i64 0, .string ⟨#[]⟩, .slice none 0 0, .slice none 0 0] by rw [hW]; exact Blk.alloc HPv.out _)
            have HPk1_2 := Lib.hid (show Blk z64 z61.heap.size 28 #[.int .i64 2, .int .i64 0, .int .i64 0, .string ⟨#[]⟩, .slice none 0 0, .slice none 0 0, .string ⟨#[97]⟩, .slice none 0 0, .int .i64 2, .int .i64 0, .int .i64 0, .string ⟨#[]⟩, .slice none 0 0, .slice none 0 0, .string ⟨#[98]⟩, .slice none 0 0] by rw [hW]; exact Blk.alloc HPk1.out _)
            clear hW hHeld2 HS HPv HPk1
            have HS := HS2
            clear HS2
            have HPv := HPv_2
            clear HPv_2
            have HPk1 := HPk1_2
            clear HPk1_2
            have HPk2 := HPk2_2
            clear HPk2_2
            have hHeld := HS.out
            refine wpAnyH_ready (rs := [6]) (by kernel_rfl) (by simp) ?_
            refine AllReadyH.cons (o := ⟨some 89, _, _, _, _, _⟩) rfl (fun K hK => ?_) AllReadyH.nil
            go_simp
            refine (lOf25 9 _ 2 2 _).mono ?_
            rintro e z65 ⟨rfl, hb⟩
            have HS2 := Lib.hid (HS.out.trans (hb.mono HS.out.size))
            have HPv_2 := Lib.hid (HPv.out.keep hb)
            have HPk1_2 := Lib.hid (HPk1.out.keep hb)
            have HPk2_2 := Lib.hid (HPk2.out.keep hb)
            refine hK.out _ _ (by exact HS2.out) (fun hHeld2 => ?_)
            clear hK K hb hHeld2 HS HPv HPk1 HPk2
            have HS := HS2
            clear HS2
            have HPv := HPv_2
            clear HPv_2
            have HPk1 := HPk1_2
            clear HPk1_2
            have HPk2 := HPk2_2
            clear HPk2_2
            try simp only [Act.put, List.setIfInBounds_toArray, List.set_cons_zero, List.set_cons_succ]
            have hHeld := HS.out
            refine wpAnyH_ready (rs := [8]) (by kernel_rfl) (by simp) ?_
            refine AllReadyH.cons (o := ⟨some 91, _, _, _, _, _⟩) rfl (fun K hK => ?_) AllReadyH.nil
            go_simp
            have HQ := Lib.hid (HASK.out (xOf 9 [xAB 10, xName bT]) [.int .i64 9, .int .i64 0, .int .i64 0, .string ⟨#[]⟩, .slice none 0 0, .slice none 0 0, .string ⟨#[]⟩, .slice (some ⟨z63.heap.size, 0, none⟩) 2 2] z65 (HB.out.trans (HS.out.mono HB.out.size)) (er_two 9 (er_two 10 (er_name aT) (er_name bT) HPk1.out) (er_name bT) HPk2.out) (cam_of (by unfold iw; omega) (by simp) (cam_two (cam_of (by unfold iw; omega) (by simp) (cam_two (cam_name (by decide)) (cam_name (by decide)))) (cam_name (by decide)))) (sml_of (by simp) (sml_two (sml_of (by simp) (sml_two sml_leaf sml_leaf)) sml_leaf)))
            rw [cnt_back2 HAI.out HI.out] at HQ
            refine HQ.out.mono ?_
            intro e z66 h
            obtain ⟨VA9, VB9, va9, vb9, rfl, hb⟩ := EvaP.num h
            have HS2 := Lib.hid (HS.out.trans (hb.mono HS.out.size))
            have HPv_2 := Lib.hid (HPv.out.keep hb)
            refine hK.out _ _ (by exact HS2.out) (fun hHeld2 => ?_)
            clear hK K hb hHeld2 HS HQ h HPv HPk1 HPk2
            have HS := HS2
            clear HS2
            have HPv := HPv_2
            clear HPv_2
            try simp only [Act.put, List.setIfInBounds_toArray, List.set_cons_zero, List.set_cons_succ]
            have hHeld := HS.out
            refine wpAnyH_take (i := 9) (oi := ⟨some 82, _, _, _, _, _⟩) (v := .tuple #[.agg #[.int .i64 3, .int .i64 a, .string ⟨#[]⟩, .slice VA9 0 va9, .slice VB9 0 vb9], .bool true]) rfl (by kernel_rfl) (by kernel_rfl) (by kernel_rfl) (fun _ _ _ h => h) (Or.inl ⟨by kernel_rfl, ?_⟩) (by assumption) ?_
            · intro W hSw; go_simp
            try simp only [Act.put, List.setIfInBounds_toArray, List.set_cons_zero, List.set_cons_succ]
            refine wpAnyH_take (i := 10) (oi := ⟨some 92, _, _, _, _, _⟩) (v := .agg #[.int .i64 3, .int .i64 a, .string ⟨#[]⟩, .slice VA9 0 va9, .slice VB9 0 vb9]) rfl (by kernel_rfl) (by kernel_rfl) (by kernel_rfl) (fun _ _ _ h => h) (Or.inl ⟨by kernel_rfl, ?_⟩) (by assumption) ?_
            · intro W hSw; go_simp
            try simp only [Act.put, List.setIfInBounds_toArray, List.set_cons_zero, List.set_cons_succ]
            refine wpAnyH_take (i := 11) (oi := ⟨some 93, _, _, _, _, _⟩) (v := .bool true) rfl (by kernel_rfl) (by kernel_rfl) (by kernel_rfl) (fun _ _ _ h => h) (Or.inl ⟨by kernel_rfl, ?_⟩) (by assumption) ?_
            · intro W hSw; go_simp
            try simp only [Act.put, List.setIfInBounds_toArray, List.set_cons_zero, List.set_cons_succ]
            refine wpAnyH_ready (rs := [13]) (by kernel_rfl) (by simp) ?_
            refine AllReadyH.cons (o := ⟨none, _, _, _, _, _⟩) rfl (fun K hK => ?_) AllReadyH.nil
            rw [if_pos (by kernel_rfl)]
            refine wp_store_mid 25 (.tmp 16) (.tmp 92) rfl (z40.heap.size) 0 #[.int .i64 3, .int .i64 a, .string ⟨#[]⟩, .slice VA9 0 va9, .slice VB9 0 vb9] rfl rfl HPv.out.there (by kernel_rfl) (by first | kernel_rfl | simp [Value.oneCell']) ?_
            have HS2 := Lib.hid (bel_setC (B := WV2.heap.size) (b := z40.heap.size) HGV.out [.int .i64 3, .int .i64 a, .string ⟨#[]⟩, .slice VA9 0 va9, .slice VB9 0 vb9] 0 HS.out)
            have HF := Lib.hid (HPv.out.set5C (.int .i64 3) (.int .i64 a) (.string ⟨#[]⟩) (.slice VA9 0 va9) (.slice VB9 0 vb9))
            refine hK.out _ _ (by exact HS2.out) (fun hHeld2 => ?_)
            clear hK K hHeld2 HS HPv
            try simp only [Act.put, List.setIfInBounds_toArray, List.set_cons_zero, List.set_cons_succ]
            have hHeld := HS2.out
            refine wpAnyH_take (i := 14) (oi := ⟨some 17, _, _, _, _, _⟩) (v := .bool true) rfl (by kernel_rfl) (by kernel_rfl) (by kernel_rfl) (fun _ _ _ h => h) (Or.inl ⟨by kernel_rfl, ?_⟩) (by assumption) ?_
            · intro W hSw; go_simp
            try simp only [Act.put, List.setIfInBounds_toArray, List.set_cons_zero, List.set_cons_succ]
            refine wpAnyH_done (by kernel_rfl) ?_ _
            go_wp2
            go_meet
            case rel => exact ⟨_, _, _, _, _, _, rfl, rfl, rfl, HS2, HF⟩
        case rest =>
          obtain ⟨g9, A9, B9, ca9, cb9, wq, rfl, rfl, rfl, HB2, HV9⟩ := hcut
          obtain ⟨c9, f9, l9⟩ := HV9.out.rules
          have HBF := Lib.hid (HB.out.trans (HB2.out.mono HB.out.size))
          obtain ⟨c8, f8, l8⟩ := (HV2.out.keep HB2.out).rules
          go_wp2
          go_meet
          case rel => exact ⟨_, rfl, HBF⟩
    case rest =>
      obtain ⟨wq2, rfl, HB2⟩ := hcut
      clear HB HV2 HP12 HP22
      have HB := HB2
      clear HB2
      have hn7 : n ≤ 7 := by rw [HN.out]; omega
      go_wp2_with fail
      refine (lIn25 0 _).mono ?_
      rintro e ws ⟨rfl, hb⟩
      have HBs := Lib.hid (HB.out.trans (hb.mono HB.out.size))
      clear hb HB
      obtain ⟨WS, hWS⟩ : ∃ W, ws.alloc (.cells #[.int .i64 1, .int .i64 3, .int .i64 0, .string ⟨#[]⟩, .slice none 0 0, .slice none 0 0, .string ⟨#[]⟩, .slice none 0 0] 28) = W := ⟨_, rfl⟩
      have HBK := Lib.hid (show Blk WS ws.heap.size 28 #[.int .i64 1, .int .i64 3, .int .i64 0, .string ⟨#[]⟩, .slice none 0 0, .slice none 0 0, .string ⟨#[]⟩, .slice none 0 0] by rw [← hWS]; exact Blk.new _ _ _)
      have HB := Lib.hid (show Below WE.heap.size WE WS by rw [← hWS]; exact bel_alc2 HBs.out (Nat.le_refl _) _)
      have HG0 := Lib.hid (show WE.heap.size ≤ ws.heap.size from HBs.out.size)
      have HWS := Lib.hid hWS
      have hen : k % 8 = (n : Int) := by rw [HN.out]; omega
      clear hWS
      go_upto_region 19 with fail
      rw [HWS.out]
      clear HBs
      go_wp2
      skip
      clear hen
      go_loopg [115] n (fun gk s115 wr => ∃ (j : Nat) (cs : List Value), j ≤ n ∧ gk = n - j ∧ s115 = .int .i64 (j : Int) ∧ Hid (Below WE.heap.size WE wr) ∧ Hid (Blk wr ws.heap.size 28 cs.toArray) ∧ Hid (ER wr (fun b => b ≠ ws.heap.size) cs (sumX j)))
      case atStart => exact ⟨0, _, by omega, by go_num, rfl, HB, HBK, Lib.hid (er_intF 0)⟩
      case round =>
        obtain ⟨j, cs, hj, hgk, rfl, HBR, HBK2, HER⟩ := hrel
        have HGK := Lib.hid hgk
        clear hgk
        have HL := Lib.hid (show ∃ W : World, W = wr ∧ ER W (fun b => b ≠ ws.heap.size) cs (sumX j) from ⟨wr, rfl, HER.out⟩)
        obtain ⟨k5, k1, n1, s1, A1, na1, ca1, B1, nb1, cb1, s5, A5, n5, ca5, rfl⟩ := HER.out.form
        clear HL
        have HBK3 := Lib.hid (show Blk wr ws.heap.size 28 #[.int .i64 k5, .int .i64 k1, .int .i64 n1, .string s1, .slice A1 na1 ca1, .slice B1 nb1 cb1, .string s5, .slice A5 n5 ca5] by simpa using HBK2.out)
        obtain ⟨cg, fg, lg⟩ := HBK3.out.rules
        by_cases hjn : j < n
        · obtain ⟨ca, fa, la⟩ := (HBA.out.keep HBR.out).rules
          have HK := Lib.hid (Blk.new wr 28 #[.int .i64 k5, .int .i64 k1, .int .i64 n1, .string s1, .slice A1 na1 ca1, .slice B1 nb1 cb1, .string s5, .slice A5 n5 ca5, .int .i64 2, .int .i64 0, .int .i64 0, .string ⟨#[]⟩, .slice none 0 0, .slice none 0 0, .string ⟨#[97]⟩, .slice none 0 0])
          have HB1 := Lib.hid (bel_alc2 HBR.out (Nat.le_refl _) (.cells #[.int .i64 k5, .int .i64 k1, .int .i64 n1, .string s1, .slice A1 na1 ca1, .slice B1 nb1 cb1, .string s5, .slice A5 n5 ca5, .int .i64 2, .int .i64 0, .int .i64 0, .string ⟨#[]⟩, .slice none 0 0, .slice none 0 0, .string ⟨#[97]⟩, .slice none 0 0] 28))
          have HER1 := Lib.hid (HER.out.bel ((Below.refl wr.heap.size wr).alloc (Nat.le_refl _) (.cells #[.int .i64 k5, .int .i64 k1, .int .i64 n1, .string s1, .slice A1 na1 ca1, .slice B1 nb1 cb1, .string s5, .slice A5 n5 ca5, .int .i64 2, .int .i64 0, .int .i64 0, .string ⟨#[]⟩, .slice none 0 0, .slice none 0 0, .string ⟨#[97]⟩, .slice none 0 0] 28)))
          have HBKa := Lib.hid (HBK3.out.alloc (.cells #[.int .i64 k5, .int .i64 k1, .int .i64 n1, .string s1, .slice A1 na1 ca1, .slice B1 nb1 cb1, .string s5, .slice A5 n5 ca5, .int .i64 2, .int .i64 0, .int .i64 0, .string ⟨#[]⟩, .slice none 0 0, .slice none 0 0, .string ⟨#[97]⟩, .slice none 0 0] 28))
          have HNE := Lib.hid (show wr.heap.size ≠ ws.heap.size by have := HBK3.out.lt; omega)
          go_wp2_with fail
          refine (lOf25 9 _ 2 2 _).mono ?_
          rintro e y1 ⟨rfl, hb⟩
          have HB2 := Lib.hid (HB1.out.trans (hb.mono HB1.out.size))
          have HK2 := Lib.hid (HK.out.keep hb)
          have HBK4 := Lib.hid (HBKa.out.keep hb)
          have HER2 := Lib.hid (HER1.out.bel hb)
          clear hb ca fa la cg fg lg HB1 HK HBKa HER1 HER HBK2 HBK3
          obtain ⟨c4, f4, l4⟩ := HBK4.out.rules
          go_wp2
          clear c4 f4 l4
          have HB3 := Lib.hid (bel_setC (B := WE.heap.size) (b := ws.heap.size) HG0.out [.int .i64 9, .int .i64 0, .int .i64 0, .string ⟨#[]⟩, .slice none 0 0, .slice none 0 0, .string ⟨#[]⟩, .slice (some ⟨wr.heap.size, 0, none⟩) 2 2] 0 HB2.out)
          have HBK5 := Lib.hid (HBK4.out.set8C (.int .i64 9) (.int .i64 0) (.int .i64 0) (.string ⟨#[]⟩) (.slice none 0 0) (.slice none 0 0) (.string ⟨#[]⟩) (.slice (some ⟨wr.heap.size, 0, none⟩) 2 2))
          have HER3 := Lib.hid ((er_two_F (F := (fun b => b ≠ ws.heap.size)) 9 HER2.out (ER.leaf 2 aT VR.zero) HNE.out HK2.out).keep (KeepF.setC (F := (fun b => b ≠ ws.heap.size)) (fun k hk => hk) [.int .i64 9, .int .i64 0, .int .i64 0, .string ⟨#[]⟩, .slice none 0 0, .slice none 0 0, .string ⟨#[]⟩, .slice (some ⟨wr.heap.size, 0, none⟩) 2 2] 0 KeepF.refl))
          clear HB2 HK2 HBK4 HER2
          go_roundg (n - (j + 1))
          case measure => rw [HGK.out]; omega
          case rel => exact ⟨j + 1, _, by omega, rfl, by go_num, HB3, HBK5, HER3⟩
        · obtain rfl : j = n := by omega
          have HQ := Lib.hid (HASK.out (sumX j) [.int .i64 k5, .int .i64 k1, .int .i64 n1, .string s1, .slice A1 na1 ca1, .slice B1 nb1 cb1, .string s5, .slice A5 n5 ca5] wr HBR.out (HER.out.mono fun _ _ _ => trivial) (cam_sum j) (sml_sum j))
          rw [cnt_sum HAI.out hn7] at HQ
          clear HB
          go_wp2_with fail
          refine HQ.out.mono ?_
          intro e x3 h
          obtain ⟨p3, kk3, q3, VA3, va3, VB3, vb3, rfl, hp1, hp2, hb⟩ := EvaP.numR h
          have HP13 := Lib.hid hp1
          have HP23 := Lib.hid hp2
          have HV3 := Lib.hid (Blk.new x3 25 #[.int .i64 kk3, .int .i64 q3, .string ⟨#[]⟩, .slice VA3 0 va3, .slice VB3 0 vb3])
          have HB := Lib.hid (bel_alc2 (HBR.out.trans (hb.mono HBR.out.size)) (Nat.le_refl _) (.cells #[.int .i64 kk3, .int .i64 q3, .string ⟨#[]⟩, .slice VA3 0 va3, .slice VB3 0 vb3] 25))
          clear hb hp1 hp2 h HQ HER HBK2 HBK3 cg fg lg HBR HBK
          obtain ⟨WV3, hWV⟩ : ∃ W, x3.alloc (.cells #[.int .i64 kk3, .int .i64 q3, .string ⟨#[]⟩, .slice VA3 0 va3, .slice VB3 0 vb3] 25) = W := ⟨_, rfl⟩
          rw [hWV] at HV3 HB
          have HWV := Lib.hid hWV
          clear hWV
          go_upto_region 24 with fail
          rw [HWV.out]
          clear HWV
          go_upto_region 24 with fail
          go_cut [23, 24] (fun sA sB wx => ∃ (g : Nat) (p9 : Bool) (kk9 q9 : Int) (A : Option Addr) (ca : Nat) (B : Option Addr) (cb : Nat) (W : World), W = wx ∧ sA = .pointer (some ⟨g, 0, none⟩) ∧ sB = .bool p9 ∧ Hid (Below WV3.heap.size WV3 W) ∧ Hid (Blk W g 25 #[.int .i64 kk9, .int .i64 q9, .string ⟨#[]⟩, .slice A 0 ca, .slice B 0 cb]) ∧ Hid (p9 = true → iw ((j : Int) * a) ∧ q9 = (j : Int) * a) ∧ Hid (p9 = false → ¬ iw ((j : Int) * a)))
          case first =>
            refine wp_region_held_drew (S := fun W' => Below WV3.heap.size WV3 W') (by kernel_rfl) (by exact (Below.refl _ _).drew) (fun hHeld => ?_)
            refine wpAnyH_worldM (fun z67 hw0 => ?_)
            have HS := Lib.hid (show Below WV3.heap.size WV3 z67 by rw [hw0]; exact (Below.refl _ _).drew)
            clear hw0
            refine wpAnyH_take (i := 0) (oi := ⟨some 129, _, _, _, _, _⟩) (v := .agg #[.int .i64 2, .int .i64 0, .int .i64 0, .string ⟨#[]⟩, .slice none 0 0, .slice none 0 0, .string ⟨#[97]⟩, .slice none 0 0]) rfl (by kernel_rfl) (by kernel_rfl) (by kernel_rfl) (fun _ _ _ h => h) (Or.inl ⟨by kernel_rfl, ?_⟩) (by assumption) ?_
            · intro W hSw; obtain ⟨c8, f8, l8⟩ := (HBA.out.keep (HB.out.trans (hSw.mono HB.out.size))).rules; go_simp
            try simp only [Act.put, List.setIfInBounds_toArray, List.set_cons_zero, List.set_cons_succ]
            refine wpAnyH_take (i := 1) (oi := ⟨some 130, _, _, _, _, _⟩) (v := .int .i64 (j : Int)) rfl (by kernel_rfl) (by kernel_rfl) (by kernel_rfl) (fun _ _ _ h => h) (Or.inl ⟨by kernel_rfl, ?_⟩) (by assumption) ?_
            · intro W hSw; go_simp
            try simp only [Act.put, List.setIfInBounds_toArray, List.set_cons_zero, List.set_cons_succ]
            refine wpAnyH_take (i := 5) (oi := ⟨some 134, _, _, _, _, _⟩) (v := .slice (some ⟨w3.heap.size, 0, none⟩) 2 2) rfl (by kernel_rfl) (by kernel_rfl) (by kernel_rfl) (fun _ _ _ h => h) (Or.inl ⟨by kernel_rfl, ?_⟩) (by assumption) ?_
            · intro W hSw; go_simp
            try simp only [Act.put, List.setIfInBounds_toArray, List.set_cons_zero, List.set_cons_succ]
            refine wpAnyH_ready (rs := [2, 10]) (by kernel_rfl) (by simp) ?_
            refine AllReadyH.cons (o := ⟨some 131, _, _, _, _, _⟩) rfl (fun K hK => ?_) (AllReadyH.cons (o := ⟨some 23, _, _, _, _, _⟩) rfl (fun K hK => ?_) AllReadyH.nil)
            · go_simp
              refine (lIn25 (j : Int) _).mono ?_
              rintro e z68 ⟨rfl, hb⟩
              have HS2 := Lib.hid (HS.out.trans (hb.mono HS.out.size))
              refine hK.out _ _ (by exact HS2.out) (fun hHeld2 => ?_)
              clear hK K hb hHeld2 HS 
              have HS := HS2
              clear HS2
              try simp only [Act.put, List.setIfInBounds_toArray, List.set_cons_zero, List.set_cons_succ]
              have hHeld := HS.out
              refine wpAnyH_ready (rs := [3, 10]) (by kernel_rfl) (by simp) ?_
              refine AllReadyH.cons (o := ⟨some 132, _, _, _, _, _⟩) rfl (fun K hK => ?_) (AllReadyH.cons (o := ⟨some 23, _, _, _, _, _⟩) rfl (fun K hK => ?_) AllReadyH.nil)
              · go_simp
                refine hK.out _ _ (by exact bel_alc2 HS.out (Nat.le_refl _) _) (fun hHeld2 => ?_)
                clear hK K
                try simp only [Act.put, List.setIfInBounds_toArray, List.set_cons_zero, List.set_cons_succ]
                refine wpAnyH_worldM (fun z69 hW => ?_)
                have HS2 := Lib.hid (show Below WV3.heap.size WV3 z69 by rw [hW]; exact bel_alc2 HS.out (Nat.le_refl _) _)
                have HPk1_2 := Lib.hid (show Blk z69 z68.heap.size 28 #[.int .i64 2, .int .i64 0, .int .i64 0, .string ⟨#[]⟩, .slice none 0 0, .slice none 0 0, .string ⟨#[97]⟩, .slice none 0 0, .int .i64 1, .int .i64 3, .int .i64 (j : Int), .string ⟨#[]⟩, .slice none 0 0, .slice none 0 0, .string ⟨#[]⟩, .slice none 0 0] by rw [hW]; exact Blk.new _ _ _)
                clear hW hHeld2 HS 
                have HS := HS2
                clear HS2
                have HPk1 := HPk1_2
                clear HPk1_2
                have hHeld := HS.out
                refine wpAnyH_ready (rs := [4, 10]) (by kernel_rfl) (by simp) ?_
                refine AllReadyH.cons (o := ⟨some 133, _, _, _, _, _⟩) rfl (fun K hK => ?_) (AllReadyH.cons (o := ⟨some 23, _, _, _, _, _⟩) rfl (fun K hK => ?_) AllReadyH.nil)
                · go_simp
                  refine (lOf25 8 _ 2 2 _).mono ?_
                  rintro e z70 ⟨rfl, hb⟩
                  have HS2 := Lib.hid (HS.out.trans (hb.mono HS.out.size))
                  have HPk1_2 := Lib.hid (HPk1.out.keep hb)
                  refine hK.out _ _ (by exact HS2.out) (fun hHeld2 => ?_)
                  clear hK K hb hHeld2 HS HPk1
                  have HS := HS2
                  clear HS2
                  have HPk1 := HPk1_2
                  clear HPk1_2
                  try simp only [Act.put, List.setIfInBounds_toArray, List.set_cons_zero, List.set_cons_succ]
                  have hHeld := HS.out
                  refine wpAnyH_ready (rs := [6, 10]) (by kernel_rfl) (by simp) ?_
                  refine AllReadyH.cons (o := ⟨some 135, _, _, _, _, _⟩) rfl (fun K hK => ?_) (AllReadyH.cons (o := ⟨some 23, _, _, _, _, _⟩) rfl (fun K hK => ?_) AllReadyH.nil)
                  · go_simp
                    have HQ := Lib.hid (HASK.out (xOf 8 [xName aT, xInt j]) [.int .i64 8, .int .i64 0, .int .i64 0, .string ⟨#[]⟩, .slice none 0 0, .slice none 0 0, .string ⟨#[]⟩, .slice (some ⟨z68.heap.size, 0, none⟩) 2 2] z70 (HB.out.trans (HS.out.mono HB.out.size)) (er_two 8 (er_name aT) (er_int j) HPk1.out) (cam_of (by unfold iw; omega) (by simp) (cam_two (cam_name (by decide)) (cam_int (by unfold iw; omega)))) (sml_of (by simp) (sml_two sml_leaf sml_leaf)))
                    rw [cnt_mul] at HQ
                    refine HQ.out.mono ?_
                    intro e z71 h
                    obtain ⟨p9, kk9, q9, VA9, va9, VB9, vb9, rfl, hp1, hp2, hb⟩ := EvaP.numR h
                    have HP19 := Lib.hid hp1
                    have HP29 := Lib.hid hp2
                    clear hp1 hp2
                    have HS2 := Lib.hid (HS.out.trans (hb.mono HS.out.size))
                    refine hK.out _ _ (by exact HS2.out) (fun hHeld2 => ?_)
                    clear hK K hb hHeld2 HS HQ h HPk1
                    have HS := HS2
                    clear HS2
                    try simp only [Act.put, List.setIfInBounds_toArray, List.set_cons_zero, List.set_cons_succ]
                    have hHeld := HS.out
                    refine wpAnyH_take (i := 7) (oi := ⟨some 128, _, _, _, _, _⟩) (v := .tuple #[.agg #[.int .i64 kk9, .int .i64 q9, .string ⟨#[]⟩, .slice VA9 0 va9, .slice VB9 0 vb9], .bool p9]) rfl (by kernel_rfl) (by kernel_rfl) (by kernel_rfl) (fun _ _ _ h => h) (Or.inl ⟨by kernel_rfl, ?_⟩) (by assumption) ?_
                    · intro W hSw; go_simp
                    try simp only [Act.put, List.setIfInBounds_toArray, List.set_cons_zero, List.set_cons_succ]
                    refine wpAnyH_take (i := 8) (oi := ⟨some 136, _, _, _, _, _⟩) (v := .agg #[.int .i64 kk9, .int .i64 q9, .string ⟨#[]⟩, .slice VA9 0 va9, .slice VB9 0 vb9]) rfl (by kernel_rfl) (by kernel_rfl) (by kernel_rfl) (fun _ _ _ h => h) (Or.inl ⟨by kernel_rfl, ?_⟩) (by assumption) ?_
                    · intro W hSw; go_simp
                    try simp only [Act.put, List.setIfInBounds_toArray, List.set_cons_zero, List.set_cons_succ]
                    refine wpAnyH_take (i := 9) (oi := ⟨some 137, _, _, _, _, _⟩) (v := .bool p9) rfl (by kernel_rfl) (by kernel_rfl) (by kernel_rfl) (fun _ _ _ h => h) (Or.inl ⟨by kernel_rfl, ?_⟩) (by assumption) ?_
                    · intro W hSw; go_simp
                    try simp only [Act.put, List.setIfInBounds_toArray, List.set_cons_zero, List.set_cons_succ]
                    refine wpAnyH_ready (rs := [10]) (by kernel_rfl) (by simp) ?_
                    refine AllReadyH.cons (o := ⟨some 23, _, _, _, _, _⟩) rfl (fun K hK => ?_) AllReadyH.nil
                    go_simp
                    refine hK.out _ _ (by exact bel_alc2 HS.out (Nat.le_refl _) _) (fun hHeld2 => ?_)
                    clear hK K
                    try simp only [Act.put, List.setIfInBounds_toArray, List.set_cons_zero, List.set_cons_succ]
                    refine wpAnyH_worldM (fun z72 hW => ?_)
                    have HS2 := Lib.hid (show Below WV3.heap.size WV3 z72 by rw [hW]; exact bel_alc2 HS.out (Nat.le_refl _) _)
                    have HPv_2 := Lib.hid (show Blk z72 z71.heap.size 25 #[.int .i64 0, .int .i64 0, .string ⟨#[]⟩, .slice none 0 0, .slice none 0 0] by rw [hW]; exact Blk.new _ _ _)
                    have HGV := Lib.hid (show WV3.heap.size ≤ z71.heap.size from HS.out.size)
                    clear hW hHeld2 HS 
                    have HS := HS2
                    clear HS2
                    have HPv := HPv_2
                    clear HPv_2
                    have hHeld := HS.out
                    refine wpAnyH_ready (rs := [11]) (by kernel_rfl) (by simp) ?_
                    refine AllReadyH.cons (o := ⟨none, _, _, _, _, _⟩) rfl (fun K hK => ?_) AllReadyH.nil
                    rw [if_pos (by kernel_rfl)]
                    refine wp_store_mid 25 (.tmp 23) (.tmp 136) rfl (z71.heap.size) 0 #[.int .i64 kk9, .int .i64 q9, .string ⟨#[]⟩, .slice VA9 0 va9, .slice VB9 0 vb9] rfl rfl HPv.out.there (by kernel_rfl) (by first | kernel_rfl | simp [Value.oneCell']) ?_
                    have HS2 := Lib.hid (bel_setC (B := WV3.heap.size) (b := z71.heap.size) HGV.out [.int .i64 kk9, .int .i64 q9, .string ⟨#[]⟩, .slice VA9 0 va9, .slice VB9 0 vb9] 0 HS.out)
                    have HF := Lib.hid (HPv.out.set5C (.int .i64 kk9) (.int .i64 q9) (.string ⟨#[]⟩) (.slice VA9 0 va9) (.slice VB9 0 vb9))
                    refine hK.out _ _ (by exact HS2.out) (fun hHeld2 => ?_)
                    clear hK K hHeld2 HS HPv
                    try simp only [Act.put, List.setIfInBounds_toArray, List.set_cons_zero, List.set_cons_succ]
                    have hHeld := HS2.out
                    refine wpAnyH_take (i := 12) (oi := ⟨some 24, _, _, _, _, _⟩) (v := .bool p9) rfl (by kernel_rfl) (by kernel_rfl) (by kernel_rfl) (fun _ _ _ h => h) (Or.inl ⟨by kernel_rfl, ?_⟩) (by assumption) ?_
                    · intro W hSw; go_simp
                    try simp only [Act.put, List.setIfInBounds_toArray, List.set_cons_zero, List.set_cons_succ]
                    refine wpAnyH_done (by kernel_rfl) ?_ _
                    go_wp2
                    go_meet
                    case rel => exact ⟨_, _, _, _, _, _, _, _, _, rfl, rfl, rfl, HS2, HF, HP19, HP29⟩
                  · go_simp
                    refine hK.out _ _ (by exact bel_alc2 HS.out (Nat.le_refl _) _) (fun hHeld2 => ?_)
                    clear hK K
                    try simp only [Act.put, List.setIfInBounds_toArray, List.set_cons_zero, List.set_cons_succ]
                    refine wpAnyH_worldM (fun z73 hW => ?_)
                    have HS2 := Lib.hid (show Below WV3.heap.size WV3 z73 by rw [hW]; exact bel_alc2 HS.out (Nat.le_refl _) _)
                    have HPv_2 := Lib.hid (show Blk z73 z70.heap.size 25 #[.int .i64 0, .int .i64 0, .string ⟨#[]⟩, .slice none 0 0, .slice none 0 0] by rw [hW]; exact Blk.new _ _ _)
                    have HGV := Lib.hid (show WV3.heap.size ≤ z70.heap.size from HS.out.size)
                    have HPk1_2 := Lib.hid (show Blk z73 z68.heap.size 28 #[.int .i64 2, .int .i64 0, .int .i64 0, .string ⟨#[]⟩, .slice none 0 0, .slice none 0 0, .string ⟨#[97]⟩, .slice none 0 0, .int .i64 1, .int .i64 3, .int .i64 (j : Int), .string ⟨#[]⟩, .slice none 0 0, .slice none 0 0, .string ⟨#[]⟩, .slice none 0 0] by rw [hW]; exact Blk.alloc HPk1.out _)
                    clear hW hHeld2 HS HPk1
                    have HS := HS2
                    clear HS2
                    have HPk1 := HPk1_2
                    clear HPk1_2
                    have HPv := HPv_2
                    clear HPv_2
                    have hHeld := HS.out
                    refine wpAnyH_ready (rs := [6]) (by kernel_rfl) (by simp) ?_
                    refine AllReadyH.cons (o := ⟨some 135, _, _, _, _, _⟩) rfl (fun K hK => ?_) AllReadyH.nil
                    go_simp
                    have HQ := Lib.hid (HASK.out (xOf 8 [xName aT, xInt j]) [.int .i64 8, .int .i64 0, .int .i64 0, .string ⟨#[]⟩, .slice none 0 0, .slice none 0 0, .string ⟨#[]⟩, .slice (some ⟨z68.heap.size, 0, none⟩) 2 2] z73 (HB.out.trans (HS.out.mono HB.out.size)) (er_two 8 (er_name aT) (er_int j) HPk1.out) (cam_of (by unfold iw; omega) (by simp) (cam_two (cam_name (by decide)) (cam_int (by unfold iw; omega)))) (sml_of (by simp) (sml_two sml_leaf sml_leaf)))
                    rw [cnt_mul] at HQ
                    refine HQ.out.mono ?_
                    intro e z74 h
                    obtain ⟨p9, kk9, q9, VA9, va9, VB9, vb9, rfl, hp1, hp2, hb⟩ := EvaP.numR h
                    have HP19 := Lib.hid hp1
                    have HP29 := Lib.hid hp2
                    clear hp1 hp2
                    have HS2 := Lib.hid (HS.out.trans (hb.mono HS.out.size))
                    have HPv_2 := Lib.hid (HPv.out.keep hb)
                    refine hK.out _ _ (by exact HS2.out) (fun hHeld2 => ?_)
                    clear hK K hb hHeld2 HS HQ h HPk1 HPv
                    have HS := HS2
                    clear HS2
                    have HPv := HPv_2
                    clear HPv_2
                    try simp only [Act.put, List.setIfInBounds_toArray, List.set_cons_zero, List.set_cons_succ]
                    have hHeld := HS.out
                    refine wpAnyH_take (i := 7) (oi := ⟨some 128, _, _, _, _, _⟩) (v := .tuple #[.agg #[.int .i64 kk9, .int .i64 q9, .string ⟨#[]⟩, .slice VA9 0 va9, .slice VB9 0 vb9], .bool p9]) rfl (by kernel_rfl) (by kernel_rfl) (by kernel_rfl) (fun _ _ _ h => h) (Or.inl ⟨by kernel_rfl, ?_⟩) (by assumption) ?_
                    · intro W hSw; go_simp
                    try simp only [Act.put, List.setIfInBounds_toArray, List.set_cons_zero, List.set_cons_succ]
                    refine wpAnyH_take (i := 8) (oi := ⟨some 136, _, _, _, _, _⟩) (v := .agg #[.int .i64 kk9, .int .i64 q9, .string ⟨#[]⟩, .slice VA9 0 va9, .slice VB9 0 vb9]) rfl (by kernel_rfl) (by kernel_rfl) (by kernel_rfl) (fun _ _ _ h => h) (Or.inl ⟨by kernel_rfl, ?_⟩) (by assumption) ?_
                    · intro W hSw; go_simp
                    try simp only [Act.put, List.setIfInBounds_toArray, List.set_cons_zero, List.set_cons_succ]
                    refine wpAnyH_take (i := 9) (oi := ⟨some 137, _, _, _, _, _⟩) (v := .bool p9) rfl (by kernel_rfl) (by kernel_rfl) (by kernel_rfl) (fun _ _ _ h => h) (Or.inl ⟨by kernel_rfl, ?_⟩) (by assumption) ?_
                    · intro W hSw; go_simp
                    try simp only [Act.put, List.setIfInBounds_toArray, List.set_cons_zero, List.set_cons_succ]
                    refine wpAnyH_ready (rs := [11]) (by kernel_rfl) (by simp) ?_
                    refine AllReadyH.cons (o := ⟨none, _, _, _, _, _⟩) rfl (fun K hK => ?_) AllReadyH.nil
                    rw [if_pos (by kernel_rfl)]
                    refine wp_store_mid 25 (.tmp 23) (.tmp 136) rfl (z70.heap.size) 0 #[.int .i64 kk9, .int .i64 q9, .string ⟨#[]⟩, .slice VA9 0 va9, .slice VB9 0 vb9] rfl rfl HPv.out.there (by kernel_rfl) (by first | kernel_rfl | simp [Value.oneCell']) ?_
                    have HS2 := Lib.hid (bel_setC (B := WV3.heap.size) (b := z70.heap.size) HGV.out [.int .i64 kk9, .int .i64 q9, .string ⟨#[]⟩, .slice VA9 0 va9, .slice VB9 0 vb9] 0 HS.out)
                    have HF := Lib.hid (HPv.out.set5C (.int .i64 kk9) (.int .i64 q9) (.string ⟨#[]⟩) (.slice VA9 0 va9) (.slice VB9 0 vb9))
                    refine hK.out _ _ (by exact HS2.out) (fun hHeld2 => ?_)
                    clear hK K hHeld2 HS HPv
                    try simp only [Act.put, List.setIfInBounds_toArray, List.set_cons_zero, List.set_cons_succ]
                    have hHeld := HS2.out
                    refine wpAnyH_take (i := 12) (oi := ⟨some 24, _, _, _, _, _⟩) (v := .bool p9) rfl (by kernel_rfl) (by kernel_rfl) (by kernel_rfl) (fun _ _ _ h => h) (Or.inl ⟨by kernel_rfl, ?_⟩) (by assumption) ?_
                    · intro W hSw; go_simp
                    try simp only [Act.put, List.setIfInBounds_toArray, List.set_cons_zero, List.set_cons_succ]
                    refine wpAnyH_done (by kernel_rfl) ?_ _
                    go_wp2
                    go_meet
                    case rel => exact ⟨_, _, _, _, _, _, _, _, _, rfl, rfl, rfl, HS2, HF, HP19, HP29⟩
                · go_simp
                  refine hK.out _ _ (by exact bel_alc2 HS.out (Nat.le_refl _) _) (fun hHeld2 => ?_)
                  clear hK K
                  try simp only [Act.put, List.setIfInBounds_toArray, List.set_cons_zero, List.set_cons_succ]
                  refine wpAnyH_worldM (fun z75 hW => ?_)
                  have HS2 := Lib.hid (show Below WV3.heap.size WV3 z75 by rw [hW]; exact bel_alc2 HS.out (Nat.le_refl _) _)
                  have HPv_2 := Lib.hid (show Blk z75 z69.heap.size 25 #[.int .i64 0, .int .i64 0, .string ⟨#[]⟩, .slice none 0 0, .slice none 0 0] by rw [hW]; exact Blk.new _ _ _)
                  have HGV := Lib.hid (show WV3.heap.size ≤ z69.heap.size from HS.out.size)
                  have HPk1_2 := Lib.hid (show Blk z75 z68.heap.size 28 #[.int .i64 2, .int .i64 0, .int .i64 0, .string ⟨#[]⟩, .slice none 0 0, .slice none 0 0, .string ⟨#[97]⟩, .slice none 0 0, .int .i64 1, .int .i64 3, .int .i64 (j : Int), .string ⟨#[]⟩, .slice none 0 0, .slice none 0 0, .string ⟨#[]⟩, .slice none 0 0] by rw [hW]; exact Blk.alloc HPk1.out _)
                  clear hW hHeld2 HS HPk1
                  have HS := HS2
                  clear HS2
                  have HPk1 := HPk1_2
                  clear HPk1_2
                  have HPv := HPv_2
                  clear HPv_2
                  have hHeld := HS.out
                  refine wpAnyH_ready (rs := [4]) (by kernel_rfl) (by simp) ?_
                  refine AllReadyH.cons (o := ⟨some 133, _, _, _, _, _⟩) rfl (fun K hK => ?_) AllReadyH.nil
                  go_simp
                  refine (lOf25 8 _ 2 2 _).mono ?_
                  rintro e z76 ⟨rfl, hb⟩
                  have HS2 := Lib.hid (HS.out.trans (hb.mono HS.out.size))
                  have HPk1_2 := Lib.hid (HPk1.out.keep hb)
                  have HPv_2 := Lib.hid (HPv.out.keep hb)
                  refine hK.out _ _ (by exact HS2.out) (fun hHeld2 => ?_)
                  clear hK K hb hHeld2 HS HPk1 HPv
                  have HS := HS2
                  clear HS2
                  have HPk1 := HPk1_2
                  clear HPk1_2
                  have HPv := HPv_2
                  clear HPv_2
                  try simp only [Act.put, List.setIfInBounds_toArray, List.set_cons_zero, List.set_cons_succ]
                  have hHeld := HS.out
                  refine wpAnyH_ready (rs := [6]) (by kernel_rfl) (by simp) ?_
                  refine AllReadyH.cons (o := ⟨some 135, _, _, _, _, _⟩) rfl (fun K hK => ?_) AllReadyH.nil
                  go_simp
                  have HQ := Lib.hid (HASK.out (xOf 8 [xName aT, xInt j]) [.int .i64 8, .int .i64 0, .int .i64 0, .string ⟨#[]⟩, .slice none 0 0, .slice none 0 0, .string ⟨#[]⟩, .slice (some ⟨z68.heap.size, 0, none⟩) 2 2] z76 (HB.out.trans (HS.out.mono HB.out.size)) (er_two 8 (er_name aT) (er_int j) HPk1.out) (cam_of (by unfold iw; omega) (by simp) (cam_two (cam_name (by decide)) (cam_int (by unfold iw; omega)))) (sml_of (by simp) (sml_two sml_leaf sml_leaf)))
                  rw [cnt_mul] at HQ
                  refine HQ.out.mono ?_
                  intro e z77 h
                  obtain ⟨p9, kk9, q9, VA9, va9, VB9, vb9, rfl, hp1, hp2, hb⟩ := EvaP.numR h
                  have HP19 := Lib.hid hp1
                  have HP29 := Lib.hid hp2
                  clear hp1 hp2
                  have HS2 := Lib.hid (HS.out.trans (hb.mono HS.out.size))
                  have HPv_2 := Lib.hid (HPv.out.keep hb)
                  refine hK.out _ _ (by exact HS2.out) (fun hHeld2 => ?_)
                  clear hK K hb hHeld2 HS HQ h HPk1 HPv
                  have HS := HS2
                  clear HS2
                  have HPv := HPv_2
                  clear HPv_2
                  try simp only [Act.put, List.setIfInBounds_toArray, List.set_cons_zero, List.set_cons_succ]
                  have hHeld := HS.out
                  refine wpAnyH_take (i := 7) (oi := ⟨some 128, _, _, _, _, _⟩) (v := .tuple #[.agg #[.int .i64 kk9, .int .i64 q9, .string ⟨#[]⟩, .slice VA9 0 va9, .slice VB9 0 vb9], .bool p9]) rfl (by kernel_rfl) (by kernel_rfl) (by kernel_rfl) (fun _ _ _ h => h) (Or.inl ⟨by kernel_rfl, ?_⟩) (by assumption) ?_
                  · intro W hSw; go_simp
                  try simp only [Act.put, List.setIfInBounds_toArray, List.set_cons_zero, List.set_cons_succ]
                  refine wpAnyH_take (i := 8) (oi := ⟨some 136, _, _, _, _, _⟩) (v := .agg #[.int .i64 kk9, .int .i64 q9, .string ⟨#[]⟩, .slice VA9 0 va9, .slice VB9 0 vb9]) rfl (by kernel_rfl) (by kernel_rfl) (by kernel_rfl) (fun _ _ _ h => h) (Or.inl ⟨by kernel_rfl, ?_⟩) (by assumption) ?_
                  · intro W hSw; go_simp
                  try simp only [Act.put, List.setIfInBounds_toArray, List.set_cons_zero, List.set_cons_succ]
                  refine wpAnyH_take (i := 9) (oi := ⟨some 137, _, _, _, _, _⟩) (v := .bool p9) rfl (by kernel_rfl) (by kernel_rfl) (by kernel_rfl) (fun _ _ _ h => h) (Or.inl ⟨by kernel_rfl, ?_⟩) (by assumption) ?_
                  · intro W hSw; go_simp
                  try simp only [Act.put, List.setIfInBounds_toArray, List.set_cons_zero, List.set_cons_succ]
                  refine wpAnyH_ready (rs := [11]) (by kernel_rfl) (by simp) ?_
                  refine AllReadyH.cons (o := ⟨none, _, _, _, _, _⟩) rfl (fun K hK => ?_) AllReadyH.nil
                  rw [if_pos (by kernel_rfl)]
                  refine wp_store_mid 25 (.tmp 23) (.tmp 136) rfl (z69.heap.size) 0 #[.int .i64 kk9, .int .i64 q9, .string ⟨#[]⟩, .slice VA9 0 va9, .slice VB9 0 vb9] rfl rfl HPv.out.there (by kernel_rfl) (by first | kernel_rfl | simp [Value.oneCell']) ?_
                  have HS2 := Lib.hid (bel_setC (B := WV3.heap.size) (b := z69.heap.size) HGV.out [.int .i64 kk9, .int .i64 q9, .string ⟨#[]⟩, .slice VA9 0 va9, .slice VB9 0 vb9] 0 HS.out)
                  have HF := Lib.hid (HPv.out.set5C (.int .i64 kk9) (.int .i64 q9) (.string ⟨#[]⟩) (.slice VA9 0 va9) (.slice VB9 0 vb9))
                  refine hK.out _ _ (by exact HS2.out) (fun hHeld2 => ?_)
                  clear hK K hHeld2 HS HPv
                  try simp only [Act.put, List.setIfInBounds_toArray, List.set_cons_zero, List.set_cons_succ]
                  have hHeld := HS2.out
                  refine wpAnyH_take (i := 12) (oi := ⟨some 24, _, _, _, _, _⟩) (v := .bool p9) rfl (by kernel_rfl) (by kernel_rfl) (by kernel_rfl) (fun _ _ _ h => h) (Or.inl ⟨by kernel_rfl, ?_⟩) (by assumption) ?_
                  · intro W hSw; go_simp
                  try simp only [Act.put, List.setIfInBounds_toArray, List.set_cons_zero, List.set_cons_succ]
                  refine wpAnyH_done (by kernel_rfl) ?_ _
                  go_wp2
                  go_meet
                  case rel => exact ⟨_, _, _, _, _, _, _, _, _, rfl, rfl, rfl, HS2, HF, HP19, HP29⟩
              · go_simp
                refine hK.out _ _ (by exact bel_alc2 HS.out (Nat.le_refl _) _) (fun hHeld2 => ?_)
                clear hK K
                try simp only [Act.put, List.setIfInBounds_toArray, List.set_cons_zero, List.set_cons_succ]
                refine wpAnyH_worldM (fun z78 hW => ?_)
                have HS2 := Lib.hid (show Below WV3.heap.size WV3 z78 by rw [hW]; exact bel_alc2 HS.out (Nat.le_refl _) _)
                have HPv_2 := Lib.hid (show Blk z78 z68.heap.size 25 #[.int .i64 0, .int .i64 0, .string ⟨#[]⟩, .slice none 0 0, .slice none 0 0] by rw [hW]; exact Blk.new _ _ _)
                have HGV := Lib.hid (show WV3.heap.size ≤ z68.heap.size from HS.out.size)
                clear hW hHeld2 HS 
                have HS := HS2
                clear HS2
                have HPv := HPv_2
                clear HPv_2
                have hHeld := HS.out
                refine wpAnyH_ready (rs := [3]) (by kernel_rfl) (by simp) ?_
                refine AllReadyH.cons (o := ⟨some 132, _, _, _, _, _⟩) rfl (fun K hK => ?_) AllReadyH.nil
                go_simp
                refine hK.out _ _ (by exact bel_alc2 HS.out (Nat.le_refl _) _) (fun hHeld2 => ?_)
                clear hK K
                try simp only [Act.put, List.setIfInBounds_toArray, List.set_cons_zero, List.set_cons_succ]
                refine wpAnyH_worldM (fun z79 hW => ?_)
                have HS2 := Lib.hid (show Below WV3.heap.size WV3 z79 by rw [hW]; exact bel_alc2 HS.out (Nat.le_refl _) _)
                have HPk1_2 := Lib.hid (show Blk z79 z78.heap.size 28 #[.int .i64 2, .int .i64 0, .int .i64 0, .string ⟨#[]⟩, .slice none 0 0, .slice none 0 0, .string ⟨#[97]⟩, .slice none 0 0, .int .i64 1, .int .i64 3, .int .i64 (j : Int), .string ⟨#[]⟩, .slice none 0 0, .slice none 0 0, .string ⟨#[]⟩, .slice none 0 0] by rw [hW]; exact Blk.new _ _ _)
                have HPv_2 := Lib.hid (show Blk z79 z68.heap.size 25 #[.int .i64 0, .int .i64 0, .string ⟨#[]⟩, .slice none 0 0, .slice none 0 0] by rw [hW]; exact Blk.alloc HPv.out _)
                clear hW hHeld2 HS HPv
                have HS := HS2
                clear HS2
                have HPv := HPv_2
                clear HPv_2
                have HPk1 := HPk1_2
                clear HPk1_2
                have hHeld := HS.out
                refine wpAnyH_ready (rs := [4]) (by kernel_rfl) (by simp) ?_
                refine AllReadyH.cons (o := ⟨some 133, _, _, _, _, _⟩) rfl (fun K hK => ?_) AllReadyH.nil
                go_simp
                refine (lOf25 8 _ 2 2 _).mono ?_
                rintro e z80 ⟨rfl, hb⟩
                have HS2 := Lib.hid (HS.out.trans (hb.mono HS.out.size))
                have HPv_2 := Lib.hid (HPv.out.keep hb)
                have HPk1_2 := Lib.hid (HPk1.out.keep hb)
                refine hK.out _ _ (by exact HS2.out) (fun hHeld2 => ?_)
                clear hK K hb hHeld2 HS HPv HPk1
                have HS := HS2
                clear HS2
                have HPv := HPv_2
                clear HPv_2
                have HPk1 := HPk1_2
                clear HPk1_2
                try simp only [Act.put, List.setIfInBounds_toArray, List.set_cons_zero, List.set_cons_succ]
                have hHeld := HS.out
                refine wpAnyH_ready (rs := [6]) (by kernel_rfl) (by simp) ?_
                refine AllReadyH.cons (o := ⟨some 135, _, _, _, _, _⟩) rfl (fun K hK => ?_) AllReadyH.nil
                go_simp
                have HQ := Lib.hid (HASK.out (xOf 8 [xName aT, xInt j]) [.int .i64 8, .int .i64 0, .int .i64 0, .string ⟨#[]⟩, .slice none 0 0, .slice none 0 0, .string ⟨#[]⟩, .slice (some ⟨z78.heap.size, 0, none⟩) 2 2] z80 (HB.out.trans (HS.out.mono HB.out.size)) (er_two 8 (er_name aT) (er_int j) HPk1.out) (cam_of (by unfold iw; omega) (by simp) (cam_two (cam_name (by decide)) (cam_int (by unfold iw; omega)))) (sml_of (by simp) (sml_two sml_leaf sml_leaf)))
                rw [cnt_mul] at HQ
                refine HQ.out.mono ?_
                intro e z81 h
                obtain ⟨p9, kk9, q9, VA9, va9, VB9, vb9, rfl, hp1, hp2, hb⟩ := EvaP.numR h
                have HP19 := Lib.hid hp1
                have HP29 := Lib.hid hp2
                clear hp1 hp2
                have HS2 := Lib.hid (HS.out.trans (hb.mono HS.out.size))
                have HPv_2 := Lib.hid (HPv.out.keep hb)
                refine hK.out _ _ (by exact HS2.out) (fun hHeld2 => ?_)
                clear hK K hb hHeld2 HS HQ h HPv HPk1
                have HS := HS2
                clear HS2
                have HPv := HPv_2
                clear HPv_2
                try simp only [Act.put, List.setIfInBounds_toArray, List.set_cons_zero, List.set_cons_succ]
                have hHeld := HS.out
                refine wpAnyH_take (i := 7) (oi := ⟨some 128, _, _, _, _, _⟩) (v := .tuple #[.agg #[.int .i64 kk9, .int .i64 q9, .string ⟨#[]⟩, .slice VA9 0 va9, .slice VB9 0 vb9], .bool p9]) rfl (by kernel_rfl) (by kernel_rfl) (by kernel_rfl) (fun _ _ _ h => h) (Or.inl ⟨by kernel_rfl, ?_⟩) (by assumption) ?_
                · intro W hSw; go_simp
                try simp only [Act.put, List.setIfInBounds_toArray, List.set_cons_zero, List.set_cons_succ]
                refine wpAnyH_take (i := 8) (oi := ⟨some 136, _, _, _, _, _⟩) (v := .agg #[.int .i64 kk9, .int .i64 q9, .string ⟨#[]⟩, .slice VA9 0 va9, .slice VB9 0 vb9]) rfl (by kernel_rfl) (by kernel_rfl) (by kernel_rfl) (fun _ _ _ h => h) (Or.inl ⟨by kernel_rfl, ?_⟩) (by assumption) ?_
                · intro W hSw; go_simp
                try simp only [Act.put, List.setIfInBounds_toArray, List.set_cons_zero, List.set_cons_succ]
                refine wpAnyH_take (i := 9) (oi := ⟨some 137, _, _, _, _, _⟩) (v := .bool p9) rfl (by kernel_rfl) (by kernel_rfl) (by kernel_rfl) (fun _ _ _ h => h) (Or.inl ⟨by kernel_rfl, ?_⟩) (by assumption) ?_
                · intro W hSw; go_simp
                try simp only [Act.put, List.setIfInBounds_toArray, List.set_cons_zero, List.set_cons_succ]
                refine wpAnyH_ready (rs := [11]) (by kernel_rfl) (by simp) ?_
                refine AllReadyH.cons (o := ⟨none, _, _, _, _, _⟩) rfl (fun K hK => ?_) AllReadyH.nil
                rw [if_pos (by kernel_rfl)]
                refine wp_store_mid 25 (.tmp 23) (.tmp 136) rfl (z68.heap.size) 0 #[.int .i64 kk9, .int .i64 q9, .string ⟨#[]⟩, .slice VA9 0 va9, .slice VB9 0 vb9] rfl rfl HPv.out.there (by kernel_rfl) (by first | kernel_rfl | simp [Value.oneCell']) ?_
                have HS2 := Lib.hid (bel_setC (B := WV3.heap.size) (b := z68.heap.size) HGV.out [.int .i64 kk9, .int .i64 q9, .string ⟨#[]⟩, .slice VA9 0 va9, .slice VB9 0 vb9] 0 HS.out)
                have HF := Lib.hid (HPv.out.set5C (.int .i64 kk9) (.int .i64 q9) (.string ⟨#[]⟩) (.slice VA9 0 va9) (.slice VB9 0 vb9))
                refine hK.out _ _ (by exact HS2.out) (fun hHeld2 => ?_)
                clear hK K hHeld2 HS HPv
                try simp only [Act.put, List.setIfInBounds_toArray, List.set_cons_zero, List.set_cons_succ]
                have hHeld := HS2.out
                refine wpAnyH_take (i := 12) (oi := ⟨some 24, _, _, _, _, _⟩) (v := .bool p9) rfl (by kernel_rfl) (by kernel_rfl) (by kernel_rfl) (fun _ _ _ h => h) (Or.inl ⟨by kernel_rfl, ?_⟩) (by assumption) ?_
                · intro W hSw; go_simp
                try simp only [Act.put, List.setIfInBounds_toArray, List.set_cons_zero, List.set_cons_succ]
                refine wpAnyH_done (by kernel_rfl) ?_ _
                go_wp2
                go_meet
                case rel => exact ⟨_, _, _, _, _, _, _, _, _, rfl, rfl, rfl, HS2, HF, HP19, HP29⟩
            · go_simp
              refine hK.out _ _ (by exact bel_alc2 HS.out (Nat.le_refl _) _) (fun hHeld2 => ?_)
              clear hK K
              try simp only [Act.put, List.setIfInBounds_toArray, List.set_cons_zero, List.set_cons_succ]
              refine wpAnyH_worldM (fun z82 hW => ?_)
              have HS2 := Lib.hid (show Below WV3.heap.size WV3 z82 by rw [hW]; exact bel_alc2 HS.out (Nat.le_refl _) _)
              have HPv_2 := Lib.hid (show Blk z82 z67.heap.size 25 #[.int .i64 0, .int .i64 0, .string ⟨#[]⟩, .slice none 0 0, .slice none 0 0] by rw [hW]; exact Blk.new _ _ _)
              have HGV := Lib.hid (show WV3.heap.size ≤ z67.heap.size from HS.out.size)
              clear hW hHeld2 HS 
              have HS := HS2
              clear HS2
              have HPv := HPv_2
              clear HPv_2
              have hHeld := HS.out
              refine wpAnyH_ready (rs := [2]) (by kernel_rfl) (by simp) ?_
              refine AllReadyH.cons (o := ⟨some 131, _, _, _, _, _⟩) rfl (fun K hK => ?_) AllReadyH.nil
              go_simp
              refine (lIn25 (j : Int) _).mono ?_
              rintro e z83 ⟨rfl, hb⟩
              have HS2 := Lib.hid (HS.out.trans (hb.mono HS.out.size))
              have HPv_2 := Lib.hid (HPv.out.keep hb)
              refine hK.out _ _ (by exact HS2.out) (fun hHeld2 => ?_)
              clear hK K hb hHeld2 HS HPv
              have HS := HS2
              clear HS2
              have HPv := HPv_2
              clear HPv_2
              try simp only [Act.put, List.setIfInBounds_toArray, List.set_cons_zero, List.set_cons_succ]
              have hHeld := HS.out
              refine wpAnyH_ready (rs := [3]) (by kernel_rfl) (by simp) ?_
              refine AllReadyH.cons (o := ⟨some 132, _, _, _, _, _⟩) rfl (fun K hK => ?_) AllReadyH.nil
              go_simp
              refine hK.out _ _ (by exact bel_alc2 HS.out (Nat.le_refl _) _) (fun hHeld2 => ?_)
              clear hK K
              try simp only [Act.put, List.setIfInBounds_toArray, List.set_cons_zero, List.set_cons_succ]
              refine wpAnyH_worldM (fun z84 hW => ?_)
              have HS2 := Lib.hid (show Below WV3.heap.size WV3 z84 by rw [hW]; exact bel_alc2 HS.out (Nat.le_refl _) _)
              have HPk1_2 := Lib.hid (show Blk z84 z83.heap.size 28 #[.int .i64 2, .int .i64 0, .int .i64 0, .string ⟨#[]⟩, .slice none 0 0, .slice none 0 0, .string ⟨#[97]⟩, .slice none 0 0, .int .i64 1, .int .i64 3, .int .i64 (j : Int), .string ⟨#[]⟩, .slice none 0 0, .slice none 0 0, .string ⟨#[]⟩, .slice none 0 0] by rw [hW]; exact Blk.new _ _ _)
              have HPv_2 := Lib.hid (show Blk z84 z67.heap.size 25 #[.int .i64 0, .int .i64 0, .string ⟨#[]⟩, .slice none 0 0, .slice none 0 0] by rw [hW]; exact Blk.alloc HPv.out _)
              clear hW hHeld2 HS HPv
              have HS := HS2
              clear HS2
              have HPv := HPv_2
              clear HPv_2
              have HPk1 := HPk1_2
              clear HPk1_2
              have hHeld := HS.out
              refine wpAnyH_ready (rs := [4]) (by kernel_rfl) (by simp) ?_
              refine AllReadyH.cons (o := ⟨some 133, _, _, _, _, _⟩) rfl (fun K hK => ?_) AllReadyH.nil
              go_simp
              refine (lOf25 8 _ 2 2 _).mono ?_
              rintro e z85 ⟨rfl, hb⟩
              have HS2 := Lib.hid (HS.out.trans (hb.mono HS.out.size))
              have HPv_2 := Lib.hid (HPv.out.keep hb)
              have HPk1_2 := Lib.hid (HPk1.out.keep hb)
              refine hK.out _ _ (by exact HS2.out) (fun hHeld2 => ?_)
              clear hK K hb hHeld2 HS HPv HPk1
              have HS := HS2
              clear HS2
              have HPv := HPv_2
              clear HPv_2
              have HPk1 := HPk1_2
              clear HPk1_2
              try simp only [Act.put, List.setIfInBounds_toArray, List.set_cons_zero, List.set_cons_succ]
              have hHeld := HS.out
              refine wpAnyH_ready (rs := [6]) (by kernel_rfl) (by simp) ?_
              refine AllReadyH.cons (o := ⟨some 135, _, _, _, _, _⟩) rfl (fun K hK => ?_) AllReadyH.nil
              go_simp
              have HQ := Lib.hid (HASK.out (xOf 8 [xName aT, xInt j]) [.int .i64 8, .int .i64 0, .int .i64 0, .string ⟨#[]⟩, .slice none 0 0, .slice none 0 0, .string ⟨#[]⟩, .slice (some ⟨z83.heap.size, 0, none⟩) 2 2] z85 (HB.out.trans (HS.out.mono HB.out.size)) (er_two 8 (er_name aT) (er_int j) HPk1.out) (cam_of (by unfold iw; omega) (by simp) (cam_two (cam_name (by decide)) (cam_int (by unfold iw; omega)))) (sml_of (by simp) (sml_two sml_leaf sml_leaf)))
              rw [cnt_mul] at HQ
              refine HQ.out.mono ?_
              intro e z86 h
              obtain ⟨p9, kk9, q9, VA9, va9, VB9, vb9, rfl, hp1, hp2, hb⟩ := EvaP.numR h
              have HP19 := Lib.hid hp1
              have HP29 := Lib.hid hp2
              clear hp1 hp2
              have HS2 := Lib.hid (HS.out.trans (hb.mono HS.out.size))
              have HPv_2 := Lib.hid (HPv.out.keep hb)
              refine hK.out _ _ (by exact HS2.out) (fun hHeld2 => ?_)
              clear hK K hb hHeld2 HS HQ h HPv HPk1
              have HS := HS2
              clear HS2
              have HPv := HPv_2
              clear HPv_2
              try simp only [Act.put, List.setIfInBounds_toArray, List.set_cons_zero, List.set_cons_succ]
              have hHeld := HS.out
              refine wpAnyH_take (i := 7) (oi := ⟨some 128, _, _, _, _, _⟩) (v := .tuple #[.agg #[.int .i64 kk9, .int .i64 q9, .string ⟨#[]⟩, .slice VA9 0 va9, .slice VB9 0 vb9], .bool p9]) rfl (by kernel_rfl) (by kernel_rfl) (by kernel_rfl) (fun _ _ _ h => h) (Or.inl ⟨by kernel_rfl, ?_⟩) (by assumption) ?_
              · intro W hSw; go_simp
              try simp only [Act.put, List.setIfInBounds_toArray, List.set_cons_zero, List.set_cons_succ]
              refine wpAnyH_take (i := 8) (oi := ⟨some 136, _, _, _, _, _⟩) (v := .agg #[.int .i64 kk9, .int .i64 q9, .string ⟨#[]⟩, .slice VA9 0 va9, .slice VB9 0 vb9]) rfl (by kernel_rfl) (by kernel_rfl) (by kernel_rfl) (fun _ _ _ h => h) (Or.inl ⟨by kernel_rfl, ?_⟩) (by assumption) ?_
              · intro W hSw; go_simp
              try simp only [Act.put, List.setIfInBounds_toArray, List.set_cons_zero, List.set_cons_succ]
              refine wpAnyH_take (i := 9) (oi := ⟨some 137, _, _, _, _, _⟩) (v := .bool p9) rfl (by kernel_rfl) (by kernel_rfl) (by kernel_rfl) (fun _ _ _ h => h) (Or.inl ⟨by kernel_rfl, ?_⟩) (by assumption) ?_
              · intro W hSw; go_simp
              try simp only [Act.put, List.setIfInBounds_toArray, List.set_cons_zero, List.set_cons_succ]
              refine wpAnyH_ready (rs := [11]) (by kernel_rfl) (by simp) ?_
              refine AllReadyH.cons (o := ⟨none, _, _, _, _, _⟩) rfl (fun K hK => ?_) AllReadyH.nil
              rw [if_pos (by kernel_rfl)]
              refine wp_store_mid 25 (.tmp 23) (.tmp 136) rfl (z67.heap.size) 0 #[.int .i64 kk9, .int .i64 q9, .string ⟨#[]⟩, .slice VA9 0 va9, .slice VB9 0 vb9] rfl rfl HPv.out.there (by kernel_rfl) (by first | kernel_rfl | simp [Value.oneCell']) ?_
              have HS2 := Lib.hid (bel_setC (B := WV3.heap.size) (b := z67.heap.size) HGV.out [.int .i64 kk9, .int .i64 q9, .string ⟨#[]⟩, .slice VA9 0 va9, .slice VB9 0 vb9] 0 HS.out)
              have HF := Lib.hid (HPv.out.set5C (.int .i64 kk9) (.int .i64 q9) (.string ⟨#[]⟩) (.slice VA9 0 va9) (.slice VB9 0 vb9))
              refine hK.out _ _ (by exact HS2.out) (fun hHeld2 => ?_)
              clear hK K hHeld2 HS HPv
              try simp only [Act.put, List.setIfInBounds_toArray, List.set_cons_zero, List.set_cons_succ]
              have hHeld := HS2.out
              refine wpAnyH_take (i := 12) (oi := ⟨some 24, _, _, _, _, _⟩) (v := .bool p9) rfl (by kernel_rfl) (by kernel_rfl) (by kernel_rfl) (fun _ _ _ h => h) (Or.inl ⟨by kernel_rfl, ?_⟩) (by assumption) ?_
              · intro W hSw; go_simp
              try simp only [Act.put, List.setIfInBounds_toArray, List.set_cons_zero, List.set_cons_succ]
              refine wpAnyH_done (by kernel_rfl) ?_ _
              go_wp2
              go_meet
              case rel => exact ⟨_, _, _, _, _, _, _, _, _, rfl, rfl, rfl, HS2, HF, HP19, HP29⟩
          case rest =>
            obtain ⟨g9, p9, kk9, q9, A9, ca9, B9, cb9, wq, rfl, rfl, rfl, HB2, HV9, HP19, HP29⟩ := hcut
            obtain ⟨c9, f9, l9⟩ := HV9.out.rules
            obtain ⟨c8, f8, l8⟩ := (HV3.out.keep HB2.out).rules
            have HBF := Lib.hid (HBE.out.trans ((HB.out.trans (HB2.out.mono HB.out.size)).mono HBE.out.size))
            cases p3 <;> cases p9
            · go_wp2
              go_ret
              exact ⟨rfl, HBF.out⟩
            · exact absurd (HP19.out rfl).1 (HP23.out rfl)
            · exact absurd (HP13.out rfl).1 (HP29.out rfl)
            · obtain ⟨_, rfl⟩ := HP13.out rfl
              obtain ⟨_, rfl⟩ := HP19.out rfl
              go_wp2
              go_ret
              exact ⟨rfl, HBF.out⟩
theorem wf_u8 {q : Int} (h : (Lit.int .u8 q).wf = true) : 0 ≤ q ∧ q < 256 := by
  have h : (decide (IntKind.u8.min ≤ q) && decide (q ≤ IntKind.u8.max)) = true := h
  rw [Bool.and_eq_true, decide_eq_true_eq, decide_eq_true_eq] at h
  have e1 : IntKind.u8.min = 0 := by decide
  have e2 : IntKind.u8.max = 255 := by decide
  omega
theorem vevalCounts_any (a b k : Int) (w : World) (hG : GOE w) (ha : (Lit.int .i64 a).wf = true) (hb : (Lit.int .i64 b).wf = true) (hk : (Lit.int .u8 k).wf = true) :
    Calls Tryz.prog 6 #[.int .i64 a, .int .i64 b, .int .u8 k] w (BoolS true w) :=
  counts_walk a b k _ w hG (wf_iw ha) (wf_iw hb) (wf_u8 hk).1 (wf_u8 hk).2 rfl
end Go.Proofs.YtgolomgmnanbpaaGreatDoor
