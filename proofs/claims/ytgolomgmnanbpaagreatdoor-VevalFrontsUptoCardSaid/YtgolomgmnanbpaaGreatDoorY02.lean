import Derived.Test.YtgolomgmnanbpaaGreatDoorY01
import Derived.Test.YtgolomgmnanbpaaGreatDoorZ25
namespace Go.Proofs.YtgolomgmnanbpaaGreatDoor
set_option linter.unusedVariables false
set_option linter.unusedSimpArgs false
open Go.RowKit
attribute [local go_sem] run_index_arr run_part_agg run_part_one run_field_agg
theorem share9 {P : Program} {md : Region.Mode} {ops : Array Oper} {Q : Exit → Act → World → Prop} {S : World → Prop} {fuel : Nat} {listed : Array Bool} {act : Nat → Nat → Option Addr → Nat → Nat → Option Addr → Nat → Nat → Act} {R : World → Nat → Nat → Option Addr → Nat → Nat → Option Addr → Nat → Nat → Prop} {goal : Prop}
    (hleaf : ∀ Z b7 b8 A7 n7 c7 A8 n8 c8, R Z b7 b8 A7 n7 c7 A8 n8 c8 → wpAnyH P md ops Q S fuel listed (act b7 b8 A7 n7 c7 A8 n8 c8) Z)
    (h : (∀ Z b7 b8 A7 n7 c7 A8 n8 c8, R Z b7 b8 A7 n7 c7 A8 n8 c8 → wpAnyH P md ops Q S fuel listed (act b7 b8 A7 n7 c7 A8 n8 c8) Z) → goal) : goal := h hleaf
theorem wpAnyH_lis {P : Program} {md : Region.Mode} {ops : Array Oper} {Q : Exit → Act → World → Prop} {S : World → Prop} {fuel : Nat} {l l' : Array Bool} {a : Act} {w : World} (e : l = l') (h : wpAnyH P md ops Q S fuel l' a w) : wpAnyH P md ops Q S fuel l a w := by rw [e]; exact h
theorem map_few (l : List SJ) (id : List UInt8) (v : JV) : (mapJ l id v).1.length ≤ 4 ∧ ∀ y ∈ (mapJ l id v).1, good y.1 = true ∧ good y.2 = true := by
  rcases mapJ_out l id v with ⟨q, hq, _⟩ | ⟨_, h1, h2⟩
  · rw [hq]; exact ⟨by simp, fun y hy => by cases hy⟩
  · exact ⟨h1, fun y hy => ⟨(h2 y hy).1, (h2 y hy).2.1⟩⟩
theorem map_none {l : List SJ} {id : List UInt8} {v : JV} (h : (mapJ l id v).2 ≠ 0) : (mapJ l id v).1 = [] := by
  rcases map_err l id v with ⟨q, _, hq⟩ | ⟨_, _, _, hq⟩
  · rw [hq]
  · rw [hq] at h; exact absurd rfl h
def RF (w Z : World) (P Q D : Array Value) : Prop := Below w.heap.size w Z ∧ Blk Z w.heap.size 46 P ∧ Blk Z (w.heap.size + 1) 46 Q ∧ Blk Z (w.heap.size + 2) 25 D
def NB2 (w Z : World) (b : Nat) (v : Value) : Prop := w.heap.size + 3 ≤ b ∧ Blk Z b 46 #[v]
def GR (L : List Nat) : Nat → Prop := fun b => b ∉ L
def RW2 (Z : World) (F : Nat → Prop) (A : Option Addr) (n ca : Nat) (css : List (List Value)) (l : List SJ) : Prop := (n = l.length ∧ n ≤ ca ∧ (A = none → ca = 0)) ∧ SRs Z F css l ∧ RdF Z F A css.flatten
section
variable {w Z Z' : World} {P Q D : Array Value} {A : Option Addr} {n ca : Nat} {css : List (List Value)} {l : List SJ} {L : List Nat} {F : Nat → Prop}
theorem RF.bel (h : RF w Z P Q D) (hb : Below Z.heap.size Z Z') : RF w Z' P Q D := ⟨h.1.trans (hb.mono h.1.size), h.2.1.keep hb, h.2.2.1.keep hb, h.2.2.2.keep hb⟩
theorem RF.p (h : RF w Z P Q D) : Blk Z w.heap.size 46 P := h.2.1
theorem RF.q (h : RF w Z P Q D) : Blk Z (w.heap.size + 1) 46 Q := h.2.2.1
theorem RF.d (h : RF w Z P Q D) : Blk Z (w.heap.size + 2) 25 D := h.2.2.2
theorem RF.new (h : RF w Z P Q D) {Y : World} (hY : Y = Z.alloc (.cells #[.slice none 0 0] 46)) : NB2 w Y Z.heap.size (.slice none 0 0) := ⟨by have := h.d.lt; omega, by rw [hY]; exact Blk.new _ _ _⟩
theorem RF.st (h : RF w Z P Q D) {b : Nat} (hb : w.heap.size + 3 ≤ b) (u : Value) : RF w (Z.setCell ⟨b, 0, none⟩ u) P Q D :=
  ⟨h.1.setCell (p := ⟨b, 0, none⟩) (by show w.heap.size ≤ b; omega) u, h.p.far (p := ⟨b, 0, none⟩) (by show w.heap.size ≠ b; omega) u, h.q.far (p := ⟨b, 0, none⟩) (by show w.heap.size + 1 ≠ b; omega) u, h.d.far (p := ⟨b, 0, none⟩) (by show w.heap.size + 2 ≠ b; omega) u⟩
theorem NB2.bel {b : Nat} {v : Value} (h : NB2 w Z b v) (hb : Below Z.heap.size Z Z') : NB2 w Z' b v := ⟨h.1, h.2.keep hb⟩
theorem RF.res (h : RF w Z P Q D) (hL : ∀ b ∈ L, w.heap.size + 3 ≤ b ∧ b < Z.heap.size) (h1 : n = l.length) (h2 : n ≤ ca) (h3 : A = none → ca = 0) (h4 : SRs Z' (FN (fun b => b < w.heap.size) Z) css l) (h5 : RdF Z' (FN (fun b => b < w.heap.size) Z) A css.flatten) : RW2 Z' (GR L) A n ca css l := by
  have hm : ∀ b, b < Z'.heap.size → FN (fun b => b < w.heap.size) Z b → GR L b := fun b _ hb hm => by
    have := hL b hm
    rcases hb with hb | hb
    · have hb : b < w.heap.size := hb
      omega
    · omega
  exact ⟨⟨h1, h2, h3⟩, RR.imp h4 fun c x hc => hc.mono hm, h5.mono hm⟩
theorem RW2.bel (h : RW2 Z F A n ca css l) (hb : Below Z.heap.size Z Z') : RW2 Z' F A n ca css l := ⟨h.1, RR.imp h.2.1 fun c x hc => hc.bel hb, h.2.2.keep (KeepF.of_below hb)⟩
theorem RW2.add (h : RW2 Z (GR L) A n ca css l) {b : Nat} (hb : Z.heap.size ≤ b) : RW2 Z (GR (b :: L)) A n ca css l := by
  have hm : ∀ k, k < Z.heap.size → GR L k → GR (b :: L) k := fun k hk hg hm => by
    rcases List.mem_cons.1 hm with rfl | hm
    · omega
    · exact hg hm
  exact ⟨h.1, RR.imp h.2.1 fun c x hc => hc.mono hm, h.2.2.mono hm⟩
theorem RW2.two (h : RW2 Z (GR L) A n ca css l) {b7 b8 : Nat} (hs : ∀ x, x ∈ [b7, b8] → x ∈ L) : RW2 Z (GR [b7, b8]) A n ca css l := by
  have hm : ∀ k, k < Z.heap.size → GR L k → GR [b7, b8] k := fun k _ hg hm => hg (hs k hm)
  exact ⟨h.1, RR.imp h.2.1 fun c x hc => hc.mono hm, h.2.2.mono hm⟩
theorem RW2.tt (h : RW2 Z F A n ca css l) : RW2 Z TT A n ca css l := ⟨h.1, RR.imp h.2.1 fun c x hc => hc.mono fun _ _ _ => trivial, h.2.2.mono fun _ _ _ => trivial⟩
theorem RW2.st (h : RW2 Z (GR L) A n ca css l) {b : Nat} (hb : b ∈ L) (u : Value) : RW2 (Z.setCell ⟨b, 0, none⟩ u) (GR L) A n ca css l := by
  have hk : KeepF (GR L) Z (Z.setCell ⟨b, 0, none⟩ u) := KeepF.set KeepF.refl (fun k hg e => hg (by rw [e]; exact hb)) 0 u
  exact ⟨h.1, RR.imp h.2.1 fun c x hc => hc.keep hk, h.2.2.keep hk⟩
end
theorem emr_take {W : World} {A : Option Addr} {css : List (List Value)} {xs : List (JV × JV)} (n : Nat) (h : EmRs W TT css xs) (hr : RdF W TT A css.flatten) : EmRs W TT (css.take n) (xs.take n) ∧ RdF W TT A (css.take n).flatten := by
  refine ⟨h.take n, ?_⟩
  rw [take_flat (m := 10) n (h.lens fun c x hc => hc.len)]
  exact hr.take (n * 10)
set_option maxRecDepth 100000 in
set_option maxHeartbeats 32000000 in
theorem vevalFronts_any (A0 : Option Addr) (ca0 : Nat) (p0 : List SJ) (A1 : Option Addr) (ca1 : Nat) (q0 : List SJ) (cs2 : Array Value) (x2 : JV) (w : World) (hG : GOE w) (hS0 : RowS w A0 ca0 p0) (hL0 : ∀ v ∈ p0, locS 4194304 v) (hn0 : p0.length ≤ 4194304)
    (hS1 : RowS w A1 ca1 q0) (hL1 : ∀ v ∈ q0, locS 4194304 v) (hn1 : q0.length ≤ 4194304) (h2 : VR w TT cs2.toList x2) (c2 : Came x2) :
    Calls Tryz.prog 7 #[.agg #[.slice A0 p0.length ca0], .agg #[.slice A1 q0.length ca1], .agg cs2] w (BoolS true w) := by
  obtain ⟨l2, rfl⟩ : ∃ l : List Value, cs2 = l.toArray := ⟨cs2.toList, by simp⟩
  replace h2 : VR w TT l2 x2 := by simpa using h2
  have few (l : List SJ) (A : Option Addr) (n ca : Nat) (h : RowS w A ca l) (hL : ∀ v ∈ l, locS 4194304 v) (hn : l.length ≤ 4194304) (hln : l.length = n) (W : World) (hb : Below w.heap.size w W) : Calls Tryz.prog 19 #[.agg #[.slice A n ca]] W (FewP (cutS 6 l) (fun b => b < w.heap.size) W) := by
    obtain ⟨css, hS, hnc, hA, hR⟩ := h
    rw [hln] at hnc hn
    exact lFew (fun b => b < w.heap.size) l A n ca css W (fun b hb' => Nat.lt_of_lt_of_le hb' hb.size) (RR.imp hS fun c x hc => (hc.mono (F' := fun b => b < w.heap.size) fun b hb' _ => hb').bel hb) ((hR.mono (F' := fun b => b < w.heap.size) fun b hb' _ => hb').keep (KeepF.of_below hb)) hln hnc (cam_locSA hL) hn
  obtain ⟨n0, hln0⟩ : ∃ n, p0.length = n := ⟨_, rfl⟩
  obtain ⟨n1, hln1⟩ : ∃ n, q0.length = n := ⟨_, rfl⟩
  have HF0 := Lib.hid (few p0 A0 n0 ca0 hS0 hL0 hn0 hln0)
  have HF1 := Lib.hid (few q0 A1 n1 ca1 hS1 hL1 hn1 hln1)
  rw [hln0, hln1]
  obtain ⟨p, hp⟩ : ∃ p, cutS 6 p0 = p := ⟨_, rfl⟩
  obtain ⟨q, hq⟩ : ∃ q, cutS 6 q0 = q := ⟨_, rfl⟩
  rw [hp] at HF0
  rw [hq] at HF1
  have HPQ := Lib.hid (show (p.length ≤ 5 ∧ camSL p ∧ smlSL p) ∧ (q.length ≤ 5 ∧ camSL q ∧ smlSL q) by
    rw [← hp, ← hq]
    exact ⟨⟨cutS_len 6 _, cam_cutS 6 _ (cam_locSA hL0), sml_cutS 6 _⟩, ⟨cutS_len 6 _, cam_cutS 6 _ (cam_locSA hL1), sml_cutS 6 _⟩⟩)
  obtain ⟨r1, hr1⟩ : ∃ r, mapJ p [97] x2 = r := ⟨_, rfl⟩
  obtain ⟨r2, hr2⟩ : ∃ r, mapJ (p ++ q) [97] x2 = r := ⟨_, rfl⟩
  have HLAW := Lib.hid (show (r1.2 ≠ 0 → r1.1 = []) ∧ (r2.2 ≠ 0 → r2.1 = []) ∧ (r1.2 = 0 → r2.2 = 0 → r1.1 <+: r2.1) by
    rw [← hr1, ← hr2]; exact ⟨map_none, map_none, fronts_law⟩)
  have HFEW := Lib.hid (show (r1.1.length ≤ 4 ∧ ∀ y ∈ r1.1, good y.1 = true ∧ good y.2 = true) ∧ (r2.1.length ≤ 4 ∧ ∀ y ∈ r2.1, good y.1 = true ∧ good y.2 = true) by
    rw [← hr1, ← hr2]; exact ⟨map_few _ _ _, map_few _ _ _⟩)
  have HMA := Lib.hid (fun (W : World) (A3 : Option Addr) (n3 ca3 : Nat) (css3 : List (List Value)) (h : Below w.heap.size w W) (h3 : RW2 W TT A3 n3 ca3 css3 p) =>
    show Calls Tryz.prog 21 #[.agg #[.slice A3 n3 ca3], .string ⟨#[97]⟩, .agg l2.toArray] W (MapP r1 W) by
      rw [← hr1]
      exact mMap p css3 A3 n3 ca3 [97] x2 l2 W (hG.keep h) h3.2.1 h3.1.1.symm h3.1.2.1 h3.2.2 HPQ.out.1.2.1 HPQ.out.1.2.2 (by rw [h3.1.1]; have := HPQ.out.1.1; omega) (by decide) (h2.bel h) c2)
  have HMB0 := Lib.hid (fun (W : World) (A3 : Option Addr) (n3 ca3 : Nat) (css3 : List (List Value)) (h : Below w.heap.size w W) (h3 : SRs W TT css3 (p ++ q)) (hR3 : RdF W TT A3 css3.flatten) (hl3 : (p ++ q).length = n3) (hc3 : n3 ≤ ca3) =>
    show Calls Tryz.prog 21 #[.agg #[.slice A3 n3 ca3], .string ⟨#[97]⟩, .agg l2.toArray] W (MapP r2 W) by
      rw [← hr2]
      exact mMap (p ++ q) css3 A3 n3 ca3 [97] x2 l2 W (hG.keep h) h3 hl3 hc3 hR3 (camSL_iff.2 fun x hx => by
        rcases List.mem_append.1 hx with hx | hx
        · exact camSL_iff.1 HPQ.out.1.2.1 x hx
        · exact camSL_iff.1 HPQ.out.2.2.1 x hx) (smlSL_iff.2 fun x hx => by
        rcases List.mem_append.1 hx with hx | hx
        · exact smlSL_iff.1 HPQ.out.1.2.2 x hx
        · exact smlSL_iff.1 HPQ.out.2.2.2 x hx) (by rw [← hl3, List.length_append]; have := HPQ.out.1.1; have := HPQ.out.2.1; omega) (by decide) (h2.bel h) c2)
  have HG := Lib.hid hG
  obtain ⟨kd, nd, sd, Ad, nad, cad, Bd, nbd, cbd, rfl⟩ := h2.form
  have HH0 := Lib.hid ((((Held.nil w).push 46 #[.slice A0 n0 ca0] (g := w.heap.size) rfl).push 46 #[.slice A1 n1 ca1] (g := w.heap.size + 1) (by simp)).push 25 #[.int .i64 kd, .int .i64 nd, .string sd, .slice Ad nad cad, .slice Bd nbd cbd] (g := w.heap.size + 2) (by simp))
  clear hG hS0 hL0 hn0 hS1 hL1 hn1 h2 c2 few hln0 hln1 hp hq hr1 hr2
  go_enter Tryz.func7, Tryz.ntmps7
  go_wp2_with fail
  refine (lWakes _ (HG.out.keep HH0.out.1)).mono ?_
  rintro e w1 ⟨rfl, hb1⟩
  have HH1 := Lib.hid (HH0.out.keep hb1)
  clear hb1 HH0
  go_upto_region 3 with fail
  go_cut [7, 8] (fun s7 s8 wx => ∃ (b7 b8 : Nat) (A7 : Option Addr) (n7 ca7 : Nat) (css7 : List (List Value)) (A8 : Option Addr) (n8 ca8 : Nat) (css8 : List (List Value)) (W : World), W = wx ∧ s7 = .pointer (some ⟨b7, 0, none⟩) ∧ s8 = .pointer (some ⟨b8, 0, none⟩) ∧
    Hid (RF w W #[.slice A0 n0 ca0] #[.slice A1 n1 ca1] #[.int .i64 kd, .int .i64 nd, .string sd, .slice Ad nad cad, .slice Bd nbd cbd]) ∧ Hid (NB2 w W b7 (.slice A7 n7 ca7)) ∧ Hid (NB2 w W b8 (.slice A8 n8 ca8)) ∧ Hid (RW2 W TT A7 n7 ca7 css7 p) ∧ Hid (RW2 W TT A8 n8 ca8 css8 q))
  case first =>
    apply share9 (R := fun Z b7 b8 A7 n7 ca7 A8 n8 ca8 => ∃ (css7 css8 : List (List Value)), Hid (RF w Z #[.slice A0 n0 ca0] #[.slice A1 n1 ca1] #[.int .i64 kd, .int .i64 nd, .string sd, .slice Ad nad cad, .slice Bd nbd cbd]) ∧ Hid (NB2 w Z b7 (.slice none 0 0)) ∧ Hid (NB2 w Z b8 (.slice none 0 0)) ∧ Hid (RW2 Z (GR [b7, b8]) A7 n7 ca7 css7 p) ∧ Hid (RW2 Z (GR [b7, b8]) A8 n8 ca8 css8 q) ∧ b7 ≠ b8)
    case h =>
      intro HL
      refine wp_region_held_drew (S := fun W' => Blk W' w.heap.size 46 #[.slice A0 n0 ca0] ∧ Blk W' (w.heap.size + 1) 46 #[.slice A1 n1 ca1] ∧ Blk W' (w.heap.size + 2) 25 #[.int .i64 kd, .int .i64 nd, .string sd, .slice Ad nad cad, .slice Bd nbd cbd]) (by kernel_rfl) (by exact ⟨HH1.out.b2.drew, HH1.out.b1.drew, HH1.out.b0.drew⟩) (fun hHeld => ?_)
      refine wpAnyH_worldM (fun Z0 hw0 => ?_)
      have HB := Lib.hid (show RF w Z0 #[.slice A0 n0 ca0] #[.slice A1 n1 ca1] #[.int .i64 kd, .int .i64 nd, .string sd, .slice Ad nad cad, .slice Bd nbd cbd] by rw [hw0]; exact ⟨HH1.out.1.drew, HH1.out.b2.drew, HH1.out.b1.drew, HH1.out.b0.drew⟩)
      clear hw0 hHeld
      have hHeld := And.intro HB.out.p (And.intro HB.out.q HB.out.d)
      refine wpAnyH_take (i := 0) (oi := ⟨some 17, _, _, _, _, _⟩) (v := .agg #[.slice A0 n0 ca0]) rfl (by kernel_rfl) (by kernel_rfl) (by kernel_rfl) (fun _ _ _ h => h) (Or.inl ⟨by kernel_rfl, ?_⟩) (by assumption) ?_
      · intro W hSw; obtain ⟨c8, f8, l8⟩ := hSw.1.rules; go_simp
      try simp only [Act.put, List.setIfInBounds_toArray, List.set_cons_zero, List.set_cons_succ]
      refine wpAnyH_take (i := 2) (oi := ⟨some 19, _, _, _, _, _⟩) (v := .agg #[.slice A1 n1 ca1]) rfl (by kernel_rfl) (by kernel_rfl) (by kernel_rfl) (fun _ _ _ h => h) (Or.inl ⟨by kernel_rfl, ?_⟩) (by assumption) ?_
      · intro W hSw; obtain ⟨c8, f8, l8⟩ := hSw.2.1.rules; go_simp
      try simp only [Act.put, List.setIfInBounds_toArray, List.set_cons_zero, List.set_cons_succ]
      refine wpAnyH_ready (rs := [1, 4, 5]) (by kernel_rfl) (by simp) ?_
      refine AllReadyH.cons (o := ⟨some 18, _, _, _, _, _⟩) rfl (fun K hK => ?_) (AllReadyH.cons (o := ⟨some 7, _, _, _, _, _⟩) rfl (fun K hK => ?_) (AllReadyH.cons (o := ⟨some 8, _, _, _, _, _⟩) rfl (fun K hK => ?_) AllReadyH.nil))
      · go_simp
        refine (HF0.out _ HB.out.1).mono ?_
        rintro e Z1 ⟨A7, n7, ca7, css7, rfl, h1, h2, h3, h4, h5, hb⟩
        have HR7 := Lib.hid (HB.out.res (L := []) (fun b hb => by cases hb) h1 h2 h3 h4 h5)
        clear h1 h2 h3 h4 h5
        replace HB := Lib.hid (HB.out.bel hb)
        clear hb
        refine hK.out _ _ (by exact ⟨HB.out.p, HB.out.q, HB.out.d⟩) (fun hHeld2 => ?_)
        clear hK K hHeld
        have hHeld := hHeld2
        clear hHeld2
        try simp only [Act.put, List.setIfInBounds_toArray, List.set_cons_zero, List.set_cons_succ]
        refine wpAnyH_ready (rs := [3, 4, 5]) (by kernel_rfl) (by simp) ?_
        refine AllReadyH.cons (o := ⟨some 20, _, _, _, _, _⟩) rfl (fun K hK => ?_) (AllReadyH.cons (o := ⟨some 7, _, _, _, _, _⟩) rfl (fun K hK => ?_) (AllReadyH.cons (o := ⟨some 8, _, _, _, _, _⟩) rfl (fun K hK => ?_) AllReadyH.nil))
        · go_simp
          refine (HF1.out _ HB.out.1).mono ?_
          rintro e Z2 ⟨A8, n8, ca8, css8, rfl, h1, h2, h3, h4, h5, hb⟩
          have HR8 := Lib.hid (HB.out.res (L := []) (fun b hb => by cases hb) h1 h2 h3 h4 h5)
          clear h1 h2 h3 h4 h5
          replace HB := Lib.hid (HB.out.bel hb)
          replace HR7 := Lib.hid (HR7.out.bel hb)
          clear hb
          refine hK.out _ _ (by exact ⟨HB.out.p, HB.out.q, HB.out.d⟩) (fun hHeld2 => ?_)
          clear hK K hHeld
          have hHeld := hHeld2
          clear hHeld2
          try simp only [Act.put, List.setIfInBounds_toArray, List.set_cons_zero, List.set_cons_succ]
          refine wpAnyH_ready (rs := [4, 5]) (by kernel_rfl) (by simp) ?_
          refine AllReadyH.cons (o := ⟨some 7, _, _, _, _, _⟩) rfl (fun K hK => ?_) (AllReadyH.cons (o := ⟨some 8, _, _, _, _, _⟩) rfl (fun K hK => ?_) AllReadyH.nil)
          · go_simp
            have HNn := Lib.hid (HB.out.new (Y := Z2.alloc (.cells #[.slice none 0 0] 46)) rfl)
            have hb := (Below.refl _ Z2).alloc (Nat.le_refl _) (.cells #[.slice none 0 0] 46)
            replace HR7 := Lib.hid ((HR7.out.add (b := Z2.heap.size) (Nat.le_refl _)).bel hb)
            replace HR8 := Lib.hid ((HR8.out.add (b := Z2.heap.size) (Nat.le_refl _)).bel hb)
            replace HB := Lib.hid (HB.out.bel hb)
            clear hb
            refine hK.out _ _ (by exact ⟨HB.out.p, HB.out.q, HB.out.d⟩) (fun hHeld2 => ?_)
            clear hK K hHeld
            have hHeld := hHeld2
            clear hHeld2
            try simp only [Act.put, List.setIfInBounds_toArray, List.set_cons_zero, List.set_cons_succ]
            refine wpAnyH_worldM (fun Y3 hY => ?_)
            obtain ⟨b7, hbb⟩ : ∃ b, Z2.heap.size = b := ⟨_, rfl⟩
            rw [hbb]
            rw [hbb] at HNn
            rw [← hY] at HNn HB
            rw [← hY, hbb] at HR7
            rw [← hY, hbb] at HR8
            have HN7 := HNn
            replace hHeld := And.intro HB.out.p (And.intro HB.out.q HB.out.d)
            clear hY hbb HNn
            refine wpAnyH_ready (rs := [5]) (by kernel_rfl) (by simp) ?_
            refine AllReadyH.cons (o := ⟨some 8, _, _, _, _, _⟩) rfl (fun K hK => ?_) AllReadyH.nil
            go_simp
            have HNn := Lib.hid (HB.out.new (Y := Y3.alloc (.cells #[.slice none 0 0] 46)) rfl)
            have hb := (Below.refl _ Y3).alloc (Nat.le_refl _) (.cells #[.slice none 0 0] 46)
            replace HR7 := Lib.hid ((HR7.out.add (b := Y3.heap.size) (Nat.le_refl _)).bel hb)
            replace HR8 := Lib.hid ((HR8.out.add (b := Y3.heap.size) (Nat.le_refl _)).bel hb)
            have hneb7 := Nat.ne_of_lt HN7.out.2.lt
            replace HN7 := Lib.hid (HN7.out.bel hb)
            replace HB := Lib.hid (HB.out.bel hb)
            clear hb
            refine hK.out _ _ (by exact ⟨HB.out.p, HB.out.q, HB.out.d⟩) (fun hHeld2 => ?_)
            clear hK K hHeld
            have hHeld := hHeld2
            clear hHeld2
            try simp only [Act.put, List.setIfInBounds_toArray, List.set_cons_zero, List.set_cons_succ]
            refine wpAnyH_worldM (fun Y4 hY => ?_)
            obtain ⟨b8, hbb⟩ : ∃ b, Y3.heap.size = b := ⟨_, rfl⟩
            rw [hbb]
            rw [hbb] at HNn
            rw [← hY] at HNn HB
            rw [← hY, hbb] at HR7
            rw [← hY, hbb] at HR8
            rw [← hY] at HN7
            rw [hbb] at hneb7
            have HN8 := HNn
            replace hHeld := And.intro HB.out.p (And.intro HB.out.q HB.out.d)
            clear hY hbb HNn
            refine wpAnyH_lis (l' := #[true, true, true, true, true, true, false, false]) (by kernel_rfl) ?_
            exact HL _ _ _ _ _ _ _ _ _ ⟨css7, css8, HB, HN7, HN8, Lib.hid (HR7.out.two (b7 := b7) (b8 := b8) (by simp)), Lib.hid (HR8.out.two (b7 := b7) (b8 := b8) (by simp)), by have := hneb7; omega⟩
          · go_simp
            have HNn := Lib.hid (HB.out.new (Y := Z2.alloc (.cells #[.slice none 0 0] 46)) rfl)
            have hb := (Below.refl _ Z2).alloc (Nat.le_refl _) (.cells #[.slice none 0 0] 46)
            replace HR7 := Lib.hid ((HR7.out.add (b := Z2.heap.size) (Nat.le_refl _)).bel hb)
            replace HR8 := Lib.hid ((HR8.out.add (b := Z2.heap.size) (Nat.le_refl _)).bel hb)
            replace HB := Lib.hid (HB.out.bel hb)
            clear hb
            refine hK.out _ _ (by exact ⟨HB.out.p, HB.out.q, HB.out.d⟩) (fun hHeld2 => ?_)
            clear hK K hHeld
            have hHeld := hHeld2
            clear hHeld2
            try simp only [Act.put, List.setIfInBounds_toArray, List.set_cons_zero, List.set_cons_succ]
            refine wpAnyH_worldM (fun Y5 hY => ?_)
            obtain ⟨b8, hbb⟩ : ∃ b, Z2.heap.size = b := ⟨_, rfl⟩
            rw [hbb]
            rw [hbb] at HNn
            rw [← hY] at HNn HB
            rw [← hY, hbb] at HR7
            rw [← hY, hbb] at HR8
            have HN8 := HNn
            replace hHeld := And.intro HB.out.p (And.intro HB.out.q HB.out.d)
            clear hY hbb HNn
            refine wpAnyH_ready (rs := [4]) (by kernel_rfl) (by simp) ?_
            refine AllReadyH.cons (o := ⟨some 7, _, _, _, _, _⟩) rfl (fun K hK => ?_) AllReadyH.nil
            go_simp
            have HNn := Lib.hid (HB.out.new (Y := Y5.alloc (.cells #[.slice none 0 0] 46)) rfl)
            have hb := (Below.refl _ Y5).alloc (Nat.le_refl _) (.cells #[.slice none 0 0] 46)
            replace HR7 := Lib.hid ((HR7.out.add (b := Y5.heap.size) (Nat.le_refl _)).bel hb)
            replace HR8 := Lib.hid ((HR8.out.add (b := Y5.heap.size) (Nat.le_refl _)).bel hb)
            have hneb8 := Nat.ne_of_lt HN8.out.2.lt
            replace HN8 := Lib.hid (HN8.out.bel hb)
            replace HB := Lib.hid (HB.out.bel hb)
            clear hb
            refine hK.out _ _ (by exact ⟨HB.out.p, HB.out.q, HB.out.d⟩) (fun hHeld2 => ?_)
            clear hK K hHeld
            have hHeld := hHeld2
            clear hHeld2
            try simp only [Act.put, List.setIfInBounds_toArray, List.set_cons_zero, List.set_cons_succ]
            refine wpAnyH_worldM (fun Y6 hY => ?_)
            obtain ⟨b7, hbb⟩ : ∃ b, Y5.heap.size = b := ⟨_, rfl⟩
            rw [hbb]
            rw [hbb] at HNn
            rw [← hY] at HNn HB
            rw [← hY, hbb] at HR7
            rw [← hY, hbb] at HR8
            rw [← hY] at HN8
            rw [hbb] at hneb8
            have HN7 := HNn
            replace hHeld := And.intro HB.out.p (And.intro HB.out.q HB.out.d)
            clear hY hbb HNn
            refine wpAnyH_lis (l' := #[true, true, true, true, true, true, false, false]) (by kernel_rfl) ?_
            exact HL _ _ _ _ _ _ _ _ _ ⟨css7, css8, HB, HN7, HN8, Lib.hid (HR7.out.two (b7 := b7) (b8 := b8) (by simp)), Lib.hid (HR8.out.two (b7 := b7) (b8 := b8) (by simp)), by have := hneb8; omega⟩
        · go_simp
          have HNn := Lib.hid (HB.out.new (Y := Z1.alloc (.cells #[.slice none 0 0] 46)) rfl)
          have hb := (Below.refl _ Z1).alloc (Nat.le_refl _) (.cells #[.slice none 0 0] 46)
          replace HR7 := Lib.hid ((HR7.out.add (b := Z1.heap.size) (Nat.le_refl _)).bel hb)
          replace HB := Lib.hid (HB.out.bel hb)
          clear hb
          refine hK.out _ _ (by exact ⟨HB.out.p, HB.out.q, HB.out.d⟩) (fun hHeld2 => ?_)
          clear hK K hHeld
          have hHeld := hHeld2
          clear hHeld2
          try simp only [Act.put, List.setIfInBounds_toArray, List.set_cons_zero, List.set_cons_succ]
          refine wpAnyH_worldM (fun Y7 hY => ?_)
          obtain ⟨b7, hbb⟩ : ∃ b, Z1.heap.size = b := ⟨_, rfl⟩
          rw [hbb]
          rw [hbb] at HNn
          rw [← hY] at HNn HB
          rw [← hY, hbb] at HR7
          have HN7 := HNn
          replace hHeld := And.intro HB.out.p (And.intro HB.out.q HB.out.d)
          clear hY hbb HNn
          refine wpAnyH_ready (rs := [3, 5]) (by kernel_rfl) (by simp) ?_
          refine AllReadyH.cons (o := ⟨some 20, _, _, _, _, _⟩) rfl (fun K hK => ?_) (AllReadyH.cons (o := ⟨some 8, _, _, _, _, _⟩) rfl (fun K hK => ?_) AllReadyH.nil)
          · go_simp
            refine (HF1.out _ HB.out.1).mono ?_
            rintro e Z8 ⟨A8, n8, ca8, css8, rfl, h1, h2, h3, h4, h5, hb⟩
            have HR8 := Lib.hid (HB.out.res (L := [b7]) (fun b hb => by obtain rfl := List.mem_singleton.1 hb; exact ⟨HN7.out.1, HN7.out.2.lt⟩) h1 h2 h3 h4 h5)
            clear h1 h2 h3 h4 h5
            replace HB := Lib.hid (HB.out.bel hb)
            replace HN7 := Lib.hid (HN7.out.bel hb)
            replace HR7 := Lib.hid (HR7.out.bel hb)
            clear hb
            refine hK.out _ _ (by exact ⟨HB.out.p, HB.out.q, HB.out.d⟩) (fun hHeld2 => ?_)
            clear hK K hHeld
            have hHeld := hHeld2
            clear hHeld2
            try simp only [Act.put, List.setIfInBounds_toArray, List.set_cons_zero, List.set_cons_succ]
            refine wpAnyH_ready (rs := [5]) (by kernel_rfl) (by simp) ?_
            refine AllReadyH.cons (o := ⟨some 8, _, _, _, _, _⟩) rfl (fun K hK => ?_) AllReadyH.nil
            go_simp
            have HNn := Lib.hid (HB.out.new (Y := Z8.alloc (.cells #[.slice none 0 0] 46)) rfl)
            have hb := (Below.refl _ Z8).alloc (Nat.le_refl _) (.cells #[.slice none 0 0] 46)
            replace HR7 := Lib.hid ((HR7.out.add (b := Z8.heap.size) (Nat.le_refl _)).bel hb)
            replace HR8 := Lib.hid ((HR8.out.add (b := Z8.heap.size) (Nat.le_refl _)).bel hb)
            have hneb7 := Nat.ne_of_lt HN7.out.2.lt
            replace HN7 := Lib.hid (HN7.out.bel hb)
            replace HB := Lib.hid (HB.out.bel hb)
            clear hb
            refine hK.out _ _ (by exact ⟨HB.out.p, HB.out.q, HB.out.d⟩) (fun hHeld2 => ?_)
            clear hK K hHeld
            have hHeld := hHeld2
            clear hHeld2
            try simp only [Act.put, List.setIfInBounds_toArray, List.set_cons_zero, List.set_cons_succ]
            refine wpAnyH_worldM (fun Y9 hY => ?_)
            obtain ⟨b8, hbb⟩ : ∃ b, Z8.heap.size = b := ⟨_, rfl⟩
            rw [hbb]
            rw [hbb] at HNn
            rw [← hY] at HNn HB
            rw [← hY, hbb] at HR7
            rw [← hY, hbb] at HR8
            rw [← hY] at HN7
            rw [hbb] at hneb7
            have HN8 := HNn
            replace hHeld := And.intro HB.out.p (And.intro HB.out.q HB.out.d)
            clear hY hbb HNn
            refine wpAnyH_lis (l' := #[true, true, true, true, true, true, false, false]) (by kernel_rfl) ?_
            exact HL _ _ _ _ _ _ _ _ _ ⟨css7, css8, HB, HN7, HN8, Lib.hid (HR7.out.two (b7 := b7) (b8 := b8) (by simp)), Lib.hid (HR8.out.two (b7 := b7) (b8 := b8) (by simp)), by have := hneb7; omega⟩
          · go_simp
            have HNn := Lib.hid (HB.out.new (Y := Y7.alloc (.cells #[.slice none 0 0] 46)) rfl)
            have hb := (Below.refl _ Y7).alloc (Nat.le_refl _) (.cells #[.slice none 0 0] 46)
            replace HR7 := Lib.hid ((HR7.out.add (b := Y7.heap.size) (Nat.le_refl _)).bel hb)
            have hneb7 := Nat.ne_of_lt HN7.out.2.lt
            replace HN7 := Lib.hid (HN7.out.bel hb)
            replace HB := Lib.hid (HB.out.bel hb)
            clear hb
            refine hK.out _ _ (by exact ⟨HB.out.p, HB.out.q, HB.out.d⟩) (fun hHeld2 => ?_)
            clear hK K hHeld
            have hHeld := hHeld2
            clear hHeld2
            try simp only [Act.put, List.setIfInBounds_toArray, List.set_cons_zero, List.set_cons_succ]
            refine wpAnyH_worldM (fun Y10 hY => ?_)
            obtain ⟨b8, hbb⟩ : ∃ b, Y7.heap.size = b := ⟨_, rfl⟩
            rw [hbb]
            rw [hbb] at HNn
            rw [← hY] at HNn HB
            rw [← hY, hbb] at HR7
            rw [← hY] at HN7
            rw [hbb] at hneb7
            have HN8 := HNn
            replace hHeld := And.intro HB.out.p (And.intro HB.out.q HB.out.d)
            clear hY hbb HNn
            refine wpAnyH_ready (rs := [3]) (by kernel_rfl) (by simp) ?_
            refine AllReadyH.cons (o := ⟨some 20, _, _, _, _, _⟩) rfl (fun K hK => ?_) AllReadyH.nil
            go_simp
            refine (HF1.out _ HB.out.1).mono ?_
            rintro e Z11 ⟨A8, n8, ca8, css8, rfl, h1, h2, h3, h4, h5, hb⟩
            have HR8 := Lib.hid (HB.out.res (L := [b8, b7]) (fun b hb => by rcases List.mem_cons.1 hb with rfl | hb; exact ⟨HN8.out.1, HN8.out.2.lt⟩; obtain rfl := List.mem_singleton.1 hb; exact ⟨HN7.out.1, HN7.out.2.lt⟩) h1 h2 h3 h4 h5)
            clear h1 h2 h3 h4 h5
            replace HB := Lib.hid (HB.out.bel hb)
            replace HN8 := Lib.hid (HN8.out.bel hb)
            replace HN7 := Lib.hid (HN7.out.bel hb)
            replace HR7 := Lib.hid (HR7.out.bel hb)
            clear hb
            refine hK.out _ _ (by exact ⟨HB.out.p, HB.out.q, HB.out.d⟩) (fun hHeld2 => ?_)
            clear hK K hHeld
            have hHeld := hHeld2
            clear hHeld2
            try simp only [Act.put, List.setIfInBounds_toArray, List.set_cons_zero, List.set_cons_succ]
            refine wpAnyH_lis (l' := #[true, true, true, true, true, true, false, false]) (by kernel_rfl) ?_
            exact HL _ _ _ _ _ _ _ _ _ ⟨css7, css8, HB, HN7, HN8, Lib.hid (HR7.out.two (b7 := b7) (b8 := b8) (by simp)), Lib.hid (HR8.out.two (b7 := b7) (b8 := b8) (by simp)), by have := hneb7; omega⟩
        · go_simp
          have HNn := Lib.hid (HB.out.new (Y := Z1.alloc (.cells #[.slice none 0 0] 46)) rfl)
          have hb := (Below.refl _ Z1).alloc (Nat.le_refl _) (.cells #[.slice none 0 0] 46)
          replace HR7 := Lib.hid ((HR7.out.add (b := Z1.heap.size) (Nat.le_refl _)).bel hb)
          replace HB := Lib.hid (HB.out.bel hb)
          clear hb
          refine hK.out _ _ (by exact ⟨HB.out.p, HB.out.q, HB.out.d⟩) (fun hHeld2 => ?_)
          clear hK K hHeld
          have hHeld := hHeld2
          clear hHeld2
          try simp only [Act.put, List.setIfInBounds_toArray, List.set_cons_zero, List.set_cons_succ]
          refine wpAnyH_worldM (fun Y12 hY => ?_)
          obtain ⟨b8, hbb⟩ : ∃ b, Z1.heap.size = b := ⟨_, rfl⟩
          rw [hbb]
          rw [hbb] at HNn
          rw [← hY] at HNn HB
          rw [← hY, hbb] at HR7
          have HN8 := HNn
          replace hHeld := And.intro HB.out.p (And.intro HB.out.q HB.out.d)
          clear hY hbb HNn
          refine wpAnyH_ready (rs := [3, 4]) (by kernel_rfl) (by simp) ?_
          refine AllReadyH.cons (o := ⟨some 20, _, _, _, _, _⟩) rfl (fun K hK => ?_) (AllReadyH.cons (o := ⟨some 7, _, _, _, _, _⟩) rfl (fun K hK => ?_) AllReadyH.nil)
          · go_simp
            refine (HF1.out _ HB.out.1).mono ?_
            rintro e Z13 ⟨A8, n8, ca8, css8, rfl, h1, h2, h3, h4, h5, hb⟩
            have HR8 := Lib.hid (HB.out.res (L := [b8]) (fun b hb => by obtain rfl := List.mem_singleton.1 hb; exact ⟨HN8.out.1, HN8.out.2.lt⟩) h1 h2 h3 h4 h5)
            clear h1 h2 h3 h4 h5
            replace HB := Lib.hid (HB.out.bel hb)
            replace HN8 := Lib.hid (HN8.out.bel hb)
            replace HR7 := Lib.hid (HR7.out.bel hb)
            clear hb
            refine hK.out _ _ (by exact ⟨HB.out.p, HB.out.q, HB.out.d⟩) (fun hHeld2 => ?_)
            clear hK K hHeld
            have hHeld := hHeld2
            clear hHeld2
            try simp only [Act.put, List.setIfInBounds_toArray, List.set_cons_zero, List.set_cons_succ]
            refine wpAnyH_ready (rs := [4]) (by kernel_rfl) (by simp) ?_
            refine AllReadyH.cons (o := ⟨some 7, _, _, _, _, _⟩) rfl (fun K hK => ?_) AllReadyH.nil
            go_simp
            have HNn := Lib.hid (HB.out.new (Y := Z13.alloc (.cells #[.slice none 0 0] 46)) rfl)
            have hb := (Below.refl _ Z13).alloc (Nat.le_refl _) (.cells #[.slice none 0 0] 46)
            replace HR7 := Lib.hid ((HR7.out.add (b := Z13.heap.size) (Nat.le_refl _)).bel hb)
            replace HR8 := Lib.hid ((HR8.out.add (b := Z13.heap.size) (Nat.le_refl _)).bel hb)
            have hneb8 := Nat.ne_of_lt HN8.out.2.lt
            replace HN8 := Lib.hid (HN8.out.bel hb)
            replace HB := Lib.hid (HB.out.bel hb)
            clear hb
            refine hK.out _ _ (by exact ⟨HB.out.p, HB.out.q, HB.out.d⟩) (fun hHeld2 => ?_)
            clear hK K hHeld
            have hHeld := hHeld2
            clear hHeld2
            try simp only [Act.put, List.setIfInBounds_toArray, List.set_cons_zero, List.set_cons_succ]
            refine wpAnyH_worldM (fun Y14 hY => ?_)
            obtain ⟨b7, hbb⟩ : ∃ b, Z13.heap.size = b := ⟨_, rfl⟩
            rw [hbb]
            rw [hbb] at HNn
            rw [← hY] at HNn HB
            rw [← hY, hbb] at HR7
            rw [← hY, hbb] at HR8
            rw [← hY] at HN8
            rw [hbb] at hneb8
            have HN7 := HNn
            replace hHeld := And.intro HB.out.p (And.intro HB.out.q HB.out.d)
            clear hY hbb HNn
            refine wpAnyH_lis (l' := #[true, true, true, true, true, true, false, false]) (by kernel_rfl) ?_
            exact HL _ _ _ _ _ _ _ _ _ ⟨css7, css8, HB, HN7, HN8, Lib.hid (HR7.out.two (b7 := b7) (b8 := b8) (by simp)), Lib.hid (HR8.out.two (b7 := b7) (b8 := b8) (by simp)), by have := hneb8; omega⟩
          · go_simp
            have HNn := Lib.hid (HB.out.new (Y := Y12.alloc (.cells #[.slice none 0 0] 46)) rfl)
            have hb := (Below.refl _ Y12).alloc (Nat.le_refl _) (.cells #[.slice none 0 0] 46)
            replace HR7 := Lib.hid ((HR7.out.add (b := Y12.heap.size) (Nat.le_refl _)).bel hb)
            have hneb8 := Nat.ne_of_lt HN8.out.2.lt
            replace HN8 := Lib.hid (HN8.out.bel hb)
            replace HB := Lib.hid (HB.out.bel hb)
            clear hb
            refine hK.out _ _ (by exact ⟨HB.out.p, HB.out.q, HB.out.d⟩) (fun hHeld2 => ?_)
            clear hK K hHeld
            have hHeld := hHeld2
            clear hHeld2
            try simp only [Act.put, List.setIfInBounds_toArray, List.set_cons_zero, List.set_cons_succ]
            refine wpAnyH_worldM (fun Y15 hY => ?_)
            obtain ⟨b7, hbb⟩ : ∃ b, Y12.heap.size = b := ⟨_, rfl⟩
            rw [hbb]
            rw [hbb] at HNn
            rw [← hY] at HNn HB
            rw [← hY, hbb] at HR7
            rw [← hY] at HN8
            rw [hbb] at hneb8
            have HN7 := HNn
            replace hHeld := And.intro HB.out.p (And.intro HB.out.q HB.out.d)
            clear hY hbb HNn
            refine wpAnyH_ready (rs := [3]) (by kernel_rfl) (by simp) ?_
            refine AllReadyH.cons (o := ⟨some 20, _, _, _, _, _⟩) rfl (fun K hK => ?_) AllReadyH.nil
            go_simp
            refine (HF1.out _ HB.out.1).mono ?_
            rintro e Z16 ⟨A8, n8, ca8, css8, rfl, h1, h2, h3, h4, h5, hb⟩
            have HR8 := Lib.hid (HB.out.res (L := [b7, b8]) (fun b hb => by rcases List.mem_cons.1 hb with rfl | hb; exact ⟨HN7.out.1, HN7.out.2.lt⟩; obtain rfl := List.mem_singleton.1 hb; exact ⟨HN8.out.1, HN8.out.2.lt⟩) h1 h2 h3 h4 h5)
            clear h1 h2 h3 h4 h5
            replace HB := Lib.hid (HB.out.bel hb)
            replace HN7 := Lib.hid (HN7.out.bel hb)
            replace HN8 := Lib.hid (HN8.out.bel hb)
            replace HR7 := Lib.hid (HR7.out.bel hb)
            clear hb
            refine hK.out _ _ (by exact ⟨HB.out.p, HB.out.q, HB.out.d⟩) (fun hHeld2 => ?_)
            clear hK K hHeld
            have hHeld := hHeld2
            clear hHeld2
            try simp only [Act.put, List.setIfInBounds_toArray, List.set_cons_zero, List.set_cons_succ]
            refine wpAnyH_lis (l' := #[true, true, true, true, true, true, false, false]) (by kernel_rfl) ?_
            exact HL _ _ _ _ _ _ _ _ _ ⟨css7, css8, HB, HN7, HN8, Lib.hid (HR7.out.two (b7 := b7) (b8 := b8) (by simp)), Lib.hid (HR8.out.two (b7 := b7) (b8 := b8) (by simp)), by have := hneb8; omega⟩
      · go_simp
        have HNn := Lib.hid (HB.out.new (Y := Z0.alloc (.cells #[.slice none 0 0] 46)) rfl)
        have hb := (Below.refl _ Z0).alloc (Nat.le_refl _) (.cells #[.slice none 0 0] 46)
        replace HB := Lib.hid (HB.out.bel hb)
        clear hb
        refine hK.out _ _ (by exact ⟨HB.out.p, HB.out.q, HB.out.d⟩) (fun hHeld2 => ?_)
        clear hK K hHeld
        have hHeld := hHeld2
        clear hHeld2
        try simp only [Act.put, List.setIfInBounds_toArray, List.set_cons_zero, List.set_cons_succ]
        refine wpAnyH_worldM (fun Y17 hY => ?_)
        obtain ⟨b7, hbb⟩ : ∃ b, Z0.heap.size = b := ⟨_, rfl⟩
        rw [hbb]
        rw [hbb] at HNn
        rw [← hY] at HNn HB
        have HN7 := HNn
        replace hHeld := And.intro HB.out.p (And.intro HB.out.q HB.out.d)
        clear hY hbb HNn
        refine wpAnyH_ready (rs := [1, 5]) (by kernel_rfl) (by simp) ?_
        refine AllReadyH.cons (o := ⟨some 18, _, _, _, _, _⟩) rfl (fun K hK => ?_) (AllReadyH.cons (o := ⟨some 8, _, _, _, _, _⟩) rfl (fun K hK => ?_) AllReadyH.nil)
        · go_simp
          refine (HF0.out _ HB.out.1).mono ?_
          rintro e Z18 ⟨A7, n7, ca7, css7, rfl, h1, h2, h3, h4, h5, hb⟩
          have HR7 := Lib.hid (HB.out.res (L := [b7]) (fun b hb => by obtain rfl := List.mem_singleton.1 hb; exact ⟨HN7.out.1, HN7.out.2.lt⟩) h1 h2 h3 h4 h5)
          clear h1 h2 h3 h4 h5
          replace HB := Lib.hid (HB.out.bel hb)
          replace HN7 := Lib.hid (HN7.out.bel hb)
          clear hb
          refine hK.out _ _ (by exact ⟨HB.out.p, HB.out.q, HB.out.d⟩) (fun hHeld2 => ?_)
          clear hK K hHeld
          have hHeld := hHeld2
          clear hHeld2
          try simp only [Act.put, List.setIfInBounds_toArray, List.set_cons_zero, List.set_cons_succ]
          refine wpAnyH_ready (rs := [3, 5]) (by kernel_rfl) (by simp) ?_
          refine AllReadyH.cons (o := ⟨some 20, _, _, _, _, _⟩) rfl (fun K hK => ?_) (AllReadyH.cons (o := ⟨some 8, _, _, _, _, _⟩) rfl (fun K hK => ?_) AllReadyH.nil)
          · go_simp
            refine (HF1.out _ HB.out.1).mono ?_
            rintro e Z19 ⟨A8, n8, ca8, css8, rfl, h1, h2, h3, h4, h5, hb⟩
            have HR8 := Lib.hid (HB.out.res (L := [b7]) (fun b hb => by obtain rfl := List.mem_singleton.1 hb; exact ⟨HN7.out.1, HN7.out.2.lt⟩) h1 h2 h3 h4 h5)
            clear h1 h2 h3 h4 h5
            replace HB := Lib.hid (HB.out.bel hb)
            replace HN7 := Lib.hid (HN7.out.bel hb)
            replace HR7 := Lib.hid (HR7.out.bel hb)
            clear hb
            refine hK.out _ _ (by exact ⟨HB.out.p, HB.out.q, HB.out.d⟩) (fun hHeld2 => ?_)
            clear hK K hHeld
            have hHeld := hHeld2
            clear hHeld2
            try simp only [Act.put, List.setIfInBounds_toArray, List.set_cons_zero, List.set_cons_succ]
            refine wpAnyH_ready (rs := [5]) (by kernel_rfl) (by simp) ?_
            refine AllReadyH.cons (o := ⟨some 8, _, _, _, _, _⟩) rfl (fun K hK => ?_) AllReadyH.nil
            go_simp
            have HNn := Lib.hid (HB.out.new (Y := Z19.alloc (.cells #[.slice none 0 0] 46)) rfl)
            have hb := (Below.refl _ Z19).alloc (Nat.le_refl _) (.cells #[.slice none 0 0] 46)
            replace HR7 := Lib.hid ((HR7.out.add (b := Z19.heap.size) (Nat.le_refl _)).bel hb)
            replace HR8 := Lib.hid ((HR8.out.add (b := Z19.heap.size) (Nat.le_refl _)).bel hb)
            have hneb7 := Nat.ne_of_lt HN7.out.2.lt
            replace HN7 := Lib.hid (HN7.out.bel hb)
            replace HB := Lib.hid (HB.out.bel hb)
            clear hb
            refine hK.out _ _ (by exact ⟨HB.out.p, HB.out.q, HB.out.d⟩) (fun hHeld2 => ?_)
            clear hK K hHeld
            have hHeld := hHeld2
            clear hHeld2
            try simp only [Act.put, List.setIfInBounds_toArray, List.set_cons_zero, List.set_cons_succ]
            refine wpAnyH_worldM (fun Y20 hY => ?_)
            obtain ⟨b8, hbb⟩ : ∃ b, Z19.heap.size = b := ⟨_, rfl⟩
            rw [hbb]
            rw [hbb] at HNn
            rw [← hY] at HNn HB
            rw [← hY, hbb] at HR7
            rw [← hY, hbb] at HR8
            rw [← hY] at HN7
            rw [hbb] at hneb7
            have HN8 := HNn
            replace hHeld := And.intro HB.out.p (And.intro HB.out.q HB.out.d)
            clear hY hbb HNn
            refine wpAnyH_lis (l' := #[true, true, true, true, true, true, false, false]) (by kernel_rfl) ?_
            exact HL _ _ _ _ _ _ _ _ _ ⟨css7, css8, HB, HN7, HN8, Lib.hid (HR7.out.two (b7 := b7) (b8 := b8) (by simp)), Lib.hid (HR8.out.two (b7 := b7) (b8 := b8) (by simp)), by have := hneb7; omega⟩
          · go_simp
            have HNn := Lib.hid (HB.out.new (Y := Z18.alloc (.cells #[.slice none 0 0] 46)) rfl)
            have hb := (Below.refl _ Z18).alloc (Nat.le_refl _) (.cells #[.slice none 0 0] 46)
            replace HR7 := Lib.hid ((HR7.out.add (b := Z18.heap.size) (Nat.le_refl _)).bel hb)
            have hneb7 := Nat.ne_of_lt HN7.out.2.lt
            replace HN7 := Lib.hid (HN7.out.bel hb)
            replace HB := Lib.hid (HB.out.bel hb)
            clear hb
            refine hK.out _ _ (by exact ⟨HB.out.p, HB.out.q, HB.out.d⟩) (fun hHeld2 => ?_)
            clear hK K hHeld
            have hHeld := hHeld2
            clear hHeld2
            try simp only [Act.put, List.setIfInBounds_toArray, List.set_cons_zero, List.set_cons_succ]
            refine wpAnyH_worldM (fun Y21 hY => ?_)
            obtain ⟨b8, hbb⟩ : ∃ b, Z18.heap.size = b := ⟨_, rfl⟩
            rw [hbb]
            rw [hbb] at HNn
            rw [← hY] at HNn HB
            rw [← hY, hbb] at HR7
            rw [← hY] at HN7
            rw [hbb] at hneb7
            have HN8 := HNn
            replace hHeld := And.intro HB.out.p (And.intro HB.out.q HB.out.d)
            clear hY hbb HNn
            refine wpAnyH_ready (rs := [3]) (by kernel_rfl) (by simp) ?_
            refine AllReadyH.cons (o := ⟨some 20, _, _, _, _, _⟩) rfl (fun K hK => ?_) AllReadyH.nil
            go_simp
            refine (HF1.out _ HB.out.1).mono ?_
            rintro e Z22 ⟨A8, n8, ca8, css8, rfl, h1, h2, h3, h4, h5, hb⟩
            have HR8 := Lib.hid (HB.out.res (L := [b8, b7]) (fun b hb => by rcases List.mem_cons.1 hb with rfl | hb; exact ⟨HN8.out.1, HN8.out.2.lt⟩; obtain rfl := List.mem_singleton.1 hb; exact ⟨HN7.out.1, HN7.out.2.lt⟩) h1 h2 h3 h4 h5)
            clear h1 h2 h3 h4 h5
            replace HB := Lib.hid (HB.out.bel hb)
            replace HN8 := Lib.hid (HN8.out.bel hb)
            replace HN7 := Lib.hid (HN7.out.bel hb)
            replace HR7 := Lib.hid (HR7.out.bel hb)
            clear hb
            refine hK.out _ _ (by exact ⟨HB.out.p, HB.out.q, HB.out.d⟩) (fun hHeld2 => ?_)
            clear hK K hHeld
            have hHeld := hHeld2
            clear hHeld2
            try simp only [Act.put, List.setIfInBounds_toArray, List.set_cons_zero, List.set_cons_succ]
            refine wpAnyH_lis (l' := #[true, true, true, true, true, true, false, false]) (by kernel_rfl) ?_
            exact HL _ _ _ _ _ _ _ _ _ ⟨css7, css8, HB, HN7, HN8, Lib.hid (HR7.out.two (b7 := b7) (b8 := b8) (by simp)), Lib.hid (HR8.out.two (b7 := b7) (b8 := b8) (by simp)), by have := hneb7; omega⟩
        · go_simp
          have HNn := Lib.hid (HB.out.new (Y := Y17.alloc (.cells #[.slice none 0 0] 46)) rfl)
          have hb := (Below.refl _ Y17).alloc (Nat.le_refl _) (.cells #[.slice none 0 0] 46)
          have hneb7 := Nat.ne_of_lt HN7.out.2.lt
          replace HN7 := Lib.hid (HN7.out.bel hb)
          replace HB := Lib.hid (HB.out.bel hb)
          clear hb
          refine hK.out _ _ (by exact ⟨HB.out.p, HB.out.q, HB.out.d⟩) (fun hHeld2 => ?_)
          clear hK K hHeld
          have hHeld := hHeld2
          clear hHeld2
          try simp only [Act.put, List.setIfInBounds_toArray, List.set_cons_zero, List.set_cons_succ]
          refine wpAnyH_worldM (fun Y23 hY => ?_)
          obtain ⟨b8, hbb⟩ : ∃ b, Y17.heap.size = b := ⟨_, rfl⟩
          rw [hbb]
          rw [hbb] at HNn
          rw [← hY] at HNn HB
          rw [← hY] at HN7
          rw [hbb] at hneb7
          have HN8 := HNn
          replace hHeld := And.intro HB.out.p (And.intro HB.out.q HB.out.d)
          clear hY hbb HNn
          refine wpAnyH_ready (rs := [1]) (by kernel_rfl) (by simp) ?_
          refine AllReadyH.cons (o := ⟨some 18, _, _, _, _, _⟩) rfl (fun K hK => ?_) AllReadyH.nil
          go_simp
          refine (HF0.out _ HB.out.1).mono ?_
          rintro e Z24 ⟨A7, n7, ca7, css7, rfl, h1, h2, h3, h4, h5, hb⟩
          have HR7 := Lib.hid (HB.out.res (L := [b8, b7]) (fun b hb => by rcases List.mem_cons.1 hb with rfl | hb; exact ⟨HN8.out.1, HN8.out.2.lt⟩; obtain rfl := List.mem_singleton.1 hb; exact ⟨HN7.out.1, HN7.out.2.lt⟩) h1 h2 h3 h4 h5)
          clear h1 h2 h3 h4 h5
          replace HB := Lib.hid (HB.out.bel hb)
          replace HN8 := Lib.hid (HN8.out.bel hb)
          replace HN7 := Lib.hid (HN7.out.bel hb)
          clear hb
          refine hK.out _ _ (by exact ⟨HB.out.p, HB.out.q, HB.out.d⟩) (fun hHeld2 => ?_)
          clear hK K hHeld
          have hHeld := hHeld2
          clear hHeld2
          try simp only [Act.put, List.setIfInBounds_toArray, List.set_cons_zero, List.set_cons_succ]
          refine wpAnyH_ready (rs := [3]) (by kernel_rfl) (by simp) ?_
          refine AllReadyH.cons (o := ⟨some 20, _, _, _, _, _⟩) rfl (fun K hK => ?_) AllReadyH.nil
          go_simp
          refine (HF1.out _ HB.out.1).mono ?_
          rintro e Z25 ⟨A8, n8, ca8, css8, rfl, h1, h2, h3, h4, h5, hb⟩
          have HR8 := Lib.hid (HB.out.res (L := [b8, b7]) (fun b hb => by rcases List.mem_cons.1 hb with rfl | hb; exact ⟨HN8.out.1, HN8.out.2.lt⟩; obtain rfl := List.mem_singleton.1 hb; exact ⟨HN7.out.1, HN7.out.2.lt⟩) h1 h2 h3 h4 h5)
          clear h1 h2 h3 h4 h5
          replace HB := Lib.hid (HB.out.bel hb)
          replace HN8 := Lib.hid (HN8.out.bel hb)
          replace HN7 := Lib.hid (HN7.out.bel hb)
          replace HR7 := Lib.hid (HR7.out.bel hb)
          clear hb
          refine hK.out _ _ (by exact ⟨HB.out.p, HB.out.q, HB.out.d⟩) (fun hHeld2 => ?_)
          clear hK K hHeld
          have hHeld := hHeld2
          clear hHeld2
          try simp only [Act.put, List.setIfInBounds_toArray, List.set_cons_zero, List.set_cons_succ]
          refine wpAnyH_lis (l' := #[true, true, true, true, true, true, false, false]) (by kernel_rfl) ?_
          exact HL _ _ _ _ _ _ _ _ _ ⟨css7, css8, HB, HN7, HN8, Lib.hid (HR7.out.two (b7 := b7) (b8 := b8) (by simp)), Lib.hid (HR8.out.two (b7 := b7) (b8 := b8) (by simp)), by have := hneb7; omega⟩
      · go_simp
        have HNn := Lib.hid (HB.out.new (Y := Z0.alloc (.cells #[.slice none 0 0] 46)) rfl)
        have hb := (Below.refl _ Z0).alloc (Nat.le_refl _) (.cells #[.slice none 0 0] 46)
        replace HB := Lib.hid (HB.out.bel hb)
        clear hb
        refine hK.out _ _ (by exact ⟨HB.out.p, HB.out.q, HB.out.d⟩) (fun hHeld2 => ?_)
        clear hK K hHeld
        have hHeld := hHeld2
        clear hHeld2
        try simp only [Act.put, List.setIfInBounds_toArray, List.set_cons_zero, List.set_cons_succ]
        refine wpAnyH_worldM (fun Y26 hY => ?_)
        obtain ⟨b8, hbb⟩ : ∃ b, Z0.heap.size = b := ⟨_, rfl⟩
        rw [hbb]
        rw [hbb] at HNn
        rw [← hY] at HNn HB
        have HN8 := HNn
        replace hHeld := And.intro HB.out.p (And.intro HB.out.q HB.out.d)
        clear hY hbb HNn
        refine wpAnyH_ready (rs := [1, 4]) (by kernel_rfl) (by simp) ?_
        refine AllReadyH.cons (o := ⟨some 18, _, _, _, _, _⟩) rfl (fun K hK => ?_) (AllReadyH.cons (o := ⟨some 7, _, _, _, _, _⟩) rfl (fun K hK => ?_) AllReadyH.nil)
        · go_simp
          refine (HF0.out _ HB.out.1).mono ?_
          rintro e Z27 ⟨A7, n7, ca7, css7, rfl, h1, h2, h3, h4, h5, hb⟩
          have HR7 := Lib.hid (HB.out.res (L := [b8]) (fun b hb => by obtain rfl := List.mem_singleton.1 hb; exact ⟨HN8.out.1, HN8.out.2.lt⟩) h1 h2 h3 h4 h5)
          clear h1 h2 h3 h4 h5
          replace HB := Lib.hid (HB.out.bel hb)
          replace HN8 := Lib.hid (HN8.out.bel hb)
          clear hb
          refine hK.out _ _ (by exact ⟨HB.out.p, HB.out.q, HB.out.d⟩) (fun hHeld2 => ?_)
          clear hK K hHeld
          have hHeld := hHeld2
          clear hHeld2
          try simp only [Act.put, List.setIfInBounds_toArray, List.set_cons_zero, List.set_cons_succ]
          refine wpAnyH_ready (rs := [3, 4]) (by kernel_rfl) (by simp) ?_
          refine AllReadyH.cons (o := ⟨some 20, _, _, _, _, _⟩) rfl (fun K hK => ?_) (AllReadyH.cons (o := ⟨some 7, _, _, _, _, _⟩) rfl (fun K hK => ?_) AllReadyH.nil)
          · go_simp
            refine (HF1.out _ HB.out.1).mono ?_
            rintro e Z28 ⟨A8, n8, ca8, css8, rfl, h1, h2, h3, h4, h5, hb⟩
            have HR8 := Lib.hid (HB.out.res (L := [b8]) (fun b hb => by obtain rfl := List.mem_singleton.1 hb; exact ⟨HN8.out.1, HN8.out.2.lt⟩) h1 h2 h3 h4 h5)
            clear h1 h2 h3 h4 h5
            replace HB := Lib.hid (HB.out.bel hb)
            replace HN8 := Lib.hid (HN8.out.bel hb)
            replace HR7 := Lib.hid (HR7.out.bel hb)
            clear hb
            refine hK.out _ _ (by exact ⟨HB.out.p, HB.out.q, HB.out.d⟩) (fun hHeld2 => ?_)
            clear hK K hHeld
            have hHeld := hHeld2
            clear hHeld2
            try simp only [Act.put, List.setIfInBounds_toArray, List.set_cons_zero, List.set_cons_succ]
            refine wpAnyH_ready (rs := [4]) (by kernel_rfl) (by simp) ?_
            refine AllReadyH.cons (o := ⟨some 7, _, _, _, _, _⟩) rfl (fun K hK => ?_) AllReadyH.nil
            go_simp
            have HNn := Lib.hid (HB.out.new (Y := Z28.alloc (.cells #[.slice none 0 0] 46)) rfl)
            have hb := (Below.refl _ Z28).alloc (Nat.le_refl _) (.cells #[.slice none 0 0] 46)
            replace HR7 := Lib.hid ((HR7.out.add (b := Z28.heap.size) (Nat.le_refl _)).bel hb)
            replace HR8 := Lib.hid ((HR8.out.add (b := Z28.heap.size) (Nat.le_refl _)).bel hb)
            have hneb8 := Nat.ne_of_lt HN8.out.2.lt
            replace HN8 := Lib.hid (HN8.out.bel hb)
            replace HB := Lib.hid (HB.out.bel hb)
            clear hb
            refine hK.out _ _ (by exact ⟨HB.out.p, HB.out.q, HB.out.d⟩) (fun hHeld2 => ?_)
            clear hK K hHeld
            have hHeld := hHeld2
            clear hHeld2
            try simp only [Act.put, List.setIfInBounds_toArray, List.set_cons_zero, List.set_cons_succ]
            refine wpAnyH_worldM (fun Y29 hY => ?_)
            obtain ⟨b7, hbb⟩ : ∃ b, Z28.heap.size = b := ⟨_, rfl⟩
            rw [hbb]
            rw [hbb] at HNn
            rw [← hY] at HNn HB
            rw [← hY, hbb] at HR7
            rw [← hY, hbb] at HR8
            rw [← hY] at HN8
            rw [hbb] at hneb8
            have HN7 := HNn
            replace hHeld := And.intro HB.out.p (And.intro HB.out.q HB.out.d)
            clear hY hbb HNn
            refine wpAnyH_lis (l' := #[true, true, true, true, true, true, false, false]) (by kernel_rfl) ?_
            exact HL _ _ _ _ _ _ _ _ _ ⟨css7, css8, HB, HN7, HN8, Lib.hid (HR7.out.two (b7 := b7) (b8 := b8) (by simp)), Lib.hid (HR8.out.two (b7 := b7) (b8 := b8) (by simp)), by have := hneb8; omega⟩
          · go_simp
            have HNn := Lib.hid (HB.out.new (Y := Z27.alloc (.cells #[.slice none 0 0] 46)) rfl)
            have hb := (Below.refl _ Z27).alloc (Nat.le_refl _) (.cells #[.slice none 0 0] 46)
            replace HR7 := Lib.hid ((HR7.out.add (b := Z27.heap.size) (Nat.le_refl _)).bel hb)
            have hneb8 := Nat.ne_of_lt HN8.out.2.lt
            replace HN8 := Lib.hid (HN8.out.bel hb)
            replace HB := Lib.hid (HB.out.bel hb)
            clear hb
            refine hK.out _ _ (by exact ⟨HB.out.p, HB.out.q, HB.out.d⟩) (fun hHeld2 => ?_)
            clear hK K hHeld
            have hHeld := hHeld2
            clear hHeld2
            try simp only [Act.put, List.setIfInBounds_toArray, List.set_cons_zero, List.set_cons_succ]
            refine wpAnyH_worldM (fun Y30 hY => ?_)
            obtain ⟨b7, hbb⟩ : ∃ b, Z27.heap.size = b := ⟨_, rfl⟩
            rw [hbb]
            rw [hbb] at HNn
            rw [← hY] at HNn HB
            rw [← hY, hbb] at HR7
            rw [← hY] at HN8
            rw [hbb] at hneb8
            have HN7 := HNn
            replace hHeld := And.intro HB.out.p (And.intro HB.out.q HB.out.d)
            clear hY hbb HNn
            refine wpAnyH_ready (rs := [3]) (by kernel_rfl) (by simp) ?_
            refine AllReadyH.cons (o := ⟨some 20, _, _, _, _, _⟩) rfl (fun K hK => ?_) AllReadyH.nil
            go_simp
            refine (HF1.out _ HB.out.1).mono ?_
            rintro e Z31 ⟨A8, n8, ca8, css8, rfl, h1, h2, h3, h4, h5, hb⟩
            have HR8 := Lib.hid (HB.out.res (L := [b7, b8]) (fun b hb => by rcases List.mem_cons.1 hb with rfl | hb; exact ⟨HN7.out.1, HN7.out.2.lt⟩; obtain rfl := List.mem_singleton.1 hb; exact ⟨HN8.out.1, HN8.out.2.lt⟩) h1 h2 h3 h4 h5)
            clear h1 h2 h3 h4 h5
            replace HB := Lib.hid (HB.out.bel hb)
            replace HN7 := Lib.hid (HN7.out.bel hb)
            replace HN8 := Lib.hid (HN8.out.bel hb)
            replace HR7 := Lib.hid (HR7.out.bel hb)
            clear hb
            refine hK.out _ _ (by exact ⟨HB.out.p, HB.out.q, HB.out.d⟩) (fun hHeld2 => ?_)
            clear hK K hHeld
            have hHeld := hHeld2
            clear hHeld2
            try simp only [Act.put, List.setIfInBounds_toArray, List.set_cons_zero, List.set_cons_succ]
            refine wpAnyH_lis (l' := #[true, true, true, true, true, true, false, false]) (by kernel_rfl) ?_
            exact HL _ _ _ _ _ _ _ _ _ ⟨css7, css8, HB, HN7, HN8, Lib.hid (HR7.out.two (b7 := b7) (b8 := b8) (by simp)), Lib.hid (HR8.out.two (b7 := b7) (b8 := b8) (by simp)), by have := hneb8; omega⟩
        · go_simp
          have HNn := Lib.hid (HB.out.new (Y := Y26.alloc (.cells #[.slice none 0 0] 46)) rfl)
          have hb := (Below.refl _ Y26).alloc (Nat.le_refl _) (.cells #[.slice none 0 0] 46)
          have hneb8 := Nat.ne_of_lt HN8.out.2.lt
          replace HN8 := Lib.hid (HN8.out.bel hb)
          replace HB := Lib.hid (HB.out.bel hb)
          clear hb
          refine hK.out _ _ (by exact ⟨HB.out.p, HB.out.q, HB.out.d⟩) (fun hHeld2 => ?_)
          clear hK K hHeld
          have hHeld := hHeld2
          clear hHeld2
          try simp only [Act.put, List.setIfInBounds_toArray, List.set_cons_zero, List.set_cons_succ]
          refine wpAnyH_worldM (fun Y32 hY => ?_)
          obtain ⟨b7, hbb⟩ : ∃ b, Y26.heap.size = b := ⟨_, rfl⟩
          rw [hbb]
          rw [hbb] at HNn
          rw [← hY] at HNn HB
          rw [← hY] at HN8
          rw [hbb] at hneb8
          have HN7 := HNn
          replace hHeld := And.intro HB.out.p (And.intro HB.out.q HB.out.d)
          clear hY hbb HNn
          refine wpAnyH_ready (rs := [1]) (by kernel_rfl) (by simp) ?_
          refine AllReadyH.cons (o := ⟨some 18, _, _, _, _, _⟩) rfl (fun K hK => ?_) AllReadyH.nil
          go_simp
          refine (HF0.out _ HB.out.1).mono ?_
          rintro e Z33 ⟨A7, n7, ca7, css7, rfl, h1, h2, h3, h4, h5, hb⟩
          have HR7 := Lib.hid (HB.out.res (L := [b7, b8]) (fun b hb => by rcases List.mem_cons.1 hb with rfl | hb; exact ⟨HN7.out.1, HN7.out.2.lt⟩; obtain rfl := List.mem_singleton.1 hb; exact ⟨HN8.out.1, HN8.out.2.lt⟩) h1 h2 h3 h4 h5)
          clear h1 h2 h3 h4 h5
          replace HB := Lib.hid (HB.out.bel hb)
          replace HN7 := Lib.hid (HN7.out.bel hb)
          replace HN8 := Lib.hid (HN8.out.bel hb)
          clear hb
          refine hK.out _ _ (by exact ⟨HB.out.p, HB.out.q, HB.out.d⟩) (fun hHeld2 => ?_)
          clear hK K hHeld
          have hHeld := hHeld2
          clear hHeld2
          try simp only [Act.put, List.setIfInBounds_toArray, List.set_cons_zero, List.set_cons_succ]
          refine wpAnyH_ready (rs := [3]) (by kernel_rfl) (by simp) ?_
          refine AllReadyH.cons (o := ⟨some 20, _, _, _, _, _⟩) rfl (fun K hK => ?_) AllReadyH.nil
          go_simp
          refine (HF1.out _ HB.out.1).mono ?_
          rintro e Z34 ⟨A8, n8, ca8, css8, rfl, h1, h2, h3, h4, h5, hb⟩
          have HR8 := Lib.hid (HB.out.res (L := [b7, b8]) (fun b hb => by rcases List.mem_cons.1 hb with rfl | hb; exact ⟨HN7.out.1, HN7.out.2.lt⟩; obtain rfl := List.mem_singleton.1 hb; exact ⟨HN8.out.1, HN8.out.2.lt⟩) h1 h2 h3 h4 h5)
          clear h1 h2 h3 h4 h5
          replace HB := Lib.hid (HB.out.bel hb)
          replace HN7 := Lib.hid (HN7.out.bel hb)
          replace HN8 := Lib.hid (HN8.out.bel hb)
          replace HR7 := Lib.hid (HR7.out.bel hb)
          clear hb
          refine hK.out _ _ (by exact ⟨HB.out.p, HB.out.q, HB.out.d⟩) (fun hHeld2 => ?_)
          clear hK K hHeld
          have hHeld := hHeld2
          clear hHeld2
          try simp only [Act.put, List.setIfInBounds_toArray, List.set_cons_zero, List.set_cons_succ]
          refine wpAnyH_lis (l' := #[true, true, true, true, true, true, false, false]) (by kernel_rfl) ?_
          exact HL _ _ _ _ _ _ _ _ _ ⟨css7, css8, HB, HN7, HN8, Lib.hid (HR7.out.two (b7 := b7) (b8 := b8) (by simp)), Lib.hid (HR8.out.two (b7 := b7) (b8 := b8) (by simp)), by have := hneb8; omega⟩
    case hleaf =>
      rintro Z b7 b8 A7 n7 ca7 A8 n8 ca8 ⟨css7, css8, HB, HN7, HN8, HR7, HR8, hne⟩
      have hHeld := And.intro HB.out.p (And.intro HB.out.q HB.out.d)
      refine wpAnyH_ready (rs := [6]) (by kernel_rfl) (by simp) ?_
      refine AllReadyH.cons (o := ⟨none, _, _, _, _, _⟩) rfl (fun K hK => ?_) AllReadyH.nil
      obtain ⟨c8, f8, l8⟩ := HN7.out.2.rules
      go_simp
      have HNn := Lib.hid (And.intro HN7.out.1 (HN7.out.2.set_ 0 (.slice A7 n7 ca7)))
      have HNo := Lib.hid (And.intro HN8.out.1 (HN8.out.2.far (p := ⟨b7, 0, none⟩) (by show b8 ≠ b7; omega) (.slice A7 n7 ca7)))
      have HBn := Lib.hid (HB.out.st HN7.out.1 (.slice A7 n7 ca7))
      have HRn7 := Lib.hid (HR7.out.st (b := b7) (by simp) (.slice A7 n7 ca7))
      have HRn8 := Lib.hid (HR8.out.st (b := b7) (by simp) (.slice A7 n7 ca7))
      refine hK.out _ _ (by exact ⟨HBn.out.p, HBn.out.q, HBn.out.d⟩) (fun hHeld2 => ?_)
      clear hK K hHeld c8 f8 l8 HN7 HN8 HB HR7 HR8
      have hHeld := hHeld2
      clear hHeld2
      try simp only [Act.put, List.setIfInBounds_toArray, List.set_cons_zero, List.set_cons_succ]
      refine wpAnyH_worldM (fun Y hY => ?_)
      rw [← hY] at HNn HNo HBn HRn7 HRn8
      have HN7 := HNn
      have HN8 := HNo
      have HB := HBn
      have HR7 := HRn7
      have HR8 := HRn8
      replace hHeld := And.intro HB.out.p (And.intro HB.out.q HB.out.d)
      clear hY HNn HNo HBn HRn7 HRn8
      refine wpAnyH_ready (rs := [7]) (by kernel_rfl) (by simp) ?_
      refine AllReadyH.cons (o := ⟨none, _, _, _, _, _⟩) rfl (fun K hK => ?_) AllReadyH.nil
      obtain ⟨c8, f8, l8⟩ := HN8.out.2.rules
      go_simp
      have HNn := Lib.hid (And.intro HN8.out.1 (HN8.out.2.set_ 0 (.slice A8 n8 ca8)))
      have HNo := Lib.hid (And.intro HN7.out.1 (HN7.out.2.far (p := ⟨b8, 0, none⟩) (by show b7 ≠ b8; omega) (.slice A8 n8 ca8)))
      have HBn := Lib.hid (HB.out.st HN8.out.1 (.slice A8 n8 ca8))
      have HRn7 := Lib.hid (HR7.out.st (b := b8) (by simp) (.slice A8 n8 ca8))
      have HRn8 := Lib.hid (HR8.out.st (b := b8) (by simp) (.slice A8 n8 ca8))
      refine hK.out _ _ (by exact ⟨HBn.out.p, HBn.out.q, HBn.out.d⟩) (fun hHeld2 => ?_)
      clear hK K hHeld c8 f8 l8 HN8 HN7 HB HR7 HR8
      have hHeld := hHeld2
      clear hHeld2
      try simp only [Act.put, List.setIfInBounds_toArray, List.set_cons_zero, List.set_cons_succ]
      refine wpAnyH_worldM (fun Y hY => ?_)
      rw [← hY] at HNn HNo HBn HRn7 HRn8
      have HN8 := HNn
      have HN7 := HNo
      have HB := HBn
      have HR7 := HRn7
      have HR8 := HRn8
      replace hHeld := And.intro HB.out.p (And.intro HB.out.q HB.out.d)
      clear hY HNn HNo HBn HRn7 HRn8
      refine wpAnyH_done (by kernel_rfl) ?_ _
      go_wp2
      go_meet
      case rel => exact ⟨b7, b8, A7, n7, ca7, css7, A8, n8, ca8, css8, _, rfl, rfl, rfl, HB, Lib.hid ⟨HN7.out.1, HN7.out.2⟩, Lib.hid ⟨HN8.out.1, HN8.out.2⟩, Lib.hid HR7.out.tt, Lib.hid HR8.out.tt⟩
  case rest =>
    obtain ⟨b7, b8, A7, n7, ca7, css7, A8, n8, ca8, css8, W3, rfl, rfl, rfl, HRF, HN7, HN8, HR7, HR8⟩ := hcut
    have HK := Lib.hid (fun (W : World) (h : Below W3.heap.size W3 W) => show (fun W' => Blk W' b7 46 #[.slice A7 n7 ca7] ∧ Blk W' b8 46 #[.slice A8 n8 ca8] ∧ Blk W' (w.heap.size + 2) 25 #[.int .i64 kd, .int .i64 nd, .string sd, .slice Ad nad cad, .slice Bd nbd cbd]) W from ⟨HN7.out.2.keep h, HN8.out.2.keep h, HRF.out.d.keep h⟩)
    have HQ := Lib.hid (And.intro (And.intro (fun (e : A7 = none) => by have := HR7.out.1.2.2 e; have := HR7.out.1.2.1; omega : A7 = none → n7 = 0) HR7.out.1) (And.intro (fun (e : A8 = none) => by have := HR8.out.1.2.2 e; have := HR8.out.1.2.1; omega : A8 = none → n8 = 0) HR8.out.1))
    have hn7 : n7 ≤ 5 := by rw [HR7.out.1.1]; exact HPQ.out.1.1
    have hn8 : n8 ≤ 5 := by rw [HR8.out.1.1]; exact HPQ.out.2.1
    have HP7 := Lib.hid (fun (W : World) (h : Below W3.heap.size W3 W) => (HR7.out.bel h).2)
    have HC7 := Lib.hid (show css7.flatten.length = n7 * 20 ∧ ∀ u ∈ css7.flatten, u.oneCell' = true from ⟨by rw [HR7.out.2.1.flat (m := 20) fun c x hc => hc.len, HR7.out.1.1], fun u hu => by
      obtain ⟨c, hc, hu⟩ := List.mem_flatten.1 hu
      obtain ⟨x, _, hx⟩ := HR7.out.2.1.mem hc
      exact hx.one u hu⟩)
    have HC8 := Lib.hid (show css8.flatten.length = n8 * 20 ∧ ∀ u ∈ css8.flatten, u.oneCell' = true from ⟨by rw [HR8.out.2.1.flat (m := 20) fun c x hc => hc.len, HR8.out.1.1], fun u hu => by
      obtain ⟨c, hc, hu⟩ := List.mem_flatten.1 hu
      obtain ⟨x, _, hx⟩ := HR8.out.2.1.mem hc
      exact hx.one u hu⟩)
    have HKG := Lib.hid (fun (Y0 Y : World) (h : Below W3.heap.size W3 Y0) (hg : Y0.grownBy Y (some Y0.heap.size)) => HK.out Y (h.grown hg h.size (fun j e => by injection e with e; rw [← e]; exact h.size)))
    have HPG := Lib.hid (fun (Y0 Y : World) (h : Below W3.heap.size W3 Y0) (hg : Y0.grownBy Y (some Y0.heap.size)) => have hb : Below W3.heap.size W3 Y := h.grown hg h.size (fun j e => by injection e with e; rw [← e]; exact h.size)
      And.intro (HR7.out.bel hb).2.1 (And.intro (HR7.out.bel hb).2.2 (And.intro (HR8.out.bel hb).2.1 (HR8.out.bel hb).2.2)))
    have HGX := Lib.hid (fun (Y0 Y2 Y3 : World) (row2 : Value) (hg : Y0.grownBy Y2 (some Y0.heap.size)) (ho : Y2.ownsRow Y0.heap.size 69 20 row2 n7 css7.flatten) (hg2 : Y2.grownBy Y3 row2.ownBlock) => show Y0.grownBy Y3 (some Y0.heap.size) from
      ⟨hg2.os.trans hg.os, hg2.tape.trans hg.tape, hg2.output.trans hg.output, Nat.le_trans hg.size hg2.size, fun k hk hne => (hg2.block k (Nat.lt_of_lt_of_le hk hg.size) (fun e => by have := (ho.lt k e.symm).1; omega)).trans (hg.block k hk hne)⟩)
    have HMB := Lib.hid (fun (W : World) (A3 : Option Addr) (n3 ca3 : Nat) (css3 : List (List Value)) (h : Below W3.heap.size W3 W) (h3 : SRs W TT css3 (p ++ q)) (hR3 : RdF W TT A3 css3.flatten) (hl3 : n7 + n8 = n3) (hc3 : n3 ≤ ca3) => HMB0.out W A3 n3 ca3 css3 (HRF.out.1.trans (h.mono HRF.out.1.size)) h3 hR3 (by rw [List.length_append, ← HR7.out.1.1, ← HR8.out.1.1]; exact hl3) hc3)
    have HMA7 := Lib.hid (fun (W : World) (h : Below W3.heap.size W3 W) => HMA.out W A7 n7 ca7 css7 (HRF.out.1.trans (h.mono HRF.out.1.size)) (HR7.out.bel h))
    have HGW := Lib.hid (fun (W : World) (h : Below W3.heap.size W3 W) => (HG.out.keep (HRF.out.1.trans (h.mono HRF.out.1.size))).gok)
    have HWB := Lib.hid HRF.out.1
    obtain ⟨i0, hi, hz0, hz1, hz2⟩ := info_parts infoStm9
    have HI := Lib.hid hi
    clear hi HF0 HF1 HRF HN7 HN8 HR7 HR8 HMB0 HMA
    obtain ⟨⟨c7, f7, l7⟩, _, ⟨c9, f9, l9⟩⟩ := (fun h => And.intro (Blk.rules (And.left h)) (And.intro trivial (Blk.rules (And.right (And.right h))))) (HK.out _ (Below.refl _ _))
    go_wp2_with fail
    refine (HMA7.out _ (Below.refl _ _)).mono ?_
    rintro e w4 ⟨A9, n9, ca9, css9, rfl, hl9, hnc9, hA9, hE9, hR9, hC9, hb4⟩
    have HE1 := Lib.hid (And.intro hl9 (And.intro hE9 (And.intro hR9 hC9)))
    clear hl9 hnc9 hA9 hE9 hR9 hC9 c7 f7 l7 c9 f9 l9
    go_upto_region 5 with fail
    refine wp_region_held_drew (S := fun W' => Blk W' b7 46 #[.slice A7 n7 ca7] ∧ Blk W' b8 46 #[.slice A8 n8 ca8] ∧ Blk W' (w.heap.size + 2) 25 #[.int .i64 kd, .int .i64 nd, .string sd, .slice Ad nad cad, .slice Bd nbd cbd]) (by kernel_rfl) (by exact ⟨(HK.out _ hb4).1.drew, (HK.out _ hb4).2.1.drew, (HK.out _ hb4).2.2.drew⟩) (fun hHeld => ?_)
    refine wpAnyH_worldM (fun Y0 hw => ?_)
    have HWY := Lib.hid (show Below W3.heap.size W3 Y0 by rw [hw]; exact hb4.drew)
    have HWE := Lib.hid (show Below w4.heap.size w4 Y0 by rw [hw]; exact (Below.refl _ _).drew)
    clear hw hHeld hb4
    have hHeld := HK.out _ HWY.out
    refine wpAnyH_take (i := 1) (oi := ⟨some 29, _, _, _, _, _⟩) (v := .pointer (some ⟨b7, 0, none⟩)) rfl (by kernel_rfl) (by kernel_rfl) (by kernel_rfl) (fun _ _ _ h => h) (Or.inl ⟨by kernel_rfl, ?_⟩) (by assumption) ?_
    · intro W hSw; go_simp
    try simp only [Act.put, List.setIfInBounds_toArray, List.set_cons_zero, List.set_cons_succ]
    refine wpAnyH_take (i := 2) (oi := ⟨some 30, _, _, _, _, _⟩) (v := .slice A7 n7 ca7) rfl (by kernel_rfl) (by kernel_rfl) (by kernel_rfl) (fun _ _ _ h => h) (Or.inl ⟨by kernel_rfl, ?_⟩) (by assumption) ?_
    · intro W hSw; obtain ⟨c8, f8, l8⟩ := hSw.1.rules; go_simp
    try simp only [Act.put, List.setIfInBounds_toArray, List.set_cons_zero, List.set_cons_succ]
    refine wpAnyH_take (i := 4) (oi := ⟨some 32, _, _, _, _, _⟩) (v := .pointer (some ⟨b8, 0, none⟩)) rfl (by kernel_rfl) (by kernel_rfl) (by kernel_rfl) (fun _ _ _ h => h) (Or.inl ⟨by kernel_rfl, ?_⟩) (by assumption) ?_
    · intro W hSw; go_simp
    try simp only [Act.put, List.setIfInBounds_toArray, List.set_cons_zero, List.set_cons_succ]
    refine wpAnyH_take (i := 5) (oi := ⟨some 33, _, _, _, _, _⟩) (v := .slice A8 n8 ca8) rfl (by kernel_rfl) (by kernel_rfl) (by kernel_rfl) (fun _ _ _ h => h) (Or.inl ⟨by kernel_rfl, ?_⟩) (by assumption) ?_
    · intro W hSw; obtain ⟨c8, f8, l8⟩ := hSw.2.1.rules; go_simp
    try simp only [Act.put, List.setIfInBounds_toArray, List.set_cons_zero, List.set_cons_succ]
    refine wpAnyH_take (i := 8) (oi := ⟨some 36, _, _, _, _, _⟩) (v := .agg #[.int .i64 kd, .int .i64 nd, .string sd, .slice Ad nad cad, .slice Bd nbd cbd]) rfl (by kernel_rfl) (by kernel_rfl) (by kernel_rfl) (fun _ _ _ h => h) (Or.inl ⟨by kernel_rfl, ?_⟩) (by assumption) ?_
    · intro W hSw; obtain ⟨c8, f8, l8⟩ := hSw.2.2.rules; go_simp
    try simp only [Act.put, List.setIfInBounds_toArray, List.set_cons_zero, List.set_cons_succ]
    refine wpAnyH_ready (rs := [0]) (by kernel_rfl) (by simp) ?_
    refine AllReadyH.cons (o := ⟨some 28, _, _, _, _, _⟩) rfl (fun K hK => ?_) AllReadyH.nil
    go_simp
    have hbA := (Below.refl _ Y0).alloc (Nat.le_refl _) (.cells #[] 69)
    have HO0 := Lib.hid (World.ownsRow_lit (base := Y0.heap.size) (size := 20) (e := 69) Y0 #[] 0 (Nat.le_refl _) (by unfold maxLen; omega) rfl)
    have HS0 := Lib.hid (HK.out _ (HWY.out.trans (hbA.mono HWY.out.size)))
    have HP0 := Lib.hid (HP7.out _ (HWY.out.trans (hbA.mono HWY.out.size)))
    have hbs : Y0.heap.size ≤ (Y0.alloc (.cells #[] 69)).heap.size := hbA.size
    have HGA := Lib.hid (gbBel hbA (some Y0.heap.size))
    refine hK.out _ _ (by exact HS0.out) (fun hHeld2 => ?_)
    clear hK K hHeld hbA
    have hHeld := hHeld2
    clear hHeld2
    try simp only [Act.put, List.setIfInBounds_toArray, List.set_cons_zero, List.set_cons_succ]
    refine wpAnyH_worldM (fun Y1 hY => ?_)
    rw [← hY] at HO0 HS0 HP0 hbs HGA
    replace hHeld := HS0.out
    clear hY
    refine wpAnyH_ready (rs := [3]) (by kernel_rfl) (by simp) ?_
    refine AllReadyH.cons (o := ⟨some 31, _, _, _, _, _⟩) rfl (fun K hK => ?_) AllReadyH.nil
    rw [if_pos (by kernel_rfl)]
    refine wp_append_rd _ (.tmp 28) (.tmp 30) 44 rfl Y0.heap.size 69 i0 _ 20 328 Tryz.underlying44 HI.out hz0 hz1 hz2 rfl (by decide) (.slice (some ⟨Y0.heap.size, 0, none⟩) 0 0) 0 ([]) (by rfl) HO0.out A7 n7 ca7 HQ.out.1.1 css7.flatten (by rfl) HC7.out.1 HP0.out.2.rd HC7.out.2 (by unfold maxLen; omega) (by omega) hbs ?_
    intro row2 Y2 hown hgr hob
    have HO2 := Lib.hid (show Y2.ownsRow Y0.heap.size 69 20 row2 n7 css7.flatten by simpa using hown)
    have HG2 := Lib.hid (HGA.out.trans (by simpa [Value.ownBlock] using hgr))
    have hob2 : row2.ownBlock = some Y0.heap.size ∨ row2.ownBlock = some Y1.heap.size := by simpa [Value.ownBlock] using hob
    have HS2 := Lib.hid (HKG.out Y0 Y2 HWY.out HG2.out)
    have HP2 := Lib.hid (HPG.out Y0 Y2 HWY.out HG2.out)
    have hbs2 : Y0.heap.size ≤ Y2.heap.size := HG2.out.size
    clear hown hgr hob
    refine hK.out _ _ (by exact HS2.out) (fun hHeld2 => ?_)
    clear hK K hHeld
    have hHeld := hHeld2
    clear hHeld2
    try simp only [Act.put, List.setIfInBounds_toArray, List.set_cons_zero, List.set_cons_succ]
    replace hHeld := HS2.out
    refine wpAnyH_ready (rs := [6]) (by kernel_rfl) (by simp) ?_
    refine AllReadyH.cons (o := ⟨some 34, _, _, _, _, _⟩) rfl (fun K hK => ?_) AllReadyH.nil
    rw [if_pos (by kernel_rfl)]
    refine wp_append_rd _ (.tmp 31) (.tmp 33) 44 rfl Y0.heap.size 69 i0 _ 20 328 Tryz.underlying44 HI.out hz0 hz1 hz2 rfl (by decide) (row2) n7 (css7.flatten) (by rfl) HO2.out A8 n8 ca8 HQ.out.2.1 css8.flatten (by rfl) HC8.out.1 HP2.out.2.2.2.rd HC8.out.2 (by unfold maxLen; omega) (by omega) hbs2 ?_
    intro row3 Y3 hown hgr hob
    have HG3 := Lib.hid (show Y0.grownBy Y3 (some Y0.heap.size) from HGX.out Y0 Y2 Y3 row2 HG2.out HO2.out hgr)
    obtain ⟨RA, rc, rfl, hrc, hrn, hrr⟩ := own_parts hown
    have HS3 := Lib.hid (HKG.out Y0 Y3 HWY.out HG3.out)
    have HP3 := Lib.hid (HPG.out Y0 Y3 HWY.out HG3.out)
    have HM3 := Lib.hid (HMB.out Y3 RA (n7 + n8) rc (css7 ++ css8) (HWY.out.grown HG3.out HWY.out.size (fun j e => by injection e with e; rw [← e]; exact HWY.out.size)) (HP3.out.1.append HP3.out.2.2.1) (by rw [List.flatten_append]; exact hrr.mono fun _ _ _ => trivial) rfl hrc)
    clear hown hgr hob hrc hrn hrr
    refine hK.out _ _ (by exact HS3.out) (fun hHeld2 => ?_)
    clear hK K hHeld
    have hHeld := hHeld2
    clear hHeld2
    try simp only [Act.put, List.setIfInBounds_toArray, List.set_cons_zero, List.set_cons_succ]
    replace hHeld := HS3.out
    refine wpAnyH_take (i := 7) (oi := ⟨some 35, _, _, _, _, _⟩) (v := .agg #[.slice RA (n7 + n8) rc]) rfl (by kernel_rfl) (by kernel_rfl) (by kernel_rfl) (fun _ _ _ h => h) (Or.inl ⟨by kernel_rfl, ?_⟩) (by assumption) ?_
    · intro W hSw; go_simp
    try simp only [Act.put, List.setIfInBounds_toArray, List.set_cons_zero, List.set_cons_succ]
    refine wpAnyH_ready (rs := [9]) (by kernel_rfl) (by simp) ?_
    refine AllReadyH.cons (o := ⟨some 37, _, _, _, _, _⟩) rfl (fun K hK => ?_) AllReadyH.nil
    go_simp
    refine HM3.out.mono ?_
    rintro e w5 ⟨A11, n11, ca11, css11, rfl, hl11, hnc11, hA11, hE11, hR11, hC11, hb⟩
    have HE2 := Lib.hid (And.intro hl11 (And.intro hE11 (And.intro hR11 (And.intro hC11 hnc11))))
    have HW5 := Lib.hid (show Below W3.heap.size W3 w5 from (HWY.out.grown HG3.out HWY.out.size (fun j e => by injection e with e; rw [← e]; exact HWY.out.size)).trans (hb.mono (Nat.le_trans HWY.out.size HG3.out.size)))
    have HX5 := Lib.hid (show Below w4.heap.size w4 w5 from (HWE.out.grown HG3.out HWE.out.size (fun j e => by injection e with e; rw [← e]; exact HWE.out.size)).trans (hb.mono (Nat.le_trans HWE.out.size HG3.out.size)))
    have HS5 := Lib.hid (HK.out w5 HW5.out)
    clear hl11 hnc11 hA11 hE11 hR11 hC11
    refine hK.out _ _ (by exact HS5.out) (fun hHeld2 => ?_)
    clear hK K hHeld hb
    have hHeld := hHeld2
    clear hHeld2
    try simp only [Act.put, List.setIfInBounds_toArray, List.set_cons_zero, List.set_cons_succ]
    replace hHeld := HS5.out
    refine wpAnyH_take (i := 10) (oi := ⟨some 27, _, _, _, _, _⟩) (v := .tuple #[.slice A11 n11 ca11, .int .i64 r2.2]) rfl (by kernel_rfl) (by kernel_rfl) (by kernel_rfl) (fun _ _ _ h => h) (Or.inl ⟨by kernel_rfl, ?_⟩) (by assumption) ?_
    · intro W hSw; go_simp
    try simp only [Act.put, List.setIfInBounds_toArray, List.set_cons_zero, List.set_cons_succ]
    refine wpAnyH_take (i := 11) (oi := ⟨some 38, _, _, _, _, _⟩) (v := .slice A11 n11 ca11) rfl (by kernel_rfl) (by kernel_rfl) (by kernel_rfl) (fun _ _ _ h => h) (Or.inl ⟨by kernel_rfl, ?_⟩) (by assumption) ?_
    · intro W hSw; go_simp
    try simp only [Act.put, List.setIfInBounds_toArray, List.set_cons_zero, List.set_cons_succ]
    refine wpAnyH_take (i := 12) (oi := ⟨some 39, _, _, _, _, _⟩) (v := .int .i64 r2.2) rfl (by kernel_rfl) (by kernel_rfl) (by kernel_rfl) (fun _ _ _ h => h) (Or.inl ⟨by kernel_rfl, ?_⟩) (by assumption) ?_
    · intro W hSw; go_simp
    try simp only [Act.put, List.setIfInBounds_toArray, List.set_cons_zero, List.set_cons_succ]
    refine wpAnyH_take (i := 13) (oi := ⟨some 11, _, _, _, _, _⟩) (v := .slice A11 n11 ca11) rfl (by kernel_rfl) (by kernel_rfl) (by kernel_rfl) (fun _ _ _ h => h) (Or.inl ⟨by kernel_rfl, ?_⟩) (by assumption) ?_
    · intro W hSw; go_simp
    try simp only [Act.put, List.setIfInBounds_toArray, List.set_cons_zero, List.set_cons_succ]
    refine wpAnyH_take (i := 14) (oi := ⟨some 12, _, _, _, _, _⟩) (v := .int .i64 r2.2) rfl (by kernel_rfl) (by kernel_rfl) (by kernel_rfl) (fun _ _ _ h => h) (Or.inl ⟨by kernel_rfl, ?_⟩) (by assumption) ?_
    · intro W hSw; go_simp
    try simp only [Act.put, List.setIfInBounds_toArray, List.set_cons_zero, List.set_cons_succ]
    refine wpAnyH_done (by kernel_rfl) ?_ _
    clear hHeld
    have HLN := Lib.hid (And.intro HE1.out.1 HE2.out.1)
    have HBW := Lib.hid (HWB.out.trans (HW5.out.mono HWB.out.size))
    by_cases he1 : r1.2 = 0
    rotate_left
    · have hx : (r1.2 != 0) = true := by simp [he1]
      obtain rfl : 0 = n9 := by have := HLN.out.1; rw [HLAW.out.1 he1] at this; exact this
      go_wp2
      go_ret
      exact ⟨rfl, HBW.out⟩
    by_cases he2 : r2.2 = 0
    rotate_left
    · have hx : (r2.2 != 0) = true := by simp [he2]
      obtain rfl : 0 = n11 := by have := HLN.out.2; rw [HLAW.out.2.1 he2] at this; exact this
      have hx1 : (r1.2 != 0) = false := by simp [he1]
      go_wp2
      all_goals go_ret
      all_goals exact ⟨rfl, HBW.out⟩
    have HPRE := Lib.hid (HLAW.out.2.2 he1 he2)
    have hx1 : (r1.2 != 0) = false := by simp [he1]
    have hx2 : (r2.2 != 0) = false := by simp [he2]
    have hx3 : (r1.2 == 0) = true := by simp [he1]
    have HLE := Lib.hid (show n9 ≤ n11 ∧ n11 ≤ 4 ∧ r2.1.take n9 = r1.1 from ⟨by rw [← HLN.out.1, ← HLN.out.2]; exact HPRE.out.length_le, by rw [← HLN.out.2]; exact HFEW.out.2.1, by rw [← HLN.out.1]; exact (List.prefix_iff_eq_take.1 HPRE.out).symm⟩)
    obtain ⟨hle1, hle2, _⟩ := HLE.out
    have hnc : n11 ≤ ca11 := HE2.out.2.2.2.2
    clear he1 he2
    obtain ⟨⟨c7, f7, l7⟩, _, ⟨c9, f9, l9⟩⟩ := (fun h => And.intro (Blk.rules (And.left h)) (And.intro trivial (Blk.rules (And.right (And.right h))))) (HK.out _ HW5.out)
    go_wp2_with fail
    refine (HMA7.out _ HW5.out).mono ?_
    rintro e w6 ⟨A13, n13, ca13, css13, rfl, hl13, hnc13, hA13, hE13, hR13, hC13, hb6⟩
    have HE3 := Lib.hid (And.intro hl13 (And.intro hE13 (And.intro hR13 hC13)))
    have HW6 := Lib.hid (HW5.out.trans (hb6.mono HW5.out.size))
    have HX6 := Lib.hid (HX5.out.trans (hb6.mono HX5.out.size))
    have HB6 := Lib.hid hb6
    obtain rfl : n9 = n13 := HLN.out.1.symm.trans hl13
    clear hl13 hnc13 hA13 hE13 hR13 hC13 c7 f7 l7 c9 f9 l9 hb6
    have HSM := Lib.hid (fun (W : World) (h : Below w6.heap.size w6 W) => lSameE r1.1 A9 A13 n9 ca9 ca13 css9 css13 W (HGW.out W (HW6.out.trans (h.mono HW6.out.size))) (RR.imp HE1.out.2.1 fun c y hc => hc.keep (KeepF.of_below (HX6.out.trans (h.mono HX6.out.size)))) (HE1.out.2.2.1.keep (KeepF.of_below (HX6.out.trans (h.mono HX6.out.size)))) (RR.imp HE3.out.2.1 fun c y hc => hc.keep (KeepF.of_below h)) (HE3.out.2.2.1.keep (KeepF.of_below h)) HLN.out.1 (by rw [← HLN.out.1]; exact HFEW.out.1.1) HFEW.out.1.2 HE1.out.2.2.2)
    have HSN := Lib.hid (fun (W : World) (h : Below w6.heap.size w6 W) => lSameE r1.1 A11 A9 n9 ca11 ca9 (css11.take n9) css9 W (HGW.out W (HW6.out.trans (h.mono HW6.out.size)))
      (by have h9 := (emr_take n9 HE2.out.2.1 HE2.out.2.2.1).1; rw [HLE.out.2.2] at h9; exact RR.imp h9 fun c y hc => (hc.keep (KeepF.of_below HB6.out)).keep (KeepF.of_below h))
      (((emr_take n9 HE2.out.2.1 HE2.out.2.2.1).2.keep (KeepF.of_below HB6.out)).keep (KeepF.of_below h)) (RR.imp HE1.out.2.1 fun c y hc => hc.keep (KeepF.of_below (HX6.out.trans (h.mono HX6.out.size)))) (HE1.out.2.2.1.keep (KeepF.of_below (HX6.out.trans (h.mono HX6.out.size)))) HLN.out.1 (by rw [← HLN.out.1]; exact HFEW.out.1.1) HFEW.out.1.2 HE1.out.2.2.2)
    go_wp2_with fail
    refine (HSM.out _ (Below.refl _ _)).mono ?_
    rintro e w7 ⟨rfl, hb7⟩
    have HB7 := Lib.hid hb7
    clear hb7
    have hge : (n9 : Int) ≤ (n11 : Int) := by omega
    have hge2 : (n9 : Int) ≤ (ca11 : Int) := by omega
    go_wp2_with fail
    refine (HSN.out _ HB7.out).mono ?_
    rintro e w8 ⟨rfl, hb8⟩
    have HB8 := Lib.hid (HB7.out.trans (hb8.mono HB7.out.size))
    clear hb8
    go_wp2
    go_ret
    exact ⟨rfl, (HWB.out.trans (HW6.out.mono HWB.out.size)).trans (HB8.out.mono (HWB.out.trans (HW6.out.mono HWB.out.size)).size)⟩
end Go.Proofs.YtgolomgmnanbpaaGreatDoor
