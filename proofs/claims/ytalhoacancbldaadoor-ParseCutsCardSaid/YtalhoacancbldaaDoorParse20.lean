/- The walk of davenportlaw05.wakes. -/
import Derived.Test.YtalhoacancbldaaDoorParse18
import Derived.Lib.SlBytesConst
namespace Go.Proofs.YtalhoacancbldaaDoor
set_option linter.unusedVariables false
set_option linter.unusedSimpArgs false
open Go.RowKit
attribute [local go_sem] run_index_arr run_part_agg run_part_one run_field_agg

/-- a kid's cells, by the address of its row -/
theorem VRs.cell {W : World} {F : Nat → Prop} {css : List (List Value)} {xs : List JV} {A : Option Addr} (h : VRs W F css xs) (hr : RdF W F A css.flatten) {i : Nat} {x : JV} (hx : xs[i]? = some x) :
    ∃ b o c, A = some ⟨b, o, none⟩ ∧ b < W.heap.size ∧ F b ∧ VR W F c x ∧ ∀ (j : Nat) (u : Value), j < 5 → c[j]? = some u → W.cell? ⟨b, o + (i * 5 + j), none⟩ = some u := by
  obtain ⟨c, hc, hv⟩ := h.get_ hx
  have hl : css.flatten ≠ [] := by
    have h3 := flat5_len h.five
    have h4 := (List.getElem?_eq_some_iff.1 hc).1
    intro e
    rw [e] at h3
    simp at h3
    omega
  obtain ⟨b, o, rfl, hb, hf, hx⟩ := hr hl
  refine ⟨b, o, c, rfl, hb, hf, hv, fun j u hj hu => ?_⟩
  have h1 := flat5_get h.five hc hj
  rw [hu] at h1
  obtain ⟨hlt, e⟩ := List.getElem?_eq_some_iff.1 h1
  rw [hx _ hlt, e]
theorem BS.litF (w : World) (l : List UInt8) (cs : Array Value) (fr : Nat × Nat) (h : cs = (byteV l).toArray) (n : Nat) (hn : n = l.length) : BS (w.alloc (.cells cs 5 fr)) (.slice (some ⟨w.heap.size, 0, none⟩) n n) l := by
  subst h hn
  have hb : (w.alloc (.cells (byteV l).toArray 5 fr)).heap[w.heap.size]? = some (.cells (byteV l).toArray 5 fr) := heap_alloc_new w _
  refine ⟨_, _, rfl, Nat.le_refl _, fun _ => ⟨_, _, rfl, (Array.getElem?_eq_some_iff.1 hb).1, fun i hi => ?_⟩⟩
  unfold World.cell?
  simp only
  rw [hb]
  simp [hi]
theorem BS.litN (w : World) (l : List UInt8) (cs : Array Value) (fr : Nat × Nat) (h : cs = (byteV l).toArray) (n : Nat) (hn : n = l.length) (N : Nat) (hN : w.heap.size = N) : BS (w.alloc (.cells cs 5 fr)) (.slice (some ⟨N, 0, none⟩) n n) l := by
  subst hN; exact BS.litF w l cs fr h n hn
/-- a step further -/
theorem wkStep {w a b : World} {o1 o2 : Obj} (h : Below w.heap.size w a) (hb : Below ((a.alloc o1).alloc o2).heap.size ((a.alloc o1).alloc o2) b) : Below w.heap.size w b := by
  have h1 := (h.alloc h.size o1).alloc (by have := h.size; simp; omega) o2
  exact h1.trans (hb.mono h1.size)
set_option maxRecDepth 100000 in
set_option maxHeartbeats 4000000 in
theorem wakes5_any (w : World) (hG : GOK w) : Calls Tryd.prog 25 #[] w fun e w' => e = .returned (.bool true) ∧ Below w.heap.size w w' := by
  have HG := Lib.hid hG
  clear hG
  have hcv := fun (w : World) (C : Array Value) (n c : Nat) => Lib.run_convert_bytes_const (P := Tryd.prog) w 36 5 C n c Tryd.underlying36 Tryd.underlying5
  have hcv1 := fun (w : World) (o : Obj) (C : Array Value) (n c : Nat) => Lib.run_convert_bytes_const (P := Tryd.prog) (w.alloc o) 36 5 C n c Tryd.underlying36 Tryd.underlying5
  simp only [World.size_alloc] at hcv1
  go_enter Tryd.func25, Tryd.ntmps25
  go_wp2_with fail
  refine (parseParse_any _ wk1 _ (HG.out.alloc _) (BS.litF w wk1 _ _ (by rfl) 27 rfl) (by decide)).mono ?_
  rintro e w1 ⟨o, ho, cs, rfl, hvr, hb1⟩
  obtain rfl := wk1_out ho
  have hB1 : Below w.heap.size w w1 := ((Below.refl _ w).alloc (Nat.le_refl _) _).trans (hb1.mono (by simp))
  obtain ⟨A1, B1, ca, cb, css, rfl, hvs, _, _, _, _, hr1, _⟩ := VR.out hvr
  obtain ⟨b1, o1, c0, rfl, hl1, hF1, hk0, hc0⟩ := hvs.cell hr1 (i := 0) rfl
  obtain ⟨_, _, _, _, _, rfl, _⟩ := hk0.out
  obtain ⟨b1', o1', c1, e1, _, _, hk1, hc1⟩ := hvs.cell hr1 (i := 1) rfl
  obtain ⟨rfl, rfl⟩ : b1 = b1' ∧ o1 = o1' := by simpa using e1
  obtain ⟨A2, B2, ca2, cb2, css2, rfl, hvs2, hca2, hcb2, _, _, hr2, hkr2⟩ := hk1.out
  obtain ⟨b2, o2, c2, rfl, hl2, hF2, hk2, hc2⟩ := hvs2.cell hr2 (i := 0) rfl
  obtain ⟨_, _, _, _, _, rfl, _⟩ := hk2.out
  have f1 := hc0 1 _ (by omega) rfl
  have f3 := hc1 3 _ (by omega) rfl
  have f4 := hc1 4 _ (by omega) rfl
  have f2 := hc2 2 _ (by omega) rfl
  simp only [Nat.zero_mul, Nat.one_mul, Nat.zero_add, Nat.add_zero, List.length_cons, List.length_nil, Nat.reduceAdd] at f1 f3 f4 f2
  have HK := Lib.hid hkr2
  have HB := Lib.hid hB1
  clear hc0 hc1 hc2 hr1 hr2 hvs hvs2 hvr hb1 hkr2 hk1 hB1 ho e1
  simp only
  go_wp2_with fail
  have hB2 : Below w.heap.size w w1 := HB.out
  refine (strEqual_any B2 (some ⟨w1.heap.size + 1, 0, none⟩) 2 2 cb2 2 [[97], [98]] [[97], [98]] _ rfl rfl ((HK.out.rd.alloc _).alloc _) ?h1 hcb2 (by decide) (by decide) (by decide)).mono ?_
  case h1 =>
    have h := Rd.of_blk (Blk.new (w1.alloc (.cells #[.int .i64 5, .int .i64 0, .string ⟨#[]⟩, .slice (some ⟨b1, o1, none⟩) 2 ca, .slice B1 0 cb] 40)) 9 #[.string ⟨#[97]⟩, .string ⟨#[98]⟩])
    simpa [strV] using h
  rintro e w2 ⟨rfl, hq2⟩
  have hB3 : Below w.heap.size w w2 := by
    obtain ⟨q, hq⟩ := hq2
    rw [← hq]
    exact bel_drewN ((hB2.alloc hB2.size _).alloc (by have := hB2.size; simp; omega) _) q
  have HB3 := Lib.hid hB3
  have hB12 : Below w1.heap.size w1 w2 := by
    obtain ⟨q, hq⟩ := hq2
    rw [← hq]
    exact bel_drewN (((Below.refl _ w1).alloc (Nat.le_refl _) _).alloc (by simp) _) q
  have hbox : Blk w2 w1.heap.size 40 #[.int .i64 5, .int .i64 0, .string ⟨#[]⟩, .slice (some ⟨b1, o1, none⟩) 2 ca, .slice B1 0 cb] := by
    obtain ⟨q, hq⟩ := hq2
    rw [← hq]
    exact ((Blk.new w1 _ _).alloc _).drewN q
  have p3 := ((bcell hB12).1 b1 _ hl1).trans f3
  have p2 := ((bcell hB12).1 b2 _ hl2).trans f2
  obtain ⟨xc, xf, xl⟩ := hbox.rules
  clear hq2 hB2 hB3 f1 f2 f3 f4 hB12 hbox
  go_wp2_with fail
  have hg2 := HG.out.keep HB3.out
  refine (parseParse_any _ wk2 _ (GOK.keep hg2 ((Below.refl _ w2).alloc (Nat.le_refl _) _)) (BS.litF w2 wk2 _ _ (by rfl) 3 rfl) (by decide)).mono ?_
  rintro e w3 ⟨o, ho, cs, rfl, hvr, hb3⟩
  obtain rfl := wk2_out ho
  obtain ⟨_, _, _, _, _, rfl, _⟩ := hvr.out
  have hB4 := HB3.out.trans ((((Below.refl _ w2).alloc (Nat.le_refl _) _).trans (hb3.mono (by simp))).mono HB3.out.size)
  have HB4 := Lib.hid hB4
  clear hB4 hb3 hvr ho hg2
  simp only
  go_wp2_with fail
  have hg3 := HG.out.keep HB4.out
  refine (parseParse_any _ wk3 _ (GOK.keep hg3 (((Below.refl _ w3).alloc (Nat.le_refl _) _).alloc (by simp) _)) (BS.litN (w3.alloc _) wk3 _ _ (by rfl) 13 rfl _ (by simp)) (by decide)).mono ?_
  rintro e w4 ⟨o, ho, cs, rfl, hvr, hb4⟩
  obtain rfl := wk3_out ho
  obtain ⟨_, _, _, _, _, rfl, _⟩ := hvr.out
  have HB5 := Lib.hid (wkStep HB4.out hb4)
  clear hb4 hvr ho hg3
  simp only
  go_wp2_with fail
  have hg4 := HG.out.keep HB5.out
  refine (parseParse_any _ wk4 _ (GOK.keep hg4 (((Below.refl _ w4).alloc (Nat.le_refl _) _).alloc (by simp) _)) (BS.litN (w4.alloc _) wk4 _ _ (by rfl) 9 rfl _ (by simp)) (by decide)).mono ?_
  rintro e w5 ⟨o, ho, cs, rfl, hvr, hb5⟩
  obtain rfl := wk4_out ho
  obtain ⟨_, _, _, _, _, rfl, _⟩ := hvr.out
  have HB6 := Lib.hid (wkStep HB5.out hb5)
  clear hb5 hvr ho hg4
  simp only
  go_wp2_with fail
  have hg5 := HG.out.keep HB6.out
  refine (parseParse_any _ wk5 _ (GOK.keep hg5 (((Below.refl _ w5).alloc (Nat.le_refl _) _).alloc (by simp) _)) (BS.litN (w5.alloc _) wk5 _ _ (by rfl) 4 rfl _ (by simp)) (by decide)).mono ?_
  rintro e w6 ⟨o, ho, cs, rfl, hvr, hb6⟩
  obtain rfl := wk5_out ho
  obtain ⟨_, _, _, _, _, rfl, _⟩ := hvr.out
  have HB7 := Lib.hid (wkStep HB6.out hb6)
  clear hb6 hvr ho hg5
  simp only
  go_wp2_with fail
  have hg6 := HG.out.keep HB7.out
  refine (parseValue_any _ wk6 1 _ (by decide) (GOK.keep hg6 (((Below.refl _ w6).alloc (Nat.le_refl _) _).alloc (by simp) _)) (BS.litN (w6.alloc _) wk6 _ _ (by rfl) 5 rfl _ (by simp)) (by decide)).mono ?_
  rintro e w7 ⟨o, ho, cs, rfl, hvr, hb7⟩
  obtain rfl := wk6_out ho
  obtain ⟨_, _, _, _, _, rfl, _⟩ := hvr.out
  have HB8 := Lib.hid (wkStep HB7.out hb7)
  clear hb7 hvr ho hg6
  simp only
  go_wp2
  go_ret
  exact ⟨rfl, (HB8.out.alloc HB8.out.size _)⟩
end Go.Proofs.YtalhoacancbldaaDoor
