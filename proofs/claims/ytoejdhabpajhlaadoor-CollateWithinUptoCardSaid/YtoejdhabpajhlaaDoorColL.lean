/- The walks of davenportlaw07's helpers: in, list, some, right, same. -/
import Derived.Test.YtoejdhabpajhlaaDoorFrontG
import Derived.Test.YtoejdhabpajhlaaDoorBase
import Derived.Deep.RegionHeld3
namespace Go.Proofs.YtoejdhabpajhlaaDoor
set_option linter.unusedVariables false
set_option linter.unusedSimpArgs false
open Go.RowKit
attribute [local go_sem] run_index_arr run_part_agg run_part_one run_field_agg

theorem bel_gb {w w' : World} (h : w.grownBy w' none) : Below w.heap.size w w' := ⟨h.os, h.tape, h.output, h.size, fun k hk => h.block k hk (by simp)⟩
/-- a whole number -/
def jIn (n : Int) : JV := .mk 3 n [] [] []
def jList (l : List JV) : JV := .mk 5 0 [] l []
def InPost (n : Int) (w : World) (e : Ending) (w' : World) : Prop := e = .returned (.agg #[.int .i64 3, .int .i64 n, .string ⟨#[]⟩, .slice none 0 0, .slice none 0 0]) ∧ Below w.heap.size w w'
set_option maxRecDepth 100000 in
set_option maxHeartbeats 4000000 in
theorem lIn (n : Int) (w : World) : Calls Tryd.prog 28 #[.int .i64 n] w (InPost n w) := by
  have HZ := Lib.hid ((Below.refl w.heap.size w).alloc (Nat.le_refl _) (.cells #[.int .i64 3, .int .i64 n, .string ⟨#[]⟩, .slice none 0 0, .slice none 0 0] 28))
  go_enter Tryd.func28, Tryd.ntmps28
  go_wp2
  refine bodyPost_ret (v := .agg #[.int .i64 3, .int .i64 n, .string ⟨#[]⟩, .slice none 0 0, .slice none 0 0]) (by simp only [results, Tryd.results28]; go_simp) rfl ?_
  exact ⟨rfl, HZ.out⟩
def ListPost (A : Option Addr) (nk ca : Nat) (w : World) (e : Ending) (w' : World) : Prop := e = .returned (.agg #[.int .i64 5, .int .i64 0, .string ⟨#[]⟩, .slice A nk ca, .slice none 0 0]) ∧ Below w.heap.size w w'
set_option maxRecDepth 100000 in
set_option maxHeartbeats 4000000 in
theorem lList (A : Option Addr) (nk ca : Nat) (w : World) : Calls Tryd.prog 15 #[.slice A nk ca] w (ListPost A nk ca w) := by
  have HZ := Lib.hid ((Below.refl w.heap.size w).alloc (Nat.le_refl _) (.cells #[.int .i64 5, .int .i64 0, .string ⟨#[]⟩, .slice A nk ca, .slice none 0 0] 28))
  go_enter Tryd.func15, Tryd.ntmps15
  go_wp2
  refine bodyPost_ret (v := .agg #[.int .i64 5, .int .i64 0, .string ⟨#[]⟩, .slice A nk ca, .slice none 0 0]) (by simp only [results, Tryd.results15]; go_simp) rfl ?_
  exact ⟨rfl, HZ.out⟩
/-- five cells are a list -/
theorem VR.list_ {w : World} {A : Option Addr} {ca : Nat} {l : List JV} {n : Nat} (h : RowV w A ca l) (hn : n = l.length) : VR w TT [.int .i64 5, .int .i64 0, .string ⟨#[]⟩, .slice A n ca, .slice none 0 0] (jList l) := by
  obtain ⟨css, h1, h2, h3, h4⟩ := h
  exact VR.into 5 0 [] h1 h2 (Nat.le_refl 0) h3 (fun _ => rfl) h4 RdF.nil hn rfl
theorem VR.in_ {w : World} (n : Int) : VR w TT [.int .i64 3, .int .i64 n, .string ⟨#[]⟩, .slice none 0 0, .slice none 0 0] (jIn n) := VR.atom 3 n []
theorem infoValue7 : (Tryd.prog.info? 28).map (fun i => (i.zero, i.size, i.bytes)) = some (some (.agg #[.int .i64 0, .int .i64 0, .string ⟨#[]⟩, .slice none 0 0, .slice none 0 0]), 5, 80) := by kernel_rfl
/-- a row that a call owns -/
theorem RowV.own {w : World} {base : Nat} {e : TypeId} {v : Value} {l : List JV} {n : Nat} {css : List (List Value)} (h : w.ownsRow base e 5 v n css.flatten) (hn : n = l.length) (hv : VRs w TT css l) : ∃ A cap, v = .slice A n cap ∧ RowV w A cap l := by
  obtain ⟨A0, c0, e0, _, hr0⟩ := Rd.of_own h
  rcases h.2 with ⟨rfl, h0⟩ | ⟨g, cap, cur, rfl, hcap, hg, hnc, _, _, _⟩
  · have hl : l = [] := List.eq_nil_of_length_eq_zero (by omega)
    subst hl h0
    exact ⟨none, 0, rfl, css, hv, Nat.zero_le _, fun _ => rfl, fun hne => absurd (by
      have h5 := hv.flat
      exact List.eq_nil_of_length_eq_zero (by rw [h5]; rfl)) hne⟩
  · injection e0 with e1 e2 e3
    subst e1 e3
    exact ⟨some ⟨g, 0, none⟩, cap, rfl, css, hv, by omega, fun e => by simp at e, fun hne => by
      obtain ⟨b, o, q1, q2, q3⟩ := hr0 hne
      exact ⟨b, o, q1, q2, trivial, q3⟩⟩
/-- a row is answered -/
def RetV (l : List JV) (w : World) (e : Ending) (w' : World) : Prop := ∃ A cap, e = .returned (.slice A l.length cap) ∧ RowV w' A cap l ∧ Below w.heap.size w w'
theorem RowV.take {w : World} {A : Option Addr} {ca : Nat} {l : List JV} (h : RowV w A ca l) (n : Nat) : ∃ css, VRs w TT css (l.take n) ∧ RdF w TT A css.flatten := by
  obtain ⟨css, h1, h2, h3, h4⟩ := h
  rw [flat_take css n] at h4
  exact ⟨css.take n, h1.take n, h4.pre⟩
set_option maxRecDepth 100000 in
set_option maxHeartbeats 4000000 in
theorem lSome (l : List JV) (A : Option Addr) (nk ca : Nat) (w : World) (hr : RowV w A ca l) (hnk : l.length = nk) (hlen : nk ≤ 4194304) : Calls Tryd.prog 13 #[.slice A nk ca] w (RetV (l.take 20) w) := by
  obtain ⟨css, t1, t2⟩ := hr.take 20
  obtain ⟨_, _, h2, h3, _⟩ := hr
  obtain ⟨m, hm⟩ : ∃ m, (l.take 20).length = m := ⟨_, rfl⟩
  have hm2 : m = min nk 20 := by rw [← hm, List.length_take, hnk]; omega
  obtain ⟨i0, hi, hz0, hz1, hz2⟩ := info_parts infoValue7
  have hA0 : A = none → m = 0 := fun e => by have := h3 e; omega
  have hflat := t1.flat
  rw [hm] at hflat
  have hrd := t2.rd
  have hone := t1.one
  have HEND := Lib.hid (fun (v' : Value) (w1 : World) (hown : w1.ownsRow w.heap.size 28 5 v' m css.flatten) (hgr : (w.alloc (.cells #[] 28)).grownBy w1 (some w.heap.size)) =>
    show RetV (l.take 20) w (.returned v') w1 by
      have hk : KeepF (fun b => b < w.heap.size) w w1 := (KeepF.of_below ((Below.refl w.heap.size w).alloc (Nat.le_refl _) _)).trans (KeepF.of_grown hgr (fun b hb e => by injection e with e; omega))
      have hv1 : VRs w1 TT css (l.take 20) := ((t1.mono (F' := fun b => b < w.heap.size) fun b hb _ => hb).keep hk).mono fun _ _ _ => trivial
      obtain ⟨A', cap', e1, e2⟩ := RowV.own hown hm.symm hv1
      exact ⟨A', cap', by rw [e1, hm], e2, ((Below.refl _ w).alloc (Nat.le_refl _) _).grown hgr (by simp) (fun k e => by cases e; exact Nat.le_refl _)⟩)
  have HR := Lib.hid hrd
  have HF := Lib.hid hflat
  have HO := Lib.hid hone
  have HI := Lib.hid hi
  have HA := Lib.hid hA0
  rw [hnk] at h2
  clear t1 t2 hrd hflat hone hi hA0 hm h3 hnk
  by_cases hlt : nk ≤ 20
  · obtain rfl : m = nk := by omega
    have hmi : min (m : Int) 20 = (m : Int) := by omega
    have hmc : ¬ (ca : Int) < m := by omega
    clear hm2
    go_enter Tryd.func13, Tryd.ntmps13
    go_wp2_with (at_builtin; refine wpList_append_rd _ rfl _ _ 25 rfl w.heap.size 28 i0 _ 5 80 Tryd.underlying25 HI.out hz0 hz1 hz2 rfl (by decide) _ 0 [] rfl (World.ownsRow_made w #[] 0 (Nat.le_refl _) (by decide) rfl) A m ca HA.out css.flatten rfl HF.out (HR.out.alloc _) HO.out (by unfold maxLen; omega) (by omega) (by simp) ?_; intro v' w1 hown hgr _)
    rw [Nat.zero_add, List.nil_append] at hown
    have HX := Lib.hid (HEND.out v' w1 hown hgr)
    go_ret
    exact HX.out
  · obtain rfl : m = 20 := by omega
    have hmi : min (nk : Int) 20 = 20 := by omega
    have hmc : ¬ (ca : Int) < 20 := by omega
    have hc2 : 20 ≤ ca := by omega
    have hne : A ≠ none := fun e => by have := HA.out e; omega
    obtain ⟨a, rfl⟩ : ∃ a, A = some a := Option.ne_none_iff_exists'.1 hne
    clear hm2 hne
    go_enter Tryd.func13, Tryd.ntmps13
    go_wp2_with (at_builtin; refine wpList_append_rd _ rfl _ _ 25 rfl w.heap.size 28 i0 _ 5 80 Tryd.underlying25 HI.out hz0 hz1 hz2 rfl (by decide) _ 0 [] rfl (World.ownsRow_made w #[] 0 (Nat.le_refl _) (by decide) rfl) (some a) 20 ca HA.out css.flatten rfl HF.out (HR.out.alloc _) HO.out (by unfold maxLen; omega) (by omega) (by simp) ?_; intro v' w1 hown hgr _)
    rw [Nat.zero_add, List.nil_append] at hown
    have HX := Lib.hid (HEND.out v' w1 hown hgr)
    go_ret
    exact HX.out
end Go.Proofs.YtoejdhabpajhlaaDoor
