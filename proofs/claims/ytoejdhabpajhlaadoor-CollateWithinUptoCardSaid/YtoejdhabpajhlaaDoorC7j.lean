/- CollateWithin: the walks of the object's closure, and of some. -/
import Derived.Test.YtoejdhabpajhlaaDoorC7h
namespace Go.Proofs.YtoejdhabpajhlaaDoor
set_option linter.unusedVariables false
set_option linter.unusedSimpArgs false
open Go.RowKit
attribute [local go_sem] run_index_arr run_part_agg run_part_one run_field_agg

theorem far5 {W : World} {g k : Nat} {t : TypeId} {cs : Array Value} (h : Blk W g t cs) (hne : g ≠ k) (a b c d e : Value) : Blk (((((W.setCell ⟨k, 0, none⟩ a).setCell ⟨k, 1, none⟩ b).setCell ⟨k, 2, none⟩ c).setCell ⟨k, 3, none⟩ d).setCell ⟨k, 4, none⟩ e) g t cs :=
  ((((h.far hne a).far hne b).far hne c).far hne d).far hne e
theorem str_z (key : ByteArray) : key ++ (⟨#[122]⟩ : ByteArray) = ⟨(key.data.toList ++ [122]).toArray⟩ := by
  apply str_ext
  simp [sl]
theorem VR.obj2 {W : World} {key : ByteArray} {v h : JV} {cv ch : List Value} {g g' : Nat} {t t' : TypeId} (hv : VR W TT cv v) (hh : VR W TT ch h) (h1 : Blk W g t (cv ++ ch).toArray) (h2 : Blk W g' t' #[.string key, .string (key ++ (⟨#[122]⟩ : ByteArray))]) :
    VR W TT [.int .i64 6, .int .i64 0, .string ⟨#[]⟩, .slice (some ⟨g, 0, none⟩) 2 2, .slice (some ⟨g', 0, none⟩) 2 2] (jObj key.data.toList (key.data.toList ++ [122]) v h) := by
  have hvs : VRs W TT [cv, ch] [v, h] := VRs.two_ hv hh
  refine VR.into 6 0 [] hvs (Nat.le_refl 2) (Nat.le_refl 2) (fun e => by cases e) (fun e => by cases e) ?_ ?_ rfl rfl
  · intro hne
    refine ⟨_, 0, rfl, h1.lt, trivial, fun i hi => ?_⟩
    have e : [cv, ch].flatten = cv ++ ch := by simp
    rw [Nat.zero_add, h1.cell]
    simp only [e] at hi ⊢
    rw [List.getElem?_toArray, List.getElem?_eq_getElem hi]
  · intro hne
    refine ⟨_, 0, rfl, h2.lt, trivial, fun i hi => ?_⟩
    have e : strV [key.data.toList, key.data.toList ++ [122]] = [.string key, .string (key ++ (⟨#[122]⟩ : ByteArray))] := by
      rw [str_z]; rfl
    rw [Nat.zero_add, h2.cell]
    simp only [e] at hi ⊢
    rw [← Array.getElem?_toList, List.getElem?_eq_getElem hi]
set_option maxRecDepth 100000 in
set_option maxHeartbeats 2000000 in
theorem clObj (key : ByteArray) (v h : JV) (cs ch : List Value) (gk gh : Nat) (w : World) (hkl : key.size ≤ 1048576) (hv : VR w TT cs v) (hh : VR w TT ch h) (hBk : Blk w gk 9 #[.string key]) (hBh : Blk w gh 28 ch.toArray) :
    Calls Tryd.prog 16 #[.agg cs.toArray, .pointer (some ⟨gk, 0, none⟩), .pointer (some ⟨gh, 0, none⟩)] w (RetJ (jObj key.data.toList (key.data.toList ++ [122]) v h) w) := by
  obtain ⟨L, rfl⟩ : ∃ L : List UInt8, key = ⟨L.toArray⟩ := ⟨key.data.toList, by simp⟩
  have hll : L.length ≤ 1048576 := hkl
  clear hkl
  have HV := Lib.hid hv
  have HH := Lib.hid hh
  obtain ⟨kv, nv, sv, Av, nav, cav, Bv, nbv, cbv, rfl⟩ := hv.form
  obtain ⟨kh, nh, sh, Ah, nah, cah, Bh, nbh, cbh, rfl⟩ := hh.form
  have HBK := Lib.hid hBk
  have HBH := Lib.hid hBh
  obtain ⟨c1, f1, l1⟩ := hBk.rules
  obtain ⟨c2, f2, l2⟩ := hBh.rules
  clear hv hh hBk hBh
  go_enter Tryd.func16, Tryd.ntmps16
  go_upto_region 1 with (fail)
  obtain ⟨W2, hW2⟩ : ∃ W2, (w.alloc (.cells #[.int .i64 kv, .int .i64 nv, .string sv, .slice Av nav cav, .slice Bv nbv cbv] 28)).alloc (.cells #[.int .i64 0, .int .i64 0, .string ⟨#[]⟩, .slice none 0 0, .slice none 0 0] 28) = W2 := ⟨_, rfl⟩
  have HW := Lib.hid (show Held [(w.heap.size + 1, 28, #[.int .i64 0, .int .i64 0, .string ⟨#[]⟩, .slice none 0 0, .slice none 0 0]), (w.heap.size, 28, #[.int .i64 kv, .int .i64 nv, .string sv, .slice Av nav cav, .slice Bv nbv cbv])] w W2 by
    rw [← hW2]
    exact ((Held.nil w).push 28 #[.int .i64 kv, .int .i64 nv, .string sv, .slice Av nav cav, .slice Bv nbv cbv] (g := w.heap.size) rfl).push 28 #[.int .i64 0, .int .i64 0, .string ⟨#[]⟩, .slice none 0 0, .slice none 0 0] (g := w.heap.size + 1) (by simp))
  rw [hW2]
  have HK2 := Lib.hid (HBK.out.keep (by rw [← hW2]; exact ((Below.refl _ w).alloc (Nat.le_refl _) _).alloc (by simp) _ : Below w.heap.size w W2))
  have HH2 := Lib.hid (HBH.out.keep (by rw [← hW2]; exact ((Below.refl _ w).alloc (Nat.le_refl _) _).alloc (by simp) _ : Below w.heap.size w W2))
  clear hW2 c1 f1 l1 c2 f2 l2
  obtain ⟨c1, f1, l1⟩ := HK2.out.rules
  obtain ⟨c2, f2, l2⟩ := HH2.out.rules
  obtain ⟨c3, f3, l3⟩ := HW.out.b1.rules
  obtain ⟨c4, f4, l4⟩ := HW.out.b0.rules

  have HFIN := Lib.hid (fun (Wz : World) (hz : Below w.heap.size w Wz) (hs : Wz.heap.size = W2.heap.size) =>
    show RetJ (jObj (⟨L.toArray⟩ : ByteArray).data.toList ((⟨L.toArray⟩ : ByteArray).data.toList ++ [122]) v h) w (.returned (.agg #[.int .i64 6, .int .i64 0, .string ⟨#[]⟩, .slice (some ⟨W2.heap.size + 1, 0, none⟩) 2 2, .slice (some ⟨W2.heap.size, 0, none⟩) 2 2]))
      ((Wz.alloc (.cells #[.string ⟨L.toArray⟩, .string ((⟨L.toArray⟩ : ByteArray) ++ (⟨#[122]⟩ : ByteArray))] 9)).alloc (.cells #[.int .i64 kv, .int .i64 nv, .string sv, .slice Av nav cav, .slice Bv nbv cbv, .int .i64 kh, .int .i64 nh, .string sh, .slice Ah nah cah, .slice Bh nbh cbh] 28)) by
      have hn : Held [] w Wz := ⟨hz, fun x hx => by cases hx⟩
      have h0 := (hn.push 9 #[.string ⟨L.toArray⟩, .string ((⟨L.toArray⟩ : ByteArray) ++ (⟨#[122]⟩ : ByteArray))] (g := W2.heap.size) hs).push 28 #[.int .i64 kv, .int .i64 nv, .string sv, .slice Av nav cav, .slice Bv nbv cbv, .int .i64 kh, .int .i64 nh, .string sh, .slice Ah nah cah, .slice Bh nbh cbh] (g := W2.heap.size + 1) (by rw [World.size_alloc, hs])
      exact ⟨[.int .i64 6, .int .i64 0, .string ⟨#[]⟩, .slice (some ⟨W2.heap.size + 1, 0, none⟩) 2 2, .slice (some ⟨W2.heap.size, 0, none⟩) 2 2], rfl, VR.obj2 (HV.out.bel h0.1) (HH.out.bel h0.1) h0.b0 h0.b1, h0.1⟩)
  go_step
  go_step
  go_step
  go_step
  go_step
  go_step
  go_step
  go_step
  go_step
  go_step
  go_step
  go_step
  go_step
  go_step
  go_step
  go_step
  go_step
  go_step
  go_step
  go_step
  go_step
  go_step
  go_step
  go_step
  go_step
  go_step
  go_step
  go_step
  go_step
  go_step
  go_step
  go_step
  have hwb := HW.out.1
  have hvb := v5_bel hwb (g := w.heap.size + 1) (by omega) (.int .i64 6) (.int .i64 0) (.string ⟨#[]⟩) (.slice (some ⟨W2.heap.size + 1, 0, none⟩) 2 2) (.slice (some ⟨W2.heap.size, 0, none⟩) 2 2)
  have HE := Lib.hid (HFIN.out _ hvb (by simp))
  clear hvb hwb
  with_reducible refine bodyPost_ret (v := .agg #[.int .i64 6, .int .i64 0, .string ⟨#[]⟩, .slice (some ⟨W2.heap.size + 1, 0, none⟩) 2 2, .slice (some ⟨W2.heap.size, 0, none⟩) 2 2]) ?_ rfl ?_
  · simp only [results, Tryd.results16]
    go_simp
  · exact HE.out
def Som0 (css : List (List Value)) (m : Nat) (w : World) (e : Ending) (w' : World) : Prop := ∃ A cap, e = .returned (.slice A m cap) ∧ m ≤ cap ∧ (A = none → cap = 0) ∧ RdF w' (fun b => w.heap.size ≤ b) A css.flatten ∧ Below w.heap.size w w'
set_option maxRecDepth 100000 in
set_option maxHeartbeats 4000000 in
theorem lSome0 (l : List JV) (css : List (List Value)) (A : Option Addr) (nk ca : Nat) (w : World) (hr1 : VRs w TT css l) (hr : l.length ≤ ca ∧ (A = none → ca = 0) ∧ RdF w TT A css.flatten) (hnk : l.length = nk) (hlen : nk ≤ 4194304) : Calls Tryd.prog 13 #[.slice A nk ca] w (Som0 (css.take 20) (l.take 20).length w) := by
  obtain ⟨h2, h3, h4⟩ := hr
  obtain ⟨cs2, hcs2⟩ : ∃ cs2, css.take 20 = cs2 := ⟨_, rfl⟩
  have t1 : VRs w TT cs2 (l.take 20) := by rw [← hcs2]; exact hr1.take 20
  have t2 : RdF w TT A cs2.flatten := by rw [← hcs2]; rw [flat_take css 20] at h4; exact h4.pre
  rw [hcs2]
  clear hr1 h4 hcs2
  obtain ⟨m, hm⟩ : ∃ m, (l.take 20).length = m := ⟨_, rfl⟩
  rw [hm]
  have hm2 : m = min nk 20 := by rw [← hm, List.length_take, hnk]; omega
  obtain ⟨i0, hi, hz0, hz1, hz2⟩ := info_parts infoValue7
  have hA0 : A = none → m = 0 := fun e => by have := h3 e; omega
  have hflat := t1.flat
  rw [hm] at hflat
  have hrd := t2.rd
  have hone := t1.one
  have HEND := Lib.hid (fun (v' : Value) (w1 : World) (hown : w1.ownsRow w.heap.size 28 5 v' m cs2.flatten) (hgr : (w.alloc (.cells #[] 28)).grownBy w1 (some w.heap.size)) =>
    show Som0 cs2 m w (.returned v') w1 by
      obtain ⟨A', cap', e1, e2, e3, e4⟩ := RdF.of_own hown (F := fun b => w.heap.size ≤ b) (fun b hb => hb)
      exact ⟨A', cap', by rw [e1], e2, e3, e4, ((Below.refl _ w).alloc (Nat.le_refl _) _).grown hgr (by simp) (fun k e => by cases e; exact Nat.le_refl _)⟩)
  have HR := Lib.hid hrd
  have HF := Lib.hid hflat
  have HO := Lib.hid hone
  have HI := Lib.hid hi
  have HA := Lib.hid hA0
  rw [hnk] at h2
  clear t1 t2 hrd hflat hone hi hA0 hm h3 hnk
  by_cases hlt : nk ≤ 20
  · obtain rfl : m = nk := by omega
    have hmi : min (m : Int) 20 = (m : Int) := by omega
    have hmc : ¬ (ca : Int) < m := by omega
    clear hm2
    go_enter Tryd.func13, Tryd.ntmps13
    go_wp2_with (at_builtin; refine wpList_append_rd _ rfl _ _ 25 rfl w.heap.size 28 i0 _ 5 80 Tryd.underlying25 HI.out hz0 hz1 hz2 rfl (by decide) _ 0 [] rfl (World.ownsRow_made w #[] 0 (Nat.le_refl _) (by decide) rfl) A m ca HA.out cs2.flatten rfl HF.out (HR.out.alloc _) HO.out (by unfold maxLen; omega) (by omega) (by simp) ?_; intro v' w1 hown hgr _)
    rw [Nat.zero_add, List.nil_append] at hown
    have HX := Lib.hid (HEND.out v' w1 hown hgr)
    go_ret
    exact HX.out
  · obtain rfl : m = 20 := by omega
    have hmi : min (nk : Int) 20 = 20 := by omega
    have hmc : ¬ (ca : Int) < 20 := by omega
    have hc2 : 20 ≤ ca := by omega
    have hne : A ≠ none := fun e => by have := HA.out e; omega
    obtain ⟨a, rfl⟩ : ∃ a, A = some a := Option.ne_none_iff_exists'.1 hne
    clear hm2 hne
    go_enter Tryd.func13, Tryd.ntmps13
    go_wp2_with (at_builtin; refine wpList_append_rd _ rfl _ _ 25 rfl w.heap.size 28 i0 _ 5 80 Tryd.underlying25 HI.out hz0 hz1 hz2 rfl (by decide) _ 0 [] rfl (World.ownsRow_made w #[] 0 (Nat.le_refl _) (by decide) rfl) (some a) 20 ca HA.out cs2.flatten rfl HF.out (HR.out.alloc _) HO.out (by unfold maxLen; omega) (by omega) (by simp) ?_; intro v' w1 hown hgr _)
    rw [Nat.zero_add, List.nil_append] at hown
    have HX := Lib.hid (HEND.out v' w1 hown hgr)
    go_ret
    exact HX.out
end Go.Proofs.YtoejdhabpajhlaaDoor
