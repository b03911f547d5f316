/- The walks of collate.told at its four types: each value is checked, then the closure is called. -/
import Derived.Test.YtoejdhabpajhlaaDoorOpenV
import Derived.Test.YtoejdhabpajhlaaDoorMeasG
import Derived.Test.YtoejdhabpajhlaaDoorWithG
import Derived.Test.YtoejdhabpajhlaaDoorPlcP
namespace Go.Proofs.YtoejdhabpajhlaaDoor
set_option linter.unusedVariables false
set_option linter.unusedSimpArgs false
open Go.RowKit
attribute [local go_sem] run_index_arr run_part_agg run_part_one run_field_agg

/-- a row of values -/
def RowV (w : World) (A : Option Addr) (ca : Nat) (l : List JV) : Prop := ∃ css, VRs w TT css l ∧ l.length ≤ ca ∧ (A = none → ca = 0) ∧ RdF w TT A css.flatten
theorem RowV.bel {w w' : World} {A : Option Addr} {ca : Nat} {l : List JV} (h : RowV w A ca l) (hb : Below w.heap.size w w') : RowV w' A ca l := by
  obtain ⟨css, h1, h2, h3, h4⟩ := h
  exact ⟨css, h1.below hb, h2, h3, h4.keep (KeepF.of_below hb)⟩
theorem RowV.nil {w : World} : RowV w none 0 [] := ⟨[], VRs.nil, Nat.le_refl _, fun _ => rfl, RdF.nil⟩
theorem gd.not {x : JV} (h : ¬ gd x) : good x = false := by unfold gd at h; simpa using h
theorem v5_put {W : World} {g : Nat} {t : TypeId} {c0 c1 c2 c3 c4 : Value} (h : Blk W g t #[c0, c1, c2, c3, c4]) (a b c d e : Value) :
    Blk (((((W.setCell ⟨g, 0, none⟩ a).setCell ⟨g, 1, none⟩ b).setCell ⟨g, 2, none⟩ c).setCell ⟨g, 3, none⟩ d).setCell ⟨g, 4, none⟩ e) g t #[a, b, c, d, e] :=
  ((((h.set_ 0 a).set_ 1 b).set_ 2 c).set_ 3 d).set_ 4 e
theorem v5_bel {B : Nat} {w W : World} (h : Below B w W) {g : Nat} (hg : B ≤ g) (a b c d e : Value) :
    Below B w (((((W.setCell ⟨g, 0, none⟩ a).setCell ⟨g, 1, none⟩ b).setCell ⟨g, 2, none⟩ c).setCell ⟨g, 3, none⟩ d).setCell ⟨g, 4, none⟩ e) :=
  ((((h.setCell (p := ⟨g, 0, none⟩) hg a).setCell (p := ⟨g, 1, none⟩) hg b).setCell (p := ⟨g, 2, none⟩) hg c).setCell (p := ⟨g, 3, none⟩) hg d).setCell (p := ⟨g, 4, none⟩) hg e
theorem v2_put {W : World} {g : Nat} {t : TypeId} {c0 c1 : Value} (h : Blk W g t #[c0, c1]) (a b : Value) : Blk ((W.setCell ⟨g, 0, none⟩ a).setCell ⟨g, 1, none⟩ b) g t #[a, b] := (h.set_ 0 a).set_ 1 b
theorem v2_bel {B : Nat} {w W : World} (h : Below B w W) {g : Nat} (hg : B ≤ g) (a b : Value) : Below B w ((W.setCell ⟨g, 0, none⟩ a).setCell ⟨g, 1, none⟩ b) :=
  (h.setCell (p := ⟨g, 0, none⟩) hg a).setCell (p := ⟨g, 1, none⟩) hg b
set_option maxRecDepth 100000 in
set_option maxHeartbeats 4000000 in
theorem toldI (l : List JV) (A : Option Addr) (nk ca : Nat) (c0 c1 : Value) (w : World) (hG : GOK w) (hr : RowV w A ca l) (hnk : l.length = nk) (hC : ∀ x ∈ l, Came x) (hlen : nk ≤ 4194304) (Q : Ending → World → Prop)
    (hbad : (∃ x ∈ l, ¬ gd x) → ∀ W, Below w.heap.size w W → Q (.returned (.tuple #[.int .i64 0, .int .i64 140])) W)
    (hcall : (∀ x ∈ l, gd x) → ∀ W, Below w.heap.size w W → Calls Tryd.prog 33 #[c0, c1] W (fun e w' => ∃ a : Value, ∃ b : Int, e = .returned (.tuple #[a, .int .i64 b]) ∧ Q (.returned (.tuple #[a, .int .i64 b])) w')) :
    Calls Tryd.prog 32 #[.slice A nk ca, .func (.func 33) #[] #[c0, c1]] w (Q) := by
  obtain ⟨css, hr1, hr2, hr3, hr4⟩ := hr
  have HIH := Lib.hid (fun (i : Nat) (x : JV) (hx : l[i]? = some x) => kid_cellsG hr1 hr4 hx)
  have HCK := Lib.hid (fun (x : JV) (hx : x ∈ l) (W : World) (h : Below w.heap.size w W) (cs : List Value) (hv : VR W TT cs x) => vCheckG x cs TT W (hG.keep h) hv (hC x hx))
  have HBAD := Lib.hid hbad
  have HCALL := Lib.hid hcall
  rw [hnk] at hr2
  have HNK := Lib.hid hnk
  clear hG hr1 hr3 hr4 hC hbad hcall hnk
  go_enter Tryd.func32, Tryd.ntmps32
  go_wp2
  go_loopg [12] nk (fun gk s12 wr => ∃ i : Nat, i ≤ nk ∧ gk = nk - i ∧ s12 = .int .i64 i ∧ Hid (∀ x ∈ l.take i, gd x) ∧ Hid (Below w.heap.size w wr))
  case atStart => exact ⟨0, Nat.zero_le _, rfl, by go_num, Lib.hid (fun x h => by simp at h), Lib.hid (Below.refl _ _)⟩
  case round =>
    obtain ⟨i, hi, hgk, rfl, HGD, HB⟩ := hrel
    have HG := Lib.hid hgk
    clear hgk
    by_cases hlt : i < nk
    · obtain ⟨x, hx⟩ : ∃ x, l[i]? = some x := ⟨_, List.getElem?_eq_getElem (by rw [HNK.out]; exact hlt)⟩
      obtain ⟨b, o, k1, n1, s1, A1, na1, ca1, B1, nb1, cb1, rfl, hb, hvx, hz⟩ := HIH.out i x hx
      obtain ⟨q0, q1, q2, q3, q4⟩ := hz _ HB.out
      have hbA := (Below.refl wr.heap.size wr).alloc (Nat.le_refl _) (.cells #[.int .i64 k1, .int .i64 n1, .string s1, .slice A1 na1 ca1, .slice B1 nb1 cb1] 28)
      have HB2 := Lib.hid (HB.out.trans (hbA.mono HB.out.size))
      have hck := HCK.out x (List.mem_of_getElem? hx) _ HB2.out _ (hvx.bel HB2.out)
      have hb1 : b < wr.heap.size := Nat.lt_of_lt_of_le hb HB.out.size
      have HTK := Lib.hid (show gd x → ∀ y ∈ l.take (i + 1), gd y from fun g y hy => by
        rw [List.take_add_one, hx] at hy
        rcases List.mem_append.1 hy with hy | hy
        · exact HGD.out y hy
        · obtain rfl : y = x := by simpa using hy
          exact g)
      have HXM := Lib.hid (List.mem_of_getElem? hx)
      clear hz hvx hx hbA
      by_cases hg : gd x
      · rw [show chkJ x = 0 from if_pos hg] at hck
        have HCL := Lib.hid hck
        clear hck
        go_wp2_with fail
        refine HCL.out.mono ?_
        rintro e w2 ⟨rfl, hb2⟩
        have HB3 := Lib.hid (HB2.out.trans (hb2.mono HB2.out.size))
        clear hb2
        go_wp2
        go_roundg (nk - (i + 1))
        case measure => rw [HG.out]; omega
        case rel => exact ⟨i + 1, hlt, rfl, by go_num, Lib.hid (HTK.out hg), HB3⟩
      · rw [show chkJ x = 140 from if_neg hg] at hck
        have HCL := Lib.hid hck
        clear hck
        go_wp2_with fail
        refine HCL.out.mono ?_
        rintro e w2 ⟨rfl, hb2⟩
        have HB3 := Lib.hid (HB2.out.trans (hb2.mono HB2.out.size))
        have HXB := Lib.hid (HBAD.out ⟨x, HXM.out, hg⟩)
        clear hb2
        go_wp2
        exact HXB.out _ HB3.out
    · obtain rfl : i = nk := by omega
      have hall := HGD.out
      rw [List.take_of_length_le (Nat.le_of_eq HNK.out)] at hall
      have HCC := Lib.hid (HCALL.out hall _ HB.out)
      clear hall
      go_wp2_with fail
      refine HCC.out.mono ?_
      rintro e w2 ⟨a, b, rfl, hq⟩
      have HQ := Lib.hid hq
      clear hq
      go_wp2
      exact HQ.out
set_option maxRecDepth 100000 in
set_option maxHeartbeats 4000000 in
theorem toldS (l : List JV) (A : Option Addr) (nk ca : Nat) (c0 : Value) (w : World) (hG : GOK w) (hr : RowV w A ca l) (hnk : l.length = nk) (hC : ∀ x ∈ l, Came x) (hlen : nk ≤ 4194304) (Q : Ending → World → Prop)
    (hbad : (∃ x ∈ l, ¬ gd x) → ∀ W, Below w.heap.size w W → Q (.returned (.tuple #[.slice none 0 0, .int .i64 140])) W)
    (hcall : (∀ x ∈ l, gd x) → ∀ W, Below w.heap.size w W → Calls Tryd.prog 46 #[c0] W (fun e w' => ∃ a : Value, ∃ b : Int, e = .returned (.tuple #[a, .int .i64 b]) ∧ Q (.returned (.tuple #[a, .int .i64 b])) w')) :
    Calls Tryd.prog 45 #[.slice A nk ca, .func (.func 46) #[] #[c0]] w (Q) := by
  obtain ⟨css, hr1, hr2, hr3, hr4⟩ := hr
  have HIH := Lib.hid (fun (i : Nat) (x : JV) (hx : l[i]? = some x) => kid_cellsG hr1 hr4 hx)
  have HCK := Lib.hid (fun (x : JV) (hx : x ∈ l) (W : World) (h : Below w.heap.size w W) (cs : List Value) (hv : VR W TT cs x) => vCheckG x cs TT W (hG.keep h) hv (hC x hx))
  have HBAD := Lib.hid hbad
  have HCALL := Lib.hid hcall
  rw [hnk] at hr2
  have HNK := Lib.hid hnk
  clear hG hr1 hr3 hr4 hC hbad hcall hnk
  go_enter Tryd.func45, Tryd.ntmps45
  go_wp2
  go_loopg [12] nk (fun gk s12 wr => ∃ i : Nat, i ≤ nk ∧ gk = nk - i ∧ s12 = .int .i64 i ∧ Hid (∀ x ∈ l.take i, gd x) ∧ Hid (Below w.heap.size w wr))
  case atStart => exact ⟨0, Nat.zero_le _, rfl, by go_num, Lib.hid (fun x h => by simp at h), Lib.hid (Below.refl _ _)⟩
  case round =>
    obtain ⟨i, hi, hgk, rfl, HGD, HB⟩ := hrel
    have HG := Lib.hid hgk
    clear hgk
    by_cases hlt : i < nk
    · obtain ⟨x, hx⟩ : ∃ x, l[i]? = some x := ⟨_, List.getElem?_eq_getElem (by rw [HNK.out]; exact hlt)⟩
      obtain ⟨b, o, k1, n1, s1, A1, na1, ca1, B1, nb1, cb1, rfl, hb, hvx, hz⟩ := HIH.out i x hx
      obtain ⟨q0, q1, q2, q3, q4⟩ := hz _ HB.out
      have hbA := (Below.refl wr.heap.size wr).alloc (Nat.le_refl _) (.cells #[.int .i64 k1, .int .i64 n1, .string s1, .slice A1 na1 ca1, .slice B1 nb1 cb1] 28)
      have HB2 := Lib.hid (HB.out.trans (hbA.mono HB.out.size))
      have hck := HCK.out x (List.mem_of_getElem? hx) _ HB2.out _ (hvx.bel HB2.out)
      have hb1 : b < wr.heap.size := Nat.lt_of_lt_of_le hb HB.out.size
      have HTK := Lib.hid (show gd x → ∀ y ∈ l.take (i + 1), gd y from fun g y hy => by
        rw [List.take_add_one, hx] at hy
        rcases List.mem_append.1 hy with hy | hy
        · exact HGD.out y hy
        · obtain rfl : y = x := by simpa using hy
          exact g)
      have HXM := Lib.hid (List.mem_of_getElem? hx)
      clear hz hvx hx hbA
      by_cases hg : gd x
      · rw [show chkJ x = 0 from if_pos hg] at hck
        have HCL := Lib.hid hck
        clear hck
        go_wp2_with fail
        refine HCL.out.mono ?_
        rintro e w2 ⟨rfl, hb2⟩
        have HB3 := Lib.hid (HB2.out.trans (hb2.mono HB2.out.size))
        clear hb2
        go_wp2
        go_roundg (nk - (i + 1))
        case measure => rw [HG.out]; omega
        case rel => exact ⟨i + 1, hlt, rfl, by go_num, Lib.hid (HTK.out hg), HB3⟩
      · rw [show chkJ x = 140 from if_neg hg] at hck
        have HCL := Lib.hid hck
        clear hck
        go_wp2_with fail
        refine HCL.out.mono ?_
        rintro e w2 ⟨rfl, hb2⟩
        have HB3 := Lib.hid (HB2.out.trans (hb2.mono HB2.out.size))
        have HXB := Lib.hid (HBAD.out ⟨x, HXM.out, hg⟩)
        clear hb2
        go_wp2
        exact HXB.out _ HB3.out
    · obtain rfl : i = nk := by omega
      have hall := HGD.out
      rw [List.take_of_length_le (Nat.le_of_eq HNK.out)] at hall
      have HCC := Lib.hid (HCALL.out hall _ HB.out)
      clear hall
      go_wp2_with fail
      refine HCC.out.mono ?_
      rintro e w2 ⟨a, b, rfl, hq⟩
      have HQ := Lib.hid hq
      clear hq
      go_wp2
      exact HQ.out
set_option maxRecDepth 100000 in
set_option maxHeartbeats 4000000 in
theorem toldP (l : List JV) (A : Option Addr) (nk ca : Nat) (c0 c1 : Value) (w : World) (hG : GOK w) (hr : RowV w A ca l) (hnk : l.length = nk) (hC : ∀ x ∈ l, Came x) (hlen : nk ≤ 4194304) (Q : Ending → Prop)
    (hbad : (∃ x ∈ l, ¬ gd x) → Q (.returned (.tuple #[.agg #[.int .i64 0, .int .i64 0], .int .i64 140])))
    (hcall : (∀ x ∈ l, gd x) → ∀ W, Below w.heap.size w W → Calls Tryd.prog 52 #[c0, c1] W (fun e w' => (∃ (p q : Int) (b : Int), e = .returned (.tuple #[.agg #[.int .i64 p, .int .i64 q], .int .i64 b]) ∧ Q (.returned (.tuple #[.agg #[.int .i64 p, .int .i64 q], .int .i64 b]))) ∧ Below W.heap.size W w')) :
    Calls Tryd.prog 51 #[.slice A nk ca, .func (.func 52) #[] #[c0, c1]] w (fun e w' => Q e ∧ Below w.heap.size w w') := by
  obtain ⟨css, hr1, hr2, hr3, hr4⟩ := hr
  have HIH := Lib.hid (fun (i : Nat) (x : JV) (hx : l[i]? = some x) => kid_cellsG hr1 hr4 hx)
  have HCK := Lib.hid (fun (x : JV) (hx : x ∈ l) (W : World) (h : Below w.heap.size w W) (cs : List Value) (hv : VR W TT cs x) => vCheckG x cs TT W (hG.keep h) hv (hC x hx))
  have HBAD := Lib.hid hbad
  have HCALL := Lib.hid hcall
  rw [hnk] at hr2
  have HNK := Lib.hid hnk
  clear hG hr1 hr3 hr4 hC hbad hcall hnk
  have HST : Hid (Blk (w.alloc (.cells #[.int .i64 0, .int .i64 0] 84)) w.heap.size 84 #[.int .i64 0, .int .i64 0] ∧ Below w.heap.size w (w.alloc (.cells #[.int .i64 0, .int .i64 0] 84))) := Lib.hid ⟨Blk.new w 84 #[.int .i64 0, .int .i64 0], (Below.refl _ w).alloc (Nat.le_refl _) _⟩
  go_enter Tryd.func51, Tryd.ntmps51
  go_wp2
  go_loopg [12] nk (fun gk s12 wr => ∃ i : Nat, i ≤ nk ∧ gk = nk - i ∧ s12 = .int .i64 i ∧ Hid (∀ x ∈ l.take i, gd x) ∧ Hid (Blk wr w.heap.size 84 #[.int .i64 0, .int .i64 0] ∧ Below w.heap.size w wr))
  case atStart => exact ⟨0, Nat.zero_le _, rfl, by go_num, Lib.hid (fun x h => by simp at h), HST⟩
  case round =>
    obtain ⟨i, hi, hgk, rfl, HGD, HB⟩ := hrel
    have HG := Lib.hid hgk
    clear hgk
    obtain ⟨c1, f1, l1⟩ := HB.out.1.rules
    by_cases hlt : i < nk
    · obtain ⟨x, hx⟩ : ∃ x, l[i]? = some x := ⟨_, List.getElem?_eq_getElem (by rw [HNK.out]; exact hlt)⟩
      obtain ⟨b, o, k1, n1, s1, A1, na1, ca1, B1, nb1, cb1, rfl, hb, hvx, hz⟩ := HIH.out i x hx
      obtain ⟨q0, q1, q2, q3, q4⟩ := hz _ HB.out.2
      have hbA := (Below.refl wr.heap.size wr).alloc (Nat.le_refl _) (.cells #[.int .i64 k1, .int .i64 n1, .string s1, .slice A1 na1 ca1, .slice B1 nb1 cb1] 28)
      have HB2 := Lib.hid (HB.out.2.trans (hbA.mono HB.out.2.size))
      have hck := HCK.out x (List.mem_of_getElem? hx) _ HB2.out _ (hvx.bel HB2.out)
      have hb1 : b < wr.heap.size := Nat.lt_of_lt_of_le hb HB.out.2.size
      have HTK := Lib.hid (show gd x → ∀ y ∈ l.take (i + 1), gd y from fun g y hy => by
        rw [List.take_add_one, hx] at hy
        rcases List.mem_append.1 hy with hy | hy
        · exact HGD.out y hy
        · obtain rfl : y = x := by simpa using hy
          exact g)
      have HXM := Lib.hid (List.mem_of_getElem? hx)
      have HBB := Lib.hid (HB.out.1.alloc (.cells #[.int .i64 k1, .int .i64 n1, .string s1, .slice A1 na1 ca1, .slice B1 nb1 cb1] 28))
      clear hz hvx hx hbA
      by_cases hg : gd x
      · rw [show chkJ x = 0 from if_pos hg] at hck
        have HCL := Lib.hid hck
        clear hck
        go_wp2_with fail
        refine HCL.out.mono ?_
        rintro e w2 ⟨rfl, hb2⟩
        have HB3 := Lib.hid (HB2.out.trans (hb2.mono HB2.out.size))
        have HBC := Lib.hid (HBB.out.keep hb2)
        clear hb2
        go_wp2
        go_roundg (nk - (i + 1))
        case measure => rw [HG.out]; omega
        case rel => exact ⟨i + 1, hlt, rfl, by go_num, Lib.hid (HTK.out hg), Lib.hid ⟨HBC.out, HB3.out⟩⟩
      · rw [show chkJ x = 140 from if_neg hg] at hck
        have HCL := Lib.hid hck
        clear hck
        go_wp2_with fail
        refine HCL.out.mono ?_
        rintro e w2 ⟨rfl, hb2⟩
        have HB3 := Lib.hid (HB2.out.trans (hb2.mono HB2.out.size))
        have HXB := Lib.hid (HBAD.out ⟨x, HXM.out, hg⟩)
        have hbc := HBB.out.keep hb2
        clear c1 f1 l1
        obtain ⟨c1, f1, l1⟩ := hbc.rules
        have HNEW := Lib.hid (Blk.new w2 84 #[.int .i64 0, .int .i64 0])
        have h0 := v2_bel HB3.out (Nat.le_refl w.heap.size) (.int .i64 0) (.int .i64 0)
        have HBA := Lib.hid (h0.alloc h0.size (.cells #[.int .i64 0, .int .i64 0] 84))
        clear h0
        have hbp := v2_put (hbc.alloc (.cells #[.int .i64 0, .int .i64 0] 84)) (.int .i64 0) (.int .i64 0)
        have HBP := Lib.hid hbp
        have hne : w.heap.size ≠ w2.heap.size := by omega
        clear hb2 hbc hbp
        go_wp2
        obtain ⟨c2, f2, l2⟩ := HBP.out.rules
        refine bodyPost_ret (v := .tuple #[.agg #[.int .i64 0, .int .i64 0], .int .i64 140]) (by simp only [results, Tryd.results51]; go_simp) rfl ?_
        exact ⟨HXB.out, HBA.out⟩
    · obtain rfl : i = nk := by omega
      have hall := HGD.out
      rw [List.take_of_length_le (Nat.le_of_eq HNK.out)] at hall
      have HCC := Lib.hid (HCALL.out hall _ HB.out.2)
      clear hall
      go_wp2_with fail
      refine HCC.out.mono ?_
      rintro e w2 ⟨⟨p, q, b, rfl, hq⟩, hb2⟩
      have hbc := HB.out.1.keep hb2
      have HB3 := Lib.hid (HB.out.2.trans (hb2.mono HB.out.2.size))
      clear c1 f1 l1
      obtain ⟨c1, f1, l1⟩ := hbc.rules
      have HBA := Lib.hid (v2_bel HB3.out (Nat.le_refl w.heap.size) (.int .i64 p) (.int .i64 q))
      have hbp := v2_put hbc (.int .i64 p) (.int .i64 q)
      have HBP := Lib.hid hbp
      have HQ := Lib.hid hq
      clear hq hb2 hbc hbp
      go_wp2
      obtain ⟨c2, f2, l2⟩ := HBP.out.rules
      refine bodyPost_ret (v := .tuple #[.agg #[.int .i64 p, .int .i64 q], .int .i64 b]) (by simp only [results, Tryd.results51]; go_simp) rfl ?_
      exact ⟨HQ.out, HBA.out⟩
set_option maxRecDepth 100000 in
set_option maxHeartbeats 4000000 in
theorem toldV (l : List JV) (A : Option Addr) (nk ca : Nat) (c0 c1 : Value) (w : World) (hG : GOK w) (hr : RowV w A ca l) (hnk : l.length = nk) (hC : ∀ x ∈ l, Came x) (hlen : nk ≤ 4194304) (Q : Ending → Prop)
    (hbad : (∃ x ∈ l, ¬ gd x) → Q (.returned (.tuple #[.agg #[.int .i64 0, .int .i64 0, .string ⟨#[]⟩, .slice none 0 0, .slice none 0 0], .int .i64 140])))
    (hcall : (∀ x ∈ l, gd x) → ∀ W, Below w.heap.size w W → Calls Tryd.prog 49 #[c0, c1] W (fun e w' => (∃ (k n : Int) (s : ByteArray) (A2 : Option Addr) (na2 ca2 : Nat) (B2 : Option Addr) (nb2 cb2 : Nat) (b : Int), e = .returned (.tuple #[.agg #[.int .i64 k, .int .i64 n, .string s, .slice A2 na2 ca2, .slice B2 nb2 cb2], .int .i64 b]) ∧ Q (.returned (.tuple #[.agg #[.int .i64 k, .int .i64 n, .string s, .slice A2 na2 ca2, .slice B2 nb2 cb2], .int .i64 b]))) ∧ Below W.heap.size W w')) :
    Calls Tryd.prog 48 #[.slice A nk ca, .func (.func 49) #[] #[c0, c1]] w (fun e w' => Q e ∧ Below w.heap.size w w') := by
  obtain ⟨css, hr1, hr2, hr3, hr4⟩ := hr
  have HIH := Lib.hid (fun (i : Nat) (x : JV) (hx : l[i]? = some x) => kid_cellsG hr1 hr4 hx)
  have HCK := Lib.hid (fun (x : JV) (hx : x ∈ l) (W : World) (h : Below w.heap.size w W) (cs : List Value) (hv : VR W TT cs x) => vCheckG x cs TT W (hG.keep h) hv (hC x hx))
  have HBAD := Lib.hid hbad
  have HCALL := Lib.hid hcall
  rw [hnk] at hr2
  have HNK := Lib.hid hnk
  clear hG hr1 hr3 hr4 hC hbad hcall hnk
  have HST : Hid (Blk (w.alloc (.cells #[.int .i64 0, .int .i64 0, .string ⟨#[]⟩, .slice none 0 0, .slice none 0 0] 28)) w.heap.size 28 #[.int .i64 0, .int .i64 0, .string ⟨#[]⟩, .slice none 0 0, .slice none 0 0] ∧ Below w.heap.size w (w.alloc (.cells #[.int .i64 0, .int .i64 0, .string ⟨#[]⟩, .slice none 0 0, .slice none 0 0] 28))) := Lib.hid ⟨Blk.new w 28 #[.int .i64 0, .int .i64 0, .string ⟨#[]⟩, .slice none 0 0, .slice none 0 0], (Below.refl _ w).alloc (Nat.le_refl _) _⟩
  go_enter Tryd.func48, Tryd.ntmps48
  go_wp2
  go_loopg [12] nk (fun gk s12 wr => ∃ i : Nat, i ≤ nk ∧ gk = nk - i ∧ s12 = .int .i64 i ∧ Hid (∀ x ∈ l.take i, gd x) ∧ Hid (Blk wr w.heap.size 28 #[.int .i64 0, .int .i64 0, .string ⟨#[]⟩, .slice none 0 0, .slice none 0 0] ∧ Below w.heap.size w wr))
  case atStart => exact ⟨0, Nat.zero_le _, rfl, by go_num, Lib.hid (fun x h => by simp at h), HST⟩
  case round =>
    obtain ⟨i, hi, hgk, rfl, HGD, HB⟩ := hrel
    have HG := Lib.hid hgk
    clear hgk
    obtain ⟨c1, f1, l1⟩ := HB.out.1.rules
    by_cases hlt : i < nk
    · obtain ⟨x, hx⟩ : ∃ x, l[i]? = some x := ⟨_, List.getElem?_eq_getElem (by rw [HNK.out]; exact hlt)⟩
      obtain ⟨b, o, k1, n1, s1, A1, na1, ca1, B1, nb1, cb1, rfl, hb, hvx, hz⟩ := HIH.out i x hx
      obtain ⟨q0, q1, q2, q3, q4⟩ := hz _ HB.out.2
      have hbA := (Below.refl wr.heap.size wr).alloc (Nat.le_refl _) (.cells #[.int .i64 k1, .int .i64 n1, .string s1, .slice A1 na1 ca1, .slice B1 nb1 cb1] 28)
      have HB2 := Lib.hid (HB.out.2.trans (hbA.mono HB.out.2.size))
      have hck := HCK.out x (List.mem_of_getElem? hx) _ HB2.out _ (hvx.bel HB2.out)
      have hb1 : b < wr.heap.size := Nat.lt_of_lt_of_le hb HB.out.2.size
      have HTK := Lib.hid (show gd x → ∀ y ∈ l.take (i + 1), gd y from fun g y hy => by
        rw [List.take_add_one, hx] at hy
        rcases List.mem_append.1 hy with hy | hy
        · exact HGD.out y hy
        · obtain rfl : y = x := by simpa using hy
          exact g)
      have HXM := Lib.hid (List.mem_of_getElem? hx)
      have HBB := Lib.hid (HB.out.1.alloc (.cells #[.int .i64 k1, .int .i64 n1, .string s1, .slice A1 na1 ca1, .slice B1 nb1 cb1] 28))
      clear hz hvx hx hbA
      by_cases hg : gd x
      · rw [show chkJ x = 0 from if_pos hg] at hck
        have HCL := Lib.hid hck
        clear hck
        go_wp2_with fail
        refine HCL.out.mono ?_
        rintro e w2 ⟨rfl, hb2⟩
        have HB3 := Lib.hid (HB2.out.trans (hb2.mono HB2.out.size))
        have HBC := Lib.hid (HBB.out.keep hb2)
        clear hb2
        go_wp2
        go_roundg (nk - (i + 1))
        case measure => rw [HG.out]; omega
        case rel => exact ⟨i + 1, hlt, rfl, by go_num, Lib.hid (HTK.out hg), Lib.hid ⟨HBC.out, HB3.out⟩⟩
      · rw [show chkJ x = 140 from if_neg hg] at hck
        have HCL := Lib.hid hck
        clear hck
        go_wp2_with fail
        refine HCL.out.mono ?_
        rintro e w2 ⟨rfl, hb2⟩
        have HB3 := Lib.hid (HB2.out.trans (hb2.mono HB2.out.size))
        have HXB := Lib.hid (HBAD.out ⟨x, HXM.out, hg⟩)
        have hbc := HBB.out.keep hb2
        clear c1 f1 l1
        obtain ⟨c1, f1, l1⟩ := hbc.rules
        have HNEW := Lib.hid (Blk.new w2 28 #[.int .i64 0, .int .i64 0, .string ⟨#[]⟩, .slice none 0 0, .slice none 0 0])
        have h0 := v5_bel HB3.out (Nat.le_refl w.heap.size) (.int .i64 0) (.int .i64 0) (.string ⟨#[]⟩) (.slice none 0 0) (.slice none 0 0)
        have HBA := Lib.hid (h0.alloc h0.size (.cells #[.int .i64 0, .int .i64 0, .string ⟨#[]⟩, .slice none 0 0, .slice none 0 0] 28))
        clear h0
        have hbp := v5_put (hbc.alloc (.cells #[.int .i64 0, .int .i64 0, .string ⟨#[]⟩, .slice none 0 0, .slice none 0 0] 28)) (.int .i64 0) (.int .i64 0) (.string ⟨#[]⟩) (.slice none 0 0) (.slice none 0 0)
        have HBP := Lib.hid hbp
        have hne : w.heap.size ≠ w2.heap.size := by omega
        clear hb2 hbc hbp
        go_wp2
        obtain ⟨c2, f2, l2⟩ := HBP.out.rules
        refine bodyPost_ret (v := .tuple #[.agg #[.int .i64 0, .int .i64 0, .string ⟨#[]⟩, .slice none 0 0, .slice none 0 0], .int .i64 140]) (by simp only [results, Tryd.results48]; go_simp) rfl ?_
        exact ⟨HXB.out, HBA.out⟩
    · obtain rfl : i = nk := by omega
      have hall := HGD.out
      rw [List.take_of_length_le (Nat.le_of_eq HNK.out)] at hall
      have HCC := Lib.hid (HCALL.out hall _ HB.out.2)
      clear hall
      go_wp2_with fail
      refine HCC.out.mono ?_
      rintro e w2 ⟨⟨k, n, s, A2, na2, ca2, B2, nb2, cb2, b, rfl, hq⟩, hb2⟩
      have hbc := HB.out.1.keep hb2
      have HB3 := Lib.hid (HB.out.2.trans (hb2.mono HB.out.2.size))
      clear c1 f1 l1
      obtain ⟨c1, f1, l1⟩ := hbc.rules
      have HBA := Lib.hid (v5_bel HB3.out (Nat.le_refl w.heap.size) (.int .i64 k) (.int .i64 n) (.string s) (.slice A2 na2 ca2) (.slice B2 nb2 cb2))
      have hbp := v5_put hbc (.int .i64 k) (.int .i64 n) (.string s) (.slice A2 na2 ca2) (.slice B2 nb2 cb2)
      have HBP := Lib.hid hbp
      have HQ := Lib.hid hq
      clear hq hb2 hbc hbp
      go_wp2
      obtain ⟨c2, f2, l2⟩ := HBP.out.rules
      refine bodyPost_ret (v := .tuple #[.agg #[.int .i64 k, .int .i64 n, .string s, .slice A2 na2 ca2, .slice B2 nb2 cb2], .int .i64 b]) (by simp only [results, Tryd.results48]; go_simp) rfl ?_
      exact ⟨HQ.out, HBA.out⟩
end Go.Proofs.YtoejdhabpajhlaaDoor
