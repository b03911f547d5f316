/- The walks of davenportlaw07's helpers: in, list, some, right, same. -/
import Derived.Test.YtbaogoiiekpgiaaDoorFrontG
import Derived.Test.YtbaogoiiekpgiaaDoorBase
import Derived.Test.YtbaogoiiekpgiaaDoorEqG
import Derived.Deep.RegionHeld3
namespace Go.Proofs.YtbaogoiiekpgiaaDoor
set_option linter.unusedVariables false
set_option linter.unusedSimpArgs false
open Go.RowKit
attribute [local go_sem] run_index_arr run_part_agg run_part_one run_field_agg

theorem bel_gb {w w' : World} (h : w.grownBy w' none) : Below w.heap.size w w' := ⟨h.os, h.tape, h.output, h.size, fun k hk => h.block k hk (by simp)⟩
/-- a whole number -/
def jIn (n : Int) : JV := .mk 3 n [] [] []
def jList (l : List JV) : JV := .mk 5 0 [] l []
def InPost (n : Int) (w : World) (e : Ending) (w' : World) : Prop := e = .returned (.agg #[.int .i64 3, .int .i64 n, .string ⟨#[]⟩, .slice none 0 0, .slice none 0 0]) ∧ Below w.heap.size w w'
set_option maxRecDepth 100000 in
set_option maxHeartbeats 4000000 in
theorem lIn (n : Int) (w : World) : Calls Tryd.prog 45 #[.int .i64 n] w (InPost n w) := by
  have HZ := Lib.hid ((Below.refl w.heap.size w).alloc (Nat.le_refl _) (.cells #[.int .i64 3, .int .i64 n, .string ⟨#[]⟩, .slice none 0 0, .slice none 0 0] 28))
  go_enter Tryd.func45, Tryd.ntmps45
  go_wp2
  refine bodyPost_ret (v := .agg #[.int .i64 3, .int .i64 n, .string ⟨#[]⟩, .slice none 0 0, .slice none 0 0]) (by simp only [results, Tryd.results45]; go_simp) rfl ?_
  exact ⟨rfl, HZ.out⟩
def ListPost (A : Option Addr) (nk ca : Nat) (w : World) (e : Ending) (w' : World) : Prop := e = .returned (.agg #[.int .i64 5, .int .i64 0, .string ⟨#[]⟩, .slice A nk ca, .slice none 0 0]) ∧ Below w.heap.size w w'
set_option maxRecDepth 100000 in
set_option maxHeartbeats 4000000 in
theorem lList (A : Option Addr) (nk ca : Nat) (w : World) : Calls Tryd.prog 33 #[.slice A nk ca] w (ListPost A nk ca w) := by
  have HZ := Lib.hid ((Below.refl w.heap.size w).alloc (Nat.le_refl _) (.cells #[.int .i64 5, .int .i64 0, .string ⟨#[]⟩, .slice A nk ca, .slice none 0 0] 28))
  go_enter Tryd.func33, Tryd.ntmps33
  go_wp2
  refine bodyPost_ret (v := .agg #[.int .i64 5, .int .i64 0, .string ⟨#[]⟩, .slice A nk ca, .slice none 0 0]) (by simp only [results, Tryd.results33]; go_simp) rfl ?_
  exact ⟨rfl, HZ.out⟩
/-- five cells are a list -/
theorem VR.list_ {w : World} {A : Option Addr} {ca : Nat} {l : List JV} {n : Nat} (h : RowV w A ca l) (hn : n = l.length) : VR w TT [.int .i64 5, .int .i64 0, .string ⟨#[]⟩, .slice A n ca, .slice none 0 0] (jList l) := by
  obtain ⟨css, h1, h2, h3, h4⟩ := h
  exact VR.into 5 0 [] h1 h2 (Nat.le_refl 0) h3 (fun _ => rfl) h4 RdF.nil hn rfl
theorem VR.in_ {w : World} (n : Int) : VR w TT [.int .i64 3, .int .i64 n, .string ⟨#[]⟩, .slice none 0 0, .slice none 0 0] (jIn n) := VR.atom 3 n []
theorem infoValue7 : (Tryd.prog.info? 28).map (fun i => (i.zero, i.size, i.bytes)) = some (some (.agg #[.int .i64 0, .int .i64 0, .string ⟨#[]⟩, .slice none 0 0, .slice none 0 0]), 5, 80) := by kernel_rfl
/-- a row that a call owns -/
theorem RowV.own {w : World} {base : Nat} {e : TypeId} {v : Value} {l : List JV} {n : Nat} {css : List (List Value)} (h : w.ownsRow base e 5 v n css.flatten) (hn : n = l.length) (hv : VRs w TT css l) : ∃ A cap, v = .slice A n cap ∧ RowV w A cap l := by
  obtain ⟨A0, c0, e0, _, hr0⟩ := Rd.of_own h
  rcases h.2 with ⟨rfl, h0⟩ | ⟨g, cap, cur, rfl, hcap, hg, hnc, _, _, _⟩
  · have hl : l = [] := List.eq_nil_of_length_eq_zero (by omega)
    subst hl h0
    exact ⟨none, 0, rfl, css, hv, Nat.zero_le _, fun _ => rfl, fun hne => absurd (by
      have h5 := hv.flat
      exact List.eq_nil_of_length_eq_zero (by rw [h5]; rfl)) hne⟩
  · injection e0 with e1 e2 e3
    subst e1 e3
    exact ⟨some ⟨g, 0, none⟩, cap, rfl, css, hv, by omega, fun e => by simp at e, fun hne => by
      obtain ⟨b, o, q1, q2, q3⟩ := hr0 hne
      exact ⟨b, o, q1, q2, trivial, q3⟩⟩
/-- a row is answered -/
def RetV (l : List JV) (w : World) (e : Ending) (w' : World) : Prop := ∃ A cap, e = .returned (.slice A l.length cap) ∧ RowV w' A cap l ∧ Below w.heap.size w w'
theorem RowV.take {w : World} {A : Option Addr} {ca : Nat} {l : List JV} (h : RowV w A ca l) (n : Nat) : ∃ css, VRs w TT css (l.take n) ∧ RdF w TT A css.flatten := by
  obtain ⟨css, h1, h2, h3, h4⟩ := h
  rw [flat_take css n] at h4
  exact ⟨css.take n, h1.take n, h4.pre⟩
set_option maxRecDepth 100000 in
set_option maxHeartbeats 4000000 in
theorem lSome (l : List JV) (A : Option Addr) (nk ca : Nat) (w : World) (hr : RowV w A ca l) (hnk : l.length = nk) (hlen : nk ≤ 4194304) : Calls Tryd.prog 21 #[.slice A nk ca] w (RetV (l.take 20) w) := by
  obtain ⟨css, t1, t2⟩ := hr.take 20
  obtain ⟨_, _, h2, h3, _⟩ := hr
  obtain ⟨m, hm⟩ : ∃ m, (l.take 20).length = m := ⟨_, rfl⟩
  have hm2 : m = min nk 20 := by rw [← hm, List.length_take, hnk]; omega
  obtain ⟨i0, hi, hz0, hz1, hz2⟩ := info_parts infoValue7
  have hA0 : A = none → m = 0 := fun e => by have := h3 e; omega
  have hflat := t1.flat
  rw [hm] at hflat
  have hrd := t2.rd
  have hone := t1.one
  have HEND := Lib.hid (fun (v' : Value) (w1 : World) (hown : w1.ownsRow w.heap.size 28 5 v' m css.flatten) (hgr : (w.alloc (.cells #[] 28)).grownBy w1 (some w.heap.size)) =>
    show RetV (l.take 20) w (.returned v') w1 by
      have hk : KeepF (fun b => b < w.heap.size) w w1 := (KeepF.of_below ((Below.refl w.heap.size w).alloc (Nat.le_refl _) _)).trans (KeepF.of_grown hgr (fun b hb e => by injection e with e; omega))
      have hv1 : VRs w1 TT css (l.take 20) := ((t1.mono (F' := fun b => b < w.heap.size) fun b hb _ => hb).keep hk).mono fun _ _ _ => trivial
      obtain ⟨A', cap', e1, e2⟩ := RowV.own hown hm.symm hv1
      exact ⟨A', cap', by rw [e1, hm], e2, ((Below.refl _ w).alloc (Nat.le_refl _) _).grown hgr (by simp) (fun k e => by cases e; exact Nat.le_refl _)⟩)
  have HR := Lib.hid hrd
  have HF := Lib.hid hflat
  have HO := Lib.hid hone
  have HI := Lib.hid hi
  have HA := Lib.hid hA0
  rw [hnk] at h2
  clear t1 t2 hrd hflat hone hi hA0 hm h3 hnk
  by_cases hlt : nk ≤ 20
  · obtain rfl : m = nk := by omega
    have hmi : min (m : Int) 20 = (m : Int) := by omega
    have hmc : ¬ (ca : Int) < m := by omega
    clear hm2
    go_enter Tryd.func21, Tryd.ntmps21
    go_wp2_with (at_builtin; refine wpList_append_rd _ rfl _ _ 25 rfl w.heap.size 28 i0 _ 5 80 Tryd.underlying25 HI.out hz0 hz1 hz2 rfl (by decide) _ 0 [] rfl (World.ownsRow_made w #[] 0 (Nat.le_refl _) (by decide) rfl) A m ca HA.out css.flatten rfl HF.out (HR.out.alloc _) HO.out (by unfold maxLen; omega) (by omega) (by simp) ?_; intro v' w1 hown hgr _)
    rw [Nat.zero_add, List.nil_append] at hown
    have HX := Lib.hid (HEND.out v' w1 hown hgr)
    go_ret
    exact HX.out
  · obtain rfl : m = 20 := by omega
    have hmi : min (nk : Int) 20 = 20 := by omega
    have hmc : ¬ (ca : Int) < 20 := by omega
    have hc2 : 20 ≤ ca := by omega
    have hne : A ≠ none := fun e => by have := HA.out e; omega
    obtain ⟨a, rfl⟩ : ∃ a, A = some a := Option.ne_none_iff_exists'.1 hne
    clear hm2 hne
    go_enter Tryd.func21, Tryd.ntmps21
    go_wp2_with (at_builtin; refine wpList_append_rd _ rfl _ _ 25 rfl w.heap.size 28 i0 _ 5 80 Tryd.underlying25 HI.out hz0 hz1 hz2 rfl (by decide) _ 0 [] rfl (World.ownsRow_made w #[] 0 (Nat.le_refl _) (by decide) rfl) (some a) 20 ca HA.out css.flatten rfl HF.out (HR.out.alloc _) HO.out (by unfold maxLen; omega) (by omega) (by simp) ?_; intro v' w1 hown hgr _)
    rw [Nat.zero_add, List.nil_append] at hown
    have HX := Lib.hid (HEND.out v' w1 hown hgr)
    go_ret
    exact HX.out
/-- all of them may be -/
def allG (l : List JV) : Bool := l.all good
theorem allG_iff {l : List JV} : allG l = true ↔ ∀ x ∈ l, gd x := by unfold allG gd; rw [List.all_eq_true]
set_option maxRecDepth 100000 in
set_option maxHeartbeats 4000000 in
theorem lRight (l : List JV) (A : Option Addr) (nk ca : Nat) (w : World) (hr : RowV w A ca l) (hnk : l.length = nk) (hC : ∀ x ∈ l, Came x) (hlen : nk ≤ 4194304) :
    Calls Tryd.prog 19 #[.slice A nk ca] w (BoolS (allG l) w) := by
  obtain ⟨css, hr1, hr2, hr3, hr4⟩ := hr
  have HIH := Lib.hid (fun (i : Nat) (x : JV) (hx : l[i]? = some x) => kid_cellsG hr1 hr4 hx)
  have HCK := Lib.hid (fun (x : JV) (hx : x ∈ l) (W : World) (cs : List Value) (hv : VR W TT cs x) => rRightG x cs TT W hv (hC x hx))
  obtain ⟨R, hR⟩ : ∃ R, allG l = R := ⟨_, rfl⟩
  rw [hR]
  have HR := Lib.hid hR
  rw [hnk] at hr2
  have HNK := Lib.hid hnk
  clear hr1 hr3 hr4 hC hnk hR
  go_enter Tryd.func19, Tryd.ntmps19
  go_wp2
  go_loopg [7] nk (fun gk s7 wr => ∃ i : Nat, i ≤ nk ∧ gk = nk - i ∧ s7 = .int .i64 i ∧ Hid (∀ x ∈ l.take i, gd x) ∧ Hid (Below w.heap.size w wr))
  case atStart => exact ⟨0, Nat.zero_le _, rfl, by go_num, Lib.hid (fun x h => by simp at h), Lib.hid (Below.refl _ _)⟩
  case round =>
    obtain ⟨i, hi, hgk, rfl, HGD, HB⟩ := hrel
    have HG := Lib.hid hgk
    clear hgk
    by_cases hlt : i < nk
    · obtain ⟨x, hx⟩ : ∃ x, l[i]? = some x := ⟨_, List.getElem?_eq_getElem (by rw [HNK.out]; exact hlt)⟩
      obtain ⟨b, o, k1, n1, s1, A1, na1, ca1, B1, nb1, cb1, rfl, hb, hvx, hz⟩ := HIH.out i x hx
      obtain ⟨q0, q1, q2, q3, q4⟩ := hz _ HB.out
      have hbA := (Below.refl wr.heap.size wr).alloc (Nat.le_refl _) (.cells #[.int .i64 k1, .int .i64 n1, .string s1, .slice A1 na1 ca1, .slice B1 nb1 cb1] 28)
      have HB2 := Lib.hid (HB.out.trans (hbA.mono HB.out.size))
      have hck := HCK.out x (List.mem_of_getElem? hx) _ _ (hvx.bel HB2.out)
      have hb1 : b < wr.heap.size := Nat.lt_of_lt_of_le hb HB.out.size
      have HTK := Lib.hid (show gd x → ∀ y ∈ l.take (i + 1), gd y from fun g y hy => by
        rw [List.take_add_one, hx] at hy
        rcases List.mem_append.1 hy with hy | hy
        · exact HGD.out y hy
        · obtain rfl : y = x := by simpa using hy
          exact g)
      have HXM := Lib.hid (List.mem_of_getElem? hx)
      clear hz hvx hx hbA
      by_cases hg : gd x
      · rw [show good x = true from hg] at hck
        have HCL := Lib.hid hck
        clear hck
        go_wp2_with fail
        refine HCL.out.mono ?_
        rintro e w2 ⟨rfl, hb2⟩
        have HB3 := Lib.hid (HB2.out.trans (hb2.mono HB2.out.size))
        clear hb2
        go_wp2
        go_roundg (nk - (i + 1))
        case measure => rw [HG.out]; omega
        case rel => exact ⟨i + 1, hlt, rfl, by go_num, Lib.hid (HTK.out hg), HB3⟩
      · rw [gd.not hg] at hck
        have HCL := Lib.hid hck
        have HRF := Lib.hid (show R = false by
          rw [← HR.out]
          cases h : allG l with
          | false => rfl
          | true => exact absurd (allG_iff.1 h x HXM.out) hg)
        clear hck
        go_wp2_with fail
        refine HCL.out.mono ?_
        rintro e w2 ⟨rfl, hb2⟩
        have HB3 := Lib.hid (HB2.out.trans (hb2.mono HB2.out.size))
        clear hb2
        go_wp2
        go_ret
        exact ⟨ret_bool HRF.out.symm, HB3.out⟩
    · obtain rfl : i = nk := by omega
      have HRT := Lib.hid (show R = true by
        rw [← HR.out, allG_iff]
        have hall := HGD.out
        rwa [List.take_of_length_le (Nat.le_of_eq HNK.out)] at hall)
      go_wp2
      go_ret
      exact ⟨ret_bool HRT.out.symm, HB.out⟩
set_option maxRecDepth 100000 in
set_option maxHeartbeats 4000000 in
theorem lSame (l l' : List JV) (A A' : Option Addr) (nk nkq ca ca' : Nat) (w : World) (hr : RowV w A ca l) (hr' : RowV w A' ca' l') (hnk : l.length = nk) (hnkq : l'.length = nkq) (hC : ∀ x ∈ l, Came x) (hC' : ∀ x ∈ l', Came x) (hg : ∀ x ∈ l, gd x) (hg' : ∀ x ∈ l', gd x) (hlen : nk ≤ 4194304) (hlen' : nkq ≤ 4194304) :
    Calls Tryd.prog 25 #[.slice A nk ca, .slice A' nkq ca'] w (EqS (l = l') w) := by
  obtain ⟨css, hr1, hr2, hr3, hr4⟩ := hr
  obtain ⟨css', hr1', hr2', hr3', hr4'⟩ := hr'
  have HIH := Lib.hid (fun (i : Nat) (x : JV) (hx : l[i]? = some x) => kid_cellsG hr1 hr4 hx)
  have HIH' := Lib.hid (fun (i : Nat) (x : JV) (hx : l'[i]? = some x) => kid_cellsG hr1' hr4' hx)
  have HEQ := Lib.hid (fun (x y : JV) (hx : x ∈ l) (hy : y ∈ l') (W : World) (cs cs' : List Value) (hv : VR W TT cs x) (hv' : VR W TT cs' y) =>
    show Calls Tryd.prog 30 #[.agg cs.toArray, .agg cs'.toArray] W (EqS (x = y) W) from (rSameG x y cs cs' TT TT W hv hv' (hC x hx) (hC' y hy)).mono fun e w' ⟨t, h1, h2, h3⟩ => ⟨t, h1, by rw [h2]; exact ⟨fun h => h.2.2, fun h => ⟨hg x hx, hg' y hy, h⟩⟩, h3⟩)
  rw [hnk] at hr2
  rw [hnkq] at hr2'
  have HNK := Lib.hid hnk
  have HNKQ := Lib.hid hnkq
  clear hr1 hr3 hr4 hr1' hr3' hr4' hC hC' hg hg' hnk hnkq
  by_cases el : nk = nkq
  case neg =>
    have HNO := Lib.hid (show ¬ (l = l') from fun e => el (by rw [← HNK.out, ← HNKQ.out, e]))
    have hb1 : ((nk : Int) == nkq) = false := by simp; omega
    have hb2 : ((nk : Int) != nkq) = true := by simp; omega
    go_enter Tryd.func25, Tryd.ntmps25
    go_wp2
    go_ret
    exact EqS.no HNO.out (Below.refl _ _)
  subst el
  go_enter Tryd.func25, Tryd.ntmps25
  go_wp2
  go_loopg [13] nk (fun gk s13 wr => ∃ i : Nat, i ≤ nk ∧ gk = nk - i ∧ s13 = .int .i64 i ∧ Hid (l.take i = l'.take i) ∧ Hid (Below w.heap.size w wr))
  case atStart => exact ⟨0, Nat.zero_le _, rfl, by go_num, Lib.hid rfl, Lib.hid (Below.refl _ _)⟩
  case round =>
    obtain ⟨i, hi, hgk, rfl, HSM, HB⟩ := hrel
    have HG := Lib.hid hgk
    clear hgk
    by_cases hlt : i < nk
    · obtain ⟨x, hx⟩ : ∃ x, l[i]? = some x := ⟨_, List.getElem?_eq_getElem (by rw [HNK.out]; exact hlt)⟩
      obtain ⟨y, hy⟩ : ∃ y, l'[i]? = some y := ⟨_, List.getElem?_eq_getElem (by rw [HNKQ.out]; exact hlt)⟩
      obtain ⟨b, o, k1, n1, s1, A1, na1, ca1, B1, nb1, cb1, rfl, hb, hvx, hz⟩ := HIH.out i x hx
      obtain ⟨b', o', k2, n2, s2, A2, na2, ca2, B2, nb2, cb2, rfl, hb', hvx', hz'⟩ := HIH'.out i y hy
      obtain ⟨q0, q1, q2, q3, q4⟩ := hz _ HB.out
      obtain ⟨p0, p1, p2, p3, p4⟩ := hz' _ HB.out
      have HCL := Lib.hid (fun W (h : Below wr.heap.size wr W) => HEQ.out x y (List.mem_of_getElem? hx) (List.mem_of_getElem? hy) W _ _ (hvx.bel (HB.out.trans (h.mono HB.out.size))) (hvx'.bel (HB.out.trans (h.mono HB.out.size))))
      have HXY := Lib.hid (show x = y → l.take (i + 1) = l'.take (i + 1) from fun e => by rw [List.take_add_one, List.take_add_one, HSM.out, hx, hy, e])
      have HXN := Lib.hid (show x ≠ y → ¬ l = l' from fun e h => e (by rw [h, hy] at hx; exact (Option.some.inj hx).symm))
      have hb1 : b < wr.heap.size := Nat.lt_of_lt_of_le hb HB.out.size
      have hb1' : b' < wr.heap.size := Nat.lt_of_lt_of_le hb' HB.out.size
      have hj1 : (0 : Int) ≤ (i : Int) := by omega
      have hj2 : (i : Int) < (nk : Int) := by omega
      have HZ := Lib.hid hz
      have HZ' := Lib.hid hz'
      clear hz hz' hvx hvx' hx hy
      go_wp2
      go_region_held3 (fun w' => w'.cell? ⟨b, o + i * 5, none⟩ = some (.int .i64 k1) ∧ w'.cell? ⟨b, o + i * 5 + 1, none⟩ = some (.int .i64 n1) ∧ w'.cell? ⟨b, o + i * 5 + 2, none⟩ = some (.string s1) ∧ w'.cell? ⟨b, o + i * 5 + 3, none⟩ = some (.slice A1 na1 ca1) ∧ w'.cell? ⟨b, o + i * 5 + 4, none⟩ = some (.slice B1 nb1 cb1) ∧ w'.cell? ⟨b', o' + i * 5, none⟩ = some (.int .i64 k2) ∧ w'.cell? ⟨b', o' + i * 5 + 1, none⟩ = some (.int .i64 n2) ∧ w'.cell? ⟨b', o' + i * 5 + 2, none⟩ = some (.string s2) ∧ w'.cell? ⟨b', o' + i * 5 + 3, none⟩ = some (.slice A2 na2 ca2) ∧ w'.cell? ⟨b', o' + i * 5 + 4, none⟩ = some (.slice B2 nb2 cb2)) (go_keep) ((go_at_call 30; refine (HCL.out _ (by exact bel_drewN (Below.refl _ _) _)).mono ?_; rintro e w2 ⟨tt, rfl, htt, hb2⟩; have HB3 := Lib.hid ((HB.out).trans ((Below.trans (bel_drewN (Below.refl wr.heap.size wr) _) hb2).mono HB.out.size)); have HTT := Lib.hid htt; obtain ⟨u0, u1, u2, u3, u4⟩ := HZ.out w2 HB3.out; obtain ⟨t0, t1, t2, t3, t4⟩ := HZ'.out w2 HB3.out; clear hb2 htt))
      all_goals
        cases tt with
        | true =>
          have HK := Lib.hid (HXY.out (HTT.out.1 (by trivial)))
          go_wp2
          go_roundg (nk - (i + 1))
          case measure => rw [HG.out]; omega
          case rel => exact ⟨i + 1, hlt, rfl, by go_num, HK, HB3⟩
        | false =>
          have HF := Lib.hid (HXN.out (fun e => by have := HTT.out.2 e; cases this))
          go_wp2
          go_ret
          exact EqS.no HF.out HB3.out
    · obtain rfl : i = nk := by omega
      have HF := Lib.hid (show l = l' by
        have e1 := HSM.out
        rwa [List.take_of_length_le (Nat.le_of_eq HNK.out), List.take_of_length_le (Nat.le_of_eq HNKQ.out)] at e1)
      go_wp2
      go_ret
      exact EqS.yes HF.out HB.out
end Go.Proofs.YtbaogoiiekpgiaaDoor
