import Derived.Test.YtgolomgmnanbpaaGreatDoorX14
import Derived.Test.YtgolomgmnanbpaaGreatDoorX08
import Derived.Test.YtgolomgmnanbpaaGreatDoorX11
namespace Go.Proofs.YtgolomgmnanbpaaGreatDoor
set_option linter.unusedVariables false
set_option linter.unusedSimpArgs false
open Go.RowKit
attribute [local go_sem] run_index_arr run_part_agg run_part_one run_field_agg
def inD : Nat → EJ → Prop
  | 0, _ => False
  | r + 1, .mk _ _ _ kids => ∀ x ∈ kids, inD r x
theorem inD_cut : ∀ (r : Nat) (x : EJ), inD (r + 1) (cutE r x)
  | 0, .mk k v s kids => by unfold cutE inD; intro x hx; cases hx
  | r + 1, .mk k v s kids => by
    unfold cutE inD
    intro x hx
    obtain ⟨y, _, rfl⟩ := List.mem_map.1 hx
    exact inD_cut r y
theorem hasL_iff {t : List UInt8} : ∀ {l : List EJ}, hasL t l = true ↔ ∃ x ∈ l, hasE t x = true
  | [] => by simp [hasL]
  | x :: r => by unfold hasL; rw [Bool.or_eq_true, hasL_iff (l := r)]; simp
theorem hasL_no {t : List UInt8} {l : List EJ} (h : ∀ x ∈ l, hasE t x = false) : hasL t l = false := by
  rw [Bool.eq_false_iff]
  intro e
  obtain ⟨x, hx, hh⟩ := hasL_iff.1 e
  rw [h x hx] at hh; cases hh
theorem str_is {s : List UInt8} {t : ByteArray} : ((ByteArray.mk s.toArray).toList == t.toList) = decide (s = sl t) := by
  rw [Bool.eq_iff_iff, beq_iff_eq, decide_eq_true_eq, ByteArray.toList_eq, ByteArray.toList_eq]
set_option maxRecDepth 100000 in
set_option maxHeartbeats 16000000 in
theorem lHas (t : ByteArray) : ∀ (r : Nat) (x : EJ) (cs : List Value) (w : World), inD r x → ER w TT cs x → camE x → Calls Tryz.prog 34 #[.agg cs.toArray, .string t] w (BoolS (hasE (sl t) x) w) := by
  intro r
  induction r with
  | zero => intro x cs w h; exact h.elim
  | succ r ih =>
    rintro ⟨k, v, s, kids⟩ cs w hd hx hcx
    obtain ⟨k1, n1, s1, A1, na1, ca1, B1, nb1, cb1, A, ca, css0, rfl, hv, h1, h2, h3, h4⟩ := hx.out
    unfold camE at hcx
    obtain ⟨_, _, _, hkl, hkc⟩ := hcx
    have HCK := Lib.hid (camEL_iff.1 hkc)
    have HD := Lib.hid (show ∀ x ∈ kids, inD r x from hd)
    have HKD := Lib.hid (And.intro h1 h4)
    have HIH := Lib.hid ih
    obtain ⟨nr, hnr⟩ : ∃ n, kids.length = n := ⟨_, rfl⟩
    have HNR := Lib.hid hnr
    rw [hnr] at hkl h2 ⊢
    have HH0 := Lib.hid ((Held.nil w).push 28 #[.int .i64 k, .int .i64 k1, .int .i64 n1, .string s1, .slice A1 na1 ca1, .slice B1 nb1 cb1, .string ⟨s.toArray⟩, .slice A nr ca] (g := w.heap.size) rfl)
    obtain ⟨g, hg⟩ : ∃ g, hasE (sl t) (.mk k v s kids) = g := ⟨_, rfl⟩
    have HGG := Lib.hid hg
    have HGE := Lib.hid (show hasE (sl t) (.mk k v s kids) = (decide (k = 2 ∧ s = sl t) || hasL (sl t) kids) by rw [hasE])
    rw [hg]
    clear hd hx hv h1 h4 hkc hnr ih hg
    obtain ⟨sv, hsv⟩ : ∃ b : ByteArray, (⟨s.toArray⟩ : ByteArray) = b := ⟨_, rfl⟩
    have hse : (sv.toList == t.toList) = decide (s = sl t) := by rw [← hsv]; exact str_is
    rw [hsv] at HH0 ⊢
    clear hsv
    obtain ⟨c0, f0, l0⟩ := HH0.out.b0.rules
    by_cases hkt : k = 2 ∧ s = sl t
    · obtain ⟨rfl, hst⟩ := hkt
      have hX : g = true := by rw [← HGG.out, HGE.out, decide_eq_true (⟨rfl, hst⟩ : (2 : Int) = 2 ∧ s = sl t)]; rfl
      rw [decide_eq_true hst] at hse
      clear hst HGG
      subst hX
      go_enter Tryz.func34, Tryz.ntmps34
      go_wp2
      go_ret
      exact ⟨rfl, HH0.out.1⟩
    have HGL := Lib.hid (show g = hasL (sl t) kids by rw [← HGG.out, HGE.out, decide_eq_false hkt]; rfl)
    have hcase : (k == 2) = false ∨ k = 2 ∧ (sv.toList == t.toList) = false := by
      by_cases hk : k = 2
      · exact .inr ⟨hk, by rw [hse]; exact decide_eq_false fun e => hkt ⟨hk, e⟩⟩
      · exact .inl (by simpa using hk)
    clear hse hkt HGG HGE
    rcases hcase with hk | ⟨rfl, hk⟩
    all_goals
      go_enter Tryz.func34, Tryz.ntmps34
      go_upto_region 4 with fail
      clear c0 f0 l0
      go_loopg [19] nr (fun gk s19 wr => ∃ (i : Nat), i ≤ nr ∧ gk = nr - i ∧ s19 = .int .i64 (i : Int) ∧ Hid (Below w.heap.size w wr) ∧ Hid (∀ x ∈ kids.take i, hasE (sl t) x = false))
      case atStart => exact ⟨0, Nat.zero_le _, by go_num, rfl, Lib.hid HH0.out.1, Lib.hid (by simp)⟩
      case round =>
        obtain ⟨i, hin, hgk, rfl, HWR, HNO⟩ := hrel
        have HGK := Lib.hid hgk
        clear hgk
        by_cases hlt : i < nr
        · obtain ⟨x, hx⟩ : ∃ x, kids[i]? = some x := ⟨_, List.getElem?_eq_getElem (by rw [HNR.out]; omega)⟩
          have hxm := List.mem_of_getElem? hx
          obtain ⟨b, o, k', k1', n1', s1', A1', na1', ca1', B1', nb1', cb1', s', A2', n2', ca2', rfl, hb, hER, hz⟩ := kid_cellsE HKD.out.1 HKD.out.2 hx
          obtain ⟨z0, z1, z2, z3, z4, z5, z6, z7⟩ := hz wr HWR.out
          have HTK := Lib.hid (show kids.take (i + 1) = kids.take i ++ [x] by rw [List.take_add_one, hx]; rfl)
          have hlb : b < wr.heap.size := Nat.lt_of_lt_of_le hb HWR.out.size
          obtain ⟨d, hd⟩ : ∃ d, hasE (sl t) x = d := ⟨_, rfl⟩
          have HDD := Lib.hid hd
          have HXM := Lib.hid hxm
          have HE := Lib.hid (fun (W : World) (h : Below w.heap.size w W) => show Calls Tryz.prog 34 #[.agg #[.int .i64 k', .int .i64 k1', .int .i64 n1', .string s1', .slice A1' na1' ca1', .slice B1' nb1' cb1', .string s', .slice A2' n2' ca2'], .string t] W (BoolS d W) by rw [← hd]; exact HIH.out x _ W (HD.out x hxm) (hER.bel h) (HCK.out x hxm))
          have HP := Lib.hid ((Below.refl _ wr).alloc (Nat.le_refl _) (.cells #[.int .i64 k', .int .i64 k1', .int .i64 n1', .string s1', .slice A1' na1' ca1', .slice B1' nb1' cb1', .string s', .slice A2' n2' ca2'] 28))
          clear hz hER hx hxm hb hd
          go_wp2_with fail
          refine (HE.out _ (HWR.out.trans (HP.out.mono HWR.out.size))).mono ?_
          rintro e w4 ⟨rfl, hb4⟩
          have HB4 := Lib.hid ((HWR.out.trans (HP.out.mono HWR.out.size)).trans (hb4.mono (HWR.out.trans (HP.out.mono HWR.out.size)).size))
          clear hb4 z0 z1 z2 z3 z4 z5 z6 z7
          cases d with
          | true =>
            have hgt : g = true := by rw [HGL.out, hasL_iff.2 ⟨x, HXM.out, HDD.out⟩]
            clear HGL
            subst hgt
            go_wp2
            go_ret
            exact ⟨rfl, HB4.out⟩
          | false =>
            go_wp2
            go_roundg (nr - (i + 1))
            case measure => have := HGK.out; omega
            case rel => exact ⟨i + 1, by omega, rfl, by go_num, HB4, Lib.hid (by
              rw [HTK.out]
              intro y hy
              rcases List.mem_append.1 hy with hy | hy
              · exact HNO.out y hy
              · obtain rfl := List.mem_singleton.1 hy; exact HDD.out)⟩
        · obtain rfl : i = nr := by omega
          have hgf : g = false := by
            rw [HGL.out]
            refine hasL_no fun y hy => HNO.out y ?_
            rw [← HNR.out, List.take_length]; exact hy
          clear HGL
          subst hgf
          go_wp2
          go_ret
          exact ⟨rfl, HWR.out⟩
end Go.Proofs.YtgolomgmnanbpaaGreatDoor
namespace Go.Proofs.YtgolomgmnanbpaaGreatDoor
set_option linter.unusedVariables false
set_option linter.unusedSimpArgs false
open Go.RowKit
attribute [local go_sem] run_index_arr run_part_agg run_part_one run_field_agg
theorem rnL_map (f t : List UInt8) : ∀ l : List EJ, rnL f t l = l.map (rnE f t)
  | [] => rfl
  | x :: r => by unfold rnL; rw [rnL_map f t r]; rfl
set_option maxRecDepth 100000 in
set_option maxHeartbeats 32000000 in
theorem lRenC (F : Nat → Prop) (f t : List UInt8) : ∀ (r : Nat) (x : EJ) (cs : List Value) (w : World), (∀ b, F b → b < w.heap.size) → inD r x → ER w F cs x → camE x →
    Calls Tryz.prog 35 #[.agg cs.toArray, .string ⟨f.toArray⟩, .string ⟨t.toArray⟩] w (CutP (rnE f t x) F w) := by
  intro r
  induction r with
  | zero => intro x cs w _ h; exact h.elim
  | succ r ih =>
    rintro ⟨k, v, s, kids⟩ cs w hF hd hx hcx
    obtain ⟨k1, n1, s1, A1, na1, ca1, B1, nb1, cb1, A, ca, css0, rfl, hv, h1, h2, h3, h4⟩ := hx.out
    unfold camE at hcx
    obtain ⟨_, _, _, hkl, hkc⟩ := hcx
    have HCK := Lib.hid (camEL_iff.1 hkc)
    have HD := Lib.hid (show ∀ x ∈ kids, inD r x from hd)
    have HFF := Lib.hid hF
    have HVV := Lib.hid hv
    have HKD := Lib.hid (And.intro h1 h4)
    have HIH := Lib.hid ih
    obtain ⟨nr, hnr⟩ : ∃ n, kids.length = n := ⟨_, rfl⟩
    have HNR := Lib.hid hnr
    rw [hnr] at hkl h2 ⊢
    obtain ⟨sn, hsn⟩ : ∃ q, (if k = 2 then rnN f t s else s) = q := ⟨_, rfl⟩
    have HRE := Lib.hid (show rnE f t (.mk k v s kids) = .mk k v sn (kids.map (rnE f t)) by rw [rnE, hsn, rnL_map])
    obtain ⟨sv, hsv⟩ : ∃ b : ByteArray, (⟨s.toArray⟩ : ByteArray) = b := ⟨_, rfl⟩
    obtain ⟨fb, hfb⟩ : ∃ b : ByteArray, (⟨f.toArray⟩ : ByteArray) = b := ⟨_, rfl⟩
    obtain ⟨tb, htb⟩ : ∃ b : ByteArray, (⟨t.toArray⟩ : ByteArray) = b := ⟨_, rfl⟩
    obtain ⟨sb, hsb⟩ : ∃ b : ByteArray, (⟨sn.toArray⟩ : ByteArray) = b := ⟨_, rfl⟩
    have HIT := Lib.hid (show ∀ (x : EJ) (cs : List Value) (w : World), (∀ b, F b → b < w.heap.size) → inD r x → ER w F cs x → camE x → Calls Tryz.prog 35 #[.agg cs.toArray, .string fb, .string tb] w (CutP (rnE f t x) F w) by
      rw [← hfb, ← htb]; exact ih)
    have hse : (sv.toList == fb.toList) = decide (s = f) := by rw [← hsv, ← hfb]; rw [str_is]
    have hcase : (k == 2) = false ∧ sb = sv ∨ (k = 2 ∧ (sv.toList == fb.toList) = false) ∧ sb = sv ∨ (k = 2 ∧ (sv.toList == fb.toList) = true) ∧ sb = tb := by
      by_cases hk : k = 2
      · by_cases hs : s = f
        · right; right
          refine ⟨⟨hk, by rw [hse]; exact decide_eq_true hs⟩, ?_⟩
          rw [← hsb, ← htb, ← hsn, if_pos hk, rnN, if_pos hs]
        · right; left
          refine ⟨⟨hk, by rw [hse]; exact decide_eq_false hs⟩, ?_⟩
          rw [← hsb, ← hsv, ← hsn, if_pos hk, rnN, if_neg hs]
      · left
        refine ⟨by simpa using hk, ?_⟩
        rw [← hsb, ← hsv, ← hsn, if_neg hk]
    have HSB := Lib.hid hsb
    rw [hsv, hfb, htb]
    have HH0 := Lib.hid (((Held.nil w).push 28 #[.int .i64 k, .int .i64 k1, .int .i64 n1, .string s1, .slice A1 na1 ca1, .slice B1 nb1 cb1, .string sv, .slice A nr ca] (g := w.heap.size) rfl).push 28 #[.int .i64 0, .int .i64 0, .int .i64 0, .string ⟨#[]⟩, .slice none 0 0, .slice none 0 0, .string ⟨#[]⟩, .slice none 0 0] (g := w.heap.size + 1) (by simp))
    obtain ⟨W0, hW0⟩ : ∃ W0, (w.alloc (.cells #[.int .i64 k, .int .i64 k1, .int .i64 n1, .string s1, .slice A1 na1 ca1, .slice B1 nb1 cb1, .string sv, .slice A nr ca] 28)).alloc (.cells #[.int .i64 0, .int .i64 0, .int .i64 0, .string ⟨#[]⟩, .slice none 0 0, .slice none 0 0, .string ⟨#[]⟩, .slice none 0 0] 28) = W0 := ⟨_, rfl⟩
    have HHW := Lib.hid (show Held [(w.heap.size + 1, 28, #[.int .i64 0, .int .i64 0, .int .i64 0, .string ⟨#[]⟩, .slice none 0 0, .slice none 0 0, .string ⟨#[]⟩, .slice none 0 0]), (w.heap.size, 28, #[.int .i64 k, .int .i64 k1, .int .i64 n1, .string s1, .slice A1 na1 ca1, .slice B1 nb1 cb1, .string sv, .slice A nr ca])] w W0 by rw [← hW0]; exact HH0.out)
    have HW0 := Lib.hid hW0
    obtain ⟨i0, hi, hz0, hz1, hz2⟩ := info_parts infoExp9
    have HI := Lib.hid hi
    clear hF hd hx hv h1 h4 hkc hnr ih hi hW0 HH0 hsn hsv hfb htb hsb hse
    rcases hcase with ⟨hk, rfl⟩ | ⟨⟨rfl, hk⟩, rfl⟩ | ⟨⟨rfl, hk⟩, rfl⟩
    · go_enter Tryz.func35, Tryz.ntmps35
      go_upto_region 1 with fail
      rw [HW0.out]
      obtain ⟨c0, f0, l0⟩ := HHW.out.b1.rules
      go_upto_region 4 with fail
      obtain ⟨WS, rfl⟩ : ∃ W', W' = W0 := ⟨_, rfl⟩
      have HHS := HHW
      clear HW0 HHW hk
      go_upto_region 5 with fail
      clear c0 f0 l0
      go_loopg [7, 24] nr (fun gk s7 s24 wr => ∃ (i : Nat) (row : Value) (css : List (List Value)), row = s7 ∧ i ≤ nr ∧ gk = nr - i ∧ s24 = .int .i64 (i : Int) ∧
        Hid (Held [(w.heap.size + 1, 28, #[.int .i64 0, .int .i64 0, .int .i64 0, .string ⟨#[]⟩, .slice none 0 0, .slice none 0 0, .string ⟨#[]⟩, .slice none 0 0]), (w.heap.size, 28, #[.int .i64 k, .int .i64 k1, .int .i64 n1, .string s1, .slice A1 na1 ca1, .slice B1 nb1 cb1, .string sb, .slice A nr ca])] w wr) ∧ Hid (wr.ownsRow (w.heap.size + 2) 28 8 row i css.flatten) ∧ Hid (ERs wr (FO (fun b => F b ∨ w.heap.size + 2 ≤ b) row) css ((kids.take i).map (rnE f t))))
      case atStart => exact ⟨0, _, [], rfl, Nat.zero_le _, by go_num, rfl, HHS, Lib.hid (World.ownsRow_nil _ _ _ _), Lib.hid (by rw [List.take_zero]; exact RR.nil)⟩
      case round =>
        obtain ⟨i, row, css, rfl, him, hgk, rfl, HH, HO, HV⟩ := hrel
        have HGK := Lib.hid hgk
        clear hgk HHS
        by_cases hlt : i < nr
        · obtain ⟨x, hx⟩ : ∃ x, kids[i]? = some x := ⟨_, List.getElem?_eq_getElem (by rw [HNR.out]; omega)⟩
          have hxm := List.mem_of_getElem? hx
          obtain ⟨b, o, k', k1', n1', s1', A1', na1', ca1', B1', nb1', cb1', s', A2', n2', ca2', rfl, hb, hER, hz⟩ := kid_cellsE HKD.out.1 HKD.out.2 hx
          obtain ⟨z0, z1, z2, z3, z4, z5, z6, z7⟩ := hz wr HH.out.1
          have HTK := Lib.hid (show (kids.take (i + 1)).map (rnE f t) = (kids.take i).map (rnE f t) ++ [rnE f t x] by rw [List.take_add_one, hx, List.map_append]; rfl)
          have HE := Lib.hid (fun (W : World) (h : Below w.heap.size w W) => HIT.out x _ W (fun b hb => Nat.lt_of_lt_of_le (HFF.out b hb) h.size) (HD.out x hxm) (hER.bel h) (HCK.out x hxm))
          have hlb : b < wr.heap.size := Nat.lt_of_lt_of_le hb HH.out.1.size
          have HP := Lib.hid ((HH.out).push 28 #[.int .i64 k', .int .i64 k1', .int .i64 n1', .string s1', .slice A1' na1' ca1', .slice B1' nb1' cb1', .string s', .slice A2' n2' ca2'] (g := wr.heap.size) rfl)
          have HO1 := Lib.hid (HO.out.alloc (.cells #[.int .i64 k', .int .i64 k1', .int .i64 n1', .string s1', .slice A1' na1' ca1', .slice B1' nb1' cb1', .string s', .slice A2' n2' ca2'] 28))
          have HV1 := Lib.hid (RR.imp HV.out fun c y hc => hc.bel ((Below.refl _ wr).alloc (Nat.le_refl _) (.cells #[.int .i64 k', .int .i64 k1', .int .i64 n1', .string s1', .slice A1' na1' ca1', .slice B1' nb1' cb1', .string s', .slice A2' n2' ca2'] 28)))
          have hwr2 : w.heap.size + 2 ≤ wr.heap.size := HH.out.b0.lt
          clear hz hER hx hxm hb
          go_wp2_with fail
          refine (HE.out _ HP.out.1).mono ?_
          rintro e w4 ⟨cs4, rfl, hv4, hb4⟩
          clear z0 z1 z2 z3 z4 z5 z6 z7
          have HV4 := Lib.hid hv4
          obtain ⟨k9, k19, n19, s19, A19, na19, ca19, B19, nb19, cb19, s9, A29, n29, ca29, rfl⟩ := hv4.form
          have hsz : wr.heap.size < w4.heap.size := by have := hb4.size; simp at this; omega
          have HP4 := Lib.hid (HP.out.keep hb4)
          have HO4 := Lib.hid (ownBel HO1.out hb4)
          have HV5 := Lib.hid (RR.imp HV1.out fun c y hc => hc.bel hb4)
          have HRW := Lib.hid (fun (j : Nat) (e : row.ownBlock = some j) => HO.out.lt j e)
          have hO6 := Lib.hid (HO4.out.alloc (.cells #[.int .i64 k9, .int .i64 k19, .int .i64 n19, .string s19, .slice A19 na19 ca19, .slice B19 nb19 cb19, .string s9, .slice A29 n29 ca29] 28))
          have hR6 := Lib.hid (Rd.of_blk (Blk.new w4 28 #[.int .i64 k9, .int .i64 k19, .int .i64 n19, .string s19, .slice A19 na19 ca19, .slice B19 nb19 cb19, .string s9, .slice A29 n29 ca29]))
          have H1C := Lib.hid (show ∀ u ∈ ([.int .i64 k9, .int .i64 k19, .int .i64 n19, .string s19, .slice A19 na19 ca19, .slice B19 nb19 cb19, .string s9, .slice A29 n29 ca29] : List Value), u.oneCell' = true from HV4.out.one)
          have HBS := Lib.hid (show w.heap.size + 2 ≤ (w4.alloc (.cells #[.int .i64 k9, .int .i64 k19, .int .i64 n19, .string s19, .slice A19 na19 ca19, .slice B19 nb19 cb19, .string s9, .slice A29 n29 ca29] 28)).heap.size by rw [World.size_alloc]; omega)
          clear hv4 hb4
          go_wp2_with (at_builtin; refine wpList_append_rd _ rfl _ _ 26 rfl (w.heap.size + 2) 28 i0 _ 8 128 Tryz.underlying26 HI.out hz0 hz1 hz2 rfl (by decide) row i css.flatten rfl hO6.out (some ⟨w4.heap.size, 0, none⟩) 1 1 (fun h => by cases h) [.int .i64 k9, .int .i64 k19, .int .i64 n19, .string s19, .slice A19 na19 ca19, .slice B19 nb19 cb19, .string s9, .slice A29 n29 ca29] rfl rfl hR6.out H1C.out (by unfold maxLen; omega) (by omega) HBS.out ?_; intro row2 w6 hown6 hgr6 hob6)
          have hHH : Held [(w.heap.size + 1, 28, #[.int .i64 0, .int .i64 0, .int .i64 0, .string ⟨#[]⟩, .slice none 0 0, .slice none 0 0, .string ⟨#[]⟩, .slice none 0 0]), (w.heap.size, 28, #[.int .i64 k, .int .i64 k1, .int .i64 n1, .string s1, .slice A1 na1 ca1, .slice B1 nb1 cb1, .string sb, .slice (some ⟨b, o, none⟩) nr ca])] w w6 := by
            refine ((HP4.out.pop).alloc _).grown hgr6 (fun j e => by have := HRW.out j e; omega) (fun y hy e => ?_)
            simp only [List.mem_cons, List.not_mem_nil, or_false] at hy
            rcases hy with rfl | rfl
            · have := HRW.out _ e.symm; omega
            · have := HRW.out _ e.symm; omega
          have hVV : ERs w6 (FO (fun b => F b ∨ w.heap.size + 2 ≤ b) row2) (css ++ [([.int .i64 k9, .int .i64 k19, .int .i64 n19, .string s19, .slice A19 na19 ca19, .slice B19 nb19 cb19, .string s9, .slice A29 n29 ca29] : List Value)]) ((kids.take (i + 1)).map (rnE f t)) := by
            rw [HTK.out]
            refine ers_growG ?_ hgr6 hob6
            refine (RR.imp HV5.out fun c y hc => hc.bel ((Below.refl _ _).alloc (Nat.le_refl _) _)).snoc ((HV4.out.bel ((Below.refl _ _).alloc (Nat.le_refl _) _)).mono fun b' _ hb' => ?_)
            rcases hb' with hb' | hb'
            · exact ⟨.inl hb', fun e => by have := HRW.out _ e.symm; have := HFF.out _ hb'; omega⟩
            · simp at hb'
              exact ⟨.inr (by omega), fun e => by have := HRW.out _ e.symm; omega⟩
          have hOO : w6.ownsRow (w.heap.size + 2) 28 8 row2 (i + 1) (css ++ [([.int .i64 k9, .int .i64 k19, .int .i64 n19, .string s19, .slice A19 na19 ca19, .slice B19 nb19 cb19, .string s9, .slice A29 n29 ca29] : List Value)]).flatten := by
            rw [List.flatten_append]; simpa using hown6
          have H9 := Lib.hid (And.intro hHH (And.intro hOO hVV))
          clear hHH hOO hVV hown6 hgr6 hob6
          go_wp2
          go_roundg (nr - (i + 1))
          case measure => have := HGK.out; omega
          case rel => exact ⟨i + 1, row2, _, rfl, by omega, rfl, by go_num, Lib.hid H9.out.1, Lib.hid H9.out.2.1, Lib.hid H9.out.2.2⟩
        · obtain rfl : i = nr := by omega
          obtain ⟨RA, rc, rfl, hrc, hrn, hrr⟩ := own_parts HO.out
          have HRR := Lib.hid (And.intro hrc (And.intro hrn hrr))
          clear hrc hrn hrr
          obtain ⟨c0, f0, l0⟩ := HH.out.b1.rules
          have hne : w.heap.size ≠ w.heap.size + 1 := by omega
          have HB0 := Lib.hid (show Blk (wr.setCell ⟨w.heap.size, 7, none⟩ (.slice RA i rc)) w.heap.size 28 #[.int .i64 k, .int .i64 k1, .int .i64 n1, .string s1, .slice A1 na1 ca1, .slice B1 nb1 cb1, .string sb, .slice RA i rc] from HH.out.b1.set_ 7 _)
          have HB1 := Lib.hid (show Blk (wr.setCell ⟨w.heap.size, 7, none⟩ (.slice RA i rc)) (w.heap.size + 1) 28 #[.int .i64 0, .int .i64 0, .int .i64 0, .string ⟨#[]⟩, .slice none 0 0, .slice none 0 0, .string ⟨#[]⟩, .slice none 0 0] from Blk.far HH.out.b0 (by show w.heap.size + 1 ≠ w.heap.size; omega) _)
          have HL := Lib.hid (show Below w.heap.size w (wr.setCell ⟨w.heap.size, 7, none⟩ (.slice RA i rc)) from HH.out.1.setCell (p := ⟨w.heap.size, 7, none⟩) (Nat.le_refl _) _)
          have HKF := Lib.hid (show KeepF (fun b => F b ∨ w.heap.size + 2 ≤ b) wr (wr.setCell ⟨w.heap.size, 7, none⟩ (.slice RA i rc)) from KeepF.set KeepF.refl (fun b hb => by rcases hb with hb | hb; exact Nat.ne_of_lt (HFF.out b hb); omega) 7 _)
          obtain ⟨WF, hWF⟩ : ∃ W', wr.setCell ⟨w.heap.size, 7, none⟩ (.slice RA i rc) = W' := ⟨_, rfl⟩
          rw [hWF] at HB0 HB1 HL HKF
          have HWF := Lib.hid hWF
          clear hWF
          go_upto_region 10 with fail
          rw [HWF.out]
          clear HWF c0 f0 l0
          obtain ⟨c0, f0, l0⟩ := HB0.out.rules
          first | (refine wpList_store_mid rfl 28 (.tmp 6) (.tmp 38) rfl (w.heap.size + 1) 0 #[.int .i64 k, .int .i64 k1, .int .i64 n1, .string s1, .slice A1 na1 ca1, .slice B1 nb1 cb1, .string sb, .slice RA i rc] rfl rfl HB1.out.there (by kernel_rfl) (by first | kernel_rfl | simp [Value.oneCell']) ?_) | (go_step; refine wpList_store_mid rfl 28 (.tmp 6) (.tmp 38) rfl (w.heap.size + 1) 0 #[.int .i64 k, .int .i64 k1, .int .i64 n1, .string s1, .slice A1 na1 ca1, .slice B1 nb1 cb1, .string sb, .slice RA i rc] rfl rfl HB1.out.there (by kernel_rfl) (by first | kernel_rfl | simp [Value.oneCell']) ?_) | (go_step; go_step; refine wpList_store_mid rfl 28 (.tmp 6) (.tmp 38) rfl (w.heap.size + 1) 0 #[.int .i64 k, .int .i64 k1, .int .i64 n1, .string s1, .slice A1 na1 ca1, .slice B1 nb1 cb1, .string sb, .slice RA i rc] rfl rfl HB1.out.there (by kernel_rfl) (by first | kernel_rfl | simp [Value.oneCell']) ?_) | (go_step; go_step; go_step; refine wpList_store_mid rfl 28 (.tmp 6) (.tmp 38) rfl (w.heap.size + 1) 0 #[.int .i64 k, .int .i64 k1, .int .i64 n1, .string s1, .slice A1 na1 ca1, .slice B1 nb1 cb1, .string sb, .slice RA i rc] rfl rfl HB1.out.there (by kernel_rfl) (by first | kernel_rfl | simp [Value.oneCell']) ?_) | (go_step; go_step; go_step; go_step; refine wpList_store_mid rfl 28 (.tmp 6) (.tmp 38) rfl (w.heap.size + 1) 0 #[.int .i64 k, .int .i64 k1, .int .i64 n1, .string s1, .slice A1 na1 ca1, .slice B1 nb1 cb1, .string sb, .slice RA i rc] rfl rfl HB1.out.there (by kernel_rfl) (by first | kernel_rfl | simp [Value.oneCell']) ?_)
          have HB2 := Lib.hid (HB1.out.set8C (.int .i64 k) (.int .i64 k1) (.int .i64 n1) (.string s1) (.slice A1 na1 ca1) (.slice B1 nb1 cb1) (.string sb) (.slice RA i rc))
          have HL2 := Lib.hid (bel_setC (B := w.heap.size) (b := w.heap.size + 1) (by omega) [.int .i64 k, .int .i64 k1, .int .i64 n1, .string s1, .slice A1 na1 ca1, .slice B1 nb1 cb1, .string sb, .slice RA i rc] 0 HL.out)
          have HKF2 := Lib.hid (HKF.out.trans (KeepF.setC (F := fun b => F b ∨ w.heap.size + 2 ≤ b) (fun b hb => by rcases hb with hb | hb; exact Nat.ne_of_lt (Nat.lt_succ_of_lt (HFF.out b hb)); omega) [.int .i64 k, .int .i64 k1, .int .i64 n1, .string s1, .slice A1 na1 ca1, .slice B1 nb1 cb1, .string sb, .slice RA i rc] 0 KeepF.refl))
          obtain ⟨WG, hWG⟩ : ∃ W', WF.setCells (w.heap.size + 1) 0 [.int .i64 k, .int .i64 k1, .int .i64 n1, .string s1, .slice A1 na1 ca1, .slice B1 nb1 cb1, .string sb, .slice RA i rc] = W' := ⟨_, rfl⟩
          rw [hWG] at HB2 HL2 HKF2
          simp only []
          rw [hWG]
          clear hWG c0 f0 l0 HB0 HB1 HL HKF
          obtain ⟨c0, f0, l0⟩ := HB2.out.rules
          go_wp2
          refine bodyPost_ret (v := .agg #[.int .i64 k, .int .i64 k1, .int .i64 n1, .string s1, .slice A1 na1 ca1, .slice B1 nb1 cb1, .string sb, .slice RA i rc]) (by simp only [results, Tryz.results35]; go_simp) rfl ?_
          refine ⟨[.int .i64 k, .int .i64 k1, .int .i64 n1, .string s1, .slice A1 na1 ca1, .slice B1 nb1 cb1, .string sb, .slice RA i rc], rfl, ?_, HL2.out⟩
          have hvv := (HVV.out.keep (KeepF.of_below HL2.out)).mono (F' := FN F w) fun b _ h => .inl h
          have hl : i = (kids.map (rnE f t)).length := by rw [List.length_map, HNR.out]
          have he : (kids.take i).map (rnE f t) = kids.map (rnE f t) := by rw [← HNR.out, List.take_length]
          have hrr : ERs wr (FO (fun b => F b ∨ w.heap.size + 2 ≤ b) (.slice RA i rc)) css (kids.map (rnE f t)) := by rw [← he]; exact HV.out
          try (have hk9 := HK2.out; subst hk9)
          rw [HRE.out, ← HSB.out]
          exact ER.into hvv (RR.imp hrr fun c y (hc : ER wr _ c y) => ((hc.mono (F' := fun b => F b ∨ w.heap.size + 2 ≤ b) fun b _ h => h.1).keep HKF2.out).mono fun b _ h => h.imp id fun h => by omega) hl (by rw [← hl]; exact HRR.out.1) HRR.out.2.1 (((HRR.out.2.2.mono (F' := fun b => F b ∨ w.heap.size + 2 ≤ b) fun b _ h => .inr h).keep HKF2.out).mono fun b _ h => h.imp id fun h => by omega)
    · go_enter Tryz.func35, Tryz.ntmps35
      go_upto_region 1 with fail
      rw [HW0.out]
      obtain ⟨c0, f0, l0⟩ := HHW.out.b1.rules
      go_upto_region 4 with fail
      obtain ⟨WS, rfl⟩ : ∃ W', W' = W0 := ⟨_, rfl⟩
      have HHS := HHW
      obtain ⟨k, hk2⟩ : ∃ k : Int, 2 = k := ⟨_, rfl⟩
      rw [hk2] at HHS c0 ⊢
      have HK2 := Lib.hid hk2
      clear HW0 HHW hk hk2
      go_upto_region 5 with fail
      clear c0 f0 l0
      go_loopg [7, 24] nr (fun gk s7 s24 wr => ∃ (i : Nat) (row : Value) (css : List (List Value)), row = s7 ∧ i ≤ nr ∧ gk = nr - i ∧ s24 = .int .i64 (i : Int) ∧
        Hid (Held [(w.heap.size + 1, 28, #[.int .i64 0, .int .i64 0, .int .i64 0, .string ⟨#[]⟩, .slice none 0 0, .slice none 0 0, .string ⟨#[]⟩, .slice none 0 0]), (w.heap.size, 28, #[.int .i64 k, .int .i64 k1, .int .i64 n1, .string s1, .slice A1 na1 ca1, .slice B1 nb1 cb1, .string sb, .slice A nr ca])] w wr) ∧ Hid (wr.ownsRow (w.heap.size + 2) 28 8 row i css.flatten) ∧ Hid (ERs wr (FO (fun b => F b ∨ w.heap.size + 2 ≤ b) row) css ((kids.take i).map (rnE f t))))
      case atStart => exact ⟨0, _, [], rfl, Nat.zero_le _, by go_num, rfl, HHS, Lib.hid (World.ownsRow_nil _ _ _ _), Lib.hid (by rw [List.take_zero]; exact RR.nil)⟩
      case round =>
        obtain ⟨i, row, css, rfl, him, hgk, rfl, HH, HO, HV⟩ := hrel
        have HGK := Lib.hid hgk
        clear hgk HHS
        by_cases hlt : i < nr
        · obtain ⟨x, hx⟩ : ∃ x, kids[i]? = some x := ⟨_, List.getElem?_eq_getElem (by rw [HNR.out]; omega)⟩
          have hxm := List.mem_of_getElem? hx
          obtain ⟨b, o, k', k1', n1', s1', A1', na1', ca1', B1', nb1', cb1', s', A2', n2', ca2', rfl, hb, hER, hz⟩ := kid_cellsE HKD.out.1 HKD.out.2 hx
          obtain ⟨z0, z1, z2, z3, z4, z5, z6, z7⟩ := hz wr HH.out.1
          have HTK := Lib.hid (show (kids.take (i + 1)).map (rnE f t) = (kids.take i).map (rnE f t) ++ [rnE f t x] by rw [List.take_add_one, hx, List.map_append]; rfl)
          have HE := Lib.hid (fun (W : World) (h : Below w.heap.size w W) => HIT.out x _ W (fun b hb => Nat.lt_of_lt_of_le (HFF.out b hb) h.size) (HD.out x hxm) (hER.bel h) (HCK.out x hxm))
          have hlb : b < wr.heap.size := Nat.lt_of_lt_of_le hb HH.out.1.size
          have HP := Lib.hid ((HH.out).push 28 #[.int .i64 k', .int .i64 k1', .int .i64 n1', .string s1', .slice A1' na1' ca1', .slice B1' nb1' cb1', .string s', .slice A2' n2' ca2'] (g := wr.heap.size) rfl)
          have HO1 := Lib.hid (HO.out.alloc (.cells #[.int .i64 k', .int .i64 k1', .int .i64 n1', .string s1', .slice A1' na1' ca1', .slice B1' nb1' cb1', .string s', .slice A2' n2' ca2'] 28))
          have HV1 := Lib.hid (RR.imp HV.out fun c y hc => hc.bel ((Below.refl _ wr).alloc (Nat.le_refl _) (.cells #[.int .i64 k', .int .i64 k1', .int .i64 n1', .string s1', .slice A1' na1' ca1', .slice B1' nb1' cb1', .string s', .slice A2' n2' ca2'] 28)))
          have hwr2 : w.heap.size + 2 ≤ wr.heap.size := HH.out.b0.lt
          clear hz hER hx hxm hb
          go_wp2_with fail
          refine (HE.out _ HP.out.1).mono ?_
          rintro e w4 ⟨cs4, rfl, hv4, hb4⟩
          clear z0 z1 z2 z3 z4 z5 z6 z7
          have HV4 := Lib.hid hv4
          obtain ⟨k9, k19, n19, s19, A19, na19, ca19, B19, nb19, cb19, s9, A29, n29, ca29, rfl⟩ := hv4.form
          have hsz : wr.heap.size < w4.heap.size := by have := hb4.size; simp at this; omega
          have HP4 := Lib.hid (HP.out.keep hb4)
          have HO4 := Lib.hid (ownBel HO1.out hb4)
          have HV5 := Lib.hid (RR.imp HV1.out fun c y hc => hc.bel hb4)
          have HRW := Lib.hid (fun (j : Nat) (e : row.ownBlock = some j) => HO.out.lt j e)
          have hO6 := Lib.hid (HO4.out.alloc (.cells #[.int .i64 k9, .int .i64 k19, .int .i64 n19, .string s19, .slice A19 na19 ca19, .slice B19 nb19 cb19, .string s9, .slice A29 n29 ca29] 28))
          have hR6 := Lib.hid (Rd.of_blk (Blk.new w4 28 #[.int .i64 k9, .int .i64 k19, .int .i64 n19, .string s19, .slice A19 na19 ca19, .slice B19 nb19 cb19, .string s9, .slice A29 n29 ca29]))
          have H1C := Lib.hid (show ∀ u ∈ ([.int .i64 k9, .int .i64 k19, .int .i64 n19, .string s19, .slice A19 na19 ca19, .slice B19 nb19 cb19, .string s9, .slice A29 n29 ca29] : List Value), u.oneCell' = true from HV4.out.one)
          have HBS := Lib.hid (show w.heap.size + 2 ≤ (w4.alloc (.cells #[.int .i64 k9, .int .i64 k19, .int .i64 n19, .string s19, .slice A19 na19 ca19, .slice B19 nb19 cb19, .string s9, .slice A29 n29 ca29] 28)).heap.size by rw [World.size_alloc]; omega)
          clear hv4 hb4
          go_wp2_with (at_builtin; refine wpList_append_rd _ rfl _ _ 26 rfl (w.heap.size + 2) 28 i0 _ 8 128 Tryz.underlying26 HI.out hz0 hz1 hz2 rfl (by decide) row i css.flatten rfl hO6.out (some ⟨w4.heap.size, 0, none⟩) 1 1 (fun h => by cases h) [.int .i64 k9, .int .i64 k19, .int .i64 n19, .string s19, .slice A19 na19 ca19, .slice B19 nb19 cb19, .string s9, .slice A29 n29 ca29] rfl rfl hR6.out H1C.out (by unfold maxLen; omega) (by omega) HBS.out ?_; intro row2 w6 hown6 hgr6 hob6)
          have hHH : Held [(w.heap.size + 1, 28, #[.int .i64 0, .int .i64 0, .int .i64 0, .string ⟨#[]⟩, .slice none 0 0, .slice none 0 0, .string ⟨#[]⟩, .slice none 0 0]), (w.heap.size, 28, #[.int .i64 k, .int .i64 k1, .int .i64 n1, .string s1, .slice A1 na1 ca1, .slice B1 nb1 cb1, .string sb, .slice (some ⟨b, o, none⟩) nr ca])] w w6 := by
            refine ((HP4.out.pop).alloc _).grown hgr6 (fun j e => by have := HRW.out j e; omega) (fun y hy e => ?_)
            simp only [List.mem_cons, List.not_mem_nil, or_false] at hy
            rcases hy with rfl | rfl
            · have := HRW.out _ e.symm; omega
            · have := HRW.out _ e.symm; omega
          have hVV : ERs w6 (FO (fun b => F b ∨ w.heap.size + 2 ≤ b) row2) (css ++ [([.int .i64 k9, .int .i64 k19, .int .i64 n19, .string s19, .slice A19 na19 ca19, .slice B19 nb19 cb19, .string s9, .slice A29 n29 ca29] : List Value)]) ((kids.take (i + 1)).map (rnE f t)) := by
            rw [HTK.out]
            refine ers_growG ?_ hgr6 hob6
            refine (RR.imp HV5.out fun c y hc => hc.bel ((Below.refl _ _).alloc (Nat.le_refl _) _)).snoc ((HV4.out.bel ((Below.refl _ _).alloc (Nat.le_refl _) _)).mono fun b' _ hb' => ?_)
            rcases hb' with hb' | hb'
            · exact ⟨.inl hb', fun e => by have := HRW.out _ e.symm; have := HFF.out _ hb'; omega⟩
            · simp at hb'
              exact ⟨.inr (by omega), fun e => by have := HRW.out _ e.symm; omega⟩
          have hOO : w6.ownsRow (w.heap.size + 2) 28 8 row2 (i + 1) (css ++ [([.int .i64 k9, .int .i64 k19, .int .i64 n19, .string s19, .slice A19 na19 ca19, .slice B19 nb19 cb19, .string s9, .slice A29 n29 ca29] : List Value)]).flatten := by
            rw [List.flatten_append]; simpa using hown6
          have H9 := Lib.hid (And.intro hHH (And.intro hOO hVV))
          clear hHH hOO hVV hown6 hgr6 hob6
          go_wp2
          go_roundg (nr - (i + 1))
          case measure => have := HGK.out; omega
          case rel => exact ⟨i + 1, row2, _, rfl, by omega, rfl, by go_num, Lib.hid H9.out.1, Lib.hid H9.out.2.1, Lib.hid H9.out.2.2⟩
        · obtain rfl : i = nr := by omega
          obtain ⟨RA, rc, rfl, hrc, hrn, hrr⟩ := own_parts HO.out
          have HRR := Lib.hid (And.intro hrc (And.intro hrn hrr))
          clear hrc hrn hrr
          obtain ⟨c0, f0, l0⟩ := HH.out.b1.rules
          have hne : w.heap.size ≠ w.heap.size + 1 := by omega
          have HB0 := Lib.hid (show Blk (wr.setCell ⟨w.heap.size, 7, none⟩ (.slice RA i rc)) w.heap.size 28 #[.int .i64 k, .int .i64 k1, .int .i64 n1, .string s1, .slice A1 na1 ca1, .slice B1 nb1 cb1, .string sb, .slice RA i rc] from HH.out.b1.set_ 7 _)
          have HB1 := Lib.hid (show Blk (wr.setCell ⟨w.heap.size, 7, none⟩ (.slice RA i rc)) (w.heap.size + 1) 28 #[.int .i64 0, .int .i64 0, .int .i64 0, .string ⟨#[]⟩, .slice none 0 0, .slice none 0 0, .string ⟨#[]⟩, .slice none 0 0] from Blk.far HH.out.b0 (by show w.heap.size + 1 ≠ w.heap.size; omega) _)
          have HL := Lib.hid (show Below w.heap.size w (wr.setCell ⟨w.heap.size, 7, none⟩ (.slice RA i rc)) from HH.out.1.setCell (p := ⟨w.heap.size, 7, none⟩) (Nat.le_refl _) _)
          have HKF := Lib.hid (show KeepF (fun b => F b ∨ w.heap.size + 2 ≤ b) wr (wr.setCell ⟨w.heap.size, 7, none⟩ (.slice RA i rc)) from KeepF.set KeepF.refl (fun b hb => by rcases hb with hb | hb; exact Nat.ne_of_lt (HFF.out b hb); omega) 7 _)
          obtain ⟨WF, hWF⟩ : ∃ W', wr.setCell ⟨w.heap.size, 7, none⟩ (.slice RA i rc) = W' := ⟨_, rfl⟩
          rw [hWF] at HB0 HB1 HL HKF
          have HWF := Lib.hid hWF
          clear hWF
          go_upto_region 10 with fail
          rw [HWF.out]
          clear HWF c0 f0 l0
          obtain ⟨c0, f0, l0⟩ := HB0.out.rules
          first | (refine wpList_store_mid rfl 28 (.tmp 6) (.tmp 38) rfl (w.heap.size + 1) 0 #[.int .i64 k, .int .i64 k1, .int .i64 n1, .string s1, .slice A1 na1 ca1, .slice B1 nb1 cb1, .string sb, .slice RA i rc] rfl rfl HB1.out.there (by kernel_rfl) (by first | kernel_rfl | simp [Value.oneCell']) ?_) | (go_step; refine wpList_store_mid rfl 28 (.tmp 6) (.tmp 38) rfl (w.heap.size + 1) 0 #[.int .i64 k, .int .i64 k1, .int .i64 n1, .string s1, .slice A1 na1 ca1, .slice B1 nb1 cb1, .string sb, .slice RA i rc] rfl rfl HB1.out.there (by kernel_rfl) (by first | kernel_rfl | simp [Value.oneCell']) ?_) | (go_step; go_step; refine wpList_store_mid rfl 28 (.tmp 6) (.tmp 38) rfl (w.heap.size + 1) 0 #[.int .i64 k, .int .i64 k1, .int .i64 n1, .string s1, .slice A1 na1 ca1, .slice B1 nb1 cb1, .string sb, .slice RA i rc] rfl rfl HB1.out.there (by kernel_rfl) (by first | kernel_rfl | simp [Value.oneCell']) ?_) | (go_step; go_step; go_step; refine wpList_store_mid rfl 28 (.tmp 6) (.tmp 38) rfl (w.heap.size + 1) 0 #[.int .i64 k, .int .i64 k1, .int .i64 n1, .string s1, .slice A1 na1 ca1, .slice B1 nb1 cb1, .string sb, .slice RA i rc] rfl rfl HB1.out.there (by kernel_rfl) (by first | kernel_rfl | simp [Value.oneCell']) ?_) | (go_step; go_step; go_step; go_step; refine wpList_store_mid rfl 28 (.tmp 6) (.tmp 38) rfl (w.heap.size + 1) 0 #[.int .i64 k, .int .i64 k1, .int .i64 n1, .string s1, .slice A1 na1 ca1, .slice B1 nb1 cb1, .string sb, .slice RA i rc] rfl rfl HB1.out.there (by kernel_rfl) (by first | kernel_rfl | simp [Value.oneCell']) ?_)
          have HB2 := Lib.hid (HB1.out.set8C (.int .i64 k) (.int .i64 k1) (.int .i64 n1) (.string s1) (.slice A1 na1 ca1) (.slice B1 nb1 cb1) (.string sb) (.slice RA i rc))
          have HL2 := Lib.hid (bel_setC (B := w.heap.size) (b := w.heap.size + 1) (by omega) [.int .i64 k, .int .i64 k1, .int .i64 n1, .string s1, .slice A1 na1 ca1, .slice B1 nb1 cb1, .string sb, .slice RA i rc] 0 HL.out)
          have HKF2 := Lib.hid (HKF.out.trans (KeepF.setC (F := fun b => F b ∨ w.heap.size + 2 ≤ b) (fun b hb => by rcases hb with hb | hb; exact Nat.ne_of_lt (Nat.lt_succ_of_lt (HFF.out b hb)); omega) [.int .i64 k, .int .i64 k1, .int .i64 n1, .string s1, .slice A1 na1 ca1, .slice B1 nb1 cb1, .string sb, .slice RA i rc] 0 KeepF.refl))
          obtain ⟨WG, hWG⟩ : ∃ W', WF.setCells (w.heap.size + 1) 0 [.int .i64 k, .int .i64 k1, .int .i64 n1, .string s1, .slice A1 na1 ca1, .slice B1 nb1 cb1, .string sb, .slice RA i rc] = W' := ⟨_, rfl⟩
          rw [hWG] at HB2 HL2 HKF2
          simp only []
          rw [hWG]
          clear hWG c0 f0 l0 HB0 HB1 HL HKF
          obtain ⟨c0, f0, l0⟩ := HB2.out.rules
          go_wp2
          refine bodyPost_ret (v := .agg #[.int .i64 k, .int .i64 k1, .int .i64 n1, .string s1, .slice A1 na1 ca1, .slice B1 nb1 cb1, .string sb, .slice RA i rc]) (by simp only [results, Tryz.results35]; go_simp) rfl ?_
          refine ⟨[.int .i64 k, .int .i64 k1, .int .i64 n1, .string s1, .slice A1 na1 ca1, .slice B1 nb1 cb1, .string sb, .slice RA i rc], rfl, ?_, HL2.out⟩
          have hvv := (HVV.out.keep (KeepF.of_below HL2.out)).mono (F' := FN F w) fun b _ h => .inl h
          have hl : i = (kids.map (rnE f t)).length := by rw [List.length_map, HNR.out]
          have he : (kids.take i).map (rnE f t) = kids.map (rnE f t) := by rw [← HNR.out, List.take_length]
          have hrr : ERs wr (FO (fun b => F b ∨ w.heap.size + 2 ≤ b) (.slice RA i rc)) css (kids.map (rnE f t)) := by rw [← he]; exact HV.out
          try (have hk9 := HK2.out; subst hk9)
          rw [HRE.out, ← HSB.out]
          exact ER.into hvv (RR.imp hrr fun c y (hc : ER wr _ c y) => ((hc.mono (F' := fun b => F b ∨ w.heap.size + 2 ≤ b) fun b _ h => h.1).keep HKF2.out).mono fun b _ h => h.imp id fun h => by omega) hl (by rw [← hl]; exact HRR.out.1) HRR.out.2.1 (((HRR.out.2.2.mono (F' := fun b => F b ∨ w.heap.size + 2 ≤ b) fun b _ h => .inr h).keep HKF2.out).mono fun b _ h => h.imp id fun h => by omega)
    · have HB0 := Lib.hid (show Blk (W0.setCell ⟨w.heap.size, 6, none⟩ (.string sb)) w.heap.size 28 #[.int .i64 2, .int .i64 k1, .int .i64 n1, .string s1, .slice A1 na1 ca1, .slice B1 nb1 cb1, .string sb, .slice A nr ca] from HHW.out.b1.set_ 6 _)
      have HB1 := Lib.hid (show Blk (W0.setCell ⟨w.heap.size, 6, none⟩ (.string sb)) (w.heap.size + 1) 28 #[.int .i64 0, .int .i64 0, .int .i64 0, .string ⟨#[]⟩, .slice none 0 0, .slice none 0 0, .string ⟨#[]⟩, .slice none 0 0] from Blk.far HHW.out.b0 (by show w.heap.size + 1 ≠ w.heap.size; omega) _)
      have HL := Lib.hid (show Below w.heap.size w (W0.setCell ⟨w.heap.size, 6, none⟩ (.string sb)) from HHW.out.1.setCell (p := ⟨w.heap.size, 6, none⟩) (Nat.le_refl _) _)
      obtain ⟨WS, hWS⟩ : ∃ W', W0.setCell ⟨w.heap.size, 6, none⟩ (.string sb) = W' := ⟨_, rfl⟩
      rw [hWS] at HB0 HB1 HL
      have HWS := Lib.hid hWS
      have HHS := Lib.hid (show Held [(w.heap.size + 1, 28, #[.int .i64 0, .int .i64 0, .int .i64 0, .string ⟨#[]⟩, .slice none 0 0, .slice none 0 0, .string ⟨#[]⟩, .slice none 0 0]), (w.heap.size, 28, #[.int .i64 2, .int .i64 k1, .int .i64 n1, .string s1, .slice A1 na1 ca1, .slice B1 nb1 cb1, .string sb, .slice A nr ca])] w WS from ⟨HL.out, fun y hy => by
        simp only [List.mem_cons, List.not_mem_nil, or_false] at hy
        rcases hy with rfl | rfl
        · exact HB1.out
        · exact HB0.out⟩)
      clear hWS HB0 HB1 HL
      go_enter Tryz.func35, Tryz.ntmps35
      go_upto_region 1 with fail
      rw [HW0.out]
      obtain ⟨c0, f0, l0⟩ := HHW.out.b1.rules
      go_upto_region 4 with fail
      rw [HWS.out]
      clear c0 f0 l0
      obtain ⟨c0, f0, l0⟩ := HHS.out.b1.rules
      obtain ⟨k, hk2⟩ : ∃ k : Int, 2 = k := ⟨_, rfl⟩
      rw [hk2] at HHS c0 ⊢
      have HK2 := Lib.hid hk2
      clear HW0 HHW HWS hk hk2
      go_upto_region 5 with fail
      clear c0 f0 l0
      go_loopg [7, 24] nr (fun gk s7 s24 wr => ∃ (i : Nat) (row : Value) (css : List (List Value)), row = s7 ∧ i ≤ nr ∧ gk = nr - i ∧ s24 = .int .i64 (i : Int) ∧
        Hid (Held [(w.heap.size + 1, 28, #[.int .i64 0, .int .i64 0, .int .i64 0, .string ⟨#[]⟩, .slice none 0 0, .slice none 0 0, .string ⟨#[]⟩, .slice none 0 0]), (w.heap.size, 28, #[.int .i64 k, .int .i64 k1, .int .i64 n1, .string s1, .slice A1 na1 ca1, .slice B1 nb1 cb1, .string sb, .slice A nr ca])] w wr) ∧ Hid (wr.ownsRow (w.heap.size + 2) 28 8 row i css.flatten) ∧ Hid (ERs wr (FO (fun b => F b ∨ w.heap.size + 2 ≤ b) row) css ((kids.take i).map (rnE f t))))
      case atStart => exact ⟨0, _, [], rfl, Nat.zero_le _, by go_num, rfl, HHS, Lib.hid (World.ownsRow_nil _ _ _ _), Lib.hid (by rw [List.take_zero]; exact RR.nil)⟩
      case round =>
        obtain ⟨i, row, css, rfl, him, hgk, rfl, HH, HO, HV⟩ := hrel
        have HGK := Lib.hid hgk
        clear hgk HHS
        by_cases hlt : i < nr
        · obtain ⟨x, hx⟩ : ∃ x, kids[i]? = some x := ⟨_, List.getElem?_eq_getElem (by rw [HNR.out]; omega)⟩
          have hxm := List.mem_of_getElem? hx
          obtain ⟨b, o, k', k1', n1', s1', A1', na1', ca1', B1', nb1', cb1', s', A2', n2', ca2', rfl, hb, hER, hz⟩ := kid_cellsE HKD.out.1 HKD.out.2 hx
          obtain ⟨z0, z1, z2, z3, z4, z5, z6, z7⟩ := hz wr HH.out.1
          have HTK := Lib.hid (show (kids.take (i + 1)).map (rnE f t) = (kids.take i).map (rnE f t) ++ [rnE f t x] by rw [List.take_add_one, hx, List.map_append]; rfl)
          have HE := Lib.hid (fun (W : World) (h : Below w.heap.size w W) => HIT.out x _ W (fun b hb => Nat.lt_of_lt_of_le (HFF.out b hb) h.size) (HD.out x hxm) (hER.bel h) (HCK.out x hxm))
          have hlb : b < wr.heap.size := Nat.lt_of_lt_of_le hb HH.out.1.size
          have HP := Lib.hid ((HH.out).push 28 #[.int .i64 k', .int .i64 k1', .int .i64 n1', .string s1', .slice A1' na1' ca1', .slice B1' nb1' cb1', .string s', .slice A2' n2' ca2'] (g := wr.heap.size) rfl)
          have HO1 := Lib.hid (HO.out.alloc (.cells #[.int .i64 k', .int .i64 k1', .int .i64 n1', .string s1', .slice A1' na1' ca1', .slice B1' nb1' cb1', .string s', .slice A2' n2' ca2'] 28))
          have HV1 := Lib.hid (RR.imp HV.out fun c y hc => hc.bel ((Below.refl _ wr).alloc (Nat.le_refl _) (.cells #[.int .i64 k', .int .i64 k1', .int .i64 n1', .string s1', .slice A1' na1' ca1', .slice B1' nb1' cb1', .string s', .slice A2' n2' ca2'] 28)))
          have hwr2 : w.heap.size + 2 ≤ wr.heap.size := HH.out.b0.lt
          clear hz hER hx hxm hb
          go_wp2_with fail
          refine (HE.out _ HP.out.1).mono ?_
          rintro e w4 ⟨cs4, rfl, hv4, hb4⟩
          clear z0 z1 z2 z3 z4 z5 z6 z7
          have HV4 := Lib.hid hv4
          obtain ⟨k9, k19, n19, s19, A19, na19, ca19, B19, nb19, cb19, s9, A29, n29, ca29, rfl⟩ := hv4.form
          have hsz : wr.heap.size < w4.heap.size := by have := hb4.size; simp at this; omega
          have HP4 := Lib.hid (HP.out.keep hb4)
          have HO4 := Lib.hid (ownBel HO1.out hb4)
          have HV5 := Lib.hid (RR.imp HV1.out fun c y hc => hc.bel hb4)
          have HRW := Lib.hid (fun (j : Nat) (e : row.ownBlock = some j) => HO.out.lt j e)
          have hO6 := Lib.hid (HO4.out.alloc (.cells #[.int .i64 k9, .int .i64 k19, .int .i64 n19, .string s19, .slice A19 na19 ca19, .slice B19 nb19 cb19, .string s9, .slice A29 n29 ca29] 28))
          have hR6 := Lib.hid (Rd.of_blk (Blk.new w4 28 #[.int .i64 k9, .int .i64 k19, .int .i64 n19, .string s19, .slice A19 na19 ca19, .slice B19 nb19 cb19, .string s9, .slice A29 n29 ca29]))
          have H1C := Lib.hid (show ∀ u ∈ ([.int .i64 k9, .int .i64 k19, .int .i64 n19, .string s19, .slice A19 na19 ca19, .slice B19 nb19 cb19, .string s9, .slice A29 n29 ca29] : List Value), u.oneCell' = true from HV4.out.one)
          have HBS := Lib.hid (show w.heap.size + 2 ≤ (w4.alloc (.cells #[.int .i64 k9, .int .i64 k19, .int .i64 n19, .string s19, .slice A19 na19 ca19, .slice B19 nb19 cb19, .string s9, .slice A29 n29 ca29] 28)).heap.size by rw [World.size_alloc]; omega)
          clear hv4 hb4
          go_wp2_with (at_builtin; refine wpList_append_rd _ rfl _ _ 26 rfl (w.heap.size + 2) 28 i0 _ 8 128 Tryz.underlying26 HI.out hz0 hz1 hz2 rfl (by decide) row i css.flatten rfl hO6.out (some ⟨w4.heap.size, 0, none⟩) 1 1 (fun h => by cases h) [.int .i64 k9, .int .i64 k19, .int .i64 n19, .string s19, .slice A19 na19 ca19, .slice B19 nb19 cb19, .string s9, .slice A29 n29 ca29] rfl rfl hR6.out H1C.out (by unfold maxLen; omega) (by omega) HBS.out ?_; intro row2 w6 hown6 hgr6 hob6)
          have hHH : Held [(w.heap.size + 1, 28, #[.int .i64 0, .int .i64 0, .int .i64 0, .string ⟨#[]⟩, .slice none 0 0, .slice none 0 0, .string ⟨#[]⟩, .slice none 0 0]), (w.heap.size, 28, #[.int .i64 k, .int .i64 k1, .int .i64 n1, .string s1, .slice A1 na1 ca1, .slice B1 nb1 cb1, .string sb, .slice (some ⟨b, o, none⟩) nr ca])] w w6 := by
            refine ((HP4.out.pop).alloc _).grown hgr6 (fun j e => by have := HRW.out j e; omega) (fun y hy e => ?_)
            simp only [List.mem_cons, List.not_mem_nil, or_false] at hy
            rcases hy with rfl | rfl
            · have := HRW.out _ e.symm; omega
            · have := HRW.out _ e.symm; omega
          have hVV : ERs w6 (FO (fun b => F b ∨ w.heap.size + 2 ≤ b) row2) (css ++ [([.int .i64 k9, .int .i64 k19, .int .i64 n19, .string s19, .slice A19 na19 ca19, .slice B19 nb19 cb19, .string s9, .slice A29 n29 ca29] : List Value)]) ((kids.take (i + 1)).map (rnE f t)) := by
            rw [HTK.out]
            refine ers_growG ?_ hgr6 hob6
            refine (RR.imp HV5.out fun c y hc => hc.bel ((Below.refl _ _).alloc (Nat.le_refl _) _)).snoc ((HV4.out.bel ((Below.refl _ _).alloc (Nat.le_refl _) _)).mono fun b' _ hb' => ?_)
            rcases hb' with hb' | hb'
            · exact ⟨.inl hb', fun e => by have := HRW.out _ e.symm; have := HFF.out _ hb'; omega⟩
            · simp at hb'
              exact ⟨.inr (by omega), fun e => by have := HRW.out _ e.symm; omega⟩
          have hOO : w6.ownsRow (w.heap.size + 2) 28 8 row2 (i + 1) (css ++ [([.int .i64 k9, .int .i64 k19, .int .i64 n19, .string s19, .slice A19 na19 ca19, .slice B19 nb19 cb19, .string s9, .slice A29 n29 ca29] : List Value)]).flatten := by
            rw [List.flatten_append]; simpa using hown6
          have H9 := Lib.hid (And.intro hHH (And.intro hOO hVV))
          clear hHH hOO hVV hown6 hgr6 hob6
          go_wp2
          go_roundg (nr - (i + 1))
          case measure => have := HGK.out; omega
          case rel => exact ⟨i + 1, row2, _, rfl, by omega, rfl, by go_num, Lib.hid H9.out.1, Lib.hid H9.out.2.1, Lib.hid H9.out.2.2⟩
        · obtain rfl : i = nr := by omega
          obtain ⟨RA, rc, rfl, hrc, hrn, hrr⟩ := own_parts HO.out
          have HRR := Lib.hid (And.intro hrc (And.intro hrn hrr))
          clear hrc hrn hrr
          obtain ⟨c0, f0, l0⟩ := HH.out.b1.rules
          have hne : w.heap.size ≠ w.heap.size + 1 := by omega
          have HB0 := Lib.hid (show Blk (wr.setCell ⟨w.heap.size, 7, none⟩ (.slice RA i rc)) w.heap.size 28 #[.int .i64 k, .int .i64 k1, .int .i64 n1, .string s1, .slice A1 na1 ca1, .slice B1 nb1 cb1, .string sb, .slice RA i rc] from HH.out.b1.set_ 7 _)
          have HB1 := Lib.hid (show Blk (wr.setCell ⟨w.heap.size, 7, none⟩ (.slice RA i rc)) (w.heap.size + 1) 28 #[.int .i64 0, .int .i64 0, .int .i64 0, .string ⟨#[]⟩, .slice none 0 0, .slice none 0 0, .string ⟨#[]⟩, .slice none 0 0] from Blk.far HH.out.b0 (by show w.heap.size + 1 ≠ w.heap.size; omega) _)
          have HL := Lib.hid (show Below w.heap.size w (wr.setCell ⟨w.heap.size, 7, none⟩ (.slice RA i rc)) from HH.out.1.setCell (p := ⟨w.heap.size, 7, none⟩) (Nat.le_refl _) _)
          have HKF := Lib.hid (show KeepF (fun b => F b ∨ w.heap.size + 2 ≤ b) wr (wr.setCell ⟨w.heap.size, 7, none⟩ (.slice RA i rc)) from KeepF.set KeepF.refl (fun b hb => by rcases hb with hb | hb; exact Nat.ne_of_lt (HFF.out b hb); omega) 7 _)
          obtain ⟨WF, hWF⟩ : ∃ W', wr.setCell ⟨w.heap.size, 7, none⟩ (.slice RA i rc) = W' := ⟨_, rfl⟩
          rw [hWF] at HB0 HB1 HL HKF
          have HWF := Lib.hid hWF
          clear hWF
          go_upto_region 10 with fail
          rw [HWF.out]
          clear HWF c0 f0 l0
          obtain ⟨c0, f0, l0⟩ := HB0.out.rules
          first | (refine wpList_store_mid rfl 28 (.tmp 6) (.tmp 38) rfl (w.heap.size + 1) 0 #[.int .i64 k, .int .i64 k1, .int .i64 n1, .string s1, .slice A1 na1 ca1, .slice B1 nb1 cb1, .string sb, .slice RA i rc] rfl rfl HB1.out.there (by kernel_rfl) (by first | kernel_rfl | simp [Value.oneCell']) ?_) | (go_step; refine wpList_store_mid rfl 28 (.tmp 6) (.tmp 38) rfl (w.heap.size + 1) 0 #[.int .i64 k, .int .i64 k1, .int .i64 n1, .string s1, .slice A1 na1 ca1, .slice B1 nb1 cb1, .string sb, .slice RA i rc] rfl rfl HB1.out.there (by kernel_rfl) (by first | kernel_rfl | simp [Value.oneCell']) ?_) | (go_step; go_step; refine wpList_store_mid rfl 28 (.tmp 6) (.tmp 38) rfl (w.heap.size + 1) 0 #[.int .i64 k, .int .i64 k1, .int .i64 n1, .string s1, .slice A1 na1 ca1, .slice B1 nb1 cb1, .string sb, .slice RA i rc] rfl rfl HB1.out.there (by kernel_rfl) (by first | kernel_rfl | simp [Value.oneCell']) ?_) | (go_step; go_step; go_step; refine wpList_store_mid rfl 28 (.tmp 6) (.tmp 38) rfl (w.heap.size + 1) 0 #[.int .i64 k, .int .i64 k1, .int .i64 n1, .string s1, .slice A1 na1 ca1, .slice B1 nb1 cb1, .string sb, .slice RA i rc] rfl rfl HB1.out.there (by kernel_rfl) (by first | kernel_rfl | simp [Value.oneCell']) ?_) | (go_step; go_step; go_step; go_step; refine wpList_store_mid rfl 28 (.tmp 6) (.tmp 38) rfl (w.heap.size + 1) 0 #[.int .i64 k, .int .i64 k1, .int .i64 n1, .string s1, .slice A1 na1 ca1, .slice B1 nb1 cb1, .string sb, .slice RA i rc] rfl rfl HB1.out.there (by kernel_rfl) (by first | kernel_rfl | simp [Value.oneCell']) ?_)
          have HB2 := Lib.hid (HB1.out.set8C (.int .i64 k) (.int .i64 k1) (.int .i64 n1) (.string s1) (.slice A1 na1 ca1) (.slice B1 nb1 cb1) (.string sb) (.slice RA i rc))
          have HL2 := Lib.hid (bel_setC (B := w.heap.size) (b := w.heap.size + 1) (by omega) [.int .i64 k, .int .i64 k1, .int .i64 n1, .string s1, .slice A1 na1 ca1, .slice B1 nb1 cb1, .string sb, .slice RA i rc] 0 HL.out)
          have HKF2 := Lib.hid (HKF.out.trans (KeepF.setC (F := fun b => F b ∨ w.heap.size + 2 ≤ b) (fun b hb => by rcases hb with hb | hb; exact Nat.ne_of_lt (Nat.lt_succ_of_lt (HFF.out b hb)); omega) [.int .i64 k, .int .i64 k1, .int .i64 n1, .string s1, .slice A1 na1 ca1, .slice B1 nb1 cb1, .string sb, .slice RA i rc] 0 KeepF.refl))
          obtain ⟨WG, hWG⟩ : ∃ W', WF.setCells (w.heap.size + 1) 0 [.int .i64 k, .int .i64 k1, .int .i64 n1, .string s1, .slice A1 na1 ca1, .slice B1 nb1 cb1, .string sb, .slice RA i rc] = W' := ⟨_, rfl⟩
          rw [hWG] at HB2 HL2 HKF2
          simp only []
          rw [hWG]
          clear hWG c0 f0 l0 HB0 HB1 HL HKF
          obtain ⟨c0, f0, l0⟩ := HB2.out.rules
          go_wp2
          refine bodyPost_ret (v := .agg #[.int .i64 k, .int .i64 k1, .int .i64 n1, .string s1, .slice A1 na1 ca1, .slice B1 nb1 cb1, .string sb, .slice RA i rc]) (by simp only [results, Tryz.results35]; go_simp) rfl ?_
          refine ⟨[.int .i64 k, .int .i64 k1, .int .i64 n1, .string s1, .slice A1 na1 ca1, .slice B1 nb1 cb1, .string sb, .slice RA i rc], rfl, ?_, HL2.out⟩
          have hvv := (HVV.out.keep (KeepF.of_below HL2.out)).mono (F' := FN F w) fun b _ h => .inl h
          have hl : i = (kids.map (rnE f t)).length := by rw [List.length_map, HNR.out]
          have he : (kids.take i).map (rnE f t) = kids.map (rnE f t) := by rw [← HNR.out, List.take_length]
          have hrr : ERs wr (FO (fun b => F b ∨ w.heap.size + 2 ≤ b) (.slice RA i rc)) css (kids.map (rnE f t)) := by rw [← he]; exact HV.out
          try (have hk9 := HK2.out; subst hk9)
          rw [HRE.out, ← HSB.out]
          exact ER.into hvv (RR.imp hrr fun c y (hc : ER wr _ c y) => ((hc.mono (F' := fun b => F b ∨ w.heap.size + 2 ≤ b) fun b _ h => h.1).keep HKF2.out).mono fun b _ h => h.imp id fun h => by omega) hl (by rw [← hl]; exact HRR.out.1) HRR.out.2.1 (((HRR.out.2.2.mono (F' := fun b => F b ∨ w.heap.size + 2 ≤ b) fun b _ h => .inr h).keep HKF2.out).mono fun b _ h => h.imp id fun h => by omega)
end Go.Proofs.YtgolomgmnanbpaaGreatDoor
