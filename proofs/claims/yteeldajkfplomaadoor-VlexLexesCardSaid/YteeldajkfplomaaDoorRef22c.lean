import Derived.Test.YteeldajkfplomaaDoorRef22b
import Derived.Test.YteeldajkfplomaaDoorRef2d
import Derived.Test.YteeldajkfplomaaDoorRef3P
import Derived.Test.YteeldajkfplomaaDoorVlex11
import Derived.Test.YteeldajkfplomaaDoorWakes
/- The walk of the reference davenportref22: take, names and words. -/
namespace Go.Proofs.YteeldajkfplomaaDoor
set_option linter.unusedVariables false
set_option linter.unusedSimpArgs false
open Go.RowKit
attribute [local go_sem] run_index_arr run_part_agg run_part_one run_field_agg

def RetTake (r : VRes) (p : Nat) (w : World) (e : Ending) (w' : World) : Prop :=
  (match r with
   | .inl (k, t, n, m) => e = .returned (.tuple #[tokV k p ⟨t.toArray⟩ n, .int .i64 m, .int .i64 0])
   | .inr (q, er) => e = .returned (.tuple #[zeroTok, .int .i64 q, .int .i64 er])) ∧ Below w.heap.size w w'

theorem put4_below {w W : World} {k : Nat} (h : Below w.heap.size w W) (hk : w.heap.size ≤ k) (a b s d : Value) : Below w.heap.size w ((((W.setCell ⟨k, 0, none⟩ a).setCell ⟨k, 1, none⟩ b).setCell ⟨k, 2, none⟩ s).setCell ⟨k, 3, none⟩ d) :=
  (((h.setCell (p := ⟨k, 0, none⟩) hk a).setCell (p := ⟨k, 1, none⟩) hk b).setCell (p := ⟨k, 2, none⟩) hk s).setCell (p := ⟨k, 3, none⟩) hk d
set_option maxRecDepth 100000 in
set_option maxHeartbeats 4000000 in
theorem rTakeName_any (v : Value) (l : List UInt8) (p : Nat) (c : UInt8) (w : World) (hv : BS w v l) (hl : l.length ≤ 1048576) (hc : l[p]? = some c) (hk : isLetter c = true) :
    Calls Tryd.prog 20 #[v, .int .i64 p] w (RetTake (vName l p) p w) := by
  have hp := (List.getElem?_eq_some_iff.1 hc).1
  obtain ⟨A, cap, rfl, hcap, hr⟩ := hv
  obtain ⟨b, o, rfl, hb⟩ := hr.some_ (by omega)
  obtain ⟨W1, hW1⟩ : ∃ W1, w.alloc (.cells #[.int .i64 0, .int .i64 0, .string ⟨#[]⟩, .int .i64 0] 30) = W1 := ⟨_, rfl⟩
  have hr1 : Rd W1 (some ⟨b, o, none⟩) (byteV l) := by rw [← hW1]; exact hr.alloc _
  have ht1 : Blk W1 w.heap.size 30 #[.int .i64 0, .int .i64 0, .string ⟨#[]⟩, .int .i64 0] := by rw [← hW1]; exact Blk.new _ _ _
  have hb1 : Below w.heap.size w W1 := by rw [← hW1]; exact (Below.refl _ w).alloc (Nat.le_refl _) _
  have hbW : b < W1.heap.size := Nat.lt_of_lt_of_le hb hb1.size
  have HW1 := Lib.hid hW1
  have HR1 := Lib.hid hr1
  have hx := BS.at_ (n := 0) (cap := 0) hr1 hc
  have HL := Lib.hid rLetter_any
  have HD := Lib.hid rDigit_any
  have HC := Lib.hid (HL.out c)
  rw [hk] at HC
  have HV0 := Lib.hid (show RetTake (vName l p) p w = RetTake (vName l p) p w from rfl)
  clear hc hr hr1
  go_enter Tryd.func20, Tryd.ntmps20
  go_wp2_with fail
  clear hW1
  refine (HC.out _).mono ?_
  rintro e w1 ⟨rfl, rfl⟩
  go_wp2_with fail
  go_loopg [8] (l.length - p) (fun gk s8 wr => ∃ k : Nat, p ≤ k ∧ k ≤ l.length ∧ gk = l.length - k ∧ s8 = .int .i64 k ∧ Hid ((l.drop p).takeWhile isLD = (l.drop p).take (k - p) ++ (l.drop k).takeWhile isLD) ∧ wr = W1)
  case atStart => exact ⟨p, Nat.le_refl _, Nat.le_of_lt hp, rfl, rfl, Lib.hid (by simp), rfl⟩
  case round =>
    obtain ⟨k, hpk, hk2, hgk, rfl, HS, rfl⟩ := hrel
    have HG := Lib.hid hgk
    clear hgk hx
    have key : ∀ t : List UInt8, (l.drop p).takeWhile isLD = t → t = (l.drop p).take (k - p) → k = p + t.length := fun t h1 h2 => by
      rw [h2, List.length_take, List.length_drop]; omega
    by_cases hkl : k < l.length
    · obtain ⟨x, hx⟩ : ∃ c, l[k]? = some c := ⟨_, List.getElem?_eq_getElem hkl⟩
      have hxx := BS.at_ (n := 0) (cap := 0) HR1.out hx
      cases h1 : isLetter x with
      | true =>
        have hld : isLD x = true := by rw [isLD, h1]; rfl
        have HX := Lib.hid (HL.out x)
        rw [h1] at HX
        have HS2 := Lib.hid (take_more HS.out hx (ld_step hx hld) hpk)
        clear hx h1 hld key
        go_wp2_with fail
        refine (HX.out _).mono ?_
        rintro e w1 ⟨rfl, rfl⟩
        go_wp2_with fail
        go_roundg (l.length - (k + 1))
        case measure => rw [HG.out]; omega
        case rel => exact ⟨k + 1, by omega, hkl, rfl, by go_num, HS2, rfl⟩
      | false =>
        have HX := Lib.hid (HL.out x)
        rw [h1] at HX
        have HY := Lib.hid (HD.out x)
        cases h2 : isDig x with
        | true =>
          have hld : isLD x = true := by rw [isLD, h2]; simp
          rw [h2] at HY
          have HS2 := Lib.hid (take_more HS.out hx (ld_step hx hld) hpk)
          clear hx h1 h2 hld key
          go_wp2_with fail
          refine (HX.out _).mono ?_
          rintro e w1 ⟨rfl, rfl⟩
          go_wp2_with fail
          refine (HY.out _).mono ?_
          rintro e w1 ⟨rfl, rfl⟩
          go_wp2_with fail
          go_roundg (l.length - (k + 1))
          case measure => rw [HG.out]; omega
          case rel => exact ⟨k + 1, by omega, hkl, rfl, by go_num, HS2, rfl⟩
        | false =>
          have hld : isLD x = false := by rw [isLD, h1, h2]; rfl
          rw [h2] at HY
          obtain ⟨t, ht⟩ : ∃ t, (l.drop p).takeWhile isLD = t := ⟨_, rfl⟩
          have htt : (l.drop p).take (k - p) = t := by rw [← ht, HS.out, ld_stop hx hld, List.append_nil]
          have hkp := key t ht htt.symm
          have HNM := Lib.hid ht
          clear hx h1 h2 hld key ht
          have hcv : (convert 37 9 (.slice (some ⟨b, o + p, none⟩) (k - p) (cap - p))).run Tryd.prog wr = .ok (.string ⟨t.toArray⟩) wr := by
            have h := sub_conv (w := wr) (p := p) (k := k) hpk (by omega) hcap (sub_rd HR1.out)
            rw [htt] at h
            exact h
          have hpc : ¬ cap = p := by omega
          have HHK := Lib.hid hkp
          have HVN := Lib.hid (show vName l p = if isWord t then .inl (2, t, 0, p + t.length) else if isName ⟨t.toArray⟩ then .inl (1, t, 0, p + t.length) else .inr (p, 320) by unfold vName; rw [HNM.out])
          obtain ⟨bw, hbw⟩ : ∃ b, isWord t = b := ⟨_, rfl⟩
          obtain ⟨bn, hbn⟩ : ∃ b, isName ⟨t.toArray⟩ = b := ⟨_, rfl⟩
          have hWd := fun w => rWord_any ⟨t.toArray⟩ w
          rw [sl_mk, hbw] at hWd
          have hNm := fun w => rName_any ⟨t.toArray⟩ w
          rw [hbn] at hNm
          have HWd := Lib.hid hWd
          have HNm := Lib.hid hNm
          have HBW := Lib.hid hbw
          have HBN := Lib.hid hbn
          obtain ⟨cr, fr, lr⟩ := ht1.rules
          clear hWd hNm hbw hbn hkp htt
          go_wp2_with fail
          refine (HX.out _).mono ?_
          rintro e w1 ⟨rfl, rfl⟩
          go_wp2_with fail
          refine (HY.out _).mono ?_
          rintro e w1 ⟨rfl, rfl⟩
          go_wp2_with fail
          cases bw with
          | true =>
            have HR := Lib.hid (show vName l p = .inl (2, t, 0, p + t.length) by rw [HVN.out, HBW.out]; rfl)
            refine (HWd.out _).mono ?_
            rintro e w1 ⟨rfl, rfl⟩
            go_wp2
            obtain ⟨cf, _, _⟩ := (ht1.put4 (.int .i64 2) (.int .i64 p) (.string ⟨t.toArray⟩) (.int .i64 0)).rules
            refine bodyPost_ret (v := .tuple #[.agg #[.int .i64 2, .int .i64 p, .string ⟨t.toArray⟩, .int .i64 0], .int .i64 k, .int .i64 0]) (by simp only [results, Tryd.results20]; go_simp) rfl ?_
            rw [HR.out]
            exact ⟨by simp only [tokV]; rw [HHK.out], put4_below hb1 (Nat.le_refl _) _ _ _ _⟩
          | false =>
            refine (HWd.out _).mono ?_
            rintro e w1 ⟨rfl, rfl⟩
            go_wp2_with fail
            cases bn with
            | true =>
              have HR := Lib.hid (show vName l p = .inl (1, t, 0, p + t.length) by rw [HVN.out, HBW.out, HBN.out]; rfl)
              refine (HNm.out _).mono ?_
              rintro e w1 ⟨rfl, rfl⟩
              go_wp2
              obtain ⟨cf, _, _⟩ := (ht1.put4 (.int .i64 1) (.int .i64 p) (.string ⟨t.toArray⟩) (.int .i64 0)).rules
              refine bodyPost_ret (v := .tuple #[.agg #[.int .i64 1, .int .i64 p, .string ⟨t.toArray⟩, .int .i64 0], .int .i64 k, .int .i64 0]) (by simp only [results, Tryd.results20]; go_simp) rfl ?_
              rw [HR.out]
              exact ⟨by simp only [tokV]; rw [HHK.out], put4_below hb1 (Nat.le_refl _) _ _ _ _⟩
            | false =>
              have HR := Lib.hid (show vName l p = .inr (p, 320) by rw [HVN.out, HBW.out, HBN.out]; rfl)
              refine (HNm.out _).mono ?_
              rintro e w1 ⟨rfl, rfl⟩
              go_wp2
              obtain ⟨cf, _, _⟩ := (ht1.put4 (.int .i64 0) (.int .i64 0) (.string ⟨#[]⟩) (.int .i64 0)).rules
              refine bodyPost_ret (v := .tuple #[.agg #[.int .i64 0, .int .i64 0, .string ⟨#[]⟩, .int .i64 0], .int .i64 p, .int .i64 320]) (by simp only [results, Tryd.results20]; go_simp) rfl ?_
              rw [HR.out]
              exact ⟨rfl, put4_below hb1 (Nat.le_refl _) _ _ _ _⟩
    · obtain rfl : k = l.length := by omega
      obtain ⟨t, ht⟩ : ∃ t, (l.drop p).takeWhile isLD = t := ⟨_, rfl⟩
      have htt : (l.drop p).take (l.length - p) = t := by rw [← ht, HS.out, ld_end (Nat.le_refl _), List.append_nil]
      have hkp := key t ht htt.symm
      have HNM := Lib.hid ht
      clear key ht
      have hcv : (convert 37 9 (.slice (some ⟨b, o + p, none⟩) (l.length - p) (cap - p))).run Tryd.prog wr = .ok (.string ⟨t.toArray⟩) wr := by
        have h := sub_conv (w := wr) (p := p) (k := l.length) hpk (by omega) hcap (sub_rd HR1.out)
        rw [htt] at h
        exact h
      have hpc : ¬ cap = p := by omega
      have HHK := Lib.hid hkp
      have HVN := Lib.hid (show vName l p = if isWord t then .inl (2, t, 0, p + t.length) else if isName ⟨t.toArray⟩ then .inl (1, t, 0, p + t.length) else .inr (p, 320) by unfold vName; rw [HNM.out])
      obtain ⟨bw, hbw⟩ : ∃ b, isWord t = b := ⟨_, rfl⟩
      obtain ⟨bn, hbn⟩ : ∃ b, isName ⟨t.toArray⟩ = b := ⟨_, rfl⟩
      have hWd := fun w => rWord_any ⟨t.toArray⟩ w
      rw [sl_mk, hbw] at hWd
      have hNm := fun w => rName_any ⟨t.toArray⟩ w
      rw [hbn] at hNm
      have HWd := Lib.hid hWd
      have HNm := Lib.hid hNm
      have HBW := Lib.hid hbw
      have HBN := Lib.hid hbn
      obtain ⟨cr, fr, lr⟩ := ht1.rules
      clear hWd hNm hbw hbn hkp htt
      go_wp2_with fail
      cases bw with
      | true =>
        have HR := Lib.hid (show vName l p = .inl (2, t, 0, p + t.length) by rw [HVN.out, HBW.out]; rfl)
        refine (HWd.out _).mono ?_
        rintro e w1 ⟨rfl, rfl⟩
        go_wp2
        obtain ⟨cf, _, _⟩ := (ht1.put4 (.int .i64 2) (.int .i64 p) (.string ⟨t.toArray⟩) (.int .i64 0)).rules
        refine bodyPost_ret (v := .tuple #[.agg #[.int .i64 2, .int .i64 p, .string ⟨t.toArray⟩, .int .i64 0], .int .i64 l.length, .int .i64 0]) (by simp only [results, Tryd.results20]; go_simp) rfl ?_
        rw [HR.out]
        exact ⟨by simp only [tokV]; rw [HHK.out], put4_below hb1 (Nat.le_refl _) _ _ _ _⟩
      | false =>
        refine (HWd.out _).mono ?_
        rintro e w1 ⟨rfl, rfl⟩
        go_wp2_with fail
        cases bn with
        | true =>
          have HR := Lib.hid (show vName l p = .inl (1, t, 0, p + t.length) by rw [HVN.out, HBW.out, HBN.out]; rfl)
          refine (HNm.out _).mono ?_
          rintro e w1 ⟨rfl, rfl⟩
          go_wp2
          obtain ⟨cf, _, _⟩ := (ht1.put4 (.int .i64 1) (.int .i64 p) (.string ⟨t.toArray⟩) (.int .i64 0)).rules
          refine bodyPost_ret (v := .tuple #[.agg #[.int .i64 1, .int .i64 p, .string ⟨t.toArray⟩, .int .i64 0], .int .i64 l.length, .int .i64 0]) (by simp only [results, Tryd.results20]; go_simp) rfl ?_
          rw [HR.out]
          exact ⟨by simp only [tokV]; rw [HHK.out], put4_below hb1 (Nat.le_refl _) _ _ _ _⟩
        | false =>
          have HR := Lib.hid (show vName l p = .inr (p, 320) by rw [HVN.out, HBW.out, HBN.out]; rfl)
          refine (HNm.out _).mono ?_
          rintro e w1 ⟨rfl, rfl⟩
          go_wp2
          obtain ⟨cf, _, _⟩ := (ht1.put4 (.int .i64 0) (.int .i64 0) (.string ⟨#[]⟩) (.int .i64 0)).rules
          refine bodyPost_ret (v := .tuple #[.agg #[.int .i64 0, .int .i64 0, .string ⟨#[]⟩, .int .i64 0], .int .i64 p, .int .i64 320]) (by simp only [results, Tryd.results20]; go_simp) rfl ?_
          rw [HR.out]
          exact ⟨rfl, put4_below hb1 (Nat.le_refl _) _ _ _ _⟩

theorem exp_plain {l : List UInt8} {e0 e : Nat} {pl : Bool} (h : endExp l pl e0 = (e, true, true)) : e = e0 ∧ pl = true := by
  unfold endExp at h
  by_cases he : seesB l e0 [101, 69] = true
  · rw [if_pos he] at h
    generalize (if seesB l (e0 + 1) [43, 45] = true then e0 + 1 + 1 else e0 + 1) = X at h
    by_cases hd : digEnd l X = X
    · rw [if_pos hd] at h
      simp only [Prod.mk.injEq] at h
      exact absurd h.2.1 (by decide)
    · rw [if_neg hd] at h
      simp only [Prod.mk.injEq] at h
      exact absurd h.2.1 (by decide)
  · rw [if_neg he] at h
    simp only [Prod.mk.injEq] at h
    exact ⟨h.1.symm, h.2.1⟩
theorem frac_plain {l : List UInt8} {e0 e : Nat} (h : endFrac l e0 = (e, true, true)) : e = e0 := by
  unfold endFrac at h
  by_cases hf : seesB l e0 [46] = true
  · rw [if_pos hf] at h
    by_cases hd : digEnd l (e0 + 1) = e0 + 1
    · rw [if_pos hd] at h
      simp only [Prod.mk.injEq] at h
      exact absurd h.2.1 (by decide)
    · rw [if_neg hd] at h
      exact absurd (exp_plain h).2 (by decide)
  · rw [if_neg hf] at h
    exact (exp_plain h).1
theorem endS_plain {l : List UInt8} {p e : Nat} {c : UInt8} (hc : l[p]? = some c) (hd : isDig c = true) (h : endS l p = (e, true, true)) :
    p < e ∧ e ≤ l.length ∧ (∀ x ∈ (l.drop p).take (e - p), isDig x = true) ∧ (l.drop p).take (e - p) ≠ [] := by
  have hlt := (List.getElem?_eq_some_iff.1 hc).1
  have hcr : 48 ≤ c.toNat ∧ c.toNat ≤ 57 := of_decide_eq_true hd
  have hm : seesB l p [45] = false := by
    rw [sees_none hc]
    have : c ≠ 45 := fun e => by rw [e] at hcr; exact absurd hcr (by decide)
    simpa using this
  have hs : seesB l p [48, 49, 50, 51, 52, 53, 54, 55, 56, 57] = true := by rw [sees_none hc, u8_dig c]; exact hd
  have hde : p < digEnd l p := by
    rw [digEnd_more hs]
    have := (digEnd_le l (p + 1)).1
    omega
  have he : e = if seesB l p [48] then p + 1 else digEnd l p := by
    unfold endS endWhole at h
    rw [hm] at h
    simp only [Bool.false_eq_true, if_false] at h
    rw [if_neg (by omega)] at h
    exact frac_plain h
  have hle : e ≤ l.length := by rw [he]; split; omega; exact (digEnd_le l p).2 (by omega)
  have hpe : p < e := by rw [he]; split <;> omega
  refine ⟨hpe, hle, ?_, ?_⟩
  · intro x hx
    by_cases hz : seesB l p [48] = true
    · rw [if_pos hz] at he
      subst he
      rw [show p + 1 - p = 1 from by omega, List.drop_eq_getElem_cons hlt] at hx
      have : l[p] = c := (List.getElem?_eq_some_iff.1 hc).2
      rw [this] at hx
      simp at hx
      rw [hx]; exact hd
    · rw [if_neg hz] at he
      subst he
      unfold digEnd at hx
      rw [show p + (digs l p).length - p = (digs l p).length from by omega, digs_take] at hx
      exact digs_all l p x hx
  · intro e0
    have := congrArg List.length e0
    simp at this
    omega

set_option maxRecDepth 100000 in
set_option maxHeartbeats 4000000 in
theorem rTakeNum_any (v : Value) (l : List UInt8) (p : Nat) (c : UInt8) (w : World) (hv : BS w v l) (hl : l.length ≤ 1048576) (hc : l[p]? = some c) (hk0 : isLetter c = false) (hk : isDig c = true) :
    Calls Tryd.prog 20 #[v, .int .i64 p] w (RetTake (vNumber l p) p w) := by
  rw [num_same hc hk]
  have hp := (List.getElem?_eq_some_iff.1 hc).1
  obtain ⟨A, cap, rfl, hcap, hr⟩ := hv
  obtain ⟨b, o, rfl, hb⟩ := hr.some_ (by omega)
  obtain ⟨W1, hW1⟩ : ∃ W1, w.alloc (.cells #[.int .i64 0, .int .i64 0, .string ⟨#[]⟩, .int .i64 0] 30) = W1 := ⟨_, rfl⟩
  have hr1 : Rd W1 (some ⟨b, o, none⟩) (byteV l) := by rw [← hW1]; exact hr.alloc _
  have ht1 : Blk W1 w.heap.size 30 #[.int .i64 0, .int .i64 0, .string ⟨#[]⟩, .int .i64 0] := by rw [← hW1]; exact Blk.new _ _ _
  have hb1 : Below w.heap.size w W1 := by rw [← hW1]; exact (Below.refl _ w).alloc (Nat.le_refl _) _
  have HR1 := Lib.hid hr1
  have hx := BS.at_ (n := 0) (cap := 0) hr1 hc
  have HC := Lib.hid (rLetter_any c)
  rw [hk0] at HC
  have HD := Lib.hid (rDigit_any c)
  rw [hk] at HD
  have HE := Lib.hid (rEnd_any (.slice (some ⟨b, o, none⟩) l.length cap) l p W1 ⟨_, _, rfl, hcap, HR1.out⟩ hl (by omega))
  have hpl := fun e => endS_plain (e := e) hc hk
  obtain ⟨⟨e, pl, rt⟩, hr3⟩ : ∃ r, endS l p = r := ⟨_, rfl⟩
  rw [hr3] at HE hpl
  obtain ⟨r, hrr⟩ : ∃ r, refNum l p = r := ⟨_, rfl⟩
  rw [hrr]
  have hrd : r = if rt = false then .inr ((e : Int), 7) else if pl = false then .inr ((p : Int), 130) else match numFit false (digNum ((l.drop p).take (e - p))) with
      | some n => .inl (3, (l.drop p).take (e - p), n, e) | none => .inr ((p : Int), 130) := by rw [← hrr, refNum, hr3]; rfl
  have HRD := Lib.hid hrd
  have HPL := Lib.hid hpl
  clear hc hr hr1 hr3 hrr hrd hpl hk hk0
  go_enter Tryd.func20, Tryd.ntmps20
  go_wp2_with fail
  clear hW1
  refine (HC.out _).mono ?_
  rintro e w1 ⟨rfl, rfl⟩
  go_wp2_with fail
  refine (HD.out _).mono ?_
  rintro e w1 ⟨rfl, rfl⟩
  go_wp2_with fail
  refine HE.out.mono ?_
  rintro e1 w1 ⟨rfl, q, rfl⟩
  have ht2 := ht1.drewN q
  have hb2 : Below w.heap.size w (W1.drewN q) := bel_drewN hb1 q
  have hr2 := HR1.out.drewN q
  obtain ⟨W2, hW2⟩ : ∃ W2, W1.drewN q = W2 := ⟨_, rfl⟩
  rw [hW2] at ht2 hb2 hr2 ⊢
  have HR2 := Lib.hid hr2
  clear hW2 hr2 ht1 hb1 hx
  obtain ⟨cr, fr, lr⟩ := ht2.rules
  cases rt with
  | false =>
    have HR := Lib.hid (show r = .inr ((e : Int), 7) by rw [HRD.out, if_pos rfl])
    go_wp2
    obtain ⟨cf, _, _⟩ := (ht2.put4 (.int .i64 0) (.int .i64 0) (.string ⟨#[]⟩) (.int .i64 0)).rules
    refine bodyPost_ret (v := .tuple #[.agg #[.int .i64 0, .int .i64 0, .string ⟨#[]⟩, .int .i64 0], .int .i64 e, .int .i64 7]) (by simp only [results, Tryd.results20]; go_simp) rfl ?_
    rw [HR.out]
    exact ⟨rfl, put4_below hb2 (Nat.le_refl _) _ _ _ _⟩
  | true =>
    cases pl with
    | false =>
      have HR := Lib.hid (show r = .inr ((p : Int), 130) by rw [HRD.out, if_neg (by simp), if_pos rfl])
      go_wp2
      obtain ⟨cf, _, _⟩ := (ht2.put4 (.int .i64 0) (.int .i64 0) (.string ⟨#[]⟩) (.int .i64 0)).rules
      refine bodyPost_ret (v := .tuple #[.agg #[.int .i64 0, .int .i64 0, .string ⟨#[]⟩, .int .i64 0], .int .i64 p, .int .i64 130]) (by simp only [results, Tryd.results20]; go_simp) rfl ?_
      rw [HR.out]
      exact ⟨rfl, put4_below hb2 (Nat.le_refl _) _ _ _ _⟩
    | true =>
      obtain ⟨hpe, hel, hdig, hne⟩ := HPL.out e rfl
      have hpc : ¬ cap = p := by omega
      have hec : e ≤ cap := by omega
      have hlen : ((l.drop p).take (e - p)).length = e - p := by rw [List.length_take, List.length_drop]; omega
      have hbs : BS W2 (.slice (some ⟨b, o + p, none⟩) (e - p) (cap - p)) ((l.drop p).take (e - p)) := ⟨_, _, by rw [hlen], by rw [hlen]; omega, sub_rd HR2.out⟩
      have hcv := hbs.conv
      have hN := rNumber_pos _ _ W2 hbs (by rw [hlen]; omega) hdig hne
      have hrd2 : r = match numFit false (digNum ((l.drop p).take (e - p))) with | some n => .inl (3, (l.drop p).take (e - p), n, e) | none => .inr ((p : Int), 130) := by rw [HRD.out, if_neg (by simp), if_neg (by simp)]
      obtain ⟨t, ht⟩ : ∃ t, (l.drop p).take (e - p) = t := ⟨_, rfl⟩
      rw [ht] at hcv hN hrd2
      obtain ⟨f, hf⟩ : ∃ f, numFit false (digNum t) = f := ⟨_, rfl⟩
      rw [hf] at hN hrd2
      have HN := Lib.hid hN
      have HRR := Lib.hid hrd2
      clear hN hrd2 hf ht hlen hbs hdig hne
      cases f with
      | none =>
        have HR := Lib.hid (show r = .inr ((p : Int), 130) by rw [HRR.out])
        go_wp2_with fail
        refine HN.out.mono ?_
        rintro e1 w1 ⟨rfl, rfl⟩
        go_wp2
        obtain ⟨cf, _, _⟩ := (ht2.put4 (.int .i64 0) (.int .i64 0) (.string ⟨#[]⟩) (.int .i64 0)).rules
        refine bodyPost_ret (v := .tuple #[.agg #[.int .i64 0, .int .i64 0, .string ⟨#[]⟩, .int .i64 0], .int .i64 p, .int .i64 130]) (by simp only [results, Tryd.results20]; go_simp) rfl ?_
        rw [HR.out]
        exact ⟨rfl, put4_below hb2 (Nat.le_refl _) _ _ _ _⟩
      | some n =>
        have HR := Lib.hid (show r = .inl (3, t, n, e) by rw [HRR.out])
        go_wp2_with fail
        refine HN.out.mono ?_
        rintro e1 w1 ⟨rfl, rfl⟩
        go_wp2
        obtain ⟨cf, _, _⟩ := (ht2.put4 (.int .i64 3) (.int .i64 p) (.string ⟨t.toArray⟩) (.int .i64 n)).rules
        refine bodyPost_ret (v := .tuple #[.agg #[.int .i64 3, .int .i64 p, .string ⟨t.toArray⟩, .int .i64 n], .int .i64 e, .int .i64 0]) (by simp only [results, Tryd.results20]; go_simp) rfl ?_
        rw [HR.out]
        exact ⟨rfl, put4_below hb2 (Nat.le_refl _) _ _ _ _⟩
end Go.Proofs.YteeldajkfplomaaDoor

/- The walk of the reference davenportref22: take, texts and signs. -/
namespace Go.Proofs.YteeldajkfplomaaDoor
set_option linter.unusedVariables false
set_option linter.unusedSimpArgs false
open Go.RowKit
attribute [local go_sem] run_index_arr run_part_agg run_part_one run_field_agg

/-- the code points of signs, as numbers -/
theorem cps_of {xs : List (Int × Int)} (h : ∀ x ∈ xs, ∃ p m : Nat, x = ((p : Int), (m : Int)) ∧ cpLen p ≠ 0) :
    ∃ cs : List Nat, xs.map Prod.fst = (cs.map fun n : Nat => (n : Int)) ∧ (∀ c ∈ cs, isCp (c : Int) = true) ∧ cs.flatMap cpBytes = qBytes xs := by
  induction xs with
  | nil => exact ⟨[], rfl, by simp, rfl⟩
  | cons x r ih =>
    obtain ⟨p, m, rfl, hp⟩ := h x List.mem_cons_self
    obtain ⟨cs, h1, h2, h3⟩ := ih (fun y hy => h y (List.mem_cons_of_mem _ hy))
    refine ⟨p :: cs, by simp [h1], ?_, ?_⟩
    · intro c hc
      rcases List.mem_cons.1 hc with rfl | hc
      · rw [isCp_iff]
        have : ¬ (1114111 < c ∨ (55296 ≤ c ∧ c ≤ 57343)) := fun e => hp ((cpLen_iff c 0).2 (.inl ⟨rfl, e⟩))
        omega
      · exact h2 c hc
    · rw [List.flatMap_cons, h3]; simp [qBytes]

theorem signsF_len (l : List UInt8) : ∀ (k a : Nat), (signsF l k a).length ≤ k
  | 0, _ => by simp [signsF]
  | k + 1, a => by
    unfold signsF
    split
    · have := signsF_len l k (qsS l a).2.1.toNat
      simp; omega
    · simp
theorem signs_few {l : List UInt8} {p : Nat} (hp : p < l.length) (hl : l.length ≤ 1048576) : (signsL l (p + 1)).length ≤ 1048576 := by
  have := signsF_len l (l.length - (p + 1)) (p + 1)
  unfold signsL
  omega
set_option maxRecDepth 100000 in
set_option maxHeartbeats 4000000 in
theorem rTakeText_any (v : Value) (l : List UInt8) (p : Nat) (w : World) (hv : BS w v l) (hl : l.length ≤ 1048576) (hc : l[p]? = some 34) :
    Calls Tryd.prog 20 #[v, .int .i64 p] w (RetTake (vText l p) p w) := by
  have hp := (List.getElem?_eq_some_iff.1 hc).1
  obtain ⟨A, cap, rfl, hcap, hr⟩ := hv
  obtain ⟨b, o, rfl, hb⟩ := hr.some_ (by omega)
  obtain ⟨W1, hW1⟩ : ∃ W1, w.alloc (.cells #[.int .i64 0, .int .i64 0, .string ⟨#[]⟩, .int .i64 0] 30) = W1 := ⟨_, rfl⟩
  have hr1 : Rd W1 (some ⟨b, o, none⟩) (byteV l) := by rw [← hW1]; exact hr.alloc _
  have ht1 : Blk W1 w.heap.size 30 #[.int .i64 0, .int .i64 0, .string ⟨#[]⟩, .int .i64 0] := by rw [← hW1]; exact Blk.new _ _ _
  have hb1 : Below w.heap.size w W1 := by rw [← hW1]; exact (Below.refl _ w).alloc (Nat.le_refl _) _
  have hx := BS.at_ (n := 0) (cap := 0) hr1 hc
  have HC := Lib.hid (show ∀ w, Calls Tryd.prog 19 #[.int .u8 34, .string ⟨#[97, 98, 99, 100, 101, 102, 103, 104, 105, 106, 107, 108, 109, 110, 111, 112, 113, 114, 115, 116, 117, 118, 119, 120, 121, 122]⟩] w fun e w' => e = .returned (.bool false) ∧ w = w' from rLetter_any 34)
  have HD := Lib.hid (show ∀ w, Calls Tryd.prog 19 #[.int .u8 34, .string ⟨#[48, 49, 50, 51, 52, 53, 54, 55, 56, 57]⟩] w fun e w' => e = .returned (.bool false) ∧ w = w' from rDigit_any 34)
  have hR0 := rRead_go (.slice (some ⟨b, o, none⟩) l.length cap) l p W1 ⟨_, _, rfl, hcap, hr1⟩ hl hc
  have hq : vText l p = if (qRead l p).2.2 = 0 then .inl (4, (qRead l p).1, 0, (qRead l p).2.1.toNat) else .inr ((qRead l p).2.1, (qRead l p).2.2) := rfl
  obtain ⟨_, hsp⟩ : True ∧ _ := ⟨trivial, signs_pre (l := l) (l.length - (p + 1)) (p + 1) (signsL l (p + 1)) (Nat.le_refl _) (List.prefix_refl _) hp⟩
  obtain ⟨cs, hcs1, hcs2, hcs3⟩ := cps_of hsp.1
  have hby : (qRead l p).2.2 = 0 → (qRead l p).1 = qBytes (signsL l (p + 1)) ∧ ∃ m : Nat, (qRead l p).2.1 = m := fun h => by
    obtain ⟨m, hm, _⟩ := qRead_ok h
    refine ⟨?_, m, hm⟩
    have := qRead_at hc rfl rfl
    rw [this] at h ⊢
    split
    · rfl
    · rename_i hn
      rw [if_neg hn] at h
      exfalso
      have hnil : signsL l (qEnd (p + 1) (signsL l (p + 1))) = [] := by
        have h2 := hsp.2.2.2
        exact (List.append_right_eq_self.1 h2.symm)
      have hle := hsp.2.2.1
      simp only at h
      unfold qSign at h
      rw [if_neg (by omega)] at h
      by_cases he : qEnd (p + 1) (signsL l (p + 1)) = l.length
      · rw [if_pos (by omega)] at h; exact absurd h (by decide)
      · rw [if_neg (by omega), Int.toNat_natCast] at h
        exact qsS_more hnil (by omega) h
  obtain ⟨⟨by_, pl, er⟩, hqr⟩ : ∃ r, qRead l p = r := ⟨_, rfl⟩
  have hlen : (signsL l (p + 1)).length ≤ 1048576 := signs_few hp hl
  unfold RReadPost at hR0
  rw [hqr] at hR0 hq hby
  simp only at hq hby hR0
  have hcl : cs.length ≤ 1048576 := by have := congrArg List.length hcs1; simp at this; omega
  rw [hcs1] at hR0
  obtain ⟨r, hrt⟩ : ∃ r, vText l p = r := ⟨_, rfl⟩
  rw [hrt] at hq ⊢
  have HQ := Lib.hid hq
  have HR0 := Lib.hid hR0
  have HBY := Lib.hid hby
  have HCS := Lib.hid hcs2
  have HCS3 := Lib.hid hcs3
  clear hrt hc hr hr1 hR0 hq hsp hcs1 hcs2 hby hqr hlen
  go_enter Tryd.func20, Tryd.ntmps20
  go_wp2_with fail
  clear hW1
  refine (HC.out _).mono ?_
  rintro e w1 ⟨rfl, rfl⟩
  go_wp2_with fail
  refine (HD.out _).mono ?_
  rintro e w1 ⟨rfl, rfl⟩
  go_wp2_with fail
  refine HR0.out.mono ?_
  rintro e1 w1 ⟨⟨v1, rfl, hv1⟩, hbr⟩
  have ht2 := ht1.keep hbr
  have hb2 : Below w.heap.size w w1 := hb1.trans (hbr.mono hb1.size)
  have HV1 := Lib.hid hv1
  clear hv1 ht1 hb1 hx hbr
  obtain ⟨cr, fr, lr⟩ := ht2.rules
  by_cases her : er = 0
  · subst her
    obtain ⟨hb, m, hm⟩ := HBY.out rfl
    subst hm
    have hT := rText_any v1 cs w1 (HV1.out rfl) hcl HCS.out
    rw [HCS3.out, ← hb] at hT
    have HT := Lib.hid hT
    clear hT hb
    have HR := Lib.hid (show r = .inl (4, by_, 0, m) by rw [HQ.out, if_pos rfl, Int.toNat_natCast])
    go_wp2_with fail
    refine HT.out.mono ?_
    rintro e1 w2 ⟨rfl, hbt⟩
    have ht3 := ht2.keep hbt
    have hb3 : Below w.heap.size w w2 := hb2.trans (hbt.mono hb2.size)
    clear cr fr lr
    obtain ⟨cr, fr, lr⟩ := ht3.rules
    go_wp2
    obtain ⟨cf, _, _⟩ := (ht3.put4 (.int .i64 4) (.int .i64 p) (.string ⟨by_.toArray⟩) (.int .i64 0)).rules
    refine bodyPost_ret (v := .tuple #[.agg #[.int .i64 4, .int .i64 p, .string ⟨by_.toArray⟩, .int .i64 0], .int .i64 m, .int .i64 0]) (by simp only [results, Tryd.results20]; go_simp) rfl ?_
    rw [HR.out]
    exact ⟨rfl, put4_below hb3 (Nat.le_refl _) _ _ _ _⟩
  · have her' : (er != 0) = true := by simpa using her
    have HR := Lib.hid (show r = .inr (pl, er) by rw [HQ.out, if_neg her])
    go_wp2
    obtain ⟨cf, _, _⟩ := (ht2.put4 (.int .i64 0) (.int .i64 0) (.string ⟨#[]⟩) (.int .i64 0)).rules
    refine bodyPost_ret (v := .tuple #[.agg #[.int .i64 0, .int .i64 0, .string ⟨#[]⟩, .int .i64 0], .int .i64 pl, .int .i64 er]) (by simp only [results, Tryd.results20]; go_simp) rfl ?_
    rw [HR.out]
    exact ⟨rfl, put4_below hb2 (Nat.le_refl _) _ _ _ _⟩
end Go.Proofs.YteeldajkfplomaaDoor

/- The walk of the reference davenportref22: take, signs; take as a whole. -/
namespace Go.Proofs.YteeldajkfplomaaDoor
set_option linter.unusedVariables false
set_option linter.unusedSimpArgs false
open Go.RowKit
attribute [local go_sem] run_index_arr run_part_agg run_part_one run_field_agg

def signRowT : List UInt8 := [61, 61, 32, 60, 61, 32, 60, 32, 59, 32, 46, 32, 44, 32, 91, 32, 93, 32, 40, 32, 41, 32, 123, 32, 125, 32, 43, 32, 45, 32, 42]
theorem signRowT_split : splitB signRowT [] = signsT := by decide
theorem rSigns_any (t : List UInt8) (w : World) {bb : Bool} (h : decide (t ∈ signsT) = bb) : Calls Tryd.prog 24 #[.string ⟨t.toArray⟩, .string ⟨#[61, 61, 32, 60, 61, 32, 60, 32, 59, 32, 46, 32, 44, 32, 91, 32, 93, 32, 40, 32, 41, 32, 123, 32, 125, 32, 43, 32, 45, 32, 42]⟩] w
    fun e w' => e = .returned (.bool bb) ∧ w = w' := by
  have := rAmong_any ⟨t.toArray⟩ ⟨signRowT.toArray⟩ w (by decide)
  rw [sl_mk, sl_mk, signRowT_split, h] at this
  exact this
theorem firstAt_ones {l : List UInt8} {p : Nat} (hp : p < l.length) : ∀ ss : List (List UInt8), (∀ s ∈ ss, s.length = 1) → firstAt l p ss = if (l.drop p).take 1 ∈ ss then some ((l.drop p).take 1) else none
  | [], _ => by simp [firstAt]
  | s :: r, h => by
    have h1 := h s List.mem_cons_self
    have ih := firstAt_ones hp r (fun x hx => h x (List.mem_cons_of_mem _ hx))
    unfold firstAt standsAt
    rw [h1, ih]
    by_cases he : (l.drop p).take 1 = s
    · rw [if_pos (by simpa using he), if_pos (by rw [he]; exact List.mem_cons_self), he]
    · rw [if_neg (by simpa using he)]
      by_cases hm : (l.drop p).take 1 ∈ r
      · rw [if_pos hm, if_pos (List.mem_cons_of_mem _ hm)]
      · rw [if_neg hm, if_neg (by intro h; rcases List.mem_cons.1 h with h | h; exact he h; exact hm h)]
theorem sgn_same {l : List UInt8} {p : Nat} (hp : p < l.length) :
    vSign l p = if p + 2 ≤ l.length ∧ (l.drop p).take 2 ∈ signsT then .inl (5, (l.drop p).take 2, 0, p + 2) else if (l.drop p).take 1 ∈ signsT then .inl (5, (l.drop p).take 1, 0, p + 1) else .inr ((p : Int), 320) := by
  have h1l : ((l.drop p).take 1).length = 1 := by rw [List.length_take, List.length_drop]; omega
  have hs : signsT = [61, 61] :: [60, 61] :: signsT.drop 2 := rfl
  have hones : ∀ s ∈ signsT.drop 2, s.length = 1 := by decide
  have htwo : ∀ s ∈ signsT, s.length = 2 → s = [61, 61] ∨ s = [60, 61] := by decide
  have hf : firstAt l p signsT = if (l.drop p).take 2 = [61, 61] then some [61, 61] else if (l.drop p).take 2 = [60, 61] then some [60, 61] else firstAt l p (signsT.drop 2) := by
    rw [hs]
    show (if standsAt l p [61, 61] = true then _ else _) = _
    unfold standsAt
    simp only [List.length_cons, List.length_nil, Nat.zero_add, Nat.reduceAdd, decide_eq_true_eq]
    rw [firstAt]
    unfold standsAt
    simp only [List.length_cons, List.length_nil, Nat.zero_add, Nat.reduceAdd, decide_eq_true_eq]
    rfl
  unfold vSign
  by_cases h2 : p + 2 ≤ l.length ∧ (l.drop p).take 2 ∈ signsT
  · rw [if_pos h2, hf]
    have hl2 : ((l.drop p).take 2).length = 2 := by rw [List.length_take, List.length_drop]; omega
    rcases htwo _ h2.2 hl2 with e | e
    · rw [if_pos e, e]; rfl
    · rw [if_neg (by rw [e]; decide), if_pos e, e]; rfl
  · rw [if_neg h2, hf]
    have hn1 : ¬ (l.drop p).take 2 = [61, 61] := fun e => h2 ⟨by have := congrArg List.length e; simp at this; omega, by rw [e]; decide⟩
    have hn2 : ¬ (l.drop p).take 2 = [60, 61] := fun e => h2 ⟨by have := congrArg List.length e; simp at this; omega, by rw [e]; decide⟩
    rw [if_neg hn1, if_neg hn2, firstAt_ones hp _ hones]
    have hiff : (l.drop p).take 1 ∈ signsT ↔ (l.drop p).take 1 ∈ signsT.drop 2 := by
      constructor
      · intro h
        rw [hs] at h
        rcases List.mem_cons.1 h with e | h
        · rw [e] at h1l; simp at h1l
        · rcases List.mem_cons.1 h with e | h
          · rw [e] at h1l; simp at h1l
          · exact h
      · exact fun h => List.mem_of_mem_drop h
    by_cases h1 : (l.drop p).take 1 ∈ signsT
    · rw [if_pos h1, if_pos (hiff.1 h1)]
      simp only
      rw [h1l]
    · rw [if_neg h1, if_neg (fun h => h1 (hiff.2 h))]

set_option maxRecDepth 100000 in
set_option maxHeartbeats 4000000 in
theorem rTakeSign_any (v : Value) (l : List UInt8) (p : Nat) (c : UInt8) (w : World) (hv : BS w v l) (hl : l.length ≤ 1048576) (hc : l[p]? = some c) (hk0 : isLetter c = false) (hk1 : isDig c = false) (hk2 : c.toNat ≠ 34) :
    Calls Tryd.prog 20 #[v, .int .i64 p] w (RetTake (vSign l p) p w) := by
  have hp := (List.getElem?_eq_some_iff.1 hc).1
  obtain ⟨A, cap, rfl, hcap, hr⟩ := hv
  obtain ⟨b, o, rfl, hb⟩ := hr.some_ (by omega)
  obtain ⟨W1, hW1⟩ : ∃ W1, w.alloc (.cells #[.int .i64 0, .int .i64 0, .string ⟨#[]⟩, .int .i64 0] 30) = W1 := ⟨_, rfl⟩
  have hr1 : Rd W1 (some ⟨b, o, none⟩) (byteV l) := by rw [← hW1]; exact hr.alloc _
  have ht1 : Blk W1 w.heap.size 30 #[.int .i64 0, .int .i64 0, .string ⟨#[]⟩, .int .i64 0] := by rw [← hW1]; exact Blk.new _ _ _
  have hb1 : Below w.heap.size w W1 := by rw [← hW1]; exact (Below.refl _ w).alloc (Nat.le_refl _) _
  have hx := BS.at_ (n := 0) (cap := 0) hr1 hc
  have HC := Lib.hid (rLetter_any c)
  rw [hk0] at HC
  have HD := Lib.hid (rDigit_any c)
  rw [hk1] at HD
  have hne : ((c.toNat : Int) == 34) = false := by simp; omega
  obtain ⟨b2, hb2⟩ : ∃ b, decide ((l.drop p).take 2 ∈ signsT) = b := ⟨_, rfl⟩
  obtain ⟨b1', hb1'⟩ : ∃ b, decide ((l.drop p).take 1 ∈ signsT) = b := ⟨_, rfl⟩
  have H2 := Lib.hid (fun w => rSigns_any ((l.drop p).take 2) w hb2)
  have H1 := Lib.hid (fun w => rSigns_any ((l.drop p).take 1) w hb1')
  have hpc : ¬ cap = p := by omega
  have hcv1 : (convert 37 9 (.slice (some ⟨b, o + p, none⟩) 1 (cap - p))).run Tryd.prog W1 = .ok (.string ⟨((l.drop p).take 1).toArray⟩) W1 := by
    have h := sub_conv (w := W1) (p := p) (k := p + 1) (by omega) (by omega) hcap (sub_rd hr1)
    rw [show p + 1 - p = 1 from by omega] at h
    exact h
  have hcv2 : p + 2 ≤ l.length → (convert 37 9 (.slice (some ⟨b, o + p, none⟩) 2 (cap - p))).run Tryd.prog W1 = .ok (.string ⟨((l.drop p).take 2).toArray⟩) W1 := fun h2 => by
    have h := sub_conv (w := W1) (p := p) (k := p + 2) (by omega) h2 hcap (sub_rd hr1)
    rw [show p + 2 - p = 2 from by omega] at h
    exact h
  obtain ⟨r, hrr⟩ : ∃ r, vSign l p = r := ⟨_, rfl⟩
  rw [hrr]
  have hrs := sgn_same hp
  rw [hrr] at hrs
  obtain ⟨t2, ht2⟩ : ∃ t, (l.drop p).take 2 = t := ⟨_, rfl⟩
  obtain ⟨t1, ht1'⟩ : ∃ t, (l.drop p).take 1 = t := ⟨_, rfl⟩
  rw [ht2] at hrs hb2 hcv2 H2
  rw [ht1'] at hrs hb1' hcv1 H1
  have HRS := Lib.hid hrs
  have HB2 := Lib.hid hb2
  have HB1 := Lib.hid hb1'
  have HCV2 := Lib.hid hcv2
  obtain ⟨cr, fr, lr⟩ := ht1.rules
  have e1 : p + 1 - p = 1 := by omega
  have e2 : p + 2 - p = 2 := by omega
  clear hc hr hr1 hk0 hk1 hk2 hrr hrs ht2 ht1' hb2 hb1' hcv2
  go_enter Tryd.func20, Tryd.ntmps20
  go_wp2_with fail
  clear hW1
  refine (HC.out _).mono ?_
  rintro e w1 ⟨rfl, rfl⟩
  go_wp2_with fail
  refine (HD.out _).mono ?_
  rintro e w1 ⟨rfl, rfl⟩
  go_wp2_with fail
  go_loopg [20] 3 (fun gk s20 wr => ∃ n : Nat, n ≤ 2 ∧ gk = n + 1 ∧ s20 = .int .i64 n ∧ wr = W1 ∧ (n ≤ 1 → Hid (¬ (p + 2 ≤ l.length ∧ t2 ∈ signsT))) ∧ (n = 0 → Hid (t1 ∉ signsT)))
  case atStart => exact ⟨2, Nat.le_refl _, rfl, rfl, rfl, fun h => by omega, fun h => by omega⟩
  case round =>
    obtain ⟨n, hn, hgk, rfl, rfl, hno2, hno1⟩ := hrel
    have HG := Lib.hid hgk
    have HN2 := Lib.hid hno2
    have HN1 := Lib.hid hno1
    clear hgk hno2 hno1
    rcases (by omega : n = 0 ∨ n = 1 ∨ n = 2) with rfl | rfl | rfl
    · have HR := Lib.hid (show r = .inr ((p : Int), 320) by rw [HRS.out, if_neg (HN2.out (by omega)).out, if_neg (HN1.out rfl).out])
      clear hcv1
      go_wp2
      obtain ⟨cf, _, _⟩ := (ht1.put4 (.int .i64 0) (.int .i64 0) (.string ⟨#[]⟩) (.int .i64 0)).rules
      refine bodyPost_ret (v := .tuple #[.agg #[.int .i64 0, .int .i64 0, .string ⟨#[]⟩, .int .i64 0], .int .i64 p, .int .i64 320]) (by simp only [results, Tryd.results20]; go_simp) rfl ?_
      rw [HR.out]
      exact ⟨rfl, put4_below hb1 (Nat.le_refl _) _ _ _ _⟩
    · have hle : (p : Int) + 1 ≤ (l.length : Int) := by omega
      have h1c : p + 1 ≤ cap := by omega
      cases hbb : b1' with
      | true =>
        have HR := Lib.hid (show r = .inl (5, t1, 0, p + 1) by rw [HRS.out, if_neg (HN2.out (by omega)).out, if_pos (of_decide_eq_true (HB1.out.trans hbb))])
        subst hbb
        go_wp2_with fail
        refine (H1.out _).mono ?_
        rintro e w1 ⟨rfl, rfl⟩
        go_wp2
        obtain ⟨cf, _, _⟩ := (ht1.put4 (.int .i64 5) (.int .i64 p) (.string ⟨t1.toArray⟩) (.int .i64 0)).rules
        refine bodyPost_ret (v := .tuple #[.agg #[.int .i64 5, .int .i64 p, .string ⟨t1.toArray⟩, .int .i64 0], .int .i64 ((p : Int) + 1), .int .i64 0]) (by simp only [results, Tryd.results20]; go_simp) rfl ?_
        rw [HR.out]
        exact ⟨rfl, put4_below hb1 (Nat.le_refl _) _ _ _ _⟩
      | false =>
        have HNN := Lib.hid (show t1 ∉ signsT from of_decide_eq_false (HB1.out.trans hbb))
        subst hbb
        go_wp2_with fail
        refine (H1.out _).mono ?_
        rintro e w1 ⟨rfl, rfl⟩
        go_wp2_with fail
        go_roundg (0 + 1)
        case measure => rw [HG.out]; omega
        case rel => exact ⟨0, by omega, rfl, rfl, rfl, fun _ => HN2.out (by omega), fun _ => HNN⟩
    · by_cases h2 : p + 2 ≤ l.length
      · have hle : (p : Int) + 2 ≤ (l.length : Int) := by omega
        have h2c : p + 2 ≤ cap := by omega
        have hcv2 := HCV2.out h2
        cases hbb : b2 with
        | true =>
          have HR := Lib.hid (show r = .inl (5, t2, 0, p + 2) by rw [HRS.out, if_pos ⟨h2, of_decide_eq_true (HB2.out.trans hbb)⟩])
          subst hbb
          go_wp2_with fail
          refine (H2.out _).mono ?_
          rintro e w1 ⟨rfl, rfl⟩
          go_wp2
          obtain ⟨cf, _, _⟩ := (ht1.put4 (.int .i64 5) (.int .i64 p) (.string ⟨t2.toArray⟩) (.int .i64 0)).rules
          refine bodyPost_ret (v := .tuple #[.agg #[.int .i64 5, .int .i64 p, .string ⟨t2.toArray⟩, .int .i64 0], .int .i64 ((p : Int) + 2), .int .i64 0]) (by simp only [results, Tryd.results20]; go_simp) rfl ?_
          rw [HR.out]
          exact ⟨rfl, put4_below hb1 (Nat.le_refl _) _ _ _ _⟩
        | false =>
          have HNN := Lib.hid (show ¬ (p + 2 ≤ l.length ∧ t2 ∈ signsT) from fun h => of_decide_eq_false (HB2.out.trans hbb) h.2)
          subst hbb
          go_wp2_with fail
          refine (H2.out _).mono ?_
          rintro e w1 ⟨rfl, rfl⟩
          go_wp2_with fail
          go_roundg (1 + 1)
          case measure => rw [HG.out]; omega
          case rel => exact ⟨1, by omega, rfl, rfl, rfl, fun _ => HNN, fun h => by omega⟩
      · have hgt : (l.length : Int) < (p : Int) + 2 := by omega
        have HNN := Lib.hid (show ¬ (p + 2 ≤ l.length ∧ t2 ∈ signsT) from fun h => h2 h.1)
        go_wp2_with fail
        go_roundg (1 + 1)
        case measure => rw [HG.out]; omega
        case rel => exact ⟨1, by omega, rfl, rfl, rfl, fun _ => HNN, fun h => by omega⟩

/-- THE CONTRACT OF davenportref22.take -/
theorem rTake_any (v : Value) (l : List UInt8) (p : Nat) (w : World) (hv : BS w v l) (hl : l.length ≤ 1048576) (hp : p < l.length) :
    Calls Tryd.prog 20 #[v, .int .i64 p] w (RetTake (vTake l p) p w) := by
  obtain ⟨c, hc⟩ : ∃ c, l[p]? = some c := ⟨_, List.getElem?_eq_getElem hp⟩
  unfold vTake
  rw [hc]
  simp only
  cases h1 : isLetter c with
  | true => exact rTakeName_any v l p c w hv hl hc h1
  | false =>
    cases h2 : isDig c with
    | true => exact rTakeNum_any v l p c w hv hl hc h1 h2
    | false =>
      by_cases h3 : c.toNat = 34
      · simp only [Bool.false_eq_true, if_false]
        rw [if_pos h3]
        obtain rfl : c = 34 := UInt8.toNat_inj.1 (by simpa using h3)
        exact rTakeText_any v l p w hv hl hc
      · simp only [Bool.false_eq_true, if_false]
        rw [if_neg h3]
        exact rTakeSign_any v l p c w hv hl hc h1 h2 h3
end Go.Proofs.YteeldajkfplomaaDoor

/- The walk of the reference davenportref22: Lex; and of VlexLexes. -/
namespace Go.Proofs.YteeldajkfplomaaDoor
set_option linter.unusedVariables false
set_option linter.unusedSimpArgs false
open Go.RowKit
attribute [local go_sem] run_index_arr run_part_agg run_part_one run_field_agg

theorem blankRow_is (c : UInt8) : ([32, 9, 10, 13] : List UInt8).contains c = isBlankB c := by
  have := u8_all (p := fun c => ([32, 9, 10, 13] : List UInt8).contains c == isBlankB c) (by decide +kernel) c
  simpa using this
theorem rBlank_any (c : UInt8) (w : World) : Calls Tryd.prog 19 #[.int .u8 c.toNat, .string ⟨#[32, 9, 10, 13]⟩] w fun e w' => e = .returned (.bool (isBlankB c)) ∧ w = w' := by
  have := rOne_any c ⟨[32, 9, 10, 13].toArray⟩ w (by decide)
  rw [sl_mk, blankRow_is] at this
  exact this
theorem tok_news (W : World) (x : VTok) : ∀ j u, (tokL x)[j]? = some u → (W.alloc (.cells #[.int .i64 x.1, .int .i64 x.2.1, .string ⟨x.2.2.1.toArray⟩, .int .i64 x.2.2.2] 30)).cell? ((⟨W.heap.size, 0, none⟩ : Addr).add j) = some u := by
  obtain ⟨ad, e, h⟩ := (Rd.of_blk (Blk.new W 30 #[.int .i64 x.1, .int .i64 x.2.1, .string ⟨x.2.2.1.toArray⟩, .int .i64 x.2.2.2])).at_ (by simp)
  cases e
  exact h
theorem tok_one (x : VTok) : ∀ u ∈ tokL x, u.oneCell' = true := by have := tokCells_one [x]; simpa [tokCells] using this

theorem lexP {l : List UInt8} (hl : l.length ≤ 512) {ts : List VTok} (h : vToks l 0 = (ts, none)) : vLex l = (ts, 0, 0) := by
  unfold vLex; rw [if_neg (by omega), h]
theorem lexE {l : List UInt8} (hl : l.length ≤ 512) {e : Int × Int} (h : (vToks l 0).2 = some e) : vLex l = ([], e.1, e.2) := by
  unfold vLex; rw [if_neg (by omega), h]
set_option maxRecDepth 100000 in
set_option maxHeartbeats 4000000 in
theorem rLex_go (s : ByteArray) (w : World) (hs : s.size ≤ 512) : Calls Tryd.prog 11 #[.string s] w (LexPost (vLex (sl s)) w) := by
  obtain ⟨i0, hi, hz0, hz1, hz2⟩ := info_parts infoTok
  obtain ⟨cap, W1, hcv, hcap, hb1, hs1, hr1⟩ := conv_bytes (P := Tryd.prog) w 9 37 5 s Tryd.underlying9 Tryd.underlying37 Tryd.underlying5
  rw [← sl_len s] at hcap
  have hlen : (sl s).length ≤ 512 := by rw [sl_len]; exact hs
  obtain ⟨l, hl⟩ : ∃ l, sl s = l := ⟨_, rfl⟩
  have hsz : s.size = l.length := by rw [← hl, sl_len]
  rw [hl] at hr1 hcap hlen ⊢
  rw [hsz] at hcv
  have hs512 : (s.size : Int) ≤ 512 := by omega
  obtain ⟨r, hr0⟩ : ∃ r, vLex l = r := ⟨_, rfl⟩
  rw [hr0]
  have HR0 := Lib.hid hr0
  clear hsz hl hs hr0
  have HR := Lib.hid hr1
  have HB1 := Lib.hid hb1
  clear hr1 hb1
  go_enter Tryd.func11, Tryd.ntmps11
  go_wp2
  go_loopg [6, 7] (l.length + 1) (fun gk s6 s7 wr => ∃ (p : Nat) (pre : List VTok), p ≤ l.length ∧ gk = l.length + 1 - p ∧ s7 = .int .i64 p ∧ wr.ownsRow (w.heap.size + 1) 30 4 s6 pre.length (tokCells pre) ∧ Below w.heap.size w wr ∧ Hid (Rd wr (some ⟨w.heap.size, 0, none⟩) (byteV l)) ∧
    w.heap.size + 1 ≤ wr.heap.size ∧ pre.length ≤ p ∧ Hid ((vToks l 0).1 = pre ++ (vToks l p).1 ∧ (vToks l 0).2 = (vToks l p).2))
  case atStart => exact ⟨0, [], Nat.zero_le _, rfl, rfl, World.ownsRow_nil _ _ _ _, HB1.out, HR, by omega, Nat.le_refl _, Lib.hid ⟨rfl, rfl⟩⟩
  case round =>
    obtain ⟨p, pre, hp, hgk, rfl, hown, hbw, HRW, hsw, hpl, HT⟩ := hrel
    have HG := Lib.hid hgk
    clear hgk
    obtain ⟨q, hq⟩ : ∃ q, skipB l p = q := ⟨_, rfl⟩
    have hql : q ≤ l.length := by rw [← hq]; exact skipB_le hp
    have hpq : p ≤ q := by rw [← hq]; exact skipB_ge l p
    have HQ := Lib.hid hq
    clear hq
    go_upto_block 2 with fail
    go_cut [7] (fun s7 wx => s7 = .int .i64 q ∧ wx = wr)
    case first =>
      obtain ⟨wo, rfl⟩ : ∃ wo : World, wo = wr := ⟨_, rfl⟩
      go_wp2
      go_loopg [7] (l.length - p) (fun gk s7 wx => ∃ k : Nat, k ≤ l.length ∧ gk = l.length - k ∧ s7 = .int .i64 k ∧ Hid (skipB l k = q) ∧ wx = wo)
      case atStart => exact ⟨p, hp, rfl, rfl, HQ, rfl⟩
      case round =>
        obtain ⟨k, hk, hgk2, rfl, HK, rfl⟩ := hrel
        have HG2 := Lib.hid hgk2
        clear hgk2
        by_cases hlt : k < l.length
        · obtain ⟨c, hc⟩ : ∃ c, l[k]? = some c := ⟨_, List.getElem?_eq_getElem hlt⟩
          have hx := BS.at_ (n := 0) (cap := 0) HRW.out hc
          rw [Nat.zero_add] at hx
          have HBL := Lib.hid (rBlank_any c)
          cases hbl : isBlankB c with
          | true =>
            have HK2 := Lib.hid (show skipB l (k + 1) = q by rw [← skipB_step hc hbl, HK.out])
            rw [hbl] at HBL
            clear hc hbl
            go_wp2_with fail
            refine (HBL.out _).mono ?_
            rintro e w1 ⟨rfl, rfl⟩
            go_wp2_with fail
            go_roundg (l.length - (k + 1))
            case measure => rw [HG2.out]; omega
            case rel => exact ⟨k + 1, hlt, rfl, by go_num, HK2, rfl⟩
          | false =>
            have hkq : k = q := by rw [← HK.out, skipB_stop hc hbl]
            have HKQ := Lib.hid hkq
            rw [hbl] at HBL
            clear hc hbl hkq
            go_wp2_with fail
            refine (HBL.out _).mono ?_
            rintro e w1 ⟨rfl, rfl⟩
            go_wp2_with fail
            go_meet
            case rel => exact ⟨by rw [HKQ.out], rfl⟩
        · obtain rfl : k = l.length := by omega
          have hkq : l.length = q := by rw [← HK.out, skipB_end (Nat.le_refl _)]
          have HKQ := Lib.hid hkq
          clear hkq
          go_wp2
          go_meet
          case rel => exact ⟨by rw [HKQ.out], rfl⟩
    case rest =>
      obtain ⟨rfl, rfl⟩ := hcut
      by_cases hqe : q = l.length
      · have hE := vToks_end hp (by rw [HQ.out]; omega)
        have HRT := Lib.hid (show r = (pre ++ [(6, l.length, [], 0)], 0, 0) by
          rw [← HR0.out]
          refine lexP hlen ?_
          exact Prod.ext (by rw [HT.out.1, hE]) (by rw [HT.out.2, hE]))
        have hqb : ((q : Int) == (l.length : Int)) = true := by simp; omega
        have hqi : (q : Int) = (l.length : Int) := by omega
        have hnews := tok_news wc (6, l.length, [], 0)
        rw [show (((6, l.length, [], 0) : VTok).2.2.1.toArray) = #[] from rfl] at hnews
        simp only at hnews
        have HNW := Lib.hid hnews
        have HTO := Lib.hid (tok_one (6, l.length, [], 0))
        clear hE hnews hqe
        go_wp2_with (at_builtin; refine wpList_append_own _ rfl _ _ 24 rfl (w.heap.size + 1) 30 i0 _ 4 40 Tryd.underlying24 hi hz0 hz1 hz2 rfl (by decide) _ _ _ rfl (hown.alloc _) ⟨wc.heap.size, 0, none⟩ 1 1 (tokL (6, l.length, [], 0)) rfl rfl HNW.out HTO.out (by unfold maxLen; omega) (by omega) (by simp; omega) ?_; intro v' w2 hown2 hgr2 _)
        go_ret3
        rw [HRT.out]
        refine ⟨v', rfl, ?_, ((hbw.alloc hbw.size _).grown hgr2 (by simp; omega) (fun k e => by have := (hown.lt k e).1; omega))⟩
        have e : tokCells (pre ++ [(6, l.length, [], 0)]) = tokCells pre ++ tokL (6, l.length, [], 0) := by rw [tokCells_app]; simp [tokCells]
        rw [← e] at hown2
        exact TS.of_own hown2
      · have hlt : q < l.length := by omega
        have hqb : ((q : Int) == (l.length : Int)) = false := by simp; omega
        have hbs : BS wc (.slice (some ⟨w.heap.size, 0, none⟩) l.length cap) l := ⟨_, _, rfl, hcap, HRW.out⟩
        have hTk := rTake_any _ l q wc hbs (by omega) hlt
        cases hv : vTake l q with
        | inr er =>
          obtain ⟨pe, er⟩ := er
          rw [hv] at hTk
          have herr := vTake_err hlt hv
          have hE := vToks_err hp (by rw [HQ.out]; exact hlt) (by rw [HQ.out]; exact hv)
          have HRT := Lib.hid (show r = ([], pe, er) by
            rw [← HR0.out]
            exact lexE hlen (by rw [HT.out.2, hE]))
          have her' : (er != 0) = true := by simpa using herr
          have HTk := Lib.hid hTk
          clear hTk hv herr hE hbs hqe
          go_wp2_with fail
          refine HTk.out.mono ?_
          rintro e w2 ⟨rfl, hb2⟩
          unfold zeroTok
          go_wp2
          go_ret3
          rw [HRT.out]
          exact ⟨_, rfl, TS.nil, (hbw.trans (hb2.mono hbw.size)).alloc (by have := hbw.size; have := hb2.size; omega) _⟩
        | inl tk =>
          obtain ⟨kd, t, n, m⟩ := tk
          rw [hv] at hTk
          have hok := vTake_ok hlt hv
          have hE := vToks_tok hp (by rw [HQ.out]; exact hlt) (by rw [HQ.out]; exact hv)
          rw [HQ.out] at hE
          have HTT := Lib.hid (show (vToks l 0).1 = (pre ++ [(kd, q, t, n)]) ++ (vToks l m).1 ∧ (vToks l 0).2 = (vToks l m).2 from ⟨by rw [HT.out.1, hE]; simp, by rw [HT.out.2, hE]⟩)
          have HTk := Lib.hid hTk
          have HTO := Lib.hid (tok_one (kd, q, t, n))
          clear hTk hv hE hbs hqe
          go_wp2_with fail
          refine HTk.out.mono ?_
          rintro e w2 ⟨rfl, hb2⟩
          unfold tokV
          have hown2 := own_below hown hb2
          have hrd2 := HRW.out.below hb2
          have HRD := Lib.hid hrd2
          have s1 := hbw.size
          have s2 := hb2.size
          have hnews := tok_news (w2.alloc (.cells #[.int .i64 kd, .int .i64 q, .string ⟨t.toArray⟩, .int .i64 n] 30)) (kd, q, t, n)
          simp only [World.size_alloc] at hnews
          have HNW := Lib.hid hnews
          clear hnews hrd2
          go_wp2_with (at_builtin; refine wpList_append_own _ rfl _ _ 24 rfl (w.heap.size + 1) 30 i0 _ 4 40 Tryd.underlying24 hi hz0 hz1 hz2 rfl (by decide) _ _ _ rfl ((hown2.alloc _).alloc _) ⟨w2.heap.size + 1, 0, none⟩ 1 1 (tokL (kd, q, t, n)) rfl rfl HNW.out HTO.out (by unfold maxLen; omega) (by omega) (by simp; omega) ?_; intro v' w3 hown3 hgr3 _)
          go_roundg (l.length + 1 - m)
          case measure => rw [HG.out]; omega
          case rel =>
            have s3 := hgr3.size
            simp at s3
            refine ⟨m, pre ++ [(kd, q, t, n)], hok.2, rfl, rfl, ?_, ?_, Lib.hid ?_, by omega, by simp; omega, HTT⟩
            · rw [List.length_append, List.length_singleton]
              have e : tokCells (pre ++ [(kd, q, t, n)]) = tokCells pre ++ tokL (kd, q, t, n) := by rw [tokCells_app]; simp [tokCells]
              rw [e]; exact hown3
            · exact (((hbw.trans (hb2.mono s1)).alloc (by omega) _).alloc (by simp; omega) _).grown hgr3 (by simp; omega) (fun k e => by have := (hown2.lt k e).1; omega)
            · have hx : Below (w.heap.size + 1) ((w2.alloc (.cells #[.int .i64 kd, .int .i64 q, .string ⟨t.toArray⟩, .int .i64 n] 30)).alloc (.cells #[.int .i64 kd, .int .i64 q, .string ⟨t.toArray⟩, .int .i64 n] 30)) w3 :=
                (Below.refl _ _).grown hgr3 (by simp; omega) (fun k e => (hown2.lt k e).1)
              exact Rd.below_at ((HRD.out.alloc _).alloc _) hx (by omega)

/-- THE CONTRACT OF davenportref22.Lex -/
theorem rLex_any (s : ByteArray) (w : World) (hs : s.size ≤ 1048576) : Calls Tryd.prog 11 #[.string s] w (LexPost (vLex (sl s)) w) := by
  by_cases h : s.size ≤ 512
  · exact rLex_go s w h
  · have HS := Lib.hid (show vLex (sl s) = ([], 0, 3) by unfold vLex; rw [if_pos (by rw [sl_len]; omega)])
    go_enter Tryd.func11, Tryd.ntmps11
    go_wp2
    go_ret3
    rw [HS.out]
    exact ⟨_, rfl, TS.nil, Below.refl _ _⟩
end Go.Proofs.YteeldajkfplomaaDoor
