import Derived.Test.YtgolomgmnanbpaaGreatDoorX03
import Derived.Test.YtgolomgmnanbpaaGreatDoorX01
import Derived.WalkMore
import Derived.Test.YtgolomgmnanbpaaGreatDoorX02
import Derived.Deep.RegionHeld3
namespace Go.Proofs.YtgolomgmnanbpaaGreatDoor
set_option linter.unusedVariables false
set_option linter.unusedSimpArgs false
open Go.RowKit
attribute [local go_sem] run_index_arr run_part_agg run_part_one run_field_agg
set_option maxRecDepth 100000 in
set_option maxHeartbeats 4000000 in
/-- slices.Equal over texts -/
theorem strEqual_any (A1 A2 : Option Addr) (n1 n2 c1 c2 : Nat) (k1 k2 : List (List UInt8)) (w : World) (hn1 : k1.length = n1) (hn2 : k2.length = n2) (h1 : Rd w A1 (strV k1)) (h2 : Rd w A2 (strV k2)) (hc1 : n1 ≤ c1) (hc2 : n2 ≤ c2) (hl1 : n1 ≤ 4194304) (hl2 : n2 ≤ 4194304) :
    Calls Tryz.prog 148 #[.slice A1 n1 c1, .slice A2 n2 c2] w fun e w' => e = .returned (.bool (decide (k1 = k2))) ∧ ∃ q, w.drewN q = w' := by
  by_cases hlen : n1 = n2
  · subst hlen
    have HN1 := Lib.hid hn1
    have HN2 := Lib.hid hn2
    clear hn1 hn2
    go_enter Tryz.func148, Tryz.ntmps148
    go_wp2
    go_loopg [13] n1 (fun gk i wr => ∃ k q : Nat, k ≤ n1 ∧ gk = n1 - k ∧ i = .int .i64 k ∧ wr = w.drewN q ∧ Hid (k1.take k = k2.take k))
    case atStart => exact ⟨0, 0, Nat.zero_le _, rfl, rfl, rfl, Lib.hid rfl⟩
    case round =>
      obtain ⟨k, q, hk, hgk, rfl, rfl, HE⟩ := hrel
      have HG := Lib.hid hgk
      clear hgk
      by_cases hlt : k < n1
      · obtain ⟨a, ha⟩ : ∃ x, k1[k]? = some x := ⟨_, List.getElem?_eq_getElem (by rw [HN1.out]; exact hlt)⟩
        obtain ⟨b, hb⟩ : ∃ x, k2[k]? = some x := ⟨_, List.getElem?_eq_getElem (by rw [HN2.out]; exact hlt)⟩
        have key : ∀ (A : Option Addr) (ks : List (List UInt8)) (x : List UInt8), Rd w A (strV ks) → ks[k]? = some x → ∃ b o, A = some ⟨b, o, none⟩ ∧ w.cell? ⟨b, o + k, none⟩ = some (.string ⟨x.toArray⟩) := fun A ks x hr hx => by
          have hkl := (List.getElem?_eq_some_iff.1 hx)
          obtain ⟨b, o, rfl, _, hc⟩ := hr (by intro e; have h := strV_len ks; rw [e] at h; have := hkl.1; simp at h; omega)
          refine ⟨b, o, rfl, ?_⟩
          rw [hc k (by rw [strV_len]; exact hkl.1)]
          simp [strV, hkl.2]
        obtain ⟨b1, o1, rfl, x1⟩ := key A1 k1 a h1 ha
        obtain ⟨b2, o2, rfl, x2⟩ := key A2 k2 b h2 hb
        have HA := Lib.hid ha
        have HB := Lib.hid hb
        clear ha hb key
        by_cases hab : a = b
        · subst hab
          go_wp2
          go_quiet (fail)
          go_wp2
          go_roundg (n1 - (k + 1))
          case measure => rw [HG.out]; omega
          case rel => exact ⟨k + 1, q + nq, hlt, rfl, by go_num, rfl, Lib.hid (by rw [List.take_add_one, List.take_add_one, HE.out, HA.out, HB.out])⟩
        · have hbe : (a == b) = false := by simpa using hab
          have hbe2 : (a != b) = true := by simpa using hab
          have HF := Lib.hid (show k1 ≠ k2 from fun e => hab (by have h := HA.out; rw [e, HB.out] at h; injection h with h; exact h.symm))
          clear hab
          go_wp2
          go_quiet (fail)
          go_wp2
          go_ret
          exact ⟨ret_bool (by rw [decide_eq_false HF.out]), q + nq, (World.drewN_drewN _ _ _).symm⟩
      · obtain rfl : k = n1 := by omega
        go_wp2
        go_ret
        refine ⟨ret_bool ?_, q, rfl⟩
        have h := HE.out
        rw [List.take_of_length_le (by rw [HN1.out]; exact Nat.le_refl _), List.take_of_length_le (by rw [HN2.out]; exact Nat.le_refl _)] at h
        simp [h]
  · have hne : ((n1 : Int) != (n2 : Int)) = true := by simp; omega
    have HF := Lib.hid (show k1 ≠ k2 from fun e => hlen (by rw [← hn1, ← hn2, e]))
    clear hlen
    go_enter Tryz.func148, Tryz.ntmps148
    go_wp2
    go_ret
    exact ⟨ret_bool (by rw [decide_eq_false HF.out]), 0, rfl⟩
theorem VRs.cell {W : World} {F : Nat → Prop} {css : List (List Value)} {xs : List JV} {A : Option Addr} (h : VRs W F css xs) (hr : RdF W F A css.flatten) {i : Nat} {x : JV} (hx : xs[i]? = some x) :
    ∃ b o c, A = some ⟨b, o, none⟩ ∧ b < W.heap.size ∧ F b ∧ VR W F c x ∧ ∀ (j : Nat) (u : Value), j < 5 → c[j]? = some u → W.cell? ⟨b, o + (i * 5 + j), none⟩ = some u := by
  obtain ⟨c, hc, hv⟩ := h.get_ hx
  have hl : css.flatten ≠ [] := by
    have h3 := flat5_len h.five
    have h4 := (List.getElem?_eq_some_iff.1 hc).1
    intro e
    rw [e] at h3
    simp at h3
    omega
  obtain ⟨b, o, rfl, hb, hf, hx⟩ := hr hl
  refine ⟨b, o, c, rfl, hb, hf, hv, fun j u hj hu => ?_⟩
  have h1 := flat5_get h.five hc hj
  rw [hu] at h1
  obtain ⟨hlt, e⟩ := List.getElem?_eq_some_iff.1 h1
  rw [hx _ hlt, e]
end Go.Proofs.YtgolomgmnanbpaaGreatDoor
namespace Go.Proofs.YtgolomgmnanbpaaGreatDoor
set_option linter.unusedVariables false
set_option linter.unusedSimpArgs false
open Go.RowKit Go.Shelf
attribute [local go_sem] run_index_arr run_part_agg run_part_one run_field_agg Oper.semAt_some
mutual
def flatJ : Nat → JV → List (Nat × JV) | lv, .mk k n s kids keys => (lv, .mk k n s kids keys) :: flatL (lv + 1) kids
def flatL : Nat → List JV → List (Nat × JV) | _, [] => [] | lv, x :: r => flatJ lv x ++ flatL lv r
end
theorem flatL_app (lv : Nat) : ∀ xs ys : List JV, flatL lv (xs ++ ys) = flatL lv xs ++ flatL lv ys
  | [], ys => by simp [flatL]
  | x :: r, ys => by rw [List.cons_append, flatL, flatL, flatL_app lv r ys, List.append_assoc]
mutual
theorem flatJ_len : ∀ (lv : Nat) (v : JV), (flatJ lv v).length = nodesJ v
  | lv, .mk k n s kids keys => by rw [flatJ, nodesJ, List.length_cons, flatL_len (lv + 1) kids]; omega
theorem flatL_len : ∀ (lv : Nat) (xs : List JV), (flatL lv xs).length = nodesL xs
  | lv, [] => by rw [flatL, nodesL]; rfl
  | lv, x :: r => by rw [flatL, nodesL, List.length_append, flatJ_len lv x, flatL_len lv r]
end
theorem flatL_at {lv : Nat} {xs : List JV} {i : Nat} {x : JV} (h : xs[i]? = some x) : flatL lv (xs.take (i + 1)) = flatL lv (xs.take i) ++ flatJ lv x ∧ flatL lv xs = flatL lv (xs.take i) ++ (flatJ lv x ++ flatL lv (xs.drop (i + 1))) := by
  have e : flatL lv (xs.take (i + 1)) = flatL lv (xs.take i) ++ flatJ lv x := by rw [List.take_add_one, h, flatL_app]; show _ ++ flatL lv [x] = _; rw [flatL, flatL, List.append_nil]
  refine ⟨e, ?_⟩
  have h2 := flatL_app lv (xs.take (i + 1)) (xs.drop (i + 1))
  rw [List.take_append_drop, e, List.append_assoc] at h2
  exact h2
abbrev NodeV := Nat × JV × Array Value
def nodeP (x : NodeV) : Nat × JV := (x.1, x.2.1)
def encN (x : NodeV) : Array Value := #[.int .i64 x.1, .agg x.2.2]
def AllT : Nat → Prop := fun _ => True
def KpC (C : Nat → Prop) (N : Nat) (A B : World) : Prop := A.heap.size ≤ B.heap.size ∧ ∀ k, k < A.heap.size → ¬ C k → (k < N ∨ ∃ t cs, Blk A k t cs) → B.heap[k]? = A.heap[k]?
theorem KpC.trans {C : Nat → Prop} {N : Nat} {A B D : World} (h : KpC C N A B) (k : KpC C N B D) : KpC C N A D := by
  refine ⟨Nat.le_trans h.1 k.1, fun j hj hc hb => ?_⟩
  have h1 := h.2 j hj hc hb
  refine (k.2 j (Nat.lt_of_lt_of_le hj h.1) hc ?_).trans h1
  rcases hb with hb | ⟨t, cs, hb⟩
  · exact .inl hb
  · exact .inr ⟨t, cs, h1.trans hb⟩
theorem KpC.of_below {C : Nat → Prop} {N : Nat} {A B : World} (h : Below A.heap.size A B) : KpC C N A B := ⟨h.size, fun k hk _ _ => h.block k hk⟩
theorem KpC.refl (C : Nat → Prop) (N : Nat) (A : World) : KpC C N A A := ⟨Nat.le_refl _, fun _ _ _ _ => rfl⟩
theorem KpC.blk {C : Nat → Prop} {N : Nat} {A B : World} {g : Nat} {t : TypeId} {cs : Array Value} (h : KpC C N A B) (hb : Blk A g t cs) (hg : ¬ C g) : Blk B g t cs := (h.2 g hb.lt hg (.inr ⟨t, cs, hb⟩)).trans hb
theorem KpC.keepF {C : Nat → Prop} {w0 A B : World} (h : KpC C w0.heap.size A B) (hk : KeepF AllT w0 A) (hC : ∀ k, C k → w0.heap.size ≤ k) : KeepF AllT w0 B :=
  ⟨Nat.le_trans hk.1 h.1, fun b _ hb => (h.2 b (Nat.lt_of_lt_of_le hb hk.1) (fun hc => by have := hC b hc; omega) (.inl hb)).trans (hk.2 b trivial hb)⟩
theorem KpC.set {C : Nat → Prop} {N : Nat} {A B : World} (h : KpC C N A B) {k : Nat} (hk : C k) (i : Nat) (u : Value) : KpC C N A (B.setCell ⟨k, i, none⟩ u) :=
  ⟨by simpa using h.1, fun b hb hc hx => (Below.heap_setCell B ⟨k, i, none⟩ u b (fun e => hc (by have e : b = k := e; rw [e]; exact hk))).trans (h.2 b hb hc hx)⟩
theorem kid_cellsK {W : World} {css : List (List Value)} {xs : List JV} {A : Option Addr} (h : VRs W AllT css xs) (hr : RdF W AllT A css.flatten) {i : Nat} {x : JV} (hx : xs[i]? = some x) :
    ∃ (b o : Nat) (k n : Int) (s : ByteArray) (A' : Option Addr) (na ca : Nat) (B' : Option Addr) (nb cb : Nat), A = some ⟨b, o, none⟩ ∧ b < W.heap.size ∧ VR W AllT [.int .i64 k, .int .i64 n, .string s, .slice A' na ca, .slice B' nb cb] x ∧
      ∀ W', KeepF AllT W W' → W'.cell? ⟨b, o + i * 5, none⟩ = some (.int .i64 k) ∧ W'.cell? ⟨b, o + i * 5 + 1, none⟩ = some (.int .i64 n) ∧ W'.cell? ⟨b, o + i * 5 + 2, none⟩ = some (.string s) ∧ W'.cell? ⟨b, o + i * 5 + 3, none⟩ = some (.slice A' na ca) ∧ W'.cell? ⟨b, o + i * 5 + 4, none⟩ = some (.slice B' nb cb) := by
  obtain ⟨b, o, c, rfl, hb, _, hv, hc⟩ := h.cell hr hx
  obtain ⟨k, n, s, A', na, ca, B', nb, cb, rfl⟩ := hv.form
  refine ⟨b, o, k, n, s, A', na, ca, B', nb, cb, rfl, hb, hv, fun W' hW => ?_⟩
  have z := fun (j : Nat) u (hj : j < 5) hu => (World.cell?_of_block (w := W) (a := ⟨b, o + (i * 5 + j), none⟩) (hW.2 b trivial hb)).trans (hc j u hj hu)
  exact ⟨z 0 _ (by decide) rfl, z 1 _ (by decide) rfl, z 2 _ (by decide) rfl, z 3 _ (by decide) rfl, z 4 _ (by decide) rfl⟩
def AdmN (w0 : World) (v0 : JV) (pre : List NodeV) (x : NodeV) : Prop := VR w0 AllT x.2.2.toList x.2.1 ∧ (pre ++ [x]).map nodeP <+: flatJ 0 v0
def YN (l : Nat) (w0 : World) (C : Nat → Prop) (v0 : JV) (J Jx : List NodeV → World → Prop) : Prop := ∀ pre x W1, J pre W1 → AdmN w0 v0 pre x → YieldAt Fence.wide 1 Tryz.prog l (encN x) W1 fun e W' =>
  (e = .returned (.bool true) ∧ J (pre ++ [x]) W' ∧ KpC C w0.heap.size W1 W') ∨ (e = .returned (.bool false) ∧ Jx (pre ++ [x]) W' ∧ KpC C w0.heap.size W1 W')
def IntoPost (w0 : World) (C : Nat → Prop) (J Jx : List NodeV → World → Prop) (lv : Nat) (v : JV) (pre : List NodeV) (W : World) (e : Ending) (W' : World) : Prop :=
  (e = .returned (.bool true) ∧ ∃ ys, ys.map nodeP = flatJ lv v ∧ J (pre ++ ys) W' ∧ KpC C w0.heap.size W W') ∨ (e = .returned (.bool false) ∧ ∃ ys, Jx ys W')
abbrev intoV (yb ib : Nat) : Value := .func (.func 175) #[] #[.pointer (some ⟨yb, 0, none⟩), .pointer (some ⟨ib, 0, none⟩)]
set_option maxRecDepth 100000 in
set_option maxHeartbeats 4000000 in
theorem into_any (l : Nat) (w0 : World) (C : Nat → Prop) (NC : Nat) (v0 : JV) (J Jx : List NodeV → World → Prop) (yb ib : Nat) (hC0 : ∀ k, C k → w0.heap.size ≤ k) (hCN : ∀ k, C k → k < NC) (hyC : ¬ C yb) (hiC : ¬ C ib)
    (hJ : ∀ s A B, Below A.heap.size A B → J s A → J s B) (hY : YN l w0 C v0 J Jx) : ∀ (M : Nat) (v : JV), nodesJ v ≤ M → ∀ (lv : Nat) (pre : List NodeV) (rest : List (Nat × JV)) (cs : List Value) (W : World),
    VR w0 AllT cs v → KeepF AllT w0 W → J pre W → Blk W yb 199 #[.func (.yield l) #[] #[]] → Blk W ib 199 #[intoV yb ib] → flatJ 0 v0 = pre.map nodeP ++ (flatJ lv v ++ rest) → lv + nodesJ v ≤ 4194304 → NC ≤ W.heap.size →
    Calls Tryz.prog 175 #[.int .i64 lv, .agg cs.toArray, .pointer (some ⟨yb, 0, none⟩), .pointer (some ⟨ib, 0, none⟩)] W (IntoPost w0 C J Jx lv v pre W)
  | 0, v, h, _, _, _, _, _, _, _, _, _, _, _, _, _ => by have := nodesJ_pos v; omega
  | M + 1, .mk k n s kids keys, hM, lv, pre, rest, cs, W, hv, hK, hJ0, hyb, hib, hfl, hlv, hNC => by
    have ih := into_any l w0 C NC v0 J Jx yb ib hC0 hCN hyC hiC hJ hY M
    obtain ⟨A, B, ca, cb, css, rfl, h1, h2, h3, h4, h5, h6, h7⟩ := hv.out
    have HIH := Lib.hid (fun (i : Nat) (x : JV) (hx : kids[i]? = some x) => kid_cellsK h1 h6 hx)
    unfold nodesJ at hM hlv
    have hkl := nodesL_len kids
    have hfl2 : flatJ 0 v0 = pre.map nodeP ++ ((lv, JV.mk k n s kids keys) :: flatL (lv + 1) kids ++ rest) := hfl
    obtain ⟨nk, hnk⟩ : ∃ nk, kids.length = nk := ⟨_, rfl⟩
    obtain ⟨ny, hny⟩ : ∃ ny, keys.length = ny := ⟨_, rfl⟩
    rw [hnk] at h2 hkl hv
    rw [hny] at h3 hv
    rw [hnk, hny]
    have hb1 := (Below.refl W.heap.size W).alloc (Nat.le_refl _) (.cells #[.int .i64 k, .int .i64 n, .string ⟨s.toArray⟩, .slice A nk ca, .slice B ny cb] 25)
    obtain ⟨fn, tmps, assign, body, hy, hR⟩ := hY pre (lv, .mk k n s kids keys, #[.int .i64 k, .int .i64 n, .string ⟨s.toArray⟩, .slice A nk ca, .slice B ny cb]) _ (hJ _ _ _ hb1 hJ0)
      ⟨hv, by rw [hfl2, List.map_append]; exact ⟨flatL (lv + 1) kids ++ rest, by simp [nodeP]⟩⟩
    unfold encN at hy
    simp only at hy
    have hbk := Blk.new W 25 #[.int .i64 k, .int .i64 n, .string ⟨s.toArray⟩, .slice A nk ca, .slice B ny cb]
    have hgC : ¬ C W.heap.size := fun h => by have := hCN _ h; omega
    have HKB := Lib.hid hb1
    have HBK := Lib.hid hbk
    have HI := Lib.hid ih
    have HJ := Lib.hid hJ
    have HK := Lib.hid hK
    have HYB := Lib.hid hyb
    have HIB := Lib.hid hib
    have HFL := Lib.hid hfl2
    have HNK := Lib.hid hnk
    have HC0 := Lib.hid hC0
    obtain ⟨a1, b1, d1⟩ := (hyb.alloc (.cells #[.int .i64 k, .int .i64 n, .string ⟨s.toArray⟩, .slice A nk ca, .slice B ny cb] 25)).rules
    clear hv hK hyb hib hfl hfl2 h1 h4 h5 h6 h7 hbk hb1 ih hJ hY hJ0 hnk hny hC0 hCN
    refine (callsIn_wide (n := 2)).1 ?_
    refine callsIn_of_wp Tryz.func175 rfl trivial ?_ rfl
    simp only [Tryz.ntmps175, List.size_toArray, List.length_cons, List.length_nil, Nat.reduceAdd, Nat.reduceSub, Array.replicate_succ, Array.replicate_zero, List.push_toArray, List.append_toArray, List.nil_append, List.cons_append]
    gi_wp2
    refine hR.mono ?_
    rintro e W3 (⟨rfl, hJ3, hk3⟩ | ⟨rfl, hJx3, hk3⟩)
    · have hk1 : KpC C w0.heap.size W W3 := (KpC.of_below HKB.out).trans hk3
      obtain ⟨c1, f1, l1⟩ := (hk3.blk HBK.out hgC).rules
      have z3 := c1 3
      simp at z3
      have HK1 := Lib.hid hk1
      have HJ3 := Lib.hid hJ3
      clear hk1 hk3 hJ3 hR hy a1 b1 d1
      gi_wp2
      clear c1 f1 l1 z3
      gi_loopg [17] nk (fun gk s17 wr => ∃ (i : Nat) (ys : List NodeV), i ≤ nk ∧ gk = nk - i ∧ s17 = .int .i64 i ∧ Hid (ys.map nodeP = (lv, .mk k n s kids keys) :: flatL (lv + 1) (kids.take i)) ∧ Hid (J (pre ++ ys) wr) ∧ Hid (KpC C w0.heap.size W wr))
      case atStart => exact ⟨0, [(lv, .mk k n s kids keys, #[.int .i64 k, .int .i64 n, .string ⟨s.toArray⟩, .slice A nk ca, .slice B ny cb])], Nat.zero_le _, rfl, by go_num, Lib.hid (by simp [nodeP, flatL]), HJ3, HK1⟩
      case round =>
        obtain ⟨i, ys, hi, hgk, rfl, HYS, HJw, HKw⟩ := hrel
        have HG := Lib.hid hgk
        clear hgk HK1 HJ3
        by_cases hlt : i < nk
        · obtain ⟨x, hx⟩ : ∃ x, kids[i]? = some x := ⟨_, List.getElem?_eq_getElem (by rw [HNK.out]; exact hlt)⟩
          obtain ⟨b, o, k', n', s', A', na, ca', B', nb, cb', rfl, hb, hvx, hz⟩ := HIH.out i x hx
          have hKF := HKw.out.keepF HK.out HC0.out
          obtain ⟨q0, q1, q2, q3, q4⟩ := hz _ hKF
          have hyw := HKw.out.blk HYB.out hyC
          have hiw := HKw.out.blk HIB.out hiC
          obtain ⟨hf1, hf2⟩ := flatL_at (lv := lv + 1) hx
          obtain ⟨hn1, hn2⟩ := nodesL_at hx
          have hbA := (Below.refl wr.heap.size wr).alloc (Nat.le_refl _) (.cells #[.int .i64 k', .int .i64 n', .string s', .slice A' na ca', .slice B' nb cb'] 25)
          have hcl := HI.out x (by omega) (lv + 1) (pre ++ ys) (flatL (lv + 1) (kids.drop (i + 1)) ++ rest) _ _ hvx (hKF.bel hbA) (HJ.out _ _ _ hbA HJw.out) (hyw.alloc _) (hiw.alloc _)
            (by rw [HFL.out, List.map_append, HYS.out, hf2]; simp) (by omega) (by have := HKw.out.1; simp; omega)
          rw [show ((lv + 1 : Nat) : Int) = (lv : Int) + 1 by omega] at hcl
          have HCL := Lib.hid hcl
          have HF1 := Lib.hid hf1
          have HKA := Lib.hid (HKw.out.trans (KpC.of_below hbA))
          obtain ⟨d1, d2, d3⟩ := (hyw.alloc (.cells #[.int .i64 k', .int .i64 n', .string s', .slice A' na ca', .slice B' nb cb'] 25)).rules
          obtain ⟨e1, e2, e3⟩ := (hiw.alloc (.cells #[.int .i64 k', .int .i64 n', .string s', .slice A' na ca', .slice B' nb cb'] 25)).rules
          clear hcl hf1 hf2 hn1 hn2 hbA hz hvx hx hKF hyw hiw
          gi_wp2
          refine ⟨trivial, CallsIn.mono (callsIn_wide.2 HCL.out) ?_⟩
          rintro e W5 (⟨rfl, zs, hzs, hJ5, hk5⟩ | ⟨rfl, zs, hJx5⟩)
          · have HJ5 := Lib.hid hJ5
            have HK5 := Lib.hid (HKA.out.trans hk5)
            have HZ := Lib.hid hzs
            clear hJ5 hk5 hzs
            gi_wp2
            gi_roundg (nk - (i + 1))
            case measure => rw [HG.out]; omega
            case rel => exact ⟨i + 1, ys ++ zs, hlt, rfl, by go_num, Lib.hid (by rw [List.map_append, HYS.out, HZ.out, HF1.out]; simp), Lib.hid (by rw [← List.append_assoc]; exact HJ5.out), HK5⟩
          · gi_wp2
            go_ret
            exact .inr ⟨rfl, zs, hJx5⟩
        · obtain rfl : i = nk := by omega
          gi_wp2
          go_ret
          refine .inl ⟨rfl, ys, ?_, HJw.out, HKw.out⟩
          have h := HYS.out
          rw [List.take_of_length_le (by rw [HNK.out]; exact Nat.le_refl _)] at h
          exact h
    · have HJX := Lib.hid hJx3
      clear hJx3 hk3 hR hy a1 b1 d1
      gi_wp2
      go_ret
      exact .inr ⟨rfl, _, HJX.out⟩
theorem all_any (k n : Int) (s : ByteArray) (A B : Option Addr) (nk ca ny cb : Nat) (w : World) :
    Calls Tryz.prog 145 #[.agg #[.int .i64 k, .int .i64 n, .string s, .slice A nk ca, .slice B ny cb]] w fun e w' => e = .returned (.func (.func 174) #[] #[.pointer (some ⟨w.heap.size, 0, none⟩)]) ∧ w.alloc (.cells #[.int .i64 k, .int .i64 n, .string s, .slice A nk ca, .slice B ny cb] 25) = w' := by
  have hmf : ∀ (fn : Fn) (first cap : Array Value) (w : World), (Instr.makeFunc fn first cap).run Tryz.prog w = .ok (.func fn first cap) w := fun _ _ _ _ => rfl
  go_enter Tryz.func145, Tryz.ntmps145
  go_wp2
  go_ret
  exact ⟨rfl, rfl⟩
set_option maxRecDepth 100000 in
set_option maxHeartbeats 4000000 in
theorem all1_any (l : Nat) (w0 : World) (C : Nat → Prop) (NC : Nat) (v0 : JV) (J Jx : List NodeV → World → Prop) (hC0 : ∀ k, C k → w0.heap.size ≤ k) (hCN : ∀ k, C k → k < NC)
    (hJ : ∀ s A B, Below A.heap.size A B → J s A → J s B) (hY : YN l w0 C v0 J Jx) (vb : Nat) (cs : List Value) (W : World) (hv : VR w0 AllT cs v0) (hK : KeepF AllT w0 W) (hvb : Blk W vb 25 cs.toArray) (hJ0 : J [] W) (hn : nodesJ v0 ≤ 4194304) (hNC : NC ≤ W.heap.size) :
    CallsIn Fence.wide 2 Tryz.prog 174 #[.func (.yield l) #[] #[], .pointer (some ⟨vb, 0, none⟩)] W fun e W' => (∃ v, e = .returned v) ∧ ((∃ xs, xs.map nodeP = flatJ 0 v0 ∧ J xs W') ∨ (∃ pre, True ∧ Jx pre W')) := by
  have hmf : ∀ (fn : Fn) (first cap : Array Value) (w : World), (Instr.makeFunc fn first cap).run Tryz.prog w = .ok (.func fn first cap) w := fun _ _ _ _ => rfl
  have hb2 : Below W.heap.size W ((W.alloc (.cells #[.func (.yield l) #[] #[]] 199)).alloc (.cells #[intoV W.heap.size (W.heap.size + 1)] 199)) := ((Below.refl _ W).alloc (Nat.le_refl _) _).alloc (by simp) _
  have hib := Blk.new (W.alloc (.cells #[.func (.yield l) #[] #[]] 199)) 199 #[intoV W.heap.size (W.heap.size + 1)]
  rw [World.size_alloc] at hib
  have hcl := into_any l w0 C NC v0 J Jx W.heap.size (W.heap.size + 1) hC0 hCN (fun h => by have := hCN _ h; omega) (fun h => by have := hCN _ h; omega) hJ hY _ v0 (Nat.le_refl _) 0 [] [] cs _ hv (hK.bel hb2) (hJ _ _ _ hb2 hJ0)
    ((Blk.new W 199 #[.func (.yield l) #[] #[]]).alloc _) hib (by simp) (by omega) (by simp; omega)
  rw [show ((0 : Nat) : Int) = 0 from rfl] at hcl
  obtain ⟨k, n, s, A, na, ca, B, nb, cb, rfl⟩ := hv.form
  have HCL := Lib.hid hcl
  obtain ⟨c1, f1, l1⟩ := (hvb.keep hb2).rules
  obtain ⟨d1, d2, d3⟩ := hvb.rules
  clear hcl hib hb2 hvb hY hJ hK hv hJ0
  refine callsIn_of_wp Tryz.func174 rfl trivial ?_ rfl
  simp only [Tryz.ntmps174, List.size_toArray, List.length_cons, List.length_nil, Nat.reduceAdd, Nat.reduceSub, Array.replicate_succ, Array.replicate_zero, List.push_toArray, List.append_toArray, List.nil_append, List.cons_append]
  gi_wp2
  refine ⟨trivial, CallsIn.mono (callsIn_wide.2 HCL.out) ?_⟩
  rintro e W5 (⟨rfl, ys, hys, hJ5, _⟩ | ⟨rfl, ys, hJx⟩)
  · gi_wp2
    go_end0
    exact ⟨⟨_, rfl⟩, .inl ⟨ys, hys, hJ5⟩⟩
  · gi_wp2
    go_end0
    exact ⟨⟨_, rfl⟩, .inr ⟨ys, trivial, hJx⟩⟩
end Go.Proofs.YtgolomgmnanbpaaGreatDoor
namespace Go.Proofs.YtgolomgmnanbpaaGreatDoor
set_option linter.unusedVariables false
set_option linter.unusedSimpArgs false
open Go.RowKit
attribute [local go_sem] run_index_arr run_part_agg run_part_one run_field_agg
end Go.Proofs.YtgolomgmnanbpaaGreatDoor
namespace Go.Proofs.YtgolomgmnanbpaaGreatDoor
set_option linter.unusedVariables false
set_option linter.unusedSimpArgs false
open Go.RowKit
attribute [local go_sem] run_index_arr run_part_agg run_part_one run_field_agg
end Go.Proofs.YtgolomgmnanbpaaGreatDoor
namespace Go.Proofs.YtgolomgmnanbpaaGreatDoor
set_option linter.unusedVariables false
set_option linter.unusedSimpArgs false
open Go.RowKit
attribute [local go_sem] run_index_arr run_part_agg run_part_one run_field_agg
end Go.Proofs.YtgolomgmnanbpaaGreatDoor
namespace Go.Proofs.YtgolomgmnanbpaaGreatDoor
set_option linter.unusedVariables false
set_option linter.unusedSimpArgs false
open Go.RowKit
theorem cpBegin_ascii {c : UInt8} {r : List UInt8} (h : c.toNat < 128) : cpBegin (c :: r) = (c.toNat, 1) := by
  rw [begin_1 ((ok1 c r).2 h)]
  simp [cpNum]
end Go.Proofs.YtgolomgmnanbpaaGreatDoor
namespace Go.Proofs.YtgolomgmnanbpaaGreatDoor
set_option linter.unusedVariables false
set_option linter.unusedSimpArgs false
open Go.RowKit
attribute [local go_sem] run_index_arr run_part_agg run_part_one run_field_agg
def intV (l : List Int) : List Value := l.map (Value.int .i64)
def IS (w : World) (v : Value) (l : List Int) : Prop := ∃ A cap, v = .slice A l.length cap ∧ l.length ≤ cap ∧ Rd w A (intV l)
theorem IS.of_own {w : World} {base : Nat} {e : TypeId} {v : Value} {l : List Int} {n : Nat} (hn : n = l.length) (h : w.ownsRow base e 1 v n (intV l)) : IS w v l := by
  subst hn
  obtain ⟨A, cap, rfl, hc, hr⟩ := Rd.of_own h
  exact ⟨A, cap, rfl, hc, hr⟩
end Go.Proofs.YtgolomgmnanbpaaGreatDoor
namespace Go.Proofs.YtgolomgmnanbpaaGreatDoor
set_option linter.unusedVariables false
set_option linter.unusedSimpArgs false
open Go.RowKit
attribute [local go_sem] run_index_arr run_part_agg run_part_one run_field_agg
set_option maxRecDepth 100000 in
set_option maxHeartbeats 4000000 in
theorem uCountG_any (n p : Int) (w : World) (h0 : 0 ≤ n) (h1 : n ≤ 4194304) : Calls Tryz.prog 196 #[.int .i64 n, .int .i64 p] w fun e w' => e = .returned (.int .i64 (n + 1)) ∧ w = w' := by
  go_enter Tryz.func196, Tryz.ntmps196
  go_wp2
  go_ret
  exact ⟨rfl, rfl⟩
def uErr (s : List UInt8) : Int := if txtOk s = true then 0 else 110
set_option maxRecDepth 100000 in
set_option maxHeartbeats 4000000 in
theorem uThrough_any (s : List UInt8) (w : World) (hG : GOK w) (hl : s.length ≤ 4194304) :
    Calls Tryz.prog 195 #[.string ⟨s.toArray⟩, .int .i64 0, .func (.func 196) #[] #[]] w fun e w' => (∃ n p : Int, e = .returned (.tuple #[.int .i64 n, .int .i64 p, .int .i64 (uErr s)])) ∧ Below w.heap.size w w' := by
  obtain ⟨ba, hba⟩ : ∃ ba : ByteArray, (⟨s.toArray⟩ : ByteArray) = ba := ⟨_, rfl⟩
  have hsl : sl ba = s := by rw [← hba, sl_mk]
  rw [hba]
  obtain ⟨cap, W1, hcv, hcap, hb1, hs1, hr1⟩ := conv_bytes (P := Tryz.prog) w 9 76 5 ba Tryz.underlying9 Tryz.underlying76 Tryz.underlying5
  rw [hsl] at hr1
  have hsz : ba.size = s.length := by rw [← hsl, sl_len]
  rw [hsz] at hcv hcap
  have HR := Lib.hid hr1
  have HB1 := Lib.hid hb1
  have hlt1 : w.heap.size < W1.heap.size := by omega
  clear hr1 hb1 hsl hba hsz hs1
  have HGK := Lib.hid hG
  clear hG
  have HCN := Lib.hid (fun n p w h0 h1 => uCountG_any n p w h0 h1)
  obtain ⟨er, her⟩ : ∃ er, uErr s = er := ⟨_, rfl⟩
  rw [her]
  have HER := Lib.hid her
  clear her
  go_enter Tryz.func195, Tryz.ntmps195
  go_wp2
  go_loopg [1, 10] s.length (fun gk s1 s10 wr => ∃ (p n : Nat), p ≤ s.length ∧ n ≤ p ∧ gk = s.length - p ∧ s1 = .int .i64 n ∧ s10 = .int .i64 p ∧ Hid (uErr s = uErr (s.drop p)) ∧ Hid (Below W1.heap.size W1 wr))
  case atStart => exact ⟨0, 0, Nat.zero_le _, Nat.le_refl _, rfl, by go_num, by go_num, Lib.hid (by rw [List.drop_zero]), Lib.hid (Below.refl _ _)⟩
  case round =>
    obtain ⟨p, n, hp, hnp, hgk, rfl, rfl, HQ, HW⟩ := hrel
    have HG := Lib.hid hgk
    clear hgk
    by_cases hlt : p < s.length
    · obtain ⟨c, m, hcm⟩ : ∃ c m, cpBegin (s.drop p) = (c, m) := ⟨_, _, rfl⟩
      have hne : s.drop p ≠ [] := by intro e; have h := congrArg List.length e; rw [List.length_drop] at h; simp at h; omega
      have hle := cpBegin_le4 (s.drop p)
      have hst := txtOk_step hne
      rw [hcm] at hle hst
      rw [List.length_drop] at hle
      have hpn : p + m ≤ s.length := by have := hle.1; simp only at this; omega
      have hm4 : m ≤ 4 := hle.2
      rw [List.drop_drop] at hst
      have HST := Lib.hid hst
      have hW := HB1.out.trans (HW.out.mono HB1.out.size)
      have hcell : ∀ i x, (s.drop p)[i]? = some x → wr.cell? ⟨w.heap.size, p + i, none⟩ = some (.int .u8 x.toNat) := fun i x hx => by
        rw [List.getElem?_drop] at hx
        have h := BS.at_ (n := 0) (cap := 0) (HR.out.below HW.out) hx
        rwa [Nat.zero_add] at h
      have hNX := next_any w.heap.size p (cap - p) (s.drop p) wr hne (HGK.out.keep hW) (by have := HW.out.size; omega) hcell (by rw [List.length_drop]; omega) (by rw [List.length_drop]; omega)
      rw [hcm, List.length_drop] at hNX
      have HNX := Lib.hid hNX
      have hcapp : ¬ cap = p := by omega
      clear hNX hcell hW hcm hne hle hst
      by_cases hm0 : m = 0
      · subst hm0
        have hu : er = 110 := by
          rw [← HER.out, HQ.out]
          unfold uErr
          rw [HST.out, if_pos rfl]; rfl
        subst hu
        go_wp2_with fail
        refine HNX.out.mono ?_
        rintro e w1 ⟨rfl, hb2⟩
        have HW2 := Lib.hid (HW.out.trans (hb2.mono HW.out.size))
        clear hb2
        go_wp2
        go_ret3
        exact ⟨⟨_, _, rfl⟩, HB1.out.trans (HW2.out.mono HB1.out.size)⟩
      · have hm1 : ((m : Int) == 0) = false := by simp; omega
        have HQ2 := Lib.hid (show uErr s = uErr (s.drop (p + m)) by rw [HQ.out]; unfold uErr; rw [HST.out, if_neg hm0])
        go_wp2_with fail
        refine HNX.out.mono ?_
        rintro e w1 ⟨rfl, hb2⟩
        have HW2 := Lib.hid (HW.out.trans (hb2.mono HW.out.size))
        clear hb2
        go_wp2_with fail
        refine (HCN.out n c _ (by omega) (by omega)).mono ?_
        rintro e w2 ⟨rfl, rfl⟩
        go_wp2
        go_roundg (s.length - (p + m))
        case measure => rw [HG.out]; omega
        case rel => exact ⟨p + m, n + 1, hpn, by omega, rfl, by go_num, by go_num, HQ2, HW2⟩
    · obtain rfl : p = s.length := by omega
      have hu : er = 0 := by
        rw [← HER.out, HQ.out, List.drop_length]; rfl
      subst hu
      go_wp2
      go_ret3
      exact ⟨⟨_, _, rfl⟩, HB1.out.trans (HW.out.mono HB1.out.size)⟩
set_option maxRecDepth 100000 in
set_option maxHeartbeats 4000000 in
theorem uCheck_any (s : List UInt8) (w : World) (hG : GOK w) (hl : s.length ≤ 4194304) : Calls Tryz.prog 182 #[.string ⟨s.toArray⟩] w fun e w' => (∃ p : Int, e = .returned (.tuple #[.int .i64 p, .int .i64 (uErr s)])) ∧ Below w.heap.size w w' := by
  have HT := Lib.hid (uThrough_any s w hG hl)
  clear hl hG
  obtain ⟨er, her⟩ : ∃ er, uErr s = er := ⟨_, rfl⟩
  rw [her] at HT ⊢
  clear her
  go_enter Tryz.func182, Tryz.ntmps182
  go_wp2_with fail
  refine HT.out.mono ?_
  rintro e w1 ⟨⟨n, p, rfl⟩, hb⟩
  have HB := Lib.hid hb
  clear hb
  go_wp2
  go_ret2
  exact ⟨⟨_, rfl⟩, HB.out⟩
end Go.Proofs.YtgolomgmnanbpaaGreatDoor
