/- Rows of tokens: what a slice of tokens reads; slices.Equal over two of them. -/
import Derived.Test.YtalhoacancbldaaDoorProg
import Derived.Test.YtalhoacancbldaaDoorOwn
import Derived.Deep.LoopGhost
namespace Go.Proofs.YtalhoacancbldaaDoor
set_option linter.unusedVariables false
set_option linter.unusedSimpArgs false
open Go.RowKit
attribute [local go_sem] run_index_arr run_part_agg run_part_one run_field_agg

/-- a token: its kind, place, text and number -/
abbrev VTok := Int × Nat × List UInt8 × Int
def tokL (x : VTok) : List Value := [.int .i64 x.1, .int .i64 x.2.1, .string ⟨x.2.2.1.toArray⟩, .int .i64 x.2.2.2]
def tokCells (ts : List VTok) : List Value := ts.flatMap tokL
theorem tokCells_nil : tokCells [] = [] := rfl
theorem tokCells_cons (x : VTok) (ts : List VTok) : tokCells (x :: ts) = tokL x ++ tokCells ts := rfl
theorem tokCells_app (a b : List VTok) : tokCells (a ++ b) = tokCells a ++ tokCells b := by simp [tokCells]
theorem tokCells_len : ∀ ts : List VTok, (tokCells ts).length = ts.length * 4
  | [] => rfl
  | x :: ts => by rw [tokCells_cons, List.length_append, tokCells_len ts]; simp [tokL]; omega
theorem tokCells_get : ∀ {ts : List VTok} {i : Nat} {x : VTok} (_ : ts[i]? = some x) {j : Nat} (_ : j < 4), (tokCells ts)[i * 4 + j]? = (tokL x)[j]?
  | [], i, x, h, _, _ => by simp at h
  | y :: ts, 0, x, h, j, hj => by
    have : y = x := by simpa using h
    subst this
    rw [tokCells_cons, Nat.zero_mul, Nat.zero_add, List.getElem?_append_left (by simp [tokL]; omega)]
  | y :: ts, i + 1, x, h, j, hj => by
    have h' : ts[i]? = some x := by simpa using h
    rw [tokCells_cons, List.getElem?_append_right (by simp [tokL]; omega), ← tokCells_get h' hj]
    congr 1
    simp [tokL]; omega
/-- a slice value reads as a row of tokens -/
def TS (w : World) (v : Value) (ts : List VTok) : Prop := ∃ A cap, v = .slice A ts.length cap ∧ ts.length ≤ cap ∧ Rd w A (tokCells ts)
theorem TS.below {w w' : World} {v : Value} {ts : List VTok} (h : TS w v ts) (hb : Below w.heap.size w w') : TS w' v ts := by
  obtain ⟨A, cap, rfl, hc, hr⟩ := h
  exact ⟨A, cap, rfl, hc, hr.below hb⟩
theorem TS.drewN {w : World} {v : Value} {ts : List VTok} (h : TS w v ts) (n : Nat) : TS (w.drewN n) v ts := h
theorem TS.alloc {w : World} {v : Value} {ts : List VTok} (h : TS w v ts) (o : Obj) : TS (w.alloc o) v ts := h.below ((Below.refl _ w).alloc (Nat.le_refl _) o)
theorem TS.nil {w : World} : TS w (.slice none 0 0) [] := ⟨none, 0, rfl, Nat.le_refl _, Rd.nil⟩
/-- the cells of a token of a row -/
theorem Rd.tok {w : World} {A : Option Addr} {ts : List VTok} (h : Rd w A (tokCells ts)) {i : Nat} {x : VTok} (hx : ts[i]? = some x) :
    ∃ b o, A = some ⟨b, o, none⟩ ∧ b < w.heap.size ∧ w.cell? ⟨b, o + i * 4, none⟩ = some (.int .i64 x.1) ∧ w.cell? ⟨b, o + i * 4 + 1, none⟩ = some (.int .i64 x.2.1) ∧
      w.cell? ⟨b, o + i * 4 + 2, none⟩ = some (.string ⟨x.2.2.1.toArray⟩) ∧ w.cell? ⟨b, o + i * 4 + 3, none⟩ = some (.int .i64 x.2.2.2) := by
  have hi : i < ts.length := (List.getElem?_eq_some_iff.1 hx).1
  obtain ⟨b, o, rfl, hb, hc⟩ := h (by intro e; have h3 := tokCells_len ts; rw [e, List.length_nil] at h3; omega)
  have key : ∀ j v, j < 4 → (tokL x)[j]? = some v → w.cell? ⟨b, o + i * 4 + j, none⟩ = some v := fun j v hj hv => by
    have h1 := tokCells_get hx hj
    rw [hv] at h1
    obtain ⟨hlt, e⟩ := List.getElem?_eq_some_iff.1 h1
    rw [Nat.add_assoc, hc _ hlt, e]
  exact ⟨b, o, rfl, hb, key 0 _ (by omega) rfl, key 1 _ (by omega) rfl, key 2 _ (by omega) rfl, key 3 _ (by omega) rfl⟩

theorem str_mk_eq {a b : List UInt8} : ((⟨a.toArray⟩ : ByteArray).toList == (⟨b.toArray⟩ : ByteArray).toList) = decide (a = b) := by
  rw [ByteArray.toList_eq, ByteArray.toList_eq, Bool.eq_iff_iff]; simp

theorem tok_ne {a a' : Int} {b b' : Nat} {s s' : List UInt8} {d d' : Int} (h : ¬ (a, b, s, d) = (a', b', s', d')) : ¬ a = a' ∨ (a = a' ∧ ¬ (b : Int) = b') ∨ (a = a' ∧ b = b' ∧ ¬ s = s') ∨ (a = a' ∧ b = b' ∧ s = s' ∧ ¬ d = d') := by
  by_cases h1 : a = a'
  · by_cases h2 : b = b'
    · by_cases h3 : s = s'
      · by_cases h4 : d = d'
        · subst h1 h2 h3 h4; exact absurd rfl h
        · exact .inr (.inr (.inr ⟨h1, h2, h3, h4⟩))
      · exact .inr (.inr (.inl ⟨h1, h2, h3⟩))
    · exact .inr (.inl ⟨h1, by omega⟩)
  · exact .inl h1

set_option maxRecDepth 100000 in
set_option maxHeartbeats 4000000 in
/-- slices.Equal over tokens -/
theorem tokEqual_any (v1 v2 : Value) (t1 t2 : List VTok) (w : World) (h1 : TS w v1 t1) (h2 : TS w v2 t2) (hl1 : t1.length ≤ 1048576) (hl2 : t2.length ≤ 1048576) :
    Calls Tryd.prog 19 #[v1, v2] w fun e w' => e = .returned (.bool (decide (t1 = t2))) ∧ ∃ q, w.drewN q = w' := by
  obtain ⟨A1, c1, rfl, hc1, hr1⟩ := h1
  obtain ⟨A2, c2, rfl, hc2, hr2⟩ := h2
  by_cases hlen : t1.length = t2.length
  · have HL := Lib.hid hlen
    obtain ⟨n, hn⟩ : ∃ n, t1.length = n := ⟨_, rfl⟩
    rw [← hlen, hn]
    rw [hn] at hl1
    have HN := Lib.hid hn
    clear hlen hn hc1 hc2 hl2
    go_enter Tryd.func19, Tryd.ntmps19
    go_wp2
    go_loopg [13] n (fun gk i wr => ∃ k q : Nat, k ≤ n ∧ gk = n - k ∧ i = .int .i64 k ∧ wr = w.drewN q ∧ t1.take k = t2.take k)
    case atStart => exact ⟨0, 0, Nat.zero_le _, rfl, rfl, rfl, rfl⟩
    case round =>
      obtain ⟨k, q, hk, hgk, rfl, rfl, heq⟩ := hrel
      have HG := Lib.hid hgk
      have HE := Lib.hid heq
      clear hgk heq
      by_cases hlt : k < n
      · obtain ⟨⟨a, b, s, d⟩, hx⟩ : ∃ x, t1[k]? = some x := ⟨_, List.getElem?_eq_getElem (by rw [HN.out]; exact hlt)⟩
        obtain ⟨⟨a', b', s', d'⟩, hy⟩ : ∃ x, t2[k]? = some x := ⟨_, List.getElem?_eq_getElem (by rw [← HL.out, HN.out]; exact hlt)⟩
        obtain ⟨b1, o1, rfl, hb1, p0, p1, p2, p3⟩ := hr1.tok hx
        obtain ⟨b2, o2, rfl, hb2, q0, q1, q2, q3⟩ := hr2.tok hy
        have HX := Lib.hid hx
        have HY := Lib.hid hy
        clear hx hy
        by_cases hxy : (a, b, s, d) = (a', b', s', d')
        · obtain ⟨rfl, rfl, rfl, rfl⟩ : a = a' ∧ b = b' ∧ s = s' ∧ d = d' := by simpa using hxy
          clear hxy
          go_wp2
          go_quiet (fail)
          go_wp2
          go_roundg (n - (k + 1))
          case measure => rw [HG.out]; omega
          case rel =>
            refine ⟨k + 1, q + nq, hlt, rfl, by go_num, rfl, ?_⟩
            rw [List.take_add_one, List.take_add_one, HE.out, HX.out, HY.out]
        · have HNE := Lib.hid hxy
          have hd := tok_ne hxy
          clear hxy
          have hf : t1 ≠ t2 := fun e => HNE.out (by have h1 := HX.out; rw [e, HY.out] at h1; exact (Option.some.inj h1).symm)
          have HF := Lib.hid hf
          clear hf
          rcases hd with hd | ⟨rfl, hd⟩ | ⟨rfl, rfl, hd⟩ | ⟨rfl, rfl, rfl, hd⟩
          rotate_left 2
          · have hbe : (s == s') = false := by simpa using hd
            go_wp2
            go_quiet (fail)
            go_wp2
            go_ret
            exact ⟨ret_bool (by rw [decide_eq_false HF.out]), q + nq, (World.drewN_drewN _ _ _).symm⟩
          all_goals
            go_wp2
            go_quiet (fail)
            go_wp2
            go_ret
            exact ⟨ret_bool (by rw [decide_eq_false HF.out]), q + nq, (World.drewN_drewN _ _ _).symm⟩
      · obtain rfl : k = n := by omega
        go_wp2
        go_ret
        refine ⟨ret_bool ?_, q, rfl⟩
        have h1 := HE.out
        rw [List.take_of_length_le (by rw [HN.out]; exact Nat.le_refl _), List.take_of_length_le (by rw [← HL.out, HN.out]; exact Nat.le_refl _)] at h1
        simp [h1]
  · have hne : ((t1.length : Int) != (t2.length : Int)) = true := by simp; omega
    have HF := Lib.hid (show t1 ≠ t2 from fun e => hlen (by rw [e]))
    clear hlen
    go_enter Tryd.func19, Tryd.ntmps19
    go_wp2
    all_goals
      go_ret
      exact ⟨ret_bool (by rw [decide_eq_false HF.out]), 0, rfl⟩
end Go.Proofs.YtalhoacancbldaaDoor
