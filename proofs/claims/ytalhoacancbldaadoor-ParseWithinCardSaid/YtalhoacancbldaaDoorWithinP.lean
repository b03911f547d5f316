/- Plain: texts in brackets, and as members. -/
import Derived.Test.YtalhoacancbldaaDoorLimP
import Derived.Test.YtalhoacancbldaaDoorMoreP
import Derived.Test.YtalhoacancbldaaDoorBlankP
import Derived.KernelRfl
namespace Go.Proofs.YtalhoacancbldaaDoor
set_option linter.unusedVariables false
set_option linter.unusedSimpArgs false

/-- a text: a value and nothing behind it but blanks -/
def Good (s : List UInt8) (v : JV) (q : Nat) : Prop := (∃ k, RdR s 0 0 0 (.ok v q k)) ∧ q ≤ s.length ∧ skipB s q = s.length
theorem skip_on {s X : List UInt8} {q : Nat} (hq : q ≤ s.length) (h : skipB s q = s.length) : skipB (s ++ X) q = s.length + skipB X 0 := by
  have h2 := h
  unfold skipB at h ⊢
  rw [List.drop_append_of_le_length hq, tw_whole (fun h' => by have h3 := (skipB_in (s := s) (p := q)).2 ⟨hq, h'⟩; omega), List.drop_zero]
  simp
  omega
theorem begin_byte {s : List UInt8} {a m d : Nat} {v : JV} {q k : Nat} (h : RdR s a m d (.ok v q k)) : ∃ c, s[skipB s a]? = some c ∧ beginsB c = true := by
  have hlt := rd_at h
  obtain ⟨c, hc⟩ : ∃ c, s[skipB s a]? = some c := ⟨_, List.getElem?_eq_getElem hlt⟩
  refine ⟨c, hc, ?_⟩
  have hb : ∀ p e, beginJ s a m d ≠ .err p e := fun p e hb => by
    cases h with
    | atom h1 => rw [hb] at h1; cases h1
    | list0 h1 h2 => rw [hb] at h1; cases h1
    | list1 h1 h2 h3 => rw [hb] at h1; cases h1
    | obj0 h1 h2 => rw [hb] at h1; cases h1
    | obj1 h1 h2 h3 => rw [hb] at h1; cases h1
  cases hbc : beginsB c with
  | true => rfl
  | false =>
    exfalso
    refine hb (failF s (skipB s a) 7).1 (failF s (skipB s a) 7).2 ?_
    unfold beginJ
    rw [hc]
    simp only
    rw [if_pos hbc]
theorem begin_openW {l : List UInt8} {c : UInt8} (h : l[0]? = some c) (hc : c = 91 ∨ c = 123) : beginJ l 0 0 0 = .opens 0 (decide (c.toNat = 123)) := by
  have hs : skipB l 0 = 0 := skipB_stop h (by rcases hc with rfl | rfl <;> decide)
  unfold beginJ
  rw [hs, h]
  simp only
  rcases hc with rfl | rfl
  · rfl
  · rfl
/-- a text within a row that goes on with a byte that stops a number -/
theorem piece {P s T : List UInt8} {b : UInt8} {v : JV} {q : Nat} (h : Good s v q) (hb : stopB b = true) (hL : (P ++ (s ++ b :: T)).length ≤ 262144) {m d : Nat} (hm : m ≤ 256) (hd : d ≤ 8) :
    (∃ r, RdR (P ++ (s ++ b :: T)) P.length m d r ∧ Lim v (P.length + q) m d r) ∧ skipB (P ++ (s ++ b :: T)) (P.length + q) = P.length + (s.length + skipB (b :: T) 0) := by
  obtain ⟨⟨k, h1⟩, h2, h3⟩ := h
  obtain ⟨h4, _⟩ := rd_more (t := T) hb h1 v q k rfl
  have h5 := rd_shift (a := P) h4
  refine ⟨rd_lim hL h5 v (P.length + q) k rfl m d hm hd, ?_⟩
  rw [skipB_shift, skip_on h2 h3]
/-- how it goes -/
def Outc (L : List UInt8) (V v w : JV) : Prop := (∃ k, RdR L 0 0 0 (.ok V L.length k)) ∨ (∃ p e, RdR L 0 0 0 (.err p e) ∧ (e = 150 ∨ e = 151) ∧ ¬ (rightJ 7 v ∧ rightJ 7 w ∧ 1 + nodesJ v + nodesJ w ≤ 256))
def listRow (a b : List UInt8) : List UInt8 := 91 :: (a ++ 32 :: 44 :: (b ++ [93]))
theorem list_law {a b : List UInt8} {v w : JV} {q1 q2 : Nat} (ha : Good a v q1) (hb : Good b w q2) (hL : (listRow a b).length ≤ 2048) : Outc (listRow a b) (.mk 5 0 [] [v, w] []) v w := by
  have hbo : beginJ (listRow a b) 0 0 0 = .opens 0 false := begin_openW (c := 91) rfl (.inl rfl)
  have e1 : listRow a b = [91] ++ (a ++ 32 :: (44 :: (b ++ [93]))) := rfl
  have e2 : listRow a b = ([91] ++ a ++ [32, 44]) ++ (b ++ 93 :: []) := by unfold listRow; simp
  have hl : (listRow a b).length = a.length + b.length + 4 := by unfold listRow; simp; omega
  obtain ⟨⟨r1, h1, h2⟩, h3⟩ := piece (P := [91]) (T := 44 :: (b ++ [93])) ha (b := 32) (by decide) (by rw [← e1]; omega) (m := 1) (d := 1) (by decide) (by decide)
  rw [← e1] at h1 h3
  have h1 : RdR (listRow a b) 1 1 1 r1 := h1
  have h2 : Lim v (1 + q1) 1 1 r1 := h2
  have h3 : skipB (listRow a b) (1 + q1) = 1 + (a.length + skipB (32 :: 44 :: (b ++ [93])) 0) := h3
  have hn93 : (listRow a b)[skipB (listRow a b) (0 + 1)]? ≠ some 93 := by
    obtain ⟨c, hc, hbc⟩ := begin_byte ha.1.choose_spec
    have h5 := next_shift (a := [91]) (l := a ++ 32 :: 44 :: (b ++ [93])) 0
    have h6 := (next_more (t := 32 :: 44 :: (b ++ [93])) hc).1
    have h7 : (listRow a b)[skipB (listRow a b) (0 + 1)]? = some c := by
      have : (listRow a b)[skipB (listRow a b) (1 + 0)]? = some c := by rw [e1]; exact h5.trans h6
      exact this
    rw [h7]
    intro h8
    injection h8 with h8
    rw [h8] at hbc
    exact absurd hbc (by decide)
  have hfin : ∀ r, LsR (listRow a b) 1 1 0 [] r → RdR (listRow a b) 0 0 0 r := fun r h => .list1 hbo hn93 (ls_skip (by rw [skipB_idem]) h)
  rcases h2 with ⟨k1, rfl⟩ | ⟨p, e, rfl, he, hf⟩
  · obtain ⟨i1, i2, i3⟩ := rd_right (by omega) h1 (by decide) (by decide)
    have hs1 : skipB (listRow a b) (1 + q1) = a.length + 2 := by
      rw [h3, skipB_step (l := 32 :: 44 :: (b ++ [93])) (p := 0) (c := 32) rfl (by decide), skipB_stop (l := 32 :: 44 :: (b ++ [93])) (p := 0 + 1) (c := 44) rfl (by decide)]
      omega
    have hg1 : (listRow a b)[skipB (listRow a b) (1 + q1)]? = some 44 := by
      rw [hs1, show listRow a b = ([91] ++ a ++ [32]) ++ 44 :: (b ++ [93]) by unfold listRow; simp, List.getElem?_append_right (by first | (simp; done) | (simp; omega))]
      refine (congrArg (fun i => _[i]?) (show _ = 0 by first | (simp; done) | (simp; omega))).trans ?_; rfl
    obtain ⟨⟨r2, g1, g2⟩, g3⟩ := piece (P := [91] ++ a ++ [32, 44]) (T := []) hb (b := 93) (by decide) (by rw [← e2]; omega) (m := k1) (d := 1) i3 (by decide)
    rw [← e2] at g1 g3
    have hp2 : ([91] ++ a ++ [32, 44]).length = a.length + 2 + 1 := by simp
    rw [hp2] at g1 g2 g3
    rcases g2 with ⟨k2, rfl⟩ | ⟨p, e, rfl, he, hf⟩
    · have hs2 : skipB (listRow a b) (a.length + 2 + 1 + q2) = a.length + b.length + 3 := by
        rw [g3, skipB_stop (l := [93]) (p := 0) (c := 93) rfl (by decide)]; omega
      have hg2 : (listRow a b)[skipB (listRow a b) (a.length + 2 + 1 + q2)]? = some 93 := by
        rw [hs2, show listRow a b = ([91] ++ a ++ [32, 44] ++ b) ++ [93] by unfold listRow; simp, List.getElem?_append_right (by first | (simp; done) | (simp; omega))]
        refine (congrArg (fun i => _[i]?) (show _ = 0 by first | (simp; done) | (simp; omega))).trans ?_; rfl
      have h8 := LsR.close (kids := [] ++ [v]) g1 hg2
      rw [hs2] at h8
      have h9 := LsR.comma (kids := []) h1 hg1 (by rw [hs1]; exact h8)
      exact .inl ⟨k2, by rw [hl]; exact hfin _ h9⟩
    · have h9 := LsR.comma (kids := []) h1 hg1 (by rw [hs1]; exact LsR.err g1)
      refine .inr ⟨p, e, hfin _ h9, he, fun hC => hf ⟨hC.2.1, by omega⟩⟩
  · exact .inr ⟨p, e, hfin _ (.err h1), he, fun hC => hf ⟨hC.1, by omega⟩⟩
def objRow (c1 c2 : UInt8) (a b : List UInt8) : List UInt8 := 123 :: 34 :: c1 :: 34 :: 58 :: (a ++ 44 :: 34 :: c2 :: 34 :: 32 :: 58 :: (b ++ [125]))
theorem obj_law {c1 c2 : UInt8} {a b : List UInt8} {v w : JV} {q1 q2 : Nat} (h12 : c2 ≠ c1) (hk1 : qRead [123, 34, c1, 34, 58] ((1 : Nat) : Int) = ([c1], ((4 : Nat) : Int), 0)) (hk2 : qRead [34, c2, 34, 32, 58] ((0 : Nat) : Int) = ([c2], ((3 : Nat) : Int), 0))
    (ha : Good a v q1) (hb : Good b w q2) (hL : (objRow c1 c2 a b).length ≤ 2048) : Outc (objRow c1 c2 a b) (sortedJ [[c1], [c2]] [v, w]) v w := by
  obtain ⟨O, hO⟩ : ∃ O, objRow c1 c2 a b = O := ⟨_, rfl⟩
  have e1 : O = [123, 34, c1, 34, 58] ++ (a ++ 44 :: (34 :: c2 :: 34 :: 32 :: 58 :: (b ++ [125]))) := hO.symm
  have e2 : O = ([123, 34, c1, 34, 58] ++ a ++ [44]) ++ (34 :: c2 :: 34 :: 32 :: 58 :: (b ++ [125])) := by rw [e1]; simp
  have e3 : O = ([123, 34, c1, 34, 58] ++ a ++ [44, 34, c2, 34, 32, 58]) ++ (b ++ 125 :: []) := by rw [e1]; simp
  have hl : O.length = a.length + b.length + 12 := by rw [e1]; simp; omega
  rw [hO] at hL ⊢
  have hbo : beginJ O 0 0 0 = .opens 0 true := begin_openW (c := 123) (by rw [e1]; rfl) (.inr rfl)
  have hs1 : skipB O (0 + 1) = 1 := skipB_stop (c := 34) (by rw [e1]; rfl) (by decide)
  have hg1 : O[skipB O (0 + 1)]? = some 34 := by rw [hs1, e1]; rfl
  have hq1 : qRead O (skipB O (0 + 1) : Nat) = ([c1], ((4 : Nat) : Int), 0) := by
    rw [hs1]
    refine qRead_grow (l := O) (n := 5) (by omega) (by decide) ?_
    rw [show O.take 5 = [123, 34, c1, 34, 58] by rw [e1]; rfl]
    exact hk1
  have hs4 : skipB O 4 = 4 := skipB_stop (c := 58) (by rw [e1]; rfl) (by decide)
  have hg4 : O[skipB O 4]? = some 58 := by rw [hs4, e1]; rfl
  obtain ⟨⟨r1, h1, h2⟩, h3⟩ := piece (P := [123, 34, c1, 34, 58]) (T := 34 :: c2 :: 34 :: 32 :: 58 :: (b ++ [125])) ha (b := 44) (by decide) (by rw [← e1]; omega) (m := 1) (d := 1) (by decide) (by decide)
  rw [← e1] at h1 h3
  have h1 : RdR O (skipB O 4 + 1) 1 1 r1 := by rw [hs4]; exact h1
  have hfin : ∀ r, ObR O (skipB O (0 + 1)) 1 0 [] [] r → RdR O 0 0 0 r := fun r h => .obj1 hbo (by rw [hg1]; decide) h
  rw [hs1] at hfin
  rw [hs1] at hg1 hq1
  have hs1' : skipB O 1 = 1 := hs1
  have hg1' : O[skipB O 1]? = some 34 := by rw [hs1']; exact hg1
  have hq1' : qRead O (skipB O 1 : Nat) = ([c1], ((4 : Nat) : Int), 0) := by rw [hs1']; exact hq1
  rcases h2 with ⟨k1, rfl⟩ | ⟨p, e, rfl, he, hf⟩
  · obtain ⟨i1, i2, i3⟩ := rd_right (by omega) h1 (by decide) (by decide)
    have hs5 : skipB O ([123, 34, c1, 34, 58].length + q1) = a.length + 5 := by
      rw [h3, skipB_stop (l := 44 :: (34 :: c2 :: 34 :: 32 :: 58 :: (b ++ [125]))) (p := 0) (c := 44) rfl (by decide)]
      simp
      omega
    have hg5 : O[skipB O ([123, 34, c1, 34, 58].length + q1)]? = some 44 := by
      rw [hs5, show O = ([123, 34, c1, 34, 58] ++ a) ++ 44 :: (34 :: c2 :: 34 :: 32 :: 58 :: (b ++ [125])) by rw [e1]; simp, List.getElem?_append_right (by first | (simp; done) | (simp; omega))]
      refine (congrArg (fun i => _[i]?) (show _ = 0 by first | (simp; done) | (simp; omega))).trans ?_; rfl
    have hP2 : ([123, 34, c1, 34, 58] ++ a ++ [44]).length = a.length + 5 + 1 := by simp
    have hsh : ∀ x, O[a.length + 5 + 1 + x]? = (34 :: c2 :: 34 :: 32 :: 58 :: (b ++ [125]))[x]? := fun x => by rw [← hP2, e2]; exact get_shift x
    have hs6 : skipB O (a.length + 5 + 1) = a.length + 5 + 1 := skipB_stop (c := 34) (by have := hsh 0; exact this) (by decide)
    have hg6 : O[skipB O (a.length + 5 + 1)]? = some 34 := by rw [hs6]; have := hsh 0; exact this
    have hq6 : qRead O (skipB O (a.length + 5 + 1) : Nat) = ([c2], ((a.length + 5 + 1 + 3 : Nat) : Int), 0) := by
      have h7 : qRead (34 :: c2 :: 34 :: 32 :: 58 :: (b ++ [125])) ((0 : Nat) : Int) = ([c2], ((3 : Nat) : Int), 0) := by
        refine qRead_grow (l := 34 :: c2 :: 34 :: 32 :: 58 :: (b ++ [125])) (n := 5) (by simp) (by decide) ?_
        exact hk2
      have h8 := qRead_shift (a := [123, 34, c1, 34, 58] ++ a ++ [44]) (l := 34 :: c2 :: 34 :: 32 :: 58 :: (b ++ [125])) (p := 0) (by simp)
      rw [← e2, h7, hP2] at h8
      rw [hs6, show ((a.length + 5 + 1 + 3 : Nat) : Int) = ((a.length + 5 + 1 : Nat) : Int) + ((3 : Nat) : Int) by omega]
      exact h8
    have hs9 : skipB O (a.length + 5 + 1 + 3) = a.length + 5 + 1 + 4 := by
      rw [skipB_step (c := 32) (by rw [hsh 3]; rfl) (by decide)]
      exact skipB_stop (c := 58) (by have := hsh 4; exact this) (by decide)
    have hg9 : O[skipB O (a.length + 5 + 1 + 3)]? = some 58 := by rw [hs9]; exact hsh 4
    obtain ⟨⟨r2, g1, g2⟩, g3⟩ := piece (P := [123, 34, c1, 34, 58] ++ a ++ [44, 34, c2, 34, 32, 58]) (T := []) hb (b := 125) (by decide) (by rw [← e3]; omega) (m := k1) (d := 1) i3 (by decide)
    rw [← e3] at g1 g3
    have hP3 : ([123, 34, c1, 34, 58] ++ a ++ [44, 34, c2, 34, 32, 58]).length = a.length + 5 + 1 + 4 + 1 := by simp
    rw [hP3] at g1 g2 g3
    have g1 : RdR O (skipB O (a.length + 5 + 1 + 3) + 1) k1 1 r2 := by rw [hs9]; exact g1
    have hin : [c2] ∉ ([] ++ [[c1]] : List (List UInt8)) := by simp; exact h12
    rcases g2 with ⟨k2, rfl⟩ | ⟨p, e, rfl, he, hf⟩
    · have hs2 : skipB O (a.length + 5 + 1 + 4 + 1 + q2) = a.length + b.length + 11 := by
        rw [g3, skipB_stop (l := [125]) (p := 0) (c := 125) rfl (by decide)]; omega
      have hg2 : O[skipB O (a.length + 5 + 1 + 4 + 1 + q2)]? = some 125 := by
        rw [hs2, show O = ([123, 34, c1, 34, 58] ++ a ++ [44, 34, c2, 34, 32, 58] ++ b) ++ [125] by rw [e1]; simp, List.getElem?_append_right (by first | (simp; done) | (simp; omega))]
        refine (congrArg (fun i => _[i]?) (show _ = 0 by first | (simp; done) | (simp; omega))).trans ?_; rfl
      have h8 := ObR.close (keys := [] ++ [[c1]]) (kids := [] ++ [v]) hg6 hq6 hin hg9 g1 hg2
      rw [hs2] at h8
      have h9 := ObR.comma (keys := []) (kids := []) hg1' hq1' (by simp) hg4 h1 hg5 (by rw [hs5]; exact h8)
      exact .inl ⟨k2, by rw [hl]; exact hfin _ h9⟩
    · have h9 := ObR.comma (keys := []) (kids := []) hg1' hq1' (by simp) hg4 h1 hg5 (by rw [hs5]; exact ObR.err hg6 hq6 hin hg9 g1)
      refine .inr ⟨p, e, hfin _ h9, he, fun hC => hf ⟨hC.2.1, by omega⟩⟩
  · exact .inr ⟨p, e, hfin _ (.err hg1' hq1' (by simp) hg4 h1), he, fun hC => hf ⟨hC.1, by omega⟩⟩
theorem kb1 : qRead [123, 34, 98, 34, 58] ((1 : Nat) : Int) = ([98], ((4 : Nat) : Int), 0) := by kernel_rfl
theorem ka1 : qRead [123, 34, 97, 34, 58] ((1 : Nat) : Int) = ([97], ((4 : Nat) : Int), 0) := by kernel_rfl
theorem kb2 : qRead [34, 98, 34, 32, 58] ((0 : Nat) : Int) = ([98], ((3 : Nat) : Int), 0) := by kernel_rfl
theorem ka2 : qRead [34, 97, 34, 32, 58] ((0 : Nat) : Int) = ([97], ((3 : Nat) : Int), 0) := by kernel_rfl
theorem sort_ba (v w : JV) : sortedJ [[98], [97]] [v, w] = .mk 6 0 [] [w, v] [[97], [98]] := rfl
theorem sort_ab (v w : JV) : sortedJ [[97], [98]] [w, v] = .mk 6 0 [] [w, v] [[97], [98]] := rfl
end Go.Proofs.YtalhoacancbldaaDoor
