import Derived.Test.YtgolomgmnanbpaaGreatDoorX12
namespace Go.Proofs.YtgolomgmnanbpaaGreatDoor
set_option linter.unusedVariables false
set_option linter.unusedSimpArgs false
open Go.RowKit
attribute [local go_sem] run_index_arr run_part_agg run_part_one run_field_agg
def numB (op : Int → Int → Int) (o0 o1 : Option JV) : Option JV := match o0, o1 with | some a, some b => if a.kind = 3 ∧ b.kind = 3 then numR (op a.num b.num) else none | _, _ => none
theorem numB_no {op : Int → Int → Int} {o0 o1 : Option JV} (h : o0 = none ∨ o1 = none) : numB op o0 o1 = none := by
  rcases h with rfl | rfl
  · rfl
  · cases o0 <;> rfl
set_option maxRecDepth 100000 in
set_option maxHeartbeats 4000000 in
theorem mNumbersAdd {pv : Value} {F : Nat → Prop} {env : List (List UInt8 × JV)} {w : World} {k : Int} {v : JV} {s : List UInt8} {y y' : EJ} {r : List EJ} {cs : List Value} (hk : KidC pv F env w y) (hk' : KidC pv F env w y') (hF : ∀ b, F b → b < w.heap.size) (hx : ER w F cs (.mk k v s (y :: y' :: r))) :
    Calls Tryz.prog 126 #[pv, .agg cs.toArray, .func (.func 128) #[] #[]] w (ExP (numB (fun a b : Int => a + b) (evE env y) (evE env y')) F w) := by
  obtain ⟨k1, n1, s1, A1, na1, ca1, B1, nb1, cb1, A, ca, css, rfl, _⟩ := hx.out
  have HBO := Lib.hid (fun (W : World) (h : Below w.heap.size w W) => mBoth (hk.mono h) (hk'.mono h) (fun b hb => Nat.lt_of_lt_of_le (hF b hb) h.size) (hx.bel h))
  obtain ⟨nr, hnr⟩ : ∃ q, (y :: y' :: r).length = q := ⟨_, rfl⟩
  obtain ⟨o0, ho0⟩ : ∃ o, evE env y = o := ⟨_, rfl⟩
  obtain ⟨o1, ho1⟩ : ∃ o, evE env y' = o := ⟨_, rfl⟩
  obtain ⟨op, hop⟩ : ∃ p, numB (fun a b : Int => a + b) o0 o1 = p := ⟨_, rfl⟩
  have HOP := Lib.hid hop
  rw [hnr, ho0, ho1] at HBO
  rw [hnr, ho0, ho1, hop]
  have HH0 := Lib.hid (((Held.nil w).push 28 #[.int .i64 k, .int .i64 k1, .int .i64 n1, .string s1, .slice A1 na1 ca1, .slice B1 nb1 cb1, .string ⟨s.toArray⟩, .slice A nr ca] (g := w.heap.size) rfl).push 25 #[.int .i64 0, .int .i64 0, .string ⟨#[]⟩, .slice none 0 0, .slice none 0 0] (g := w.heap.size + 1) (by simp))
  clear hk hk' hx hF hnr ho0 ho1 hop
  obtain ⟨c0, f0, l0⟩ := HH0.out.b1.rules
  go_enter Tryz.func126, Tryz.ntmps126
  go_wp2_with fail
  refine (HBO.out _ HH0.out.1).mono ?_
  rintro e w1 ⟨cA, cB, va, vb, bs, rfl, hva, hvb, hca, hcb, hy, hn, hb1⟩
  obtain ⟨ka, na, sa, kda, kya⟩ := va
  obtain ⟨kb, nb, sb, kdb, kyb⟩ := vb
  obtain ⟨VA, VB, vca, vcb, vcss, rfl, _⟩ := hva.out
  obtain ⟨UA, UB, uca, ucb, ucss, rfl, _⟩ := hvb.out
  have HIA := Lib.hid hca.out.2.1
  have HIB := Lib.hid hcb.out.2.1
  have HH1 := Lib.hid (((HH0.out.keep hb1).push 25 #[.int .i64 ka, .int .i64 na, .string ⟨sa.toArray⟩, .slice VA kda.length vca, .slice VB kya.length vcb] (g := w1.heap.size) rfl).push 25 #[.int .i64 kb, .int .i64 nb, .string ⟨sb.toArray⟩, .slice UA kdb.length uca, .slice UB kyb.length ucb] (g := w1.heap.size + 1) (by simp))
  have HY := Lib.hid hy
  have HN := Lib.hid hn
  clear hva hvb hca hcb hy hn hb1 c0 f0 l0 HBO HH0
  obtain ⟨c1, f1, l1⟩ := HH1.out.b1.rules
  obtain ⟨c0, f0, l0⟩ := HH1.out.b0.rules
  cases bs
  · go_wp2_with fail
    refine (mNone _).mono ?_
    rintro e wn ⟨rfl, hbn⟩
    have HHN := Lib.hid (HH1.out.keep hbn)
    clear hbn
    obtain ⟨c9, f9, l9⟩ := HHN.out.b2.rules
    go_wp2
    refine bodyPost_ret (v := .tuple #[.agg #[.int .i64 0, .int .i64 0, .string ⟨#[]⟩, .slice none 0 0, .slice none 0 0], .bool false]) (by simp only [results, Tryz.results126]; go_simp) rfl ?_
    exact ExP.none_ (w1 := w) (by rw [← HOP.out]; exact numB_no (HN.out (by trivial))) (five_bel HHN.out.1 (by omega) _ _ _ _ _)
  · have HQ := Lib.hid (show op = (if ka = 3 ∧ kb = 3 then numR (na + nb) else none) by
      obtain ⟨h1, h2, _, _⟩ := HY.out rfl
      rw [← HOP.out, h1, h2]; rfl)
    by_cases ha3 : ka = 3
    · subst ha3
      by_cases hb3 : kb = 3
      · subst hb3
        have HQ2 := Lib.hid (show op = numR (na + nb) by rw [HQ.out, if_pos ⟨rfl, rfl⟩])
        go_wp2_with fail
        refine (mAddF na nb HIA.out HIB.out _).mono ?_
        rintro e w2 ⟨m, t, rfl, rfl, him, hnm⟩
        have HIM := Lib.hid him
        have HNM := Lib.hid hnm
        clear him hnm
        cases t
        · go_wp2_with fail
          refine (mNone _).mono ?_
          rintro e wn ⟨rfl, hbn⟩
          have HHN := Lib.hid (HH1.out.keep hbn)
          clear hbn
          obtain ⟨c9, f9, l9⟩ := HHN.out.b2.rules
          go_wp2
          refine bodyPost_ret (v := .tuple #[.agg #[.int .i64 0, .int .i64 0, .string ⟨#[]⟩, .slice none 0 0, .slice none 0 0], .bool false]) (by simp only [results, Tryz.results126]; go_simp) rfl ?_
          exact ExP.none_ (w1 := w) (by rw [HQ2.out, HNM.out]; rfl) (five_bel HHN.out.1 (by omega) _ _ _ _ _)
        · clear c0 f0 l0 c1 f1 l1
          go_wp2_with fail
          refine (vIntV m _).mono ?_
          rintro e w3 ⟨rfl, hb3⟩
          have HH3 := Lib.hid (HH1.out.keep hb3)
          clear hb3
          obtain ⟨c9, f9, l9⟩ := HH3.out.b2.rules
          go_wp2
          refine bodyPost_ret (v := .tuple #[.agg #[.int .i64 3, .int .i64 m, .string ⟨#[]⟩, .slice none 0 0, .slice none 0 0], .bool true]) (by simp only [results, Tryz.results126]; go_simp) rfl ?_
          exact ExP.num_ HIM.out (by rw [HQ2.out, HNM.out]; rfl) (five_bel HH3.out.1 (by omega) _ _ _ _ _)
      · have eb3 : (kb == 3) = false := by simp [hb3]
        have Hb3 := Lib.hid hb3
        clear hb3
        go_wp2_with fail
        refine (mNone _).mono ?_
        rintro e wn ⟨rfl, hbn⟩
        have HHN := Lib.hid (HH1.out.keep hbn)
        clear hbn
        obtain ⟨c9, f9, l9⟩ := HHN.out.b2.rules
        go_wp2
        refine bodyPost_ret (v := .tuple #[.agg #[.int .i64 0, .int .i64 0, .string ⟨#[]⟩, .slice none 0 0, .slice none 0 0], .bool false]) (by simp only [results, Tryz.results126]; go_simp) rfl ?_
        exact ExP.none_ (w1 := w) (by rw [HQ.out, if_neg (fun h => Hb3.out h.2)]) (five_bel HHN.out.1 (by omega) _ _ _ _ _)
    · have ea3 : (ka == 3) = false := by simp [ha3]
      have Ha3 := Lib.hid ha3
      clear ha3
      go_wp2_with fail
      refine (mNone _).mono ?_
      rintro e wn ⟨rfl, hbn⟩
      have HHN := Lib.hid (HH1.out.keep hbn)
      clear hbn
      obtain ⟨c9, f9, l9⟩ := HHN.out.b2.rules
      go_wp2
      refine bodyPost_ret (v := .tuple #[.agg #[.int .i64 0, .int .i64 0, .string ⟨#[]⟩, .slice none 0 0, .slice none 0 0], .bool false]) (by simp only [results, Tryz.results126]; go_simp) rfl ?_
      exact ExP.none_ (w1 := w) (by rw [HQ.out, if_neg (fun h => Ha3.out h.1)]) (five_bel HHN.out.1 (by omega) _ _ _ _ _)
set_option maxRecDepth 100000 in
set_option maxHeartbeats 4000000 in
theorem mAdd {pv : Value} {F : Nat → Prop} {env : List (List UInt8 × JV)} {w : World} {k : Int} {v : JV} {s : List UInt8} {y y' : EJ} {r : List EJ} {cs : List Value} (hk : KidC pv F env w y) (hk' : KidC pv F env w y') (hF : ∀ b, F b → b < w.heap.size) (hx : ER w F cs (.mk k v s (y :: y' :: r))) :
    Calls Tryz.prog 79 #[pv, .agg cs.toArray] w (ExP (numB (fun a b : Int => a + b) (evE env y) (evE env y')) F w) := by
  have HE := Lib.hid (fun (W : World) (h : Below w.heap.size w W) => mNumbersAdd (hk.mono h) (hk'.mono h) (fun b hb => Nat.lt_of_lt_of_le (hF b hb) h.size) (hx.bel h))
  obtain ⟨o, ho⟩ : ∃ o, numB (fun a b : Int => a + b) (evE env y) (evE env y') = o := ⟨_, rfl⟩
  rw [ho] at HE ⊢
  obtain ⟨k1, n1, s1, A1, na1, ca1, B1, nb1, cb1, A, ca, css, rfl, _⟩ := hx.out
  obtain ⟨nr, hnr⟩ : ∃ q, (y :: y' :: r).length = q := ⟨_, rfl⟩
  rw [hnr] at HE ⊢
  have HH0 := Lib.hid (((Held.nil w).push 28 #[.int .i64 k, .int .i64 k1, .int .i64 n1, .string s1, .slice A1 na1 ca1, .slice B1 nb1 cb1, .string ⟨s.toArray⟩, .slice A nr ca] (g := w.heap.size) rfl).push 25 #[.int .i64 0, .int .i64 0, .string ⟨#[]⟩, .slice none 0 0, .slice none 0 0] (g := w.heap.size + 1) (by simp))
  have HFF := Lib.hid hF
  clear hk hk' hx ho hnr hF
  obtain ⟨c0, f0, l0⟩ := HH0.out.b1.rules
  go_enter Tryz.func79, Tryz.ntmps79
  go_wp2_with fail
  refine (HE.out _ HH0.out.1).mono ?_
  rintro e w1 ⟨cs1, v1, b1, rfl, hv1, hc1, ho1, hg1, hb1⟩
  have HR := Lib.hid hv1
  obtain ⟨k5, n5, s5, A5, na5, ca5, B5, nb5, cb5, rfl⟩ := hv1.form
  have HH1 := Lib.hid (HH0.out.keep hb1)
  have HQ := Lib.hid (And.intro hc1 (And.intro ho1 hg1))
  clear hb1 c0 f0 l0 hv1 hc1 ho1 hg1 HE
  obtain ⟨c1, f1, l1⟩ := HH1.out.b0.rules
  go_wp2
  refine bodyPost_ret (v := .tuple #[.agg #[.int .i64 k5, .int .i64 n5, .string s5, .slice A5 na5 ca5, .slice B5 nb5 cb5], .bool b1]) (by simp only [results, Tryz.results79]; go_simp) rfl ?_
  exact ⟨_, v1, b1, rfl, HR.out.out5 HFF.out (by simp; omega) (by omega) (by simp) _ _ _ _ _, HQ.out.1, HQ.out.2.1, HQ.out.2.2, five_bel HH1.out.1 (by omega) _ _ _ _ _⟩
set_option maxRecDepth 100000 in
set_option maxHeartbeats 4000000 in
theorem mNumbersSub {pv : Value} {F : Nat → Prop} {env : List (List UInt8 × JV)} {w : World} {k : Int} {v : JV} {s : List UInt8} {y y' : EJ} {r : List EJ} {cs : List Value} (hk : KidC pv F env w y) (hk' : KidC pv F env w y') (hF : ∀ b, F b → b < w.heap.size) (hx : ER w F cs (.mk k v s (y :: y' :: r))) :
    Calls Tryz.prog 126 #[pv, .agg cs.toArray, .func (.func 129) #[] #[]] w (ExP (numB (fun a b : Int => a - b) (evE env y) (evE env y')) F w) := by
  obtain ⟨k1, n1, s1, A1, na1, ca1, B1, nb1, cb1, A, ca, css, rfl, _⟩ := hx.out
  have HBO := Lib.hid (fun (W : World) (h : Below w.heap.size w W) => mBoth (hk.mono h) (hk'.mono h) (fun b hb => Nat.lt_of_lt_of_le (hF b hb) h.size) (hx.bel h))
  obtain ⟨nr, hnr⟩ : ∃ q, (y :: y' :: r).length = q := ⟨_, rfl⟩
  obtain ⟨o0, ho0⟩ : ∃ o, evE env y = o := ⟨_, rfl⟩
  obtain ⟨o1, ho1⟩ : ∃ o, evE env y' = o := ⟨_, rfl⟩
  obtain ⟨op, hop⟩ : ∃ p, numB (fun a b : Int => a - b) o0 o1 = p := ⟨_, rfl⟩
  have HOP := Lib.hid hop
  rw [hnr, ho0, ho1] at HBO
  rw [hnr, ho0, ho1, hop]
  have HH0 := Lib.hid (((Held.nil w).push 28 #[.int .i64 k, .int .i64 k1, .int .i64 n1, .string s1, .slice A1 na1 ca1, .slice B1 nb1 cb1, .string ⟨s.toArray⟩, .slice A nr ca] (g := w.heap.size) rfl).push 25 #[.int .i64 0, .int .i64 0, .string ⟨#[]⟩, .slice none 0 0, .slice none 0 0] (g := w.heap.size + 1) (by simp))
  clear hk hk' hx hF hnr ho0 ho1 hop
  obtain ⟨c0, f0, l0⟩ := HH0.out.b1.rules
  go_enter Tryz.func126, Tryz.ntmps126
  go_wp2_with fail
  refine (HBO.out _ HH0.out.1).mono ?_
  rintro e w1 ⟨cA, cB, va, vb, bs, rfl, hva, hvb, hca, hcb, hy, hn, hb1⟩
  obtain ⟨ka, na, sa, kda, kya⟩ := va
  obtain ⟨kb, nb, sb, kdb, kyb⟩ := vb
  obtain ⟨VA, VB, vca, vcb, vcss, rfl, _⟩ := hva.out
  obtain ⟨UA, UB, uca, ucb, ucss, rfl, _⟩ := hvb.out
  have HIA := Lib.hid hca.out.2.1
  have HIB := Lib.hid hcb.out.2.1
  have HH1 := Lib.hid (((HH0.out.keep hb1).push 25 #[.int .i64 ka, .int .i64 na, .string ⟨sa.toArray⟩, .slice VA kda.length vca, .slice VB kya.length vcb] (g := w1.heap.size) rfl).push 25 #[.int .i64 kb, .int .i64 nb, .string ⟨sb.toArray⟩, .slice UA kdb.length uca, .slice UB kyb.length ucb] (g := w1.heap.size + 1) (by simp))
  have HY := Lib.hid hy
  have HN := Lib.hid hn
  clear hva hvb hca hcb hy hn hb1 c0 f0 l0 HBO HH0
  obtain ⟨c1, f1, l1⟩ := HH1.out.b1.rules
  obtain ⟨c0, f0, l0⟩ := HH1.out.b0.rules
  cases bs
  · go_wp2_with fail
    refine (mNone _).mono ?_
    rintro e wn ⟨rfl, hbn⟩
    have HHN := Lib.hid (HH1.out.keep hbn)
    clear hbn
    obtain ⟨c9, f9, l9⟩ := HHN.out.b2.rules
    go_wp2
    refine bodyPost_ret (v := .tuple #[.agg #[.int .i64 0, .int .i64 0, .string ⟨#[]⟩, .slice none 0 0, .slice none 0 0], .bool false]) (by simp only [results, Tryz.results126]; go_simp) rfl ?_
    exact ExP.none_ (w1 := w) (by rw [← HOP.out]; exact numB_no (HN.out (by trivial))) (five_bel HHN.out.1 (by omega) _ _ _ _ _)
  · have HQ := Lib.hid (show op = (if ka = 3 ∧ kb = 3 then numR (na - nb) else none) by
      obtain ⟨h1, h2, _, _⟩ := HY.out rfl
      rw [← HOP.out, h1, h2]; rfl)
    by_cases ha3 : ka = 3
    · subst ha3
      by_cases hb3 : kb = 3
      · subst hb3
        have HQ2 := Lib.hid (show op = numR (na - nb) by rw [HQ.out, if_pos ⟨rfl, rfl⟩])
        go_wp2_with fail
        refine (mSubF na nb HIA.out HIB.out _).mono ?_
        rintro e w2 ⟨m, t, rfl, rfl, him, hnm⟩
        have HIM := Lib.hid him
        have HNM := Lib.hid hnm
        clear him hnm
        cases t
        · go_wp2_with fail
          refine (mNone _).mono ?_
          rintro e wn ⟨rfl, hbn⟩
          have HHN := Lib.hid (HH1.out.keep hbn)
          clear hbn
          obtain ⟨c9, f9, l9⟩ := HHN.out.b2.rules
          go_wp2
          refine bodyPost_ret (v := .tuple #[.agg #[.int .i64 0, .int .i64 0, .string ⟨#[]⟩, .slice none 0 0, .slice none 0 0], .bool false]) (by simp only [results, Tryz.results126]; go_simp) rfl ?_
          exact ExP.none_ (w1 := w) (by rw [HQ2.out, HNM.out]; rfl) (five_bel HHN.out.1 (by omega) _ _ _ _ _)
        · clear c0 f0 l0 c1 f1 l1
          go_wp2_with fail
          refine (vIntV m _).mono ?_
          rintro e w3 ⟨rfl, hb3⟩
          have HH3 := Lib.hid (HH1.out.keep hb3)
          clear hb3
          obtain ⟨c9, f9, l9⟩ := HH3.out.b2.rules
          go_wp2
          refine bodyPost_ret (v := .tuple #[.agg #[.int .i64 3, .int .i64 m, .string ⟨#[]⟩, .slice none 0 0, .slice none 0 0], .bool true]) (by simp only [results, Tryz.results126]; go_simp) rfl ?_
          exact ExP.num_ HIM.out (by rw [HQ2.out, HNM.out]; rfl) (five_bel HH3.out.1 (by omega) _ _ _ _ _)
      · have eb3 : (kb == 3) = false := by simp [hb3]
        have Hb3 := Lib.hid hb3
        clear hb3
        go_wp2_with fail
        refine (mNone _).mono ?_
        rintro e wn ⟨rfl, hbn⟩
        have HHN := Lib.hid (HH1.out.keep hbn)
        clear hbn
        obtain ⟨c9, f9, l9⟩ := HHN.out.b2.rules
        go_wp2
        refine bodyPost_ret (v := .tuple #[.agg #[.int .i64 0, .int .i64 0, .string ⟨#[]⟩, .slice none 0 0, .slice none 0 0], .bool false]) (by simp only [results, Tryz.results126]; go_simp) rfl ?_
        exact ExP.none_ (w1 := w) (by rw [HQ.out, if_neg (fun h => Hb3.out h.2)]) (five_bel HHN.out.1 (by omega) _ _ _ _ _)
    · have ea3 : (ka == 3) = false := by simp [ha3]
      have Ha3 := Lib.hid ha3
      clear ha3
      go_wp2_with fail
      refine (mNone _).mono ?_
      rintro e wn ⟨rfl, hbn⟩
      have HHN := Lib.hid (HH1.out.keep hbn)
      clear hbn
      obtain ⟨c9, f9, l9⟩ := HHN.out.b2.rules
      go_wp2
      refine bodyPost_ret (v := .tuple #[.agg #[.int .i64 0, .int .i64 0, .string ⟨#[]⟩, .slice none 0 0, .slice none 0 0], .bool false]) (by simp only [results, Tryz.results126]; go_simp) rfl ?_
      exact ExP.none_ (w1 := w) (by rw [HQ.out, if_neg (fun h => Ha3.out h.1)]) (five_bel HHN.out.1 (by omega) _ _ _ _ _)
set_option maxRecDepth 100000 in
set_option maxHeartbeats 4000000 in
theorem mSub {pv : Value} {F : Nat → Prop} {env : List (List UInt8 × JV)} {w : World} {k : Int} {v : JV} {s : List UInt8} {y y' : EJ} {r : List EJ} {cs : List Value} (hk : KidC pv F env w y) (hk' : KidC pv F env w y') (hF : ∀ b, F b → b < w.heap.size) (hx : ER w F cs (.mk k v s (y :: y' :: r))) :
    Calls Tryz.prog 80 #[pv, .agg cs.toArray] w (ExP (numB (fun a b : Int => a - b) (evE env y) (evE env y')) F w) := by
  have HE := Lib.hid (fun (W : World) (h : Below w.heap.size w W) => mNumbersSub (hk.mono h) (hk'.mono h) (fun b hb => Nat.lt_of_lt_of_le (hF b hb) h.size) (hx.bel h))
  obtain ⟨o, ho⟩ : ∃ o, numB (fun a b : Int => a - b) (evE env y) (evE env y') = o := ⟨_, rfl⟩
  rw [ho] at HE ⊢
  obtain ⟨k1, n1, s1, A1, na1, ca1, B1, nb1, cb1, A, ca, css, rfl, _⟩ := hx.out
  obtain ⟨nr, hnr⟩ : ∃ q, (y :: y' :: r).length = q := ⟨_, rfl⟩
  rw [hnr] at HE ⊢
  have HH0 := Lib.hid (((Held.nil w).push 28 #[.int .i64 k, .int .i64 k1, .int .i64 n1, .string s1, .slice A1 na1 ca1, .slice B1 nb1 cb1, .string ⟨s.toArray⟩, .slice A nr ca] (g := w.heap.size) rfl).push 25 #[.int .i64 0, .int .i64 0, .string ⟨#[]⟩, .slice none 0 0, .slice none 0 0] (g := w.heap.size + 1) (by simp))
  have HFF := Lib.hid hF
  clear hk hk' hx ho hnr hF
  obtain ⟨c0, f0, l0⟩ := HH0.out.b1.rules
  go_enter Tryz.func80, Tryz.ntmps80
  go_wp2_with fail
  refine (HE.out _ HH0.out.1).mono ?_
  rintro e w1 ⟨cs1, v1, b1, rfl, hv1, hc1, ho1, hg1, hb1⟩
  have HR := Lib.hid hv1
  obtain ⟨k5, n5, s5, A5, na5, ca5, B5, nb5, cb5, rfl⟩ := hv1.form
  have HH1 := Lib.hid (HH0.out.keep hb1)
  have HQ := Lib.hid (And.intro hc1 (And.intro ho1 hg1))
  clear hb1 c0 f0 l0 hv1 hc1 ho1 hg1 HE
  obtain ⟨c1, f1, l1⟩ := HH1.out.b0.rules
  go_wp2
  refine bodyPost_ret (v := .tuple #[.agg #[.int .i64 k5, .int .i64 n5, .string s5, .slice A5 na5 ca5, .slice B5 nb5 cb5], .bool b1]) (by simp only [results, Tryz.results80]; go_simp) rfl ?_
  exact ⟨_, v1, b1, rfl, HR.out.out5 HFF.out (by simp; omega) (by omega) (by simp) _ _ _ _ _, HQ.out.1, HQ.out.2.1, HQ.out.2.2, five_bel HH1.out.1 (by omega) _ _ _ _ _⟩
set_option maxRecDepth 100000 in
set_option maxHeartbeats 4000000 in
theorem mNumbersMul {pv : Value} {F : Nat → Prop} {env : List (List UInt8 × JV)} {w : World} {k : Int} {v : JV} {s : List UInt8} {y y' : EJ} {r : List EJ} {cs : List Value} (hk : KidC pv F env w y) (hk' : KidC pv F env w y') (hF : ∀ b, F b → b < w.heap.size) (hx : ER w F cs (.mk k v s (y :: y' :: r))) :
    Calls Tryz.prog 126 #[pv, .agg cs.toArray, .func (.func 127) #[] #[]] w (ExP (numB (fun a b : Int => a * b) (evE env y) (evE env y')) F w) := by
  obtain ⟨k1, n1, s1, A1, na1, ca1, B1, nb1, cb1, A, ca, css, rfl, _⟩ := hx.out
  have HBO := Lib.hid (fun (W : World) (h : Below w.heap.size w W) => mBoth (hk.mono h) (hk'.mono h) (fun b hb => Nat.lt_of_lt_of_le (hF b hb) h.size) (hx.bel h))
  obtain ⟨nr, hnr⟩ : ∃ q, (y :: y' :: r).length = q := ⟨_, rfl⟩
  obtain ⟨o0, ho0⟩ : ∃ o, evE env y = o := ⟨_, rfl⟩
  obtain ⟨o1, ho1⟩ : ∃ o, evE env y' = o := ⟨_, rfl⟩
  obtain ⟨op, hop⟩ : ∃ p, numB (fun a b : Int => a * b) o0 o1 = p := ⟨_, rfl⟩
  have HOP := Lib.hid hop
  rw [hnr, ho0, ho1] at HBO
  rw [hnr, ho0, ho1, hop]
  have HH0 := Lib.hid (((Held.nil w).push 28 #[.int .i64 k, .int .i64 k1, .int .i64 n1, .string s1, .slice A1 na1 ca1, .slice B1 nb1 cb1, .string ⟨s.toArray⟩, .slice A nr ca] (g := w.heap.size) rfl).push 25 #[.int .i64 0, .int .i64 0, .string ⟨#[]⟩, .slice none 0 0, .slice none 0 0] (g := w.heap.size + 1) (by simp))
  clear hk hk' hx hF hnr ho0 ho1 hop
  obtain ⟨c0, f0, l0⟩ := HH0.out.b1.rules
  go_enter Tryz.func126, Tryz.ntmps126
  go_wp2_with fail
  refine (HBO.out _ HH0.out.1).mono ?_
  rintro e w1 ⟨cA, cB, va, vb, bs, rfl, hva, hvb, hca, hcb, hy, hn, hb1⟩
  obtain ⟨ka, na, sa, kda, kya⟩ := va
  obtain ⟨kb, nb, sb, kdb, kyb⟩ := vb
  obtain ⟨VA, VB, vca, vcb, vcss, rfl, _⟩ := hva.out
  obtain ⟨UA, UB, uca, ucb, ucss, rfl, _⟩ := hvb.out
  have HIA := Lib.hid hca.out.2.1
  have HIB := Lib.hid hcb.out.2.1
  have HH1 := Lib.hid (((HH0.out.keep hb1).push 25 #[.int .i64 ka, .int .i64 na, .string ⟨sa.toArray⟩, .slice VA kda.length vca, .slice VB kya.length vcb] (g := w1.heap.size) rfl).push 25 #[.int .i64 kb, .int .i64 nb, .string ⟨sb.toArray⟩, .slice UA kdb.length uca, .slice UB kyb.length ucb] (g := w1.heap.size + 1) (by simp))
  have HY := Lib.hid hy
  have HN := Lib.hid hn
  clear hva hvb hca hcb hy hn hb1 c0 f0 l0 HBO HH0
  obtain ⟨c1, f1, l1⟩ := HH1.out.b1.rules
  obtain ⟨c0, f0, l0⟩ := HH1.out.b0.rules
  cases bs
  · go_wp2_with fail
    refine (mNone _).mono ?_
    rintro e wn ⟨rfl, hbn⟩
    have HHN := Lib.hid (HH1.out.keep hbn)
    clear hbn
    obtain ⟨c9, f9, l9⟩ := HHN.out.b2.rules
    go_wp2
    refine bodyPost_ret (v := .tuple #[.agg #[.int .i64 0, .int .i64 0, .string ⟨#[]⟩, .slice none 0 0, .slice none 0 0], .bool false]) (by simp only [results, Tryz.results126]; go_simp) rfl ?_
    exact ExP.none_ (w1 := w) (by rw [← HOP.out]; exact numB_no (HN.out (by trivial))) (five_bel HHN.out.1 (by omega) _ _ _ _ _)
  · have HQ := Lib.hid (show op = (if ka = 3 ∧ kb = 3 then numR (na * nb) else none) by
      obtain ⟨h1, h2, _, _⟩ := HY.out rfl
      rw [← HOP.out, h1, h2]; rfl)
    by_cases ha3 : ka = 3
    · subst ha3
      by_cases hb3 : kb = 3
      · subst hb3
        have HQ2 := Lib.hid (show op = numR (na * nb) by rw [HQ.out, if_pos ⟨rfl, rfl⟩])
        go_wp2_with fail
        refine (mMulF na nb HIA.out HIB.out _).mono ?_
        rintro e w2 ⟨m, t, rfl, rfl, him, hnm⟩
        have HIM := Lib.hid him
        have HNM := Lib.hid hnm
        clear him hnm
        cases t
        · go_wp2_with fail
          refine (mNone _).mono ?_
          rintro e wn ⟨rfl, hbn⟩
          have HHN := Lib.hid (HH1.out.keep hbn)
          clear hbn
          obtain ⟨c9, f9, l9⟩ := HHN.out.b2.rules
          go_wp2
          refine bodyPost_ret (v := .tuple #[.agg #[.int .i64 0, .int .i64 0, .string ⟨#[]⟩, .slice none 0 0, .slice none 0 0], .bool false]) (by simp only [results, Tryz.results126]; go_simp) rfl ?_
          exact ExP.none_ (w1 := w) (by rw [HQ2.out, HNM.out]; rfl) (five_bel HHN.out.1 (by omega) _ _ _ _ _)
        · clear c0 f0 l0 c1 f1 l1
          go_wp2_with fail
          refine (vIntV m _).mono ?_
          rintro e w3 ⟨rfl, hb3⟩
          have HH3 := Lib.hid (HH1.out.keep hb3)
          clear hb3
          obtain ⟨c9, f9, l9⟩ := HH3.out.b2.rules
          go_wp2
          refine bodyPost_ret (v := .tuple #[.agg #[.int .i64 3, .int .i64 m, .string ⟨#[]⟩, .slice none 0 0, .slice none 0 0], .bool true]) (by simp only [results, Tryz.results126]; go_simp) rfl ?_
          exact ExP.num_ HIM.out (by rw [HQ2.out, HNM.out]; rfl) (five_bel HH3.out.1 (by omega) _ _ _ _ _)
      · have eb3 : (kb == 3) = false := by simp [hb3]
        have Hb3 := Lib.hid hb3
        clear hb3
        go_wp2_with fail
        refine (mNone _).mono ?_
        rintro e wn ⟨rfl, hbn⟩
        have HHN := Lib.hid (HH1.out.keep hbn)
        clear hbn
        obtain ⟨c9, f9, l9⟩ := HHN.out.b2.rules
        go_wp2
        refine bodyPost_ret (v := .tuple #[.agg #[.int .i64 0, .int .i64 0, .string ⟨#[]⟩, .slice none 0 0, .slice none 0 0], .bool false]) (by simp only [results, Tryz.results126]; go_simp) rfl ?_
        exact ExP.none_ (w1 := w) (by rw [HQ.out, if_neg (fun h => Hb3.out h.2)]) (five_bel HHN.out.1 (by omega) _ _ _ _ _)
    · have ea3 : (ka == 3) = false := by simp [ha3]
      have Ha3 := Lib.hid ha3
      clear ha3
      go_wp2_with fail
      refine (mNone _).mono ?_
      rintro e wn ⟨rfl, hbn⟩
      have HHN := Lib.hid (HH1.out.keep hbn)
      clear hbn
      obtain ⟨c9, f9, l9⟩ := HHN.out.b2.rules
      go_wp2
      refine bodyPost_ret (v := .tuple #[.agg #[.int .i64 0, .int .i64 0, .string ⟨#[]⟩, .slice none 0 0, .slice none 0 0], .bool false]) (by simp only [results, Tryz.results126]; go_simp) rfl ?_
      exact ExP.none_ (w1 := w) (by rw [HQ.out, if_neg (fun h => Ha3.out h.1)]) (five_bel HHN.out.1 (by omega) _ _ _ _ _)
set_option maxRecDepth 100000 in
set_option maxHeartbeats 4000000 in
theorem mMul {pv : Value} {F : Nat → Prop} {env : List (List UInt8 × JV)} {w : World} {k : Int} {v : JV} {s : List UInt8} {y y' : EJ} {r : List EJ} {cs : List Value} (hk : KidC pv F env w y) (hk' : KidC pv F env w y') (hF : ∀ b, F b → b < w.heap.size) (hx : ER w F cs (.mk k v s (y :: y' :: r))) :
    Calls Tryz.prog 78 #[pv, .agg cs.toArray] w (ExP (numB (fun a b : Int => a * b) (evE env y) (evE env y')) F w) := by
  have HE := Lib.hid (fun (W : World) (h : Below w.heap.size w W) => mNumbersMul (hk.mono h) (hk'.mono h) (fun b hb => Nat.lt_of_lt_of_le (hF b hb) h.size) (hx.bel h))
  obtain ⟨o, ho⟩ : ∃ o, numB (fun a b : Int => a * b) (evE env y) (evE env y') = o := ⟨_, rfl⟩
  rw [ho] at HE ⊢
  obtain ⟨k1, n1, s1, A1, na1, ca1, B1, nb1, cb1, A, ca, css, rfl, _⟩ := hx.out
  obtain ⟨nr, hnr⟩ : ∃ q, (y :: y' :: r).length = q := ⟨_, rfl⟩
  rw [hnr] at HE ⊢
  have HH0 := Lib.hid (((Held.nil w).push 28 #[.int .i64 k, .int .i64 k1, .int .i64 n1, .string s1, .slice A1 na1 ca1, .slice B1 nb1 cb1, .string ⟨s.toArray⟩, .slice A nr ca] (g := w.heap.size) rfl).push 25 #[.int .i64 0, .int .i64 0, .string ⟨#[]⟩, .slice none 0 0, .slice none 0 0] (g := w.heap.size + 1) (by simp))
  have HFF := Lib.hid hF
  clear hk hk' hx ho hnr hF
  obtain ⟨c0, f0, l0⟩ := HH0.out.b1.rules
  go_enter Tryz.func78, Tryz.ntmps78
  go_wp2_with fail
  refine (HE.out _ HH0.out.1).mono ?_
  rintro e w1 ⟨cs1, v1, b1, rfl, hv1, hc1, ho1, hg1, hb1⟩
  have HR := Lib.hid hv1
  obtain ⟨k5, n5, s5, A5, na5, ca5, B5, nb5, cb5, rfl⟩ := hv1.form
  have HH1 := Lib.hid (HH0.out.keep hb1)
  have HQ := Lib.hid (And.intro hc1 (And.intro ho1 hg1))
  clear hb1 c0 f0 l0 hv1 hc1 ho1 hg1 HE
  obtain ⟨c1, f1, l1⟩ := HH1.out.b0.rules
  go_wp2
  refine bodyPost_ret (v := .tuple #[.agg #[.int .i64 k5, .int .i64 n5, .string s5, .slice A5 na5 ca5, .slice B5 nb5 cb5], .bool b1]) (by simp only [results, Tryz.results78]; go_simp) rfl ?_
  exact ⟨_, v1, b1, rfl, HR.out.out5 HFF.out (by simp; omega) (by omega) (by simp) _ _ _ _ _, HQ.out.1, HQ.out.2.1, HQ.out.2.2, five_bel HH1.out.1 (by omega) _ _ _ _ _⟩
end Go.Proofs.YtgolomgmnanbpaaGreatDoor
namespace Go.Proofs.YtgolomgmnanbpaaGreatDoor
set_option linter.unusedVariables false
set_option linter.unusedSimpArgs false
open Go.RowKit
attribute [local go_sem] run_index_arr run_part_agg run_part_one run_field_agg
def ordB (f : Int → Bool) (o0 o1 : Option JV) : Option JV := match o0, o1 with | some a, some b => some (jBool (f (cmpJ a b))) | _, _ => none
theorem ordB_no {f : Int → Bool} {o0 o1 : Option JV} (h : o0 = none ∨ o1 = none) : ordB f o0 o1 = none := by
  rcases h with rfl | rfl
  · rfl
  · cases o0 <;> rfl
set_option maxRecDepth 100000 in
set_option maxHeartbeats 4000000 in
theorem mOrderSame {pv : Value} {F : Nat → Prop} {env : List (List UInt8 × JV)} {w : World} {k : Int} {v : JV} {s : List UInt8} {y y' : EJ} {r : List EJ} {cs : List Value} (hG : GOE w) (hk : KidC pv F env w y) (hk' : KidC pv F env w y') (hF : ∀ b, F b → b < w.heap.size) (hx : ER w F cs (.mk k v s (y :: y' :: r))) :
    Calls Tryz.prog 130 #[pv, .agg cs.toArray, .func (.func 131) #[] #[]] w (ExP (ordB (fun n : Int => n == 0) (evE env y) (evE env y')) F w) := by
  obtain ⟨k1, n1, s1, A1, na1, ca1, B1, nb1, cb1, A, ca, css, rfl, _⟩ := hx.out
  have HBO := Lib.hid (fun (W : World) (h : Below w.heap.size w W) => mBoth (hk.mono h) (hk'.mono h) (fun b hb => Nat.lt_of_lt_of_le (hF b hb) h.size) (hx.bel h))
  obtain ⟨nr, hnr⟩ : ∃ q, (y :: y' :: r).length = q := ⟨_, rfl⟩
  obtain ⟨o0, ho0⟩ : ∃ o, evE env y = o := ⟨_, rfl⟩
  obtain ⟨o1, ho1⟩ : ∃ o, evE env y' = o := ⟨_, rfl⟩
  obtain ⟨op, hop⟩ : ∃ p, ordB (fun n : Int => n == 0) o0 o1 = p := ⟨_, rfl⟩
  have HOP := Lib.hid hop
  have HG := Lib.hid hG
  rw [hnr, ho0, ho1] at HBO
  rw [hnr, ho0, ho1, hop]
  have HH0 := Lib.hid (((Held.nil w).push 28 #[.int .i64 k, .int .i64 k1, .int .i64 n1, .string s1, .slice A1 na1 ca1, .slice B1 nb1 cb1, .string ⟨s.toArray⟩, .slice A nr ca] (g := w.heap.size) rfl).push 25 #[.int .i64 0, .int .i64 0, .string ⟨#[]⟩, .slice none 0 0, .slice none 0 0] (g := w.heap.size + 1) (by simp))
  clear hk hk' hx hF hnr ho0 ho1 hop hG
  obtain ⟨c0, f0, l0⟩ := HH0.out.b1.rules
  go_enter Tryz.func130, Tryz.ntmps130
  go_wp2_with fail
  refine (HBO.out _ HH0.out.1).mono ?_
  rintro e w1 ⟨cA, cB, va, vb, bs, rfl, hva, hvb, hca, hcb, hy, hn, hb1⟩
  obtain ⟨p, hp⟩ : ∃ p, cmpO va vb = p := ⟨_, rfl⟩
  obtain ⟨p, q⟩ := p
  have HP := Lib.hid hp
  have HCM := Lib.hid (fun (W : World) (h : Below w1.heap.size w1 W) (hg : GOK W) => cComp va vb cA cB _ _ W hg (hva.bel h) (hvb.bel h) hca hcb)
  rw [hp] at HCM
  obtain ⟨ka, na, sa, kda, kya⟩ := va
  obtain ⟨kb, nb, sb, kdb, kyb⟩ := vb
  obtain ⟨VA, VB, vca, vcb, vcss, rfl, _⟩ := hva.out
  obtain ⟨UA, UB, uca, ucb, ucss, rfl, _⟩ := hvb.out
  have HH1 := Lib.hid (((HH0.out.keep hb1).push 25 #[.int .i64 ka, .int .i64 na, .string ⟨sa.toArray⟩, .slice VA kda.length vca, .slice VB kya.length vcb] (g := w1.heap.size) rfl).push 25 #[.int .i64 kb, .int .i64 nb, .string ⟨sb.toArray⟩, .slice UA kdb.length uca, .slice UB kyb.length ucb] (g := w1.heap.size + 1) (by simp))
  have HBZ := Lib.hid (((Below.refl w1.heap.size w1).alloc (Nat.le_refl _) (.cells #[.int .i64 ka, .int .i64 na, .string ⟨sa.toArray⟩, .slice VA kda.length vca, .slice VB kya.length vcb] 25)).alloc (by simp) (.cells #[.int .i64 kb, .int .i64 nb, .string ⟨sb.toArray⟩, .slice UA kdb.length uca, .slice UB kyb.length ucb] 25))
  have HY := Lib.hid hy
  have HN := Lib.hid hn
  clear hva hvb hca hcb hy hn hb1 c0 f0 l0 HBO HH0 hp
  obtain ⟨c1, f1, l1⟩ := HH1.out.b1.rules
  obtain ⟨c0, f0, l0⟩ := HH1.out.b0.rules
  go_wp2_with fail
  refine (HCM.out _ HBZ.out (HG.out.keep HH1.out.1).gok).mono ?_
  rintro e w2 ⟨rfl, hb2⟩
  have HH2 := Lib.hid (HH1.out.keep hb2)
  clear hb2 c0 f0 l0 c1 f1 l1
  cases bs
  · go_wp2_with fail
    refine (mNone _).mono ?_
    rintro e wn ⟨rfl, hbn⟩
    have HHN := Lib.hid (HH2.out.keep hbn)
    clear hbn
    obtain ⟨c9, f9, l9⟩ := HHN.out.b2.rules
    go_wp2
    refine bodyPost_ret (v := .tuple #[.agg #[.int .i64 0, .int .i64 0, .string ⟨#[]⟩, .slice none 0 0, .slice none 0 0], .bool false]) (by simp only [results, Tryz.results130]; go_simp) rfl ?_
    exact ExP.none_ (w1 := w) (by rw [← HOP.out]; exact ordB_no (HN.out (by trivial))) (five_bel HHN.out.1 (by omega) _ _ _ _ _)
  · have hqz : q = 0 ∧ op = some (jBool ((fun n : Int => n == 0) p)) := by
      obtain ⟨h1, h2, h3, h4⟩ := HY.out (by trivial)
      have h5 := HP.out
      unfold cmpO at h5
      rw [if_pos ⟨h3, h4⟩] at h5
      injection h5 with h5 h6
      exact ⟨h6.symm, by rw [← HOP.out, h1, h2, ← h5]; rfl⟩
    obtain ⟨rfl, hoq⟩ := hqz
    have HOQ := Lib.hid hoq
    clear hoq
    obtain ⟨tt, htt⟩ : ∃ t, (fun n : Int => n == 0) p = t := ⟨_, rfl⟩
    have HTT := Lib.hid htt
    have HFN := Lib.hid (fun W => mSameF p W)
    rw [show (p == 0) = tt from htt] at HFN
    obtain ⟨z, hz⟩ : ∃ z : Int, (if tt = true then 1 else 0) = z := ⟨_, rfl⟩
    have HT := Lib.hid (fun W => mTruth tt W)
    unfold TruP at HT
    rw [hz] at HT
    have HZ := Lib.hid hz
    clear hz htt
    go_wp2_with fail
    refine (HFN.out _).mono ?_
    rintro e w3 ⟨rfl, rfl⟩
    go_wp2_with fail
    refine (HT.out _).mono ?_
    rintro e w4 ⟨rfl, hb4⟩
    have HH4 := Lib.hid (HH2.out.keep hb4)
    clear hb4
    obtain ⟨c9, f9, l9⟩ := HH4.out.b2.rules
    go_wp2
    refine bodyPost_ret (v := .tuple #[.agg #[.int .i64 2, .int .i64 z, .string ⟨#[]⟩, .slice none 0 0, .slice none 0 0], .bool true]) (by simp only [results, Tryz.results130]; go_simp) rfl ?_
    exact ExP.bool_ (b := tt) HZ.out.symm (by rw [HOQ.out, HTT.out]) (five_bel HH4.out.1 (by omega) _ _ _ _ _)
set_option maxRecDepth 100000 in
set_option maxHeartbeats 4000000 in
theorem mSame {pv : Value} {F : Nat → Prop} {env : List (List UInt8 × JV)} {w : World} {k : Int} {v : JV} {s : List UInt8} {y y' : EJ} {r : List EJ} {cs : List Value} (hG : GOE w) (hk : KidC pv F env w y) (hk' : KidC pv F env w y') (hF : ∀ b, F b → b < w.heap.size) (hx : ER w F cs (.mk k v s (y :: y' :: r))) :
    Calls Tryz.prog 81 #[pv, .agg cs.toArray] w (ExP (ordB (fun n : Int => n == 0) (evE env y) (evE env y')) F w) := by
  have HE := Lib.hid (fun (W : World) (h : Below w.heap.size w W) => mOrderSame (hG.keep h) (hk.mono h) (hk'.mono h) (fun b hb => Nat.lt_of_lt_of_le (hF b hb) h.size) (hx.bel h))
  obtain ⟨o, ho⟩ : ∃ o, ordB (fun n : Int => n == 0) (evE env y) (evE env y') = o := ⟨_, rfl⟩
  rw [ho] at HE ⊢
  obtain ⟨k1, n1, s1, A1, na1, ca1, B1, nb1, cb1, A, ca, css, rfl, _⟩ := hx.out
  obtain ⟨nr, hnr⟩ : ∃ q, (y :: y' :: r).length = q := ⟨_, rfl⟩
  rw [hnr] at HE ⊢
  have HH0 := Lib.hid (((Held.nil w).push 28 #[.int .i64 k, .int .i64 k1, .int .i64 n1, .string s1, .slice A1 na1 ca1, .slice B1 nb1 cb1, .string ⟨s.toArray⟩, .slice A nr ca] (g := w.heap.size) rfl).push 25 #[.int .i64 0, .int .i64 0, .string ⟨#[]⟩, .slice none 0 0, .slice none 0 0] (g := w.heap.size + 1) (by simp))
  have HFF := Lib.hid hF
  clear hk hk' hx ho hnr hF hG
  obtain ⟨c0, f0, l0⟩ := HH0.out.b1.rules
  go_enter Tryz.func81, Tryz.ntmps81
  go_wp2_with fail
  refine (HE.out _ HH0.out.1).mono ?_
  rintro e w1 ⟨cs1, v1, b1, rfl, hv1, hc1, ho1, hg1, hb1⟩
  have HR := Lib.hid hv1
  obtain ⟨k5, n5, s5, A5, na5, ca5, B5, nb5, cb5, rfl⟩ := hv1.form
  have HH1 := Lib.hid (HH0.out.keep hb1)
  have HQ := Lib.hid (And.intro hc1 (And.intro ho1 hg1))
  clear hb1 c0 f0 l0 hv1 hc1 ho1 hg1 HE
  obtain ⟨c1, f1, l1⟩ := HH1.out.b0.rules
  go_wp2
  refine bodyPost_ret (v := .tuple #[.agg #[.int .i64 k5, .int .i64 n5, .string s5, .slice A5 na5 ca5, .slice B5 nb5 cb5], .bool b1]) (by simp only [results, Tryz.results81]; go_simp) rfl ?_
  exact ⟨_, v1, b1, rfl, HR.out.out5 HFF.out (by simp; omega) (by omega) (by simp) _ _ _ _ _, HQ.out.1, HQ.out.2.1, HQ.out.2.2, five_bel HH1.out.1 (by omega) _ _ _ _ _⟩
set_option maxRecDepth 100000 in
set_option maxHeartbeats 4000000 in
theorem mOrderLess {pv : Value} {F : Nat → Prop} {env : List (List UInt8 × JV)} {w : World} {k : Int} {v : JV} {s : List UInt8} {y y' : EJ} {r : List EJ} {cs : List Value} (hG : GOE w) (hk : KidC pv F env w y) (hk' : KidC pv F env w y') (hF : ∀ b, F b → b < w.heap.size) (hx : ER w F cs (.mk k v s (y :: y' :: r))) :
    Calls Tryz.prog 130 #[pv, .agg cs.toArray, .func (.func 132) #[] #[]] w (ExP (ordB (fun n : Int => decide (n < 0)) (evE env y) (evE env y')) F w) := by
  obtain ⟨k1, n1, s1, A1, na1, ca1, B1, nb1, cb1, A, ca, css, rfl, _⟩ := hx.out
  have HBO := Lib.hid (fun (W : World) (h : Below w.heap.size w W) => mBoth (hk.mono h) (hk'.mono h) (fun b hb => Nat.lt_of_lt_of_le (hF b hb) h.size) (hx.bel h))
  obtain ⟨nr, hnr⟩ : ∃ q, (y :: y' :: r).length = q := ⟨_, rfl⟩
  obtain ⟨o0, ho0⟩ : ∃ o, evE env y = o := ⟨_, rfl⟩
  obtain ⟨o1, ho1⟩ : ∃ o, evE env y' = o := ⟨_, rfl⟩
  obtain ⟨op, hop⟩ : ∃ p, ordB (fun n : Int => decide (n < 0)) o0 o1 = p := ⟨_, rfl⟩
  have HOP := Lib.hid hop
  have HG := Lib.hid hG
  rw [hnr, ho0, ho1] at HBO
  rw [hnr, ho0, ho1, hop]
  have HH0 := Lib.hid (((Held.nil w).push 28 #[.int .i64 k, .int .i64 k1, .int .i64 n1, .string s1, .slice A1 na1 ca1, .slice B1 nb1 cb1, .string ⟨s.toArray⟩, .slice A nr ca] (g := w.heap.size) rfl).push 25 #[.int .i64 0, .int .i64 0, .string ⟨#[]⟩, .slice none 0 0, .slice none 0 0] (g := w.heap.size + 1) (by simp))
  clear hk hk' hx hF hnr ho0 ho1 hop hG
  obtain ⟨c0, f0, l0⟩ := HH0.out.b1.rules
  go_enter Tryz.func130, Tryz.ntmps130
  go_wp2_with fail
  refine (HBO.out _ HH0.out.1).mono ?_
  rintro e w1 ⟨cA, cB, va, vb, bs, rfl, hva, hvb, hca, hcb, hy, hn, hb1⟩
  obtain ⟨p, hp⟩ : ∃ p, cmpO va vb = p := ⟨_, rfl⟩
  obtain ⟨p, q⟩ := p
  have HP := Lib.hid hp
  have HCM := Lib.hid (fun (W : World) (h : Below w1.heap.size w1 W) (hg : GOK W) => cComp va vb cA cB _ _ W hg (hva.bel h) (hvb.bel h) hca hcb)
  rw [hp] at HCM
  obtain ⟨ka, na, sa, kda, kya⟩ := va
  obtain ⟨kb, nb, sb, kdb, kyb⟩ := vb
  obtain ⟨VA, VB, vca, vcb, vcss, rfl, _⟩ := hva.out
  obtain ⟨UA, UB, uca, ucb, ucss, rfl, _⟩ := hvb.out
  have HH1 := Lib.hid (((HH0.out.keep hb1).push 25 #[.int .i64 ka, .int .i64 na, .string ⟨sa.toArray⟩, .slice VA kda.length vca, .slice VB kya.length vcb] (g := w1.heap.size) rfl).push 25 #[.int .i64 kb, .int .i64 nb, .string ⟨sb.toArray⟩, .slice UA kdb.length uca, .slice UB kyb.length ucb] (g := w1.heap.size + 1) (by simp))
  have HBZ := Lib.hid (((Below.refl w1.heap.size w1).alloc (Nat.le_refl _) (.cells #[.int .i64 ka, .int .i64 na, .string ⟨sa.toArray⟩, .slice VA kda.length vca, .slice VB kya.length vcb] 25)).alloc (by simp) (.cells #[.int .i64 kb, .int .i64 nb, .string ⟨sb.toArray⟩, .slice UA kdb.length uca, .slice UB kyb.length ucb] 25))
  have HY := Lib.hid hy
  have HN := Lib.hid hn
  clear hva hvb hca hcb hy hn hb1 c0 f0 l0 HBO HH0 hp
  obtain ⟨c1, f1, l1⟩ := HH1.out.b1.rules
  obtain ⟨c0, f0, l0⟩ := HH1.out.b0.rules
  go_wp2_with fail
  refine (HCM.out _ HBZ.out (HG.out.keep HH1.out.1).gok).mono ?_
  rintro e w2 ⟨rfl, hb2⟩
  have HH2 := Lib.hid (HH1.out.keep hb2)
  clear hb2 c0 f0 l0 c1 f1 l1
  cases bs
  · go_wp2_with fail
    refine (mNone _).mono ?_
    rintro e wn ⟨rfl, hbn⟩
    have HHN := Lib.hid (HH2.out.keep hbn)
    clear hbn
    obtain ⟨c9, f9, l9⟩ := HHN.out.b2.rules
    go_wp2
    refine bodyPost_ret (v := .tuple #[.agg #[.int .i64 0, .int .i64 0, .string ⟨#[]⟩, .slice none 0 0, .slice none 0 0], .bool false]) (by simp only [results, Tryz.results130]; go_simp) rfl ?_
    exact ExP.none_ (w1 := w) (by rw [← HOP.out]; exact ordB_no (HN.out (by trivial))) (five_bel HHN.out.1 (by omega) _ _ _ _ _)
  · have hqz : q = 0 ∧ op = some (jBool ((fun n : Int => decide (n < 0)) p)) := by
      obtain ⟨h1, h2, h3, h4⟩ := HY.out (by trivial)
      have h5 := HP.out
      unfold cmpO at h5
      rw [if_pos ⟨h3, h4⟩] at h5
      injection h5 with h5 h6
      exact ⟨h6.symm, by rw [← HOP.out, h1, h2, ← h5]; rfl⟩
    obtain ⟨rfl, hoq⟩ := hqz
    have HOQ := Lib.hid hoq
    clear hoq
    obtain ⟨tt, htt⟩ : ∃ t, (fun n : Int => decide (n < 0)) p = t := ⟨_, rfl⟩
    have HTT := Lib.hid htt
    have HFN := Lib.hid (fun W => mLessF p W)
    rw [show decide (p < 0) = tt from htt] at HFN
    obtain ⟨z, hz⟩ : ∃ z : Int, (if tt = true then 1 else 0) = z := ⟨_, rfl⟩
    have HT := Lib.hid (fun W => mTruth tt W)
    unfold TruP at HT
    rw [hz] at HT
    have HZ := Lib.hid hz
    clear hz htt
    go_wp2_with fail
    refine (HFN.out _).mono ?_
    rintro e w3 ⟨rfl, rfl⟩
    go_wp2_with fail
    refine (HT.out _).mono ?_
    rintro e w4 ⟨rfl, hb4⟩
    have HH4 := Lib.hid (HH2.out.keep hb4)
    clear hb4
    obtain ⟨c9, f9, l9⟩ := HH4.out.b2.rules
    go_wp2
    refine bodyPost_ret (v := .tuple #[.agg #[.int .i64 2, .int .i64 z, .string ⟨#[]⟩, .slice none 0 0, .slice none 0 0], .bool true]) (by simp only [results, Tryz.results130]; go_simp) rfl ?_
    exact ExP.bool_ (b := tt) HZ.out.symm (by rw [HOQ.out, HTT.out]) (five_bel HH4.out.1 (by omega) _ _ _ _ _)
set_option maxRecDepth 100000 in
set_option maxHeartbeats 4000000 in
theorem mLess {pv : Value} {F : Nat → Prop} {env : List (List UInt8 × JV)} {w : World} {k : Int} {v : JV} {s : List UInt8} {y y' : EJ} {r : List EJ} {cs : List Value} (hG : GOE w) (hk : KidC pv F env w y) (hk' : KidC pv F env w y') (hF : ∀ b, F b → b < w.heap.size) (hx : ER w F cs (.mk k v s (y :: y' :: r))) :
    Calls Tryz.prog 82 #[pv, .agg cs.toArray] w (ExP (ordB (fun n : Int => decide (n < 0)) (evE env y) (evE env y')) F w) := by
  have HE := Lib.hid (fun (W : World) (h : Below w.heap.size w W) => mOrderLess (hG.keep h) (hk.mono h) (hk'.mono h) (fun b hb => Nat.lt_of_lt_of_le (hF b hb) h.size) (hx.bel h))
  obtain ⟨o, ho⟩ : ∃ o, ordB (fun n : Int => decide (n < 0)) (evE env y) (evE env y') = o := ⟨_, rfl⟩
  rw [ho] at HE ⊢
  obtain ⟨k1, n1, s1, A1, na1, ca1, B1, nb1, cb1, A, ca, css, rfl, _⟩ := hx.out
  obtain ⟨nr, hnr⟩ : ∃ q, (y :: y' :: r).length = q := ⟨_, rfl⟩
  rw [hnr] at HE ⊢
  have HH0 := Lib.hid (((Held.nil w).push 28 #[.int .i64 k, .int .i64 k1, .int .i64 n1, .string s1, .slice A1 na1 ca1, .slice B1 nb1 cb1, .string ⟨s.toArray⟩, .slice A nr ca] (g := w.heap.size) rfl).push 25 #[.int .i64 0, .int .i64 0, .string ⟨#[]⟩, .slice none 0 0, .slice none 0 0] (g := w.heap.size + 1) (by simp))
  have HFF := Lib.hid hF
  clear hk hk' hx ho hnr hF hG
  obtain ⟨c0, f0, l0⟩ := HH0.out.b1.rules
  go_enter Tryz.func82, Tryz.ntmps82
  go_wp2_with fail
  refine (HE.out _ HH0.out.1).mono ?_
  rintro e w1 ⟨cs1, v1, b1, rfl, hv1, hc1, ho1, hg1, hb1⟩
  have HR := Lib.hid hv1
  obtain ⟨k5, n5, s5, A5, na5, ca5, B5, nb5, cb5, rfl⟩ := hv1.form
  have HH1 := Lib.hid (HH0.out.keep hb1)
  have HQ := Lib.hid (And.intro hc1 (And.intro ho1 hg1))
  clear hb1 c0 f0 l0 hv1 hc1 ho1 hg1 HE
  obtain ⟨c1, f1, l1⟩ := HH1.out.b0.rules
  go_wp2
  refine bodyPost_ret (v := .tuple #[.agg #[.int .i64 k5, .int .i64 n5, .string s5, .slice A5 na5 ca5, .slice B5 nb5 cb5], .bool b1]) (by simp only [results, Tryz.results82]; go_simp) rfl ?_
  exact ⟨_, v1, b1, rfl, HR.out.out5 HFF.out (by simp; omega) (by omega) (by simp) _ _ _ _ _, HQ.out.1, HQ.out.2.1, HQ.out.2.2, five_bel HH1.out.1 (by omega) _ _ _ _ _⟩
set_option maxRecDepth 100000 in
set_option maxHeartbeats 4000000 in
theorem mOrderMost {pv : Value} {F : Nat → Prop} {env : List (List UInt8 × JV)} {w : World} {k : Int} {v : JV} {s : List UInt8} {y y' : EJ} {r : List EJ} {cs : List Value} (hG : GOE w) (hk : KidC pv F env w y) (hk' : KidC pv F env w y') (hF : ∀ b, F b → b < w.heap.size) (hx : ER w F cs (.mk k v s (y :: y' :: r))) :
    Calls Tryz.prog 130 #[pv, .agg cs.toArray, .func (.func 133) #[] #[]] w (ExP (ordB (fun n : Int => decide (n ≤ 0)) (evE env y) (evE env y')) F w) := by
  obtain ⟨k1, n1, s1, A1, na1, ca1, B1, nb1, cb1, A, ca, css, rfl, _⟩ := hx.out
  have HBO := Lib.hid (fun (W : World) (h : Below w.heap.size w W) => mBoth (hk.mono h) (hk'.mono h) (fun b hb => Nat.lt_of_lt_of_le (hF b hb) h.size) (hx.bel h))
  obtain ⟨nr, hnr⟩ : ∃ q, (y :: y' :: r).length = q := ⟨_, rfl⟩
  obtain ⟨o0, ho0⟩ : ∃ o, evE env y = o := ⟨_, rfl⟩
  obtain ⟨o1, ho1⟩ : ∃ o, evE env y' = o := ⟨_, rfl⟩
  obtain ⟨op, hop⟩ : ∃ p, ordB (fun n : Int => decide (n ≤ 0)) o0 o1 = p := ⟨_, rfl⟩
  have HOP := Lib.hid hop
  have HG := Lib.hid hG
  rw [hnr, ho0, ho1] at HBO
  rw [hnr, ho0, ho1, hop]
  have HH0 := Lib.hid (((Held.nil w).push 28 #[.int .i64 k, .int .i64 k1, .int .i64 n1, .string s1, .slice A1 na1 ca1, .slice B1 nb1 cb1, .string ⟨s.toArray⟩, .slice A nr ca] (g := w.heap.size) rfl).push 25 #[.int .i64 0, .int .i64 0, .string ⟨#[]⟩, .slice none 0 0, .slice none 0 0] (g := w.heap.size + 1) (by simp))
  clear hk hk' hx hF hnr ho0 ho1 hop hG
  obtain ⟨c0, f0, l0⟩ := HH0.out.b1.rules
  go_enter Tryz.func130, Tryz.ntmps130
  go_wp2_with fail
  refine (HBO.out _ HH0.out.1).mono ?_
  rintro e w1 ⟨cA, cB, va, vb, bs, rfl, hva, hvb, hca, hcb, hy, hn, hb1⟩
  obtain ⟨p, hp⟩ : ∃ p, cmpO va vb = p := ⟨_, rfl⟩
  obtain ⟨p, q⟩ := p
  have HP := Lib.hid hp
  have HCM := Lib.hid (fun (W : World) (h : Below w1.heap.size w1 W) (hg : GOK W) => cComp va vb cA cB _ _ W hg (hva.bel h) (hvb.bel h) hca hcb)
  rw [hp] at HCM
  obtain ⟨ka, na, sa, kda, kya⟩ := va
  obtain ⟨kb, nb, sb, kdb, kyb⟩ := vb
  obtain ⟨VA, VB, vca, vcb, vcss, rfl, _⟩ := hva.out
  obtain ⟨UA, UB, uca, ucb, ucss, rfl, _⟩ := hvb.out
  have HH1 := Lib.hid (((HH0.out.keep hb1).push 25 #[.int .i64 ka, .int .i64 na, .string ⟨sa.toArray⟩, .slice VA kda.length vca, .slice VB kya.length vcb] (g := w1.heap.size) rfl).push 25 #[.int .i64 kb, .int .i64 nb, .string ⟨sb.toArray⟩, .slice UA kdb.length uca, .slice UB kyb.length ucb] (g := w1.heap.size + 1) (by simp))
  have HBZ := Lib.hid (((Below.refl w1.heap.size w1).alloc (Nat.le_refl _) (.cells #[.int .i64 ka, .int .i64 na, .string ⟨sa.toArray⟩, .slice VA kda.length vca, .slice VB kya.length vcb] 25)).alloc (by simp) (.cells #[.int .i64 kb, .int .i64 nb, .string ⟨sb.toArray⟩, .slice UA kdb.length uca, .slice UB kyb.length ucb] 25))
  have HY := Lib.hid hy
  have HN := Lib.hid hn
  clear hva hvb hca hcb hy hn hb1 c0 f0 l0 HBO HH0 hp
  obtain ⟨c1, f1, l1⟩ := HH1.out.b1.rules
  obtain ⟨c0, f0, l0⟩ := HH1.out.b0.rules
  go_wp2_with fail
  refine (HCM.out _ HBZ.out (HG.out.keep HH1.out.1).gok).mono ?_
  rintro e w2 ⟨rfl, hb2⟩
  have HH2 := Lib.hid (HH1.out.keep hb2)
  clear hb2 c0 f0 l0 c1 f1 l1
  cases bs
  · go_wp2_with fail
    refine (mNone _).mono ?_
    rintro e wn ⟨rfl, hbn⟩
    have HHN := Lib.hid (HH2.out.keep hbn)
    clear hbn
    obtain ⟨c9, f9, l9⟩ := HHN.out.b2.rules
    go_wp2
    refine bodyPost_ret (v := .tuple #[.agg #[.int .i64 0, .int .i64 0, .string ⟨#[]⟩, .slice none 0 0, .slice none 0 0], .bool false]) (by simp only [results, Tryz.results130]; go_simp) rfl ?_
    exact ExP.none_ (w1 := w) (by rw [← HOP.out]; exact ordB_no (HN.out (by trivial))) (five_bel HHN.out.1 (by omega) _ _ _ _ _)
  · have hqz : q = 0 ∧ op = some (jBool ((fun n : Int => decide (n ≤ 0)) p)) := by
      obtain ⟨h1, h2, h3, h4⟩ := HY.out (by trivial)
      have h5 := HP.out
      unfold cmpO at h5
      rw [if_pos ⟨h3, h4⟩] at h5
      injection h5 with h5 h6
      exact ⟨h6.symm, by rw [← HOP.out, h1, h2, ← h5]; rfl⟩
    obtain ⟨rfl, hoq⟩ := hqz
    have HOQ := Lib.hid hoq
    clear hoq
    obtain ⟨tt, htt⟩ : ∃ t, (fun n : Int => decide (n ≤ 0)) p = t := ⟨_, rfl⟩
    have HTT := Lib.hid htt
    have HFN := Lib.hid (fun W => mMostF p W)
    rw [show decide (p ≤ 0) = tt from htt] at HFN
    obtain ⟨z, hz⟩ : ∃ z : Int, (if tt = true then 1 else 0) = z := ⟨_, rfl⟩
    have HT := Lib.hid (fun W => mTruth tt W)
    unfold TruP at HT
    rw [hz] at HT
    have HZ := Lib.hid hz
    clear hz htt
    go_wp2_with fail
    refine (HFN.out _).mono ?_
    rintro e w3 ⟨rfl, rfl⟩
    go_wp2_with fail
    refine (HT.out _).mono ?_
    rintro e w4 ⟨rfl, hb4⟩
    have HH4 := Lib.hid (HH2.out.keep hb4)
    clear hb4
    obtain ⟨c9, f9, l9⟩ := HH4.out.b2.rules
    go_wp2
    refine bodyPost_ret (v := .tuple #[.agg #[.int .i64 2, .int .i64 z, .string ⟨#[]⟩, .slice none 0 0, .slice none 0 0], .bool true]) (by simp only [results, Tryz.results130]; go_simp) rfl ?_
    exact ExP.bool_ (b := tt) HZ.out.symm (by rw [HOQ.out, HTT.out]) (five_bel HH4.out.1 (by omega) _ _ _ _ _)
set_option maxRecDepth 100000 in
set_option maxHeartbeats 4000000 in
theorem mMost {pv : Value} {F : Nat → Prop} {env : List (List UInt8 × JV)} {w : World} {k : Int} {v : JV} {s : List UInt8} {y y' : EJ} {r : List EJ} {cs : List Value} (hG : GOE w) (hk : KidC pv F env w y) (hk' : KidC pv F env w y') (hF : ∀ b, F b → b < w.heap.size) (hx : ER w F cs (.mk k v s (y :: y' :: r))) :
    Calls Tryz.prog 83 #[pv, .agg cs.toArray] w (ExP (ordB (fun n : Int => decide (n ≤ 0)) (evE env y) (evE env y')) F w) := by
  have HE := Lib.hid (fun (W : World) (h : Below w.heap.size w W) => mOrderMost (hG.keep h) (hk.mono h) (hk'.mono h) (fun b hb => Nat.lt_of_lt_of_le (hF b hb) h.size) (hx.bel h))
  obtain ⟨o, ho⟩ : ∃ o, ordB (fun n : Int => decide (n ≤ 0)) (evE env y) (evE env y') = o := ⟨_, rfl⟩
  rw [ho] at HE ⊢
  obtain ⟨k1, n1, s1, A1, na1, ca1, B1, nb1, cb1, A, ca, css, rfl, _⟩ := hx.out
  obtain ⟨nr, hnr⟩ : ∃ q, (y :: y' :: r).length = q := ⟨_, rfl⟩
  rw [hnr] at HE ⊢
  have HH0 := Lib.hid (((Held.nil w).push 28 #[.int .i64 k, .int .i64 k1, .int .i64 n1, .string s1, .slice A1 na1 ca1, .slice B1 nb1 cb1, .string ⟨s.toArray⟩, .slice A nr ca] (g := w.heap.size) rfl).push 25 #[.int .i64 0, .int .i64 0, .string ⟨#[]⟩, .slice none 0 0, .slice none 0 0] (g := w.heap.size + 1) (by simp))
  have HFF := Lib.hid hF
  clear hk hk' hx ho hnr hF hG
  obtain ⟨c0, f0, l0⟩ := HH0.out.b1.rules
  go_enter Tryz.func83, Tryz.ntmps83
  go_wp2_with fail
  refine (HE.out _ HH0.out.1).mono ?_
  rintro e w1 ⟨cs1, v1, b1, rfl, hv1, hc1, ho1, hg1, hb1⟩
  have HR := Lib.hid hv1
  obtain ⟨k5, n5, s5, A5, na5, ca5, B5, nb5, cb5, rfl⟩ := hv1.form
  have HH1 := Lib.hid (HH0.out.keep hb1)
  have HQ := Lib.hid (And.intro hc1 (And.intro ho1 hg1))
  clear hb1 c0 f0 l0 hv1 hc1 ho1 hg1 HE
  obtain ⟨c1, f1, l1⟩ := HH1.out.b0.rules
  go_wp2
  refine bodyPost_ret (v := .tuple #[.agg #[.int .i64 k5, .int .i64 n5, .string s5, .slice A5 na5 ca5, .slice B5 nb5 cb5], .bool b1]) (by simp only [results, Tryz.results83]; go_simp) rfl ?_
  exact ⟨_, v1, b1, rfl, HR.out.out5 HFF.out (by simp; omega) (by omega) (by simp) _ _ _ _ _, HQ.out.1, HQ.out.2.1, HQ.out.2.2, five_bel HH1.out.1 (by omega) _ _ _ _ _⟩
end Go.Proofs.YtgolomgmnanbpaaGreatDoor
