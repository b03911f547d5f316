import Derived.Test.YtoejdhabpajhlaaGreatDoorCanP
import Derived.Test.YtoejdhabpajhlaaGreatDoorOpenV
import Derived.Test.YtoejdhabpajhlaaGreatDoorTotal5
/- Plain: the canonical text of a value is read as that value. -/
namespace Go.Proofs.YtoejdhabpajhlaaGreatDoor
set_option linter.unusedVariables false
set_option linter.unusedSimpArgs false
open Go.RowKit

theorem ltB_asymm {a b : List UInt8} (h : ltB a b = true) : ltB b a = false := by
  cases hb : ltB b a with
  | false => rfl
  | true => exact absurd (ltB_trans h hb) (ltB_irrefl a)
/-- a key behind all others belongs at the end -/
theorem insPos_end {key : List UInt8} {keys : List (List UInt8)} (h : ∀ t ∈ keys, ltB t key = true) : insPos key keys keys.length = keys.length := by
  cases hk : keys.length with
  | zero => rfl
  | succ n =>
    unfold insPos
    have hlt : n < keys.length := by omega
    rw [if_neg]
    have : keys.getD n [] = keys[n] := by simp [hlt]
    rw [this, ltB_asymm (h _ (List.getElem_mem hlt))]; decide
theorem insAt_last {α : Type} (l : List α) (x : α) {n : Nat} (hn : n = l.length) : insAt l n x = l ++ [x] := by subst hn; unfold insAt; simp
theorem fold_up : ∀ (keys : List (List UInt8)) (kids : List JV) (ks : List (List UInt8)) (xs : List JV), keys.length = kids.length → ks.length = xs.length → UpB (ks ++ keys) →
    (keys.zip kids).foldl (fun v kx => addKid v kx.1 kx.2) (.mk 6 0 [] xs ks) = .mk 6 0 [] (xs ++ kids) (ks ++ keys)
  | [], [], ks, xs, _, _, _ => by simp
  | [], _ :: _, _, _, h, _, _ => by simp at h
  | _ :: _, [], _, _, h, _, _ => by simp at h
  | k :: keys, x :: kids, ks, xs, h, h2, hu => by
    have h3 : ∀ t ∈ ks, ltB t k = true := fun t ht => (List.pairwise_append.1 hu).2.2 t ht k List.mem_cons_self
    rw [List.zip_cons_cons, List.foldl_cons]
    have e : addKid (.mk 6 0 [] xs ks) k x = .mk 6 0 [] (xs ++ [x]) (ks ++ [k]) := by
      unfold addKid
      simp only [if_true]
      rw [← h2, insPos_end h3, insAt_last _ _ rfl, insAt_last _ _ h2]
    simp only
    rw [e, fold_up keys kids (ks ++ [k]) (xs ++ [x]) (by simpa using h) (by simp [h2]) (by simpa using hu)]
    simp
theorem sorted_up {keys : List (List UInt8)} {kids : List JV} (h : keys.length = kids.length) (hu : UpB keys) : sortedJ keys kids = .mk 6 0 [] kids keys := by
  have := fold_up keys kids [] [] h rfl (by simpa using hu)
  unfold sortedJ
  simpa using this

variable {l : List UInt8}
theorem begins_nb {c : UInt8} (h : beginsB c = true) : isBlankB c = false ∧ c ≠ 93 ∧ c ≠ 125 ∧ c ≠ 44 := by
  unfold beginsB at h
  simp only [decide_eq_true_eq] at h
  refine ⟨?_, ?_, ?_, ?_⟩
  · unfold isBlankB; rw [decide_eq_false_iff_not]; omega
  all_goals
    intro e; subst e; revert h; decide
theorem word_back : ∀ {u : List UInt8} {p : Nat} {r : List UInt8}, l.drop p = u ++ r → wordMis l p u = none
  | [], _, _, _ => rfl
  | c :: u, p, r, h => by
    unfold wordMis
    rw [if_pos (dr_get0 h), word_back (dr_one h)]
/-- how a value's text begins -/
theorem natD_head (n : Nat) : ∃ c u, natD n = c :: u ∧ isDig c = true := by
  cases h : natD n with
  | nil => exact absurd h (natD_ne n)
  | cons c u => exact ⟨c, u, rfl, natD_dig n c (by rw [h]; exact List.mem_cons_self)⟩
theorem dig_begins {c : UInt8} (h : isDig c = true) : beginsB c = true ∧ c.toNat ≠ 34 ∧ c.toNat ≠ 110 ∧ c.toNat ≠ 116 ∧ c.toNat ≠ 102 ∧ c.toNat ≠ 91 ∧ c.toNat ≠ 123 := by
  have h1 : 48 ≤ c.toNat ∧ c.toNat ≤ 57 := of_decide_eq_true h
  refine ⟨?_, by omega, by omega, by omega, by omega, by omega, by omega⟩
  unfold beginsB; rw [decide_eq_true_eq]; omega
theorem numT_head (n : Int) : ∃ c u, numT n = c :: u ∧ beginsB c = true ∧ c.toNat ≠ 34 ∧ c.toNat ≠ 110 ∧ c.toNat ≠ 116 ∧ c.toNat ≠ 102 ∧ c.toNat ≠ 91 ∧ c.toNat ≠ 123 := by
  unfold numT
  split
  · exact ⟨45, _, rfl, by decide, by decide, by decide, by decide, by decide, by decide, by decide⟩
  · obtain ⟨c, u, e, h⟩ := natD_head n.natAbs
    exact ⟨c, u, e, dig_begins h⟩
theorem canJ_head {k n : Int} {s : List UInt8} {kids : List JV} {keys : List (List UInt8)} : ∃ c u, canJ (.mk k n s kids keys) = c :: u ∧ beginsB c = true := by
  unfold canJ
  split
  · exact ⟨110, _, rfl, by decide⟩
  split
  · split
    · exact ⟨116, _, rfl, by decide⟩
    · exact ⟨102, _, rfl, by decide⟩
  split
  · obtain ⟨c, u, e, h, _⟩ := numT_head n
    exact ⟨c, u, e, h⟩
  split
  · exact ⟨34, _, rfl, by decide⟩
  split
  · exact ⟨123, _, rfl, by decide⟩
  · exact ⟨91, _, rfl, by decide⟩
theorem canJ_head' (v : JV) : ∃ c u, canJ v = c :: u ∧ beginsB c = true := by cases v; exact canJ_head
theorem begin_at {a m d : Nat} {c : UInt8} {u : List UInt8} (h : l.drop a = c :: u) (hb : beginsB c = true) (hm : m < 256) (ho : ¬ (c.toNat = 91 ∨ c.toNat = 123)) {v : JV} {q : Nat} (ha : atomJ l a c = .inl (v, q)) : beginJ l a m d = .atom v q := by
  have g0 : l[a]? = some c := dr_get0 h
  unfold beginJ
  rw [skipB_stop g0 (begins_nb hb).1, g0]
  simp only
  rw [if_neg (by rw [hb]; decide), if_neg (by omega), if_neg ho, ha]
theorem begin_op {a m d : Nat} {c : UInt8} {u : List UInt8} (h : l.drop a = c :: u) (hc : c = 91 ∨ c = 123) (hm : m < 256) (hd : d < 8) : beginJ l a m d = .opens a (decide (c.toNat = 123)) := by
  have g0 : l[a]? = some c := dr_get0 h
  have hb : beginsB c = true := by rcases hc with rfl | rfl <;> decide
  unfold beginJ
  rw [skipB_stop g0 (begins_nb hb).1, g0]
  simp only
  rw [if_neg (by rw [hb]; decide), if_neg (by omega), if_pos (by rcases hc with rfl | rfl <;> decide), if_neg (by omega)]
theorem skip_at {a : Nat} {c : UInt8} {u : List UInt8} (h : l.drop a = c :: u) (hb : isBlankB c = false) : skipB l a = a ∧ l[skipB l a]? = some c := by
  have g0 := dr_get0 h
  have e := skipB_stop g0 hb
  exact ⟨e, by rw [e]; exact g0⟩
theorem stopN_of {c : UInt8} {u : List UInt8} (h : c = 44 ∨ c = 93 ∨ c = 125) : stopN (c :: u) := fun x hx => by
  have : c = x := by simpa using hx
  subst this
  rcases h with rfl | rfl | rfl <;> decide
theorem canL_one (o f : Bool) (x : JV) (keys : List (List UInt8)) : canL o f [x] keys = (if f then [] else [44]) ++ ((if o then quoT (keys.headD []) ++ [58] else []) ++ canJ x) := by
  unfold canL; simp [canL]
theorem canL_two (o : Bool) (x y : JV) (ys : List JV) (keys : List (List UInt8)) : canL o true (x :: y :: ys) keys = (if o then quoT (keys.headD []) ++ [58] else []) ++ (canJ x ++ 44 :: canL o true (y :: ys) keys.tail) := by
  rw [canL]
  show [] ++ _ = _
  rw [List.nil_append]
  congr 2
set_option maxHeartbeats 4000000 in
mutual
theorem rd_back : ∀ (v : JV) (lv d a m : Nat) (r : List UInt8), goodJ lv v = true → inJ v → lv + d = 8 → m + nodesJ v ≤ 256 → l.drop a = canJ v ++ r → stopN r → RdR l a m d (.ok v (a + (canJ v).length) (m + nodesJ v))
  | .mk k n s kids keys, lv, d, a, m, r, hg, hi, hlv, hm, h, hr => by
    unfold goodJ at hg
    simp only [Bool.and_eq_true, decide_eq_true_eq] at hg
    obtain ⟨hA, h5, hL⟩ := hg
    have hk := goodA_kind hA
    unfold inJ at hi
    unfold nodesJ at hm ⊢
    by_cases hk4 : k < 5
    · obtain ⟨e1, e2⟩ := goodA_leaf hA hk4
      have e1 : kids = [] := List.eq_nil_of_length_eq_zero e1
      subst e1 e2
      have hm1 : m + 1 ≤ 256 := by simpa [nodesL] using hm
      show RdR l a m d (.ok _ _ (m + (1 + 0)))
      obtain rfl | rfl | rfl | rfl : k = 1 ∨ k = 2 ∨ k = 3 ∨ k = 4 := by omega
      · unfold goodA at hA
        simp at hA
        obtain ⟨rfl, rfl⟩ := hA
        have hc : canJ (.mk 1 0 [] [] []) = nullT := by unfold canJ; rfl
        rw [hc] at h ⊢
        refine .atom (begin_at (c := 110) h (by decide) (by omega) (by decide) ?_)
        show wordJ l a nullT _ = _
        unfold wordJ; rw [word_back h]
      · unfold goodA at hA
        simp at hA
        obtain ⟨hn, rfl⟩ := hA
        rcases hn with rfl | rfl
        · have hc : canJ (.mk 2 0 [] [] []) = falseT := by unfold canJ; rfl
          rw [hc] at h ⊢
          refine .atom (begin_at (c := 102) h (by decide) (by omega) (by decide) ?_)
          show wordJ l a falseT _ = _
          unfold wordJ; rw [word_back h]
        · have hc : canJ (.mk 2 1 [] [] []) = trueT := by unfold canJ; rfl
          rw [hc] at h ⊢
          refine .atom (begin_at (c := 116) h (by decide) (by omega) (by decide) ?_)
          show wordJ l a trueT _ = _
          unfold wordJ; rw [word_back h]
      · unfold goodA at hA
        simp at hA
        subst hA
        have hc : canJ (.mk 3 n [] [] []) = numT n := by unfold canJ; rfl
        rw [hc] at h ⊢
        have hnr := num_back (show -9223372036854775808 ≤ n ∧ n ≤ 9223372036854775807 from hi.2.1) h hr
        obtain ⟨c, u, e, b1, b2, b3, b4, b5, b6, b7⟩ := numT_head n
        have h' := h
        rw [e, List.cons_append] at h'
        refine .atom (begin_at h' b1 (by omega) (by omega) ?_)
        unfold atomJ
        rw [if_neg b2, if_neg b3, if_neg b4, if_neg b5]
        unfold numJ
        rw [hnr]
        simp
        omega
      · unfold goodA at hA
        simp at hA
        obtain ⟨rfl, ht⟩ := hA
        have hc : canJ (.mk 4 0 s [] []) = quoT s := by unfold canJ; rfl
        rw [hc] at h ⊢
        have hq := quo_back ht h
        have h' := h
        unfold quoT at h'
        simp only [List.cons_append, List.append_assoc] at h'
        refine .atom (begin_at h' (by decide) (by omega) (by decide) ?_)
        show textJ l a = _
        unfold textJ
        rw [hq]
        simp
        omega
    · have hlv1 : lv ≠ 0 := h5 (by omega)
      obtain rfl | rfl : k = 5 ∨ k = 6 := by omega
      · obtain ⟨rfl, rfl, rfl⟩ := goodA_list hA
        have hc : canJ (.mk 5 0 [] kids []) = 91 :: canL false true kids [] ++ [93] := by unfold canJ; rfl
        rw [hc] at h ⊢
        simp only [List.cons_append, List.append_assoc, List.length_cons, List.length_append, List.length_nil] at h ⊢
        have hbo := begin_op (m := m) (d := d) h (.inl rfl) (by omega) (by omega)
        have h1 := dr_one h
        have ihl := fun hne : kids ≠ [] => ls_back kids hne [] (lv - 1) d (a + 1) (m + 1) r hL hi.2.2 (by omega) (by omega) h1
        cases kids with
        | nil =>
          have h1 : l.drop (a + 1) = 93 :: r := h1
          obtain ⟨s1, s2⟩ := skip_at h1 (by decide)
          have := RdR.list0 (m := m) (d := d) hbo s2
          rw [s1] at this
          exact this
        | cons x xs =>
          obtain ⟨c, u, e, hb⟩ := canJ_head' x
          have hx : l.drop (a + 1) = c :: (u ++ ((canL false false xs []) ++ ([93] ++ r))) := by
            rw [h1]
            show ([] ++ ([] ++ (canJ x ++ canL false false xs []))) ++ ([93] ++ r) = _
            rw [e]; simp
          obtain ⟨s1, s2⟩ := skip_at hx (begins_nb hb).1
          have ih := ihl (by simp)
          refine .list1 hbo (by rw [s2]; intro e; exact (begins_nb hb).2.1 (Option.some.inj e)) ?_
          rw [s1]
          rw [List.nil_append] at ih
          rw [show a + ((canL false true (x :: xs) []).length + (0 + 1) + 1) = a + 1 + (canL false true (x :: xs) []).length + 1 from by omega, show m + (1 + nodesL (x :: xs)) = m + 1 + nodesL (x :: xs) from by omega]
          exact ih
      · obtain ⟨rfl, rfl, hlen, hko⟩ := goodA_obj hA
        have hc : canJ (.mk 6 0 [] kids keys) = 123 :: canL true true kids keys ++ [125] := by unfold canJ; rfl
        rw [hc] at h ⊢
        simp only [List.cons_append, List.append_assoc, List.length_cons, List.length_append, List.length_nil] at h ⊢
        have hbo := begin_op (m := m) (d := d) h (.inr rfl) (by omega) (by omega)
        have h1 := dr_one h
        have ihl := fun hne : kids ≠ [] => ob_back kids keys hne [] [] (lv - 1) d (a + 1) (m + 1) r hL hi.2.2 (by omega) (by omega) hlen (keysOk_iff.1 hko).1 rfl (by simpa using (keysOk_iff.1 hko).2) h1
        cases kids with
        | nil =>
          have hk0 : keys = [] := List.eq_nil_of_length_eq_zero hlen.symm
          subst hk0
          have h1 : l.drop (a + 1) = 125 :: r := h1
          obtain ⟨s1, s2⟩ := skip_at h1 (by decide)
          have := RdR.obj0 (m := m) (d := d) hbo s2
          rw [s1] at this
          exact this
        | cons x xs =>
          cases keys with
          | nil => simp at hlen
          | cons key ks =>
            have hx : l.drop (a + 1) = 34 :: ((cpsOf key).flatMap qSignT ++ [34] ++ ([58] ++ (canJ x ++ canL true false xs ks) ++ ([125] ++ r))) := by
              rw [h1]
              show ([] ++ ((quoT key ++ [58]) ++ (canJ x ++ canL true false xs ks))) ++ ([125] ++ r) = _
              unfold quoT
              simp
            obtain ⟨s1, s2⟩ := skip_at hx (by decide)
            have ih := ihl (by simp)
            refine .obj1 hbo (by rw [s2]; decide) ?_
            rw [s1]
            rw [List.nil_append, List.nil_append] at ih
            rw [show a + ((canL true true (x :: xs) (key :: ks)).length + (0 + 1) + 1) = a + 1 + (canL true true (x :: xs) (key :: ks)).length + 1 from by omega, show m + (1 + nodesL (x :: xs)) = m + 1 + nodesL (x :: xs) from by omega]
            exact ih
  termination_by v => SizeOf.sizeOf v
  decreasing_by all_goals (simp_wf; omega)
theorem ls_back : ∀ (kids : List JV) (_ : kids ≠ []) (pre : List JV) (lv d a m : Nat) (r : List UInt8), goodL lv kids = true → inL kids → lv + (d + 1) = 8 → m + nodesL kids ≤ 256 → l.drop a = canL false true kids [] ++ ([93] ++ r) →
    LsR l a m d pre (.ok (.mk 5 0 [] (pre ++ kids) []) (a + (canL false true kids []).length + 1) (m + nodesL kids))
  | [], hne, _, _, _, _, _, _, _, _, _, _, _ => absurd rfl hne
  | [x], _, pre, lv, d, a, m, r, hg, hi, hlv, hm, h => by
    unfold goodL at hg
    simp only [Bool.and_eq_true] at hg
    unfold inL at hi
    have e : canL false true [x] [] = canJ x := by rw [canL_one]; rfl
    rw [e] at h ⊢
    have hm2 : nodesL [x] = nodesJ x := by simp [nodesL]
    rw [hm2] at hm ⊢
    have ih := rd_back x lv (d + 1) a m ([93] ++ r) hg.1 hi.1 hlv hm h (stopN_of (.inr (.inl rfl)))
    obtain ⟨s1, s2⟩ := skip_at (c := 93) (u := r) (dr_dr h) (by decide)
    have := LsR.close (kids := pre) ih s2
    rw [s1] at this
    exact this
  | x :: y :: ys, _, pre, lv, d, a, m, r, hg, hi, hlv, hm, h => by
    unfold goodL at hg
    simp only [Bool.and_eq_true] at hg
    unfold inL at hi
    rw [canL_two] at h ⊢
    simp only [Bool.false_eq_true, if_false, List.nil_append, List.append_assoc, List.cons_append, List.tail_nil] at h ⊢
    have hm2 : nodesL (x :: y :: ys) = nodesJ x + nodesL (y :: ys) := by conv => lhs; unfold nodesL
    rw [hm2] at hm ⊢
    have ih := rd_back x lv (d + 1) a m _ hg.1 hi.1 hlv (by omega) h (stopN_of (.inl rfl))
    obtain ⟨s1, s2⟩ := skip_at (c := 44) (dr_dr h) (by decide)
    have h2 := dr_one (dr_dr h)
    have ih2 := ls_back (y :: ys) (by simp) (pre ++ [x]) lv d _ (m + nodesJ x) r hg.2 hi.2 hlv (by omega) h2
    have := LsR.comma (kids := pre) ih s2 (by rw [s1]; exact ih2)
    rw [List.append_assoc, List.singleton_append] at this
    rw [List.length_append, List.length_cons, show a + ((canJ x).length + ((canL false true (y :: ys) []).length + 1)) + 1 = a + (canJ x).length + 1 + (canL false true (y :: ys) []).length + 1 from by omega, show m + (nodesJ x + nodesL (y :: ys)) = m + nodesJ x + nodesL (y :: ys) from by omega]
    exact this
  termination_by kids => SizeOf.sizeOf kids
  decreasing_by all_goals (simp_wf; omega)
theorem ob_back : ∀ (kids : List JV) (keys : List (List UInt8)) (_ : kids ≠ []) (pre : List JV) (prek : List (List UInt8)) (lv d a m : Nat) (r : List UInt8), goodL lv kids = true → inL kids → lv + (d + 1) = 8 → m + nodesL kids ≤ 256 →
    kids.length = keys.length → (∀ t ∈ keys, txtOk t = true) → prek.length = pre.length → UpB (prek ++ keys) → l.drop a = canL true true kids keys ++ ([125] ++ r) →
    ObR l a m d prek pre (.ok (.mk 6 0 [] (pre ++ kids) (prek ++ keys)) (a + (canL true true kids keys).length + 1) (m + nodesL kids))
  | [], _, hne, _, _, _, _, _, _, _, _, _, _, _, _, _, _, _, _ => absurd rfl hne
  | _ :: _, [], _, _, _, _, _, _, _, _, _, _, _, _, hl, _, _, _, _ => by simp at hl
  | [x], key :: ks, _, pre, prek, lv, d, a, m, r, hg, hi, hlv, hm, hl, ht, hpl, hu, h => by
    unfold goodL at hg
    simp only [Bool.and_eq_true] at hg
    unfold inL at hi
    have hks : ks = [] := List.eq_nil_of_length_eq_zero (by simpa using hl.symm)
    subst hks
    have e : canL true true [x] [key] = quoT key ++ 58 :: canJ x := by rw [canL_one]; simp
    rw [e] at h ⊢
    simp only [List.append_assoc, List.cons_append] at h
    have hm2 : nodesL [x] = nodesJ x := by simp [nodesL]
    rw [hm2] at hm ⊢
    have hq := quo_back (ht key List.mem_cons_self) h
    obtain ⟨q1, q2⟩ : skipB l a = a ∧ l[skipB l a]? = some 34 := by
      have h' := h
      unfold quoT at h'
      simp only [List.cons_append, List.append_assoc] at h'
      exact skip_at h' (by decide)
    have h2 := dr_dr h
    obtain ⟨c1, c2⟩ := skip_at h2 (by decide)
    have h3 := dr_one h2
    have hni : key ∉ prek := fun hin => ltB_irrefl key ((List.pairwise_append.1 hu).2.2 key hin key List.mem_cons_self)
    have ih := rd_back x lv (d + 1) _ m ([125] ++ r) hg.1 hi.1 hlv hm h3 (stopN_of (.inr (.inr rfl)))
    obtain ⟨s1, s2⟩ := skip_at (c := 125) (u := r) (dr_dr h3) (by decide)
    have := ObR.close (keys := prek) (kids := pre) q2 (by rw [q1]; exact hq) hni c2 (by rw [c1]; exact ih) s2
    rw [s1, sorted_up (by simp [hpl]) hu] at this
    rw [List.length_append, List.length_cons, show a + ((quoT key).length + ((canJ x).length + 1)) + 1 = a + (quoT key).length + 1 + (canJ x).length + 1 from by omega]
    exact this
  | _ :: _ :: _, [_], _, _, _, _, _, _, _, _, _, _, _, _, hl, _, _, _, _ => by simp at hl
  | x :: y :: ys, key :: k2 :: ks, _, pre, prek, lv, d, a, m, r, hg, hi, hlv, hm, hl, ht, hpl, hu, h => by
    unfold goodL at hg
    simp only [Bool.and_eq_true] at hg
    unfold inL at hi
    · skip
      rw [canL_two] at h ⊢
      simp only [if_true, List.headD_cons, List.tail_cons, List.append_assoc, List.cons_append, List.nil_append] at h ⊢
      have hm2 : nodesL (x :: y :: ys) = nodesJ x + nodesL (y :: ys) := by conv => lhs; unfold nodesL
      rw [hm2] at hm ⊢
      have hq := quo_back (ht key List.mem_cons_self) h
      obtain ⟨q1, q2⟩ : skipB l a = a ∧ l[skipB l a]? = some 34 := by
        have h' := h
        unfold quoT at h'
        simp only [List.cons_append, List.append_assoc] at h'
        exact skip_at h' (by decide)
      have h2 := dr_dr h
      obtain ⟨c1, c2⟩ := skip_at h2 (by decide)
      have h3 := dr_one h2
      have hni : key ∉ prek := fun hin => ltB_irrefl key ((List.pairwise_append.1 hu).2.2 key hin key List.mem_cons_self)
      have ih := rd_back x lv (d + 1) _ m _ hg.1 hi.1 hlv (by omega) h3 (stopN_of (.inl rfl))
      obtain ⟨s1, s2⟩ := skip_at (c := 44) (dr_dr h3) (by decide)
      have h4 := dr_one (dr_dr h3)
      have ih2 := ob_back (y :: ys) (k2 :: ks) (by simp) (pre ++ [x]) (prek ++ [key]) lv d _ (m + nodesJ x) r hg.2 hi.2 hlv (by omega) (by simpa using hl) (fun t ht' => ht t (List.mem_cons_of_mem _ ht')) (by simp [hpl]) (by rw [List.append_assoc, List.singleton_append]; exact hu) h4
      have := ObR.comma (keys := prek) (kids := pre) q2 (by rw [q1]; exact hq) hni c2 (by rw [c1]; exact ih) s2 (by rw [s1]; exact ih2)
      rw [List.append_assoc, List.singleton_append, List.append_assoc, List.singleton_append] at this
      rw [List.length_append, List.length_cons, List.length_append, List.length_cons, show a + ((quoT key).length + ((canJ x).length + ((canL true true (y :: ys) (k2 :: ks)).length + 1) + 1)) + 1 = a + (quoT key).length + 1 + (canJ x).length + 1 + (canL true true (y :: ys) (k2 :: ks)).length + 1 from by omega, show m + (nodesJ x + nodesL (y :: ys)) = m + nodesJ x + nodesL (y :: ys) from by omega]
      exact this
  termination_by kids => SizeOf.sizeOf kids
  decreasing_by all_goals (simp_wf; omega)
end
/-- THE PLAIN LAW: the text of a value that may be is read as that value. -/
theorem can_back {v : JV} (hg : good v = true) (hi : inJ v) : RdR (canJ v) 0 0 0 (.ok v (canJ v).length (nodesJ v)) := by
  unfold good at hg
  simp only [Bool.and_eq_true, decide_eq_true_eq] at hg
  have := rd_back (l := canJ v) v 8 0 0 0 [] hg.1 hi rfl (by omega) (by simp) (fun c hc => by cases hc)
  simpa using this
end Go.Proofs.YtoejdhabpajhlaaGreatDoor

/- Plain: no text of a value is shorter than its canonical text; and that one has no blank sign outside of its texts. -/
namespace Go.Proofs.YtoejdhabpajhlaaGreatDoor
set_option linter.unusedVariables false
set_option linter.unusedSimpArgs false
open Go.RowKit

variable {l : List UInt8}
theorem cpLen_isCp {p : Nat} (h : cpLen p ≠ 0) : isCp (p : Int) = true := by
  rw [isCp_iff]
  have := (cpLen_iff p (cpLen p)).1 rfl
  omega
theorem qSignT_le (c : Nat) : (qSignT c).length ≤ 6 := by
  unfold qSignT
  split
  · simp
  · split
    · simp
    · have := cpBytes_le4 c; omega
theorem letter_least : ∀ {c x : Nat}, letterS c = some x → (qSignT x).length ≤ 2 := by
  intro c x h
  unfold letterS at h
  repeat' split at h
  all_goals first
    | (simp only [Option.some.injEq] at h; subst h; decide)
    | cases h
theorem plain_sign {c : Nat} (h : 32 ≤ c) (h1 : c ≠ 34) (h2 : c ≠ 92) : qSignT c = cpBytes c := by
  unfold qSignT
  have : escOf c = none := by unfold escOf; repeat' split
                              all_goals first | omega | rfl
  rw [this]
  simp only
  rw [if_neg (by omega)]
theorem sign_least {a c n : Nat} (h : qsS l a = ((c : Int), (n : Int), 0)) (ha : a < l.length) : (qSignT c).length + a ≤ n := by
  have h6 := qSignT_le c
  unfold qsS at h
  rw [List.getElem?_eq_getElem ha] at h
  simp only at h
  split at h
  · unfold escS at h
    cases hu : unitO l a with
    | some u =>
      rw [hu] at h
      simp only at h
      split at h
      · simp only [Prod.mk.injEq] at h; omega
      · split at h
        · cases hv : unitO l (a + 6) with
          | none => rw [hv] at h; simp at h
          | some v =>
            rw [hv] at h
            simp only at h
            split at h
            · simp only [Prod.mk.injEq] at h; omega
            · simp at h
        · simp at h
    | none =>
      rw [hu] at h
      simp only at h
      cases hc : l[a + 1]? with
      | none => rw [hc] at h; simp at h
      | some d =>
        rw [hc] at h
        simp only at h
        cases hx : letterS d.toNat with
        | none => rw [hx] at h; simp at h
        | some x =>
          rw [hx] at h
          simp only [Prod.mk.injEq] at h
          have h2 := letter_least hx
          have : c = x := by omega
          subst this
          omega
  · rename_i h92
    split at h
    · simp at h
    · rename_i h32
      unfold nextR at h
      rw [if_neg (by omega), if_neg (by omega), Int.toNat_natCast] at h
      split at h
      · simp at h
      · rename_i h0
        simp only [Prod.mk.injEq] at h
        obtain ⟨w1, w2⟩ := cpBegin_what h0
        have hlen := cpBegin_len (l.drop a)
        have hc : (cpBegin (l.drop a)).1 = c := by omega
        rw [hc] at w1 w2
        have hl2 := congrArg List.length w2
        rw [List.length_take] at hl2
        have hb : 32 ≤ c ∧ c ≠ 34 ∧ c ≠ 92 := by
          by_cases hc1 : c < 128
          · have e1 : cpBytes c = [UInt8.ofNat c] := by unfold cpBytes; rw [if_pos hc1]
            rw [e1] at w2
            have e2 := congrArg (fun u => (u.headD 0).toNat) w2
            simp only [List.headD_cons] at e2
            rw [oN8 c (by omega)] at e2
            have e3 : ((l.drop a).take (cpBegin (l.drop a)).2).headD 0 = l[a] := by
              rw [List.drop_eq_getElem_cons ha]
              cases hk : (cpBegin (l[a] :: l.drop (a + 1))).2 with
              | zero => rw [List.drop_eq_getElem_cons ha] at h0; exact absurd hk h0
              | succ k => rfl
            rw [e3] at e2
            omega
          · omega
        rw [plain_sign hb.1 hb.2.1 hb.2.2]
        omega
theorem signs_least : ∀ (k a : Nat), l.length - a ≤ k → a ≤ l.length → ∃ cs : List Nat, (∀ c ∈ cs, isCp (c : Int) = true) ∧ qBytes (signsL l a) = cs.flatMap cpBytes ∧ (cs.flatMap qSignT).length + a ≤ qEnd a (signsL l a)
  | k, a, hk, ha => by
    by_cases hc : a < l.length ∧ (qsS l a).2.2 = 0
    · obtain ⟨p, m, h1, h2, h3, h4, h5⟩ := qs_ok (c := (qsS l a).1) (n := (qsS l a).2.1) (by rw [← hc.2]) hc.1
      have hq : qsS l a = ((p : Int), (m : Int), 0) := by rw [← h1, ← h2, ← hc.2]
      cases k with
      | zero => omega
      | succ k =>
        obtain ⟨cs, i1, i2, i3⟩ := signs_least k m (by omega) h4
        have hs := sign_least hq hc.1
        refine ⟨p :: cs, fun c hc => ?_, ?_, ?_⟩
        · rcases List.mem_cons.1 hc with rfl | hc
          · exact cpLen_isCp h5
          · exact i1 c hc
        · rw [signsL_cons hq hc.1]
          unfold qBytes at i2 ⊢
          rw [List.flatMap_cons, i2, List.flatMap_cons]
          simp
        · rw [signsL_cons hq hc.1, qEnd_cons, List.flatMap_cons, List.length_append]
          simp only [Int.toNat_natCast]
          omega
    · rw [signsL_nil (fun h1 h2 => hc ⟨h1, h2⟩)]
      exact ⟨[], by simp, rfl, by simp [qEnd]⟩
theorem text_least {p q : Nat} {s : List UInt8} (hp : p < l.length) (h : qRead l (p : Int) = (s, (q : Int), 0)) : (quoT s).length + p ≤ q ∧ txtOk s = true := by
  obtain ⟨cs, h1, h2, h3⟩ := signs_least (l := l) _ (p + 1) (Nat.le_refl _) (by omega)
  rw [qRead_in hp] at h
  split at h
  · simp at h
  · split at h
    · simp only [Prod.mk.injEq] at h
      obtain ⟨rfl, hq, _⟩ := h
      rw [h2]
      refine ⟨?_, txtOk_cps h1⟩
      unfold quoT
      rw [cpsOf_cps h1]
      simp only [List.length_cons, List.length_append, List.cons_append, List.length_nil]
      omega
    · rename_i hne
      simp only [Prod.mk.injEq] at h
      obtain ⟨_, hq, he⟩ := h
      exfalso
      have hin := qEnd_in (l := l) (a := p + 1) (by omega)
      have hst := signs_stop (l := l) (a := p + 1) (by omega)
      generalize qEnd (p + 1) (signsL l (p + 1)) = E at *
      unfold qSign at he
      rw [if_neg (by omega)] at he
      split at he
      · simp at he
      · rename_i hE
        rw [Int.toNat_natCast] at he
        have hlt : E < l.length := by omega
        obtain ⟨p', m', e1, e2, e3, e4, e5⟩ := qs_ok (c := (qsS l E).1) (n := (qsS l E).2.1) (by rw [← he]) hlt
        have := signsL_cons (p := p') (m := m') (by rw [← e1, ← e2, ← he]) hlt
        rw [hst] at this
        cases this
-- numerals
theorem snoc_ind {P : List UInt8 → Prop} (h0 : P []) (h1 : ∀ ds c, P ds → P (ds ++ [c])) (ds : List UInt8) : P ds := by
  have : ∀ n (ds : List UInt8), ds.length = n → P ds := by
    intro n
    induction n with
    | zero => intro ds h; rw [List.eq_nil_of_length_eq_zero h]; exact h0
    | succ n ih =>
      intro ds h
      have hne : ds ≠ [] := by intro e; rw [e] at h; simp at h
      rw [← List.dropLast_concat_getLast hne]
      exact h1 _ _ (ih _ (by rw [List.length_dropLast]; omega))
  exact this _ ds rfl
theorem natD_least (ds : List UInt8) : (∀ c ∈ ds, isDig c = true) → ds ≠ [] → (natD (digNum ds)).length ≤ ds.length := by
  refine snoc_ind (P := fun ds => (∀ c ∈ ds, isDig c = true) → ds ≠ [] → (natD (digNum ds)).length ≤ ds.length) (fun _ h => absurd rfl h) (fun ds c ih hd _ => ?_) ds
  have hc : 48 ≤ c.toNat ∧ c.toNat ≤ 57 := of_decide_eq_true (hd c (by simp))
  have hv : dval c ≤ 9 := by unfold dval; omega
  rw [dNum_snoc]
  by_cases hds : ds = []
  · subst hds
    rw [show 10 * digNum [] + dval c = dval c from by simp [digNum], natD_small (by omega)]
    simp
  · have ih := ih (fun x hx => hd x (by simp [hx])) hds
    by_cases h10 : 10 * digNum ds + dval c < 10
    · rw [natD_small h10]; simp
    · rw [natD_step (by omega), show (10 * digNum ds + dval c) / 10 = digNum ds from by omega]
      simp only [List.length_append, List.length_cons, List.length_nil]
      omega
theorem numEnd_ok {st : NSt} {a : Int} {n q : Int} (h : numEnd st a = (n, q, 0)) : st.over = false ∧ q = st.pos ∧ n = (if st.minus then -(st.size : Int) else st.size) ∧ st.size ≤ numBig st.minus := by
  unfold numEnd at h
  split at h
  · simp at h
  · rename_i hc
    simp only [Prod.mk.injEq] at h
    simp only [Bool.or_eq_true, decide_eq_true_eq, not_or, Bool.not_eq_true] at hc
    exact ⟨hc.1.2, h.2.1.symm, h.1.symm, by omega⟩
theorem natD_zero : (natD 0).length = 1 := by rw [natD_small (by decide)]; rfl
theorem num_least {p q : Nat} {n : Int} (hp : p ≤ l.length) (h : numRead l (p : Int) = (n, (q : Int), 0)) : (numT n).length + p ≤ q ∧ iw n := by
  obtain ⟨s2, h1, h2, h3, h4⟩ := num_form (l := l) (a := p) (by rw [h])
  rw [h] at h4
  obtain ⟨e1, e2, e3, e4⟩ := numEnd_ok h4.symm
  have hsg : (sgn l p).over = false ∧ (sgn l p).size = 0 ∧ (sgn l p).pos = (if seesB l p [45] then p + 1 else p) ∧ (sgn l p).minus = seesB l p [45] := by
    unfold sgn takeS numStart
    simp only
    cases seesB l p [45] <;> simp
  have hsz : (natD s2.size).length + (sgn l p).pos ≤ s2.pos ∧ s2.minus = (sgn l p).minus := by
    rcases whole_pos h1 with ⟨w1, w2⟩ | ⟨w1, w2, w3, w4⟩
    · subst w2
      refine ⟨?_, rfl⟩
      show (natD (sgn l p).size).length + _ ≤ (sgn l p).pos + 1
      rw [hsg.2.1, natD_zero]; omega
    · have hk := grow_spec (digs l (sgn l p).pos) [] (sgn l p) (digs_all _ _) (.inr ⟨hsg.1, by rw [hsg.2.1]; rfl, by decide⟩)
      rw [List.nil_append] at hk
      have hle := natD_least _ (digs_all l (sgn l p).pos) w2
      rw [w4]
      have hov : (growAll (digs l (sgn l p).pos) (sgn l p)).over = false := by rw [w3] at e1; exact e1
      refine ⟨?_, by rw [w3]; exact (growAll_part _ _).2⟩
      have : s2.size = digNum (digs l (sgn l p).pos) := by
        rw [w3]
        rcases hk with ⟨hk, _⟩ | ⟨_, hk, _⟩
        · rw [hov] at hk; cases hk
        · exact hk
      rw [this]; omega
  have hq : q = s2.pos := by omega
  rw [hq, e3, hsz.2, hsg.2.2.2]
  rw [hsg.2.2.1] at hsz
  rw [hsz.2, hsg.2.2.2] at e4
  unfold numT iw
  cases hm : seesB l p [45] with
  | true =>
    rw [hm] at hsz e4
    simp only [if_true] at hsz ⊢
    have e4 : s2.size ≤ 9223372036854775808 := e4
    refine ⟨?_, by omega⟩
    split
    · rw [List.length_cons, show (-(s2.size : Int)).natAbs = s2.size from by omega]; omega
    · rw [show (-(s2.size : Int)).natAbs = s2.size from by omega]; omega
  | false =>
    rw [hm] at hsz e4
    simp only [Bool.false_eq_true, if_false] at hsz ⊢
    have e4 : s2.size ≤ 9223372036854775807 := e4
    refine ⟨?_, by omega⟩
    rw [if_neg (by omega), Int.natAbs_natCast]; omega
-- lists and objects
def zlen (keys : List (List UInt8)) (kids : List JV) : Nat := ((keys.zip kids).map fun p => (quoT p.1).length + (canJ p.2).length + 2).sum
def llen (kids : List JV) : Nat := (kids.map fun x => (canJ x).length + 1).sum
theorem canL_list : ∀ (kids : List JV) (f : Bool), kids ≠ [] → (canL false f kids []).length + (if f then 1 else 0) = llen kids
  | [], _, h => absurd rfl h
  | [x], f, _ => by rw [canL_one]; unfold llen; cases f <;> simp <;> omega
  | x :: y :: r, f, _ => by
    have ih := canL_list (y :: r) false (by simp)
    rw [canL]
    have e : llen (x :: y :: r) = (canJ x).length + 1 + llen (y :: r) := by unfold llen; simp
    rw [e, ← ih]
    cases f <;> simp <;> omega
theorem canL_obj : ∀ (kids : List JV) (keys : List (List UInt8)) (f : Bool), kids ≠ [] → keys.length = kids.length → (canL true f kids keys).length + (if f then 1 else 0) = zlen keys kids
  | [], _, _, h, _ => absurd rfl h
  | _ :: _, [], _, _, h => by simp at h
  | [x], k :: ks, f, _, h => by
    have : ks = [] := List.eq_nil_of_length_eq_zero (by simpa using h)
    subst this
    rw [canL_one]; unfold zlen; cases f <;> simp <;> omega
  | x :: y :: r, k :: ks, f, _, h => by
    have ih := canL_obj (y :: r) ks false (by simp) (by simpa using h)
    rw [canL]
    have e : zlen (k :: ks) (x :: y :: r) = (quoT k).length + (canJ x).length + 2 + zlen ks (y :: r) := by unfold zlen; simp
    rw [e, ← ih]
    cases f <;> simp <;> omega
theorem sum_ins {α : Type} (f : α → Nat) (u : List α) (i : Nat) (x : α) : ((insAt u i x).map f).sum = (u.map f).sum + f x := by
  unfold insAt
  conv => rhs; rw [← List.take_append_drop i u]
  simp only [List.map_append, List.map_cons, List.sum_append, List.sum_cons]
  omega
theorem zlen_add {keys : List (List UInt8)} {kids : List JV} (h : keys.length = kids.length) (i : Nat) (k : List UInt8) (x : JV) : zlen (insAt keys i k) (insAt kids i x) = zlen keys kids + ((quoT k).length + (canJ x).length + 2) := by
  unfold zlen
  rw [insAt_zip h, sum_ins]
theorem fold_len : ∀ (keys : List (List UInt8)) (kids : List JV) (ks : List (List UInt8)) (xs : List JV), keys.length = kids.length → ks.length = xs.length →
    ∃ ks' xs', (keys.zip kids).foldl (fun v kx => addKid v kx.1 kx.2) (.mk 6 0 [] xs ks) = .mk 6 0 [] xs' ks' ∧ ks'.length = xs'.length ∧ xs'.length = xs.length + kids.length ∧ zlen ks' xs' = zlen ks xs + zlen keys kids
  | [], [], ks, xs, _, h => ⟨ks, xs, rfl, h, rfl, rfl⟩
  | [], _ :: _, _, _, h, _ => by simp at h
  | _ :: _, [], _, _, h, _ => by simp at h
  | k :: keys, x :: kids, ks, xs, h, h2 => by
    rw [List.zip_cons_cons, List.foldl_cons]
    have e : addKid (.mk 6 0 [] xs ks) k x = .mk 6 0 [] (insAt xs (insPos k ks xs.length) x) (insAt ks (insPos k ks xs.length) k) := by unfold addKid; simp
    simp only
    obtain ⟨ks', xs', e1, e2, e3, e4⟩ := fold_len keys kids (insAt ks (insPos k ks xs.length) k) (insAt xs (insPos k ks xs.length) x) (by simpa using h) (by rw [insAt_len, insAt_len, h2])
    refine ⟨ks', xs', by rw [e]; exact e1, e2, by rw [e3, insAt_len, List.length_cons]; omega, ?_⟩
    rw [e4, zlen_add h2]
    have : zlen (k :: keys) (x :: kids) = (quoT k).length + (canJ x).length + 2 + zlen keys kids := by unfold zlen; simp
    omega
theorem can_list (kids : List JV) (h : kids ≠ []) : (canJ (.mk 5 0 [] kids [])).length = llen kids + 1 := by
  have := canL_list kids true h
  have e : canJ (.mk 5 0 [] kids []) = 91 :: canL false true kids [] ++ [93] := by unfold canJ; rfl
  rw [e]
  simp only [List.length_cons, List.length_append, List.length_nil]
  simp at this
  omega
theorem can_obj {keys : List (List UInt8)} {kids : List JV} (hl : keys.length = kids.length) (h : kids ≠ []) : (canJ (sortedJ keys kids)).length = zlen keys kids + 1 := by
  obtain ⟨ks', xs', e1, e2, e3, e4⟩ := fold_len keys kids [] [] hl rfl
  unfold sortedJ
  rw [e1]
  have hne : xs' ≠ [] := by intro e; rw [e] at e3; simp at e3; exact h (List.eq_nil_of_length_eq_zero e3.symm)
  have := canL_obj xs' ks' true hne e2
  have e : canJ (.mk 6 0 [] xs' ks') = 123 :: canL true true xs' ks' ++ [125] := by unfold canJ; rfl
  rw [e]
  simp only [List.length_cons, List.length_append, List.length_nil]
  have hz : zlen [] [] = 0 := rfl
  simp at this
  omega
theorem llen_snoc (kids : List JV) (x : JV) : llen (kids ++ [x]) = llen kids + ((canJ x).length + 1) := by unfold llen; simp
theorem zlen_snoc {keys : List (List UInt8)} {kids : List JV} (h : keys.length = kids.length) (k : List UInt8) (x : JV) : zlen (keys ++ [k]) (kids ++ [x]) = zlen keys kids + ((quoT k).length + (canJ x).length + 2) := by
  unfold zlen
  rw [List.zip_append h]
  simp
theorem begin_least {a m d : Nat} {v : JV} {q : Nat} (ha : a ≤ l.length) (h : beginJ l a m d = .atom v q) : (canJ v).length + a ≤ q := by
  have hge := skipB_ge l a
  unfold beginJ at h
  split at h
  · cases h
  · rename_i c hc
    have hlt := (List.getElem?_eq_some_iff.1 hc).1
    split at h
    · cases h
    split at h
    · cases h
    split at h
    · split at h <;> cases h
    · split at h
      · rename_i v' m' he
        simp only [BRes.atom.injEq] at h
        obtain ⟨rfl, rfl⟩ := h
        unfold atomJ at he
        split at he
        · unfold textJ at he
          split at he
          · rename_i h0
            obtain ⟨m2, g1, g2, g3⟩ := qRead_ok h0
            simp only [Sum.inl.injEq, Prod.mk.injEq] at he
            obtain ⟨rfl, he2⟩ := he
            have ht := (text_least (l := l) (p := skipB l a) (q := m2) (s := (qRead l (skipB l a)).1) hlt (by rw [← g1, ← h0])).1
            rw [g1, Int.toNat_natCast] at he2
            have e : canJ (.mk 4 0 (qRead l (skipB l a)).1 [] []) = quoT (qRead l (skipB l a)).1 := by unfold canJ; rfl
            rw [e]; omega
          · cases he
        split at he
        · unfold wordJ at he
          split at he
          · simp only [Sum.inl.injEq, Prod.mk.injEq] at he
            obtain ⟨rfl, he2⟩ := he
            have e : canJ (.mk 1 0 [] [] []) = nullT := by unfold canJ; rfl
            rw [e]; omega
          · cases he
        split at he
        · unfold wordJ at he
          split at he
          · simp only [Sum.inl.injEq, Prod.mk.injEq] at he
            obtain ⟨rfl, he2⟩ := he
            have e : canJ (.mk 2 1 [] [] []) = trueT := by unfold canJ; rfl
            rw [e]; omega
          · cases he
        split at he
        · unfold wordJ at he
          split at he
          · simp only [Sum.inl.injEq, Prod.mk.injEq] at he
            obtain ⟨rfl, he2⟩ := he
            have e : canJ (.mk 2 0 [] [] []) = falseT := by unfold canJ; rfl
            rw [e]; omega
          · cases he
        · unfold numJ at he
          split at he
          · rename_i h0
            simp only [Sum.inl.injEq, Prod.mk.injEq] at he
            obtain ⟨rfl, he2⟩ := he
            have e : canJ (.mk 3 (numRead l (skipB l a)).1 [] [] []) = numT (numRead l (skipB l a)).1 := by unfold canJ; rfl
            obtain ⟨s2, h1, h2, h3, h4⟩ := num_form (l := l) (a := skipB l a) h0
            have h5 : numEnd s2 (skipB l a) = ((numRead l (skipB l a)).1, (numRead l (skipB l a)).2.1, 0) := by rw [← h4, ← h0]
            have h6 := (numEnd_ok h5).2.1
            have h7 := (num_least (l := l) (p := skipB l a) (q := s2.pos) (n := (numRead l (skipB l a)).1) (Nat.le_of_lt hlt) (by rw [← h6, ← h0])).1
            rw [h6, Int.toNat_natCast] at he2
            rw [e]; omega
          · cases he
      · cases h
theorem begin_opens {a m d p : Nat} {o : Bool} (h : beginJ l a m d = .opens p o) : a ≤ p := by
  have hge := skipB_ge l a
  unfold beginJ at h
  split at h
  · cases h
  · split at h
    · cases h
    split at h
    · cases h
    split at h
    · split at h
      · cases h
      · simp only [BRes.opens.injEq] at h; omega
    · split at h <;> cases h
theorem rd_at9 {a m d : Nat} {v : JV} {q k : Nat} (h : RdR l a m d (.ok v q k)) : a ≤ l.length := by
  have key : (∀ p e, beginJ l a m d ≠ .err p e) → a ≤ l.length := fun hb => by
    have hge := skipB_ge l a
    cases hc : l[skipB l a]? with
    | some c => have := (List.getElem?_eq_some_iff.1 hc).1; omega
    | none => exact absurd (by unfold beginJ; rw [hc]) (hb (failF l (skipB l a) 7).1 (failF l (skipB l a) 7).2)
  refine key fun p e hb => ?_
  cases h with
  | atom h1 => rw [hb] at h1; cases h1
  | list0 h1 h2 => rw [hb] at h1; cases h1
  | list1 h1 h2 h3 => rw [hb] at h1; cases h1
  | obj0 h1 h2 => rw [hb] at h1; cases h1
  | obj1 h1 h2 h3 => rw [hb] at h1; cases h1
mutual
theorem rd_least {a m d : Nat} {r : RRes} : RdR l a m d r → ∀ (v : JV) (q k : Nat), r = .ok v q k → a ≤ l.length → (canJ v).length + a ≤ q
  | .err _, v, q, k, h, _ => by cases h
  | .atom h, v, q, k, hr, ha => by cases hr; exact begin_least ha h
  | .list0 h h1, v, q, k, hr, ha => by
    cases hr
    have h2 := begin_opens h
    have h3 := skipB_ge l ‹Nat›
    rename_i p
    have h4 := skipB_ge l (p + 1)
    have e : (canJ (.mk 5 0 [] [] [])).length = 2 := by unfold canJ; rfl
    rw [e]; omega
  | .list1 h h1 h3, v, q, k, hr, ha => by
    rename_i p
    have h2 := begin_opens h
    have h4 := skipB_ge l (p + 1)
    have := ls_least h3 v q k hr
    have e : llen [] = 0 := rfl
    omega
  | .obj0 h h1, v, q, k, hr, ha => by
    cases hr
    have h2 := begin_opens h
    rename_i p
    have h4 := skipB_ge l (p + 1)
    have e : (canJ (.mk 6 0 [] [] [])).length = 2 := by unfold canJ; rfl
    rw [e]; omega
  | .obj1 h h1 h3, v, q, k, hr, ha => by
    rename_i p
    have h2 := begin_opens h
    have h4 := skipB_ge l (p + 1)
    have := ob_least h3 v q k hr rfl
    have e : zlen [] [] = 0 := rfl
    omega
theorem ls_least {a m d : Nat} {kids : List JV} {r : RRes} : LsR l a m d kids r → ∀ (v : JV) (q k : Nat), r = .ok v q k → (canJ v).length + a ≤ 1 + llen kids + q
  | .err h, v, q, k, hr => by cases hr
  | .close h h1, v, q, k, hr => by
    rename_i x q' k'
    cases hr
    have ha := rd_at9 h
    have ih := rd_least h x q' _ rfl ha
    have h4 := skipB_ge l q'
    rw [can_list _ (by simp), llen_snoc]
    omega
  | .comma h h1 h2, v, q, k, hr => by
    rename_i x q' k'
    have ha := rd_at9 h
    have ih := rd_least h x q' _ rfl ha
    have ih2 := ls_least h2 v q k hr
    have h4 := skipB_ge l q'
    rw [llen_snoc] at ih2
    omega
  | .bad h h1 h2, v, q, k, hr => by cases hr
theorem ob_least {a m d : Nat} {keys : List (List UInt8)} {kids : List JV} {r : RRes} : ObR l a m d keys kids r → ∀ (v : JV) (q k : Nat), r = .ok v q k → keys.length = kids.length → (canJ v).length + a ≤ 1 + zlen keys kids + q
  | .nokey h, v, q, k, hr, hl => by cases hr
  | .badkey h h1, v, q, k, hr, hl => by cases hr
  | .double h h1 h2, v, q, k, hr, hl => by cases hr
  | .nocolon h h1 h2 h3, v, q, k, hr, hl => by cases hr
  | .err h h1 h2 h3 h4, v, q, k, hr, hl => by cases hr
  | .close h h1 h2 h3 h4 h5, v, q, k, hr, hl => by
    rename_i s x q' k' c
    cases hr
    have ha := rd_at9 h4
    have ih := rd_least h4 x q' _ rfl ha
    have g1 := skipB_ge l a
    have g2 := skipB_ge l c
    have g3 := skipB_ge l q'
    have ht := (text_least (List.getElem?_eq_some_iff.1 h).1 h1).1
    rw [can_obj (by simp [hl]) (by simp), zlen_snoc hl]
    omega
  | .comma h h1 h2 h3 h4 h5 h6, v, q, k, hr, hl => by
    rename_i s x q' k' c
    have ha := rd_at9 h4
    have ih := rd_least h4 x q' _ rfl ha
    have ih2 := ob_least h6 v q k hr (by simp [hl])
    have g1 := skipB_ge l a
    have g2 := skipB_ge l c
    have g3 := skipB_ge l q'
    have ht := (text_least (List.getElem?_eq_some_iff.1 h).1 h1).1
    rw [zlen_snoc hl] at ih2
    omega
  | .bad h h1 h2 h3 h4 h5 h6, v, q, k, hr, hl => by cases hr
end
end Go.Proofs.YtoejdhabpajhlaaGreatDoor

/- Plain: a value that was parsed: its numbers, its bulk, the length of its canonical text. -/
namespace Go.Proofs.YtoejdhabpajhlaaGreatDoor
set_option linter.unusedVariables false
set_option linter.unusedSimpArgs false
open Go.RowKit

theorem cpB_le (c : Nat) : (cpBytes c).length ≤ (qSignT c).length := by
  unfold qSignT
  split
  · rename_i s h
    have := (escOf_some h).2.2
    have e : (cpBytes c).length = 1 := by unfold cpBytes; rw [if_pos this]; rfl
    rw [e]; simp
  · split
    · rename_i h
      have e : (cpBytes c).length = 1 := by unfold cpBytes; rw [if_pos (by omega)]; rfl
      rw [e]; simp
    · exact Nat.le_refl _
theorem cpF_le : ∀ cs : List Nat, (cs.flatMap cpBytes).length ≤ (cs.flatMap qSignT).length
  | [] => Nat.le_refl _
  | c :: r => by have h1 := cpB_le c; have h2 := cpF_le r; rw [List.flatMap_cons, List.flatMap_cons, List.length_append, List.length_append]; omega
theorem quoT_ge {s : List UInt8} (h : txtOk s = true) : s.length + 2 ≤ (quoT s).length := by
  obtain ⟨_, h2⟩ := txtOk_cpsOf h
  have h3 := cpF_le (cpsOf s)
  rw [← h2] at h3
  unfold quoT
  simp only [List.length_cons, List.length_append, List.cons_append, List.length_nil]
  omega
mutual
theorem bulk_can : ∀ (v : JV) (d : Nat), goodJ d v = true → bulkJ v ≤ (canJ v).length
  | .mk k n s kids keys, d, h => by
    unfold goodJ at h
    simp only [Bool.and_eq_true] at h
    obtain ⟨hA, _, hL⟩ := h
    have hk := goodA_kind hA
    by_cases hk5 : k < 5
    · obtain ⟨e1, e2⟩ := goodA_leaf hA hk5
      have e1 : kids = [] := List.eq_nil_of_length_eq_zero e1
      subst e1 e2
      unfold bulkJ
      simp only [bulkK, bulkL]
      obtain rfl | rfl | rfl | rfl : k = 1 ∨ k = 2 ∨ k = 3 ∨ k = 4 := by omega
      · unfold goodA at hA; simp at hA
        obtain ⟨rfl, rfl⟩ := hA
        have e : (canJ (.mk 1 0 [] [] [])).length = 4 := by unfold canJ; rfl
        rw [e]; simp
      · unfold goodA at hA; simp at hA
        obtain ⟨h1, rfl⟩ := hA
        rcases h1 with rfl | rfl
        · have e : (canJ (.mk 2 0 [] [] [])).length = 5 := by unfold canJ; rfl
          rw [e]; simp
        · have e : (canJ (.mk 2 1 [] [] [])).length = 4 := by unfold canJ; rfl
          rw [e]; simp
      · unfold goodA at hA; simp at hA
        subst hA
        have e : canJ (.mk 3 n [] [] []) = numT n := by unfold canJ; rfl
        have := numT_len n
        rw [e]; simp; omega
      · unfold goodA at hA; simp at hA
        obtain ⟨rfl, ht⟩ := hA
        have e : canJ (.mk 4 0 s [] []) = quoT s := by unfold canJ; rfl
        have := quoT_ge ht
        rw [e]; omega
    · obtain rfl | rfl : k = 5 ∨ k = 6 := by omega
      · obtain ⟨rfl, rfl, rfl⟩ := goodA_list hA
        have e : canJ (.mk 5 0 [] kids []) = 91 :: canL false true kids [] ++ [93] := by unfold canJ; rfl
        have ih := bulkL_can kids [] false true (d - 1) hL (fun h => by cases h)
        rw [e]
        unfold bulkJ
        simp only [bulkK, List.length_cons, List.length_append, List.cons_append, List.length_nil] at ih ⊢
        simp only [Bool.false_eq_true, if_false] at ih
        omega
      · obtain ⟨rfl, rfl, hlen, hko⟩ := goodA_obj hA
        have e : canJ (.mk 6 0 [] kids keys) = 123 :: canL true true kids keys ++ [125] := by unfold canJ; rfl
        have ih := bulkL_can kids keys true true (d - 1) hL (fun _ => ⟨hlen.symm, (keysOk_iff.1 hko).1⟩)
        rw [e]
        unfold bulkJ
        simp only [List.length_cons, List.length_append, List.cons_append, List.length_nil] at ih ⊢
        simp only [if_true] at ih
        omega
theorem bulkL_can : ∀ (kids : List JV) (keys : List (List UInt8)) (o f : Bool) (d : Nat), goodL d kids = true → (o = true → keys.length = kids.length ∧ ∀ t ∈ keys, txtOk t = true) → bulkL kids + (if o then bulkK keys else 0) ≤ (canL o f kids keys).length
  | [], keys, o, f, d, _, h => by
    cases o with
    | false => simp [bulkL]
    | true =>
      have : keys = [] := List.eq_nil_of_length_eq_zero (h rfl).1
      subst this
      simp [bulkL, bulkK]
  | x :: r, keys, o, f, d, hg, h => by
    unfold goodL at hg
    simp only [Bool.and_eq_true] at hg
    have h1 := bulk_can x d hg.1
    rw [canL]
    simp only [List.length_append]
    unfold bulkL
    cases o with
    | false =>
      have h2 := bulkL_can r keys.tail false false d hg.2 (fun h => by cases h)
      simp only [Bool.false_eq_true, if_false] at h2 ⊢
      simp only [List.length_nil]
      omega
    | true =>
      obtain ⟨hl, ht⟩ := h rfl
      cases keys with
      | nil => simp at hl
      | cons key ks =>
        have h2 := bulkL_can r ks true false d hg.2 (fun _ => ⟨by simpa using hl, fun t h' => ht t (List.mem_cons_of_mem _ h')⟩)
        have h3 := quoT_ge (ht key List.mem_cons_self)
        simp only [if_true, List.tail_cons, List.headD_cons, List.length_append, List.length_cons, List.length_nil] at h2 ⊢
        unfold bulkK
        omega
end
variable {l : List UInt8}
theorem begin_ints {a m d : Nat} {v : JV} {q : Nat} (h : beginJ l a m d = .atom v q) : inJ v := by
  unfold beginJ at h
  split at h
  · cases h
  · rename_i c hc
    have hlt := (List.getElem?_eq_some_iff.1 hc).1
    split at h
    · cases h
    split at h
    · cases h
    split at h
    · split at h <;> cases h
    · split at h
      · rename_i v' m' he
        simp only [BRes.atom.injEq] at h
        obtain ⟨rfl, rfl⟩ := h
        unfold atomJ at he
        split at he
        · unfold textJ at he
          split at he
          · simp only [Sum.inl.injEq, Prod.mk.injEq] at he
            obtain ⟨rfl, he2⟩ := he
            unfold inJ inL iw; decide
          · cases he
        split at he
        · unfold wordJ at he
          split at he
          · simp only [Sum.inl.injEq, Prod.mk.injEq] at he
            obtain ⟨rfl, he2⟩ := he
            unfold inJ inL iw; decide
          · cases he
        split at he
        · unfold wordJ at he
          split at he
          · simp only [Sum.inl.injEq, Prod.mk.injEq] at he
            obtain ⟨rfl, he2⟩ := he
            unfold inJ inL iw; decide
          · cases he
        split at he
        · unfold wordJ at he
          split at he
          · simp only [Sum.inl.injEq, Prod.mk.injEq] at he
            obtain ⟨rfl, he2⟩ := he
            unfold inJ inL iw; decide
          · cases he
        · unfold numJ at he
          split at he
          · rename_i h0
            simp only [Sum.inl.injEq, Prod.mk.injEq] at he
            obtain ⟨rfl, he2⟩ := he
            obtain ⟨s2, h1, h2, h3, h4⟩ := num_form (l := l) (a := skipB l a) h0
            have h5 : numEnd s2 (skipB l a) = ((numRead l (skipB l a)).1, (numRead l (skipB l a)).2.1, 0) := by rw [← h4, ← h0]
            have h6 := (numEnd_ok h5).2.1
            have h7 := (num_least (l := l) (p := skipB l a) (q := s2.pos) (n := (numRead l (skipB l a)).1) (Nat.le_of_lt hlt) (by rw [← h6, ← h0])).2
            unfold inJ inL
            exact ⟨by unfold iw; decide, h7, trivial⟩
          · cases he
      · cases h
theorem mem_ins {α : Type} {u : List α} {i : Nat} {x y : α} (h : y ∈ insAt u i x) : y = x ∨ y ∈ u := by
  unfold insAt at h
  rcases List.mem_append.1 h with h | h
  · exact .inr (List.mem_of_mem_take h)
  · rcases List.mem_cons.1 h with h | h
    · exact .inl h
    · exact .inr (List.mem_of_mem_drop h)
theorem fold_ints : ∀ (ps : List (List UInt8 × JV)) (ks : List (List UInt8)) (xs : List JV), (∀ p ∈ ps, inJ p.2) → inL xs → ∃ ks' xs', ps.foldl (fun v kx => addKid v kx.1 kx.2) (.mk 6 0 [] xs ks) = .mk 6 0 [] xs' ks' ∧ inL xs'
  | [], ks, xs, _, h => ⟨ks, xs, rfl, h⟩
  | (k, x) :: r, ks, xs, hp, h => by
    rw [List.foldl_cons]
    have e : addKid (.mk 6 0 [] xs ks) k x = .mk 6 0 [] (insAt xs (insPos k ks xs.length) x) (insAt ks (insPos k ks xs.length) k) := by unfold addKid; simp
    simp only
    rw [e]
    refine fold_ints r _ _ (fun p h' => hp p (List.mem_cons_of_mem _ h')) (inL_iff.2 fun y hy => ?_)
    rcases mem_ins hy with rfl | hy
    · exact hp (k, y) List.mem_cons_self
    · exact inL_iff.1 h y hy
theorem sorted_ints {keys : List (List UInt8)} {kids : List JV} (h : inL kids) : inJ (sortedJ keys kids) := by
  obtain ⟨ks', xs', e, h'⟩ := fold_ints (keys.zip kids) [] [] (fun p hp => inL_iff.1 h p.2 (List.of_mem_zip hp).2) (by unfold inL; trivial)
  unfold sortedJ
  rw [e]
  unfold inJ
  exact ⟨by unfold iw; decide, by unfold iw; decide, h'⟩
theorem inL_snoc {kids : List JV} {x : JV} (h : inL kids) (hx : inJ x) : inL (kids ++ [x]) := inL_iff.2 fun y hy => by
  rcases List.mem_append.1 hy with hy | hy
  · exact inL_iff.1 h y hy
  · rw [List.mem_singleton] at hy; subst hy; exact hx
mutual
theorem rd_ints {a m d : Nat} {r : RRes} : RdR l a m d r → ∀ (v : JV) (q k : Nat), r = .ok v q k → inJ v
  | .err _, v, q, k, h => by cases h
  | .atom h, v, q, k, hr => by cases hr; exact begin_ints h
  | .list0 h h1, v, q, k, hr => by cases hr; unfold inJ inL iw; decide
  | .list1 h h1 h3, v, q, k, hr => ls_ints h3 v q k hr (by unfold inL; trivial)
  | .obj0 h h1, v, q, k, hr => by cases hr; unfold inJ inL iw; decide
  | .obj1 h h1 h3, v, q, k, hr => ob_ints h3 v q k hr (by unfold inL; trivial)
theorem ls_ints {a m d : Nat} {kids : List JV} {r : RRes} : LsR l a m d kids r → ∀ (v : JV) (q k : Nat), r = .ok v q k → inL kids → inJ v
  | .err h, v, q, k, hr, _ => by cases hr
  | .close h h1, v, q, k, hr, hi => by
    rename_i x q' k'
    cases hr
    have ih := rd_ints h x q' _ rfl
    unfold inJ
    exact ⟨by unfold iw; decide, by unfold iw; decide, inL_snoc hi ih⟩
  | .comma h h1 h2, v, q, k, hr, hi => by
    rename_i x q' k'
    exact ls_ints h2 v q k hr (inL_snoc hi (rd_ints h x q' _ rfl))
  | .bad h h1 h2, v, q, k, hr, _ => by cases hr
theorem ob_ints {a m d : Nat} {keys : List (List UInt8)} {kids : List JV} {r : RRes} : ObR l a m d keys kids r → ∀ (v : JV) (q k : Nat), r = .ok v q k → inL kids → inJ v
  | .nokey h, v, q, k, hr, hl => by cases hr
  | .badkey h h1, v, q, k, hr, hl => by cases hr
  | .double h h1 h2, v, q, k, hr, hl => by cases hr
  | .nocolon h h1 h2 h3, v, q, k, hr, hl => by cases hr
  | .err h h1 h2 h3 h4, v, q, k, hr, hl => by cases hr
  | .close h h1 h2 h3 h4 h5, v, q, k, hr, hl => by
    rename_i s x q' k' c
    cases hr
    exact sorted_ints (inL_snoc hl (rd_ints h4 x q' _ rfl))
  | .comma h h1 h2 h3 h4 h5 h6, v, q, k, hr, hl => by
    rename_i s x q' k' c
    exact ob_ints h6 v q k hr (inL_snoc hl (rd_ints h4 x q' _ rfl))
  | .bad h h1 h2 h3 h4 h5 h6, v, q, k, hr, hl => by cases hr
end
/-- what Parse answers, as a printer wants it -/
theorem parse_came {v : JV} {a e : Int} (h : ParseR l (v, a, e)) : (e ≠ 0 ∧ v = jZero) ∨
    (e = 0 ∧ a = 0 ∧ l.length ≤ 2048 ∧ good v = true ∧ Came v ∧ (canJ v).length ≤ l.length) := by
  rcases may_parse h with ⟨h1, h2, _⟩ | ⟨h1, h2, h3, h4, h5, q, k, h6, h7, h8, h9⟩
  · exact .inl ⟨h1, h2⟩
  · have hg : good v = true := by unfold good; rw [h4.good]; simp [h5]
    have hl := rd_least h6 v q k rfl (Nat.zero_le _)
    have hb := bulk_can v 8 h4.good
    exact .inr ⟨h1, h2, h3, hg, ⟨rd_ints h6 v q k rfl, by omega⟩, by omega⟩
/-- what is printed is parsed as the value -/
theorem parse_back {v w : JV} {a e : Int} (hg : good v = true) (hi : inJ v) (hl : (canJ v).length ≤ 2048) (h : ParseR (canJ v) (w, a, e)) : w = v ∧ a = 0 ∧ e = 0 := by
  have h1 := reads_law h (o' := (v, 0, 0)) (by
    unfold RefR
    rw [if_neg (by omega)]
    refine ⟨_, can_back hg hi, ?_⟩
    unfold refOut
    simp only
    rw [if_neg (by rw [skipB_end (Nat.le_refl _)]; omega)])
  simp only [Prod.mk.injEq] at h1
  exact ⟨h1.1, h1.2.1, h1.2.2⟩
end Go.Proofs.YtoejdhabpajhlaaGreatDoor
