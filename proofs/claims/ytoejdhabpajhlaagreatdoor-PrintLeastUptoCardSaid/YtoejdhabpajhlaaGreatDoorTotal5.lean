/- Plain: every row has an answer, level within level; where an error stands; what the program's Parse and Value answer then. -/
import Derived.Test.YtoejdhabpajhlaaGreatDoorReadsP
import Derived.Test.YtoejdhabpajhlaaGreatDoorJsonP
namespace Go.Proofs.YtoejdhabpajhlaaGreatDoor
set_option linter.unusedVariables false
set_option linter.unusedSimpArgs false

theorem sees_lt5 {l : List UInt8} {p : Nat} {x : List UInt8} (h : seesB l p x = true) : p + 1 ≤ l.length := by
  unfold seesB at h
  cases hl : l[p]? with
  | none => rw [hl] at h; cases h
  | some c => exact (List.getElem?_eq_some_iff.1 hl).1
theorem runK_place {l : List UInt8} : ∀ {ks : List Nat} {st st' : NSt} {p : Nat}, runK l ks st = (st', some p) → st.pos ≤ l.length → st.size < 18446744073709551616 → p ≤ l.length
  | [], _, _, _, h, _, _ => by simp [runK] at h
  | k :: ks, st, st', p, h, hp, hs => by
    obtain ⟨⟨s1, r1⟩, e1⟩ : ∃ r, stepK k l st = r := ⟨_, rfl⟩
    have hle := stepK_le e1 hp hs
    cases r1 with
    | none => rw [runK_none e1] at h; exact runK_place h hle.1 hle.2
    | some q =>
      rw [runK_some e1] at h
      obtain rfl : q = p := by simpa using congrArg Prod.snd h
      have rowE : ∀ (gr : Bool) (st : NSt), st.pos ≤ l.length → (rowS gr l st).2 = some q → q ≤ l.length := fun gr st hp h => by
        unfold rowS at h
        split at h
        · simp only [Option.some.injEq] at h; omega
        · cases h
      have e2 : (stepK k l st).2 = some q := by rw [e1]
      rcases k with _ | _ | _ | k
      · cases e2
      · have e2 : (wholeS l st).2 = some q := e2
        unfold wholeS at e2
        split at e2
        · cases e2
        · exact rowE _ _ hp e2
      · have e2 : (fracS l st).2 = some q := e2
        unfold fracS at e2
        split at e2
        · rename_i h'; exact rowE _ _ (sees_lt5 h') e2
        · cases e2
      · have e2 : (expS l st).2 = some q := e2
        unfold expS at e2
        split at e2
        · rename_i h'; exact rowE _ _ (takeS_le (sees_lt5 h')) e2
        · cases e2
theorem wordMis_place {l : List UInt8} : ∀ {u : List UInt8} {p q : Nat}, wordMis l p u = some q → p ≤ l.length → q ≤ l.length
  | [], _, _, h, _ => by simp [wordMis] at h
  | c :: u, p, q, h, hp => by
    unfold wordMis at h
    split at h
    · rename_i hc; exact wordMis_place h (get_lt hc)
    · simp only [Option.some.injEq] at h; omega
theorem atom_place {l : List UInt8} {p : Nat} {c : UInt8} {q e : Int} (hc : l[p]? = some c) (h : atomJ l p c = .inr (q, e)) : 0 ≤ q ∧ q ≤ l.length := by
  have hp := get_lt hc
  have hf : ∀ (x : Int) (e' : Int), failF l x e' = (q, e) → x = q := fun x e' h => by unfold failF at h; simp only [Prod.mk.injEq] at h; exact h.1
  have hw : ∀ u v, wordJ l p u v = .inr (q, e) → 0 ≤ q ∧ q ≤ l.length := fun u v h => by
    unfold wordJ at h
    cases hm : wordMis l p u with
    | none => rw [hm] at h; cases h
    | some k =>
      rw [hm] at h
      injection h with h
      have := wordMis_place hm (by omega)
      have := hf _ _ h
      omega
  unfold atomJ at h
  split at h
  · rename_i h34
    have h34 : l[p]? = some 34 := by rw [hc]; congr 1; exact UInt8.toNat_inj.1 (by rw [h34]; rfl)
    unfold textJ at h
    split at h
    · cases h
    · rename_i h0
      injection h with h
      obtain ⟨x, hx, h1, h2, _⟩ := qRead_err hp h34 h0
      have := hf _ _ h
      omega
  split at h
  · exact hw _ _ h
  split at h
  · exact hw _ _ h
  split at h
  · exact hw _ _ h
  unfold numJ at h
  split at h
  · cases h
  · rename_i h0
    injection h with h
    have h3 := hf _ _ h
    clear h h0
    unfold numRead at h3
    rw [if_neg (by omega), Int.toNat_natCast] at h3
    obtain ⟨⟨st, r⟩, hr⟩ : ∃ r, numRun l (numStart p) = r := ⟨_, rfl⟩
    rw [hr] at h3
    cases r with
    | some k =>
      have : k ≤ l.length := runK_place hr (show p ≤ l.length by omega) (show 0 < 18446744073709551616 by omega)
      simp only at h3
      omega
    | none =>
      simp only at h3
      unfold numEnd at h3
      split at h3
      · simp only at h3; omega
      · have hin := runK_in hr (show p ≤ l.length by omega) (show 0 < 18446744073709551616 by omega)
        simp only at h3
        omega
theorem begin_place {l : List UInt8} {a m d : Nat} {p e : Int} (ha : a ≤ l.length) (h : beginJ l a m d = .err p e) : 0 ≤ p ∧ p ≤ l.length := by
  have hle := skipB_le ha
  have hf : ∀ (x : Int) (e' : Int), (failF l x e').1 = x := fun x e' => rfl
  unfold beginJ at h
  cases hc : l[skipB l a]? with
  | none =>
    rw [hc] at h
    simp only [BRes.err.injEq] at h
    rw [hf] at h
    omega
  | some c =>
    rw [hc] at h
    simp only at h
    split at h
    · simp only [BRes.err.injEq] at h; rw [hf] at h; omega
    split at h
    · simp only [BRes.err.injEq] at h; omega
    split at h
    · split at h
      · simp only [BRes.err.injEq] at h; omega
      · cases h
    · cases hat : atomJ l (skipB l a) c with
      | inl r => rw [hat] at h; cases h
      | inr r =>
        obtain ⟨q, e'⟩ := r
        rw [hat] at h
        simp only [BRes.err.injEq] at h
        have := atom_place hc hat
        omega
/-- where an answer stands -/
def RIn (l : List UInt8) (a : Nat) : RRes → Prop
  | .ok _ q _ => a < q ∧ q ≤ l.length
  | .err p e => 0 ≤ p ∧ p ≤ l.length ∧ e ≠ 0
theorem RIn.mono {l : List UInt8} {a b : Nat} {r : RRes} (h : RIn l b r) (hab : a ≤ b) : RIn l a r := by
  cases r with
  | ok v q k => exact ⟨Nat.lt_of_le_of_lt hab h.1, h.2⟩
  | err p e => exact h
theorem rFail_in {l : List UInt8} {a q : Nat} (hq : q ≤ l.length) (e : Int) (he : e ≠ 0) : RIn l a (rFail l q e) := by
  have h1 := failF_ne (l := l) (p := (q : Int)) he
  exact ⟨by show 0 ≤ (q : Int); omega, by show (q : Int) ≤ l.length; omega, h1⟩
theorem ls_total {l : List UInt8} {K d : Nat} (hrd : ∀ a m d, a ≤ l.length → l.length - a < K → ∃ r, RdR l a m d r ∧ RIn l a r) :
    ∀ (N a m : Nat) (kids : List JV), a ≤ l.length → l.length - a < N → l.length - a < K → ∃ r, LsR l a m d kids r ∧ RIn l a r
  | 0, _, _, _, _, h, _ => by omega
  | N + 1, a, m, kids, ha, hN, hK => by
    obtain ⟨r, hr, hi⟩ := hrd a m (d + 1) ha hK
    cases r with
    | err p e => exact ⟨_, .err hr, hi⟩
    | ok x q k =>
      obtain ⟨h1, h2⟩ := hi
      have hs := skipB_le h2
      have hg := skipB_ge l q
      by_cases c1 : l[skipB l q]? = some 93
      · exact ⟨_, .close hr c1, by have := get_lt c1; omega, get_lt c1⟩
      · by_cases c2 : l[skipB l q]? = some 44
        · have hlt := get_lt c2
          obtain ⟨r, h3, h4⟩ := ls_total hrd N (skipB l q + 1) k (kids ++ [x]) hlt (by omega) (by omega)
          exact ⟨r, .comma hr c2 h3, h4.mono (by omega)⟩
        · exact ⟨_, .bad hr c1 c2, rFail_in hs 7 (by decide)⟩
theorem ob_total {l : List UInt8} {K d : Nat} (hrd : ∀ a m d, a ≤ l.length → l.length - a < K → ∃ r, RdR l a m d r ∧ RIn l a r) :
    ∀ (N a m : Nat) (keys : List (List UInt8)) (kids : List JV), a ≤ l.length → l.length - a < N → l.length - a < K → ∃ r, ObR l a m d keys kids r ∧ RIn l a r
  | 0, _, _, _, _, _, h, _ => by omega
  | N + 1, a, m, keys, kids, ha, hN, hK => by
    have hs := skipB_le ha
    have hg := skipB_ge l a
    by_cases h34 : l[skipB l a]? = some 34
    · have hp := get_lt h34
      by_cases h0 : (qRead l (skipB l a)).2.2 = 0
      · obtain ⟨c, hc1, hc2, hc3⟩ := qRead_ok h0
        obtain ⟨s, hsq⟩ : ∃ s, qRead l (skipB l a) = (s, (c : Int), 0) := by
          obtain ⟨⟨s, p, e⟩, hq⟩ : ∃ r, qRead l (skipB l a) = r := ⟨_, rfl⟩
          rw [hq] at hc1 h0
          simp only at hc1 h0
          exact ⟨s, by rw [hq, hc1, h0]⟩
        by_cases hin : s ∈ keys
        · exact ⟨_, .double h34 h0 (by rw [hsq]; exact hin), by omega, by omega, by decide⟩
        · have hs2 := skipB_le hc3
          have hg2 := skipB_ge l c
          by_cases h58 : l[skipB l c]? = some 58
          · have hl2 := get_lt h58
            obtain ⟨r, hr, hi⟩ := hrd (skipB l c + 1) m (d + 1) hl2 (by omega)
            cases r with
            | err p e => exact ⟨_, .err h34 hsq hin h58 hr, hi⟩
            | ok x q k =>
              obtain ⟨h1, h2⟩ := hi
              have hs3 := skipB_le h2
              have hg3 := skipB_ge l q
              by_cases c1 : l[skipB l q]? = some 125
              · exact ⟨_, .close h34 hsq hin h58 hr c1, by have := get_lt c1; omega, get_lt c1⟩
              · by_cases c2 : l[skipB l q]? = some 44
                · have hlt := get_lt c2
                  obtain ⟨r, h3, h4⟩ := ob_total hrd N (skipB l q + 1) k (keys ++ [s]) (kids ++ [x]) hlt (by omega) (by omega)
                  exact ⟨r, .comma h34 hsq hin h58 hr c2 h3, h4.mono (by omega)⟩
                · exact ⟨_, .bad h34 hsq hin h58 hr c1 c2, rFail_in hs3 7 (by decide)⟩
          · exact ⟨_, .nocolon h34 hsq hin h58, rFail_in hs2 7 (by decide)⟩
      · obtain ⟨x, hx, h1, h2, _⟩ := qRead_err hp h34 h0
        refine ⟨_, .badkey h34 h0, ?_⟩
        rw [hx]
        exact rFail_in h2 _ h0
    · exact ⟨_, .nokey h34, rFail_in hs 7 (by decide)⟩
theorem rd_total {l : List UInt8} : ∀ (K a m d : Nat), a ≤ l.length → l.length - a < K → ∃ r, RdR l a m d r ∧ RIn l a r
  | 0, _, _, _, _, h => by omega
  | K + 1, a, m, d, ha, hK => by
    have ih := rd_total (l := l) K
    have hb := begin_what (l := l) (a := a) (m := m) (d := d) ha
    cases hbj : beginJ l a m d with
    | err p e =>
      rw [hbj] at hb
      have hp := begin_place ha hbj
      exact ⟨_, .err hbj, hp.1, hp.2, hb⟩
    | atom v q =>
      rw [hbj] at hb
      exact ⟨_, .atom hbj, hb.1, hb.2.1⟩
    | opens p o =>
      rw [hbj] at hb
      obtain ⟨h1, h2, _, _⟩ := hb
      have hs := skipB_le (l := l) (p := p + 1) h2
      have hg := skipB_ge l (p + 1)
      cases o with
      | false =>
        by_cases h93 : l[skipB l (p + 1)]? = some 93
        · exact ⟨_, .list0 hbj h93, by have := get_lt h93; omega, get_lt h93⟩
        · obtain ⟨r, h3, h4⟩ := ls_total (d := d) ih (l.length + 1) (skipB l (p + 1)) (m + 1) [] hs (by omega) (by omega)
          exact ⟨r, .list1 hbj h93 h3, h4.mono (by omega)⟩
      | true =>
        by_cases h93 : l[skipB l (p + 1)]? = some 125
        · exact ⟨_, .obj0 hbj h93, by have := get_lt h93; omega, get_lt h93⟩
        · obtain ⟨r, h3, h4⟩ := ob_total (d := d) ih (l.length + 1) (skipB l (p + 1)) (m + 1) [] [] hs (by omega) (by omega)
          exact ⟨r, .obj1 hbj h93 h3, h4.mono (by omega)⟩
/-- what Parse answers, by how the value at the start is read -/
theorem parse_is {l : List UInt8} (hl : l.length ≤ 2048) {o : JV × Int × Int} (h : ParseR l o) : ∃ r, RdR l 0 0 0 r ∧ RIn l 0 r ∧ o = refOut l r := by
  obtain ⟨r, h1, h2⟩ := rd_total (l := l) (l.length + 1) 0 0 0 (Nat.zero_le _) (by omega)
  exact ⟨r, h1, h2, by rw [ParseR_det hl (start_reach h1) (outR_end r) h, refOut_is]⟩
theorem value_is {l : List UInt8} {a : Nat} (hl : l.length ≤ 2048) (ha : a ≤ l.length) {r : RRes} (h1 : RdR l a 0 0 r) {o : JV × Int × Int} (h : ValueR l a o) : o = refAt r := at_law hl ha h h1
/-- what ParseMay asks of Parse -/
theorem may_parse {l : List UInt8} {v : JV} {a e : Int} (h : ParseR l (v, a, e)) : (e ≠ 0 ∧ v = jZero ∧ 0 ≤ a ∧ a ≤ l.length) ∨
    (e = 0 ∧ a = 0 ∧ l.length ≤ 2048 ∧ rightJ 8 v ∧ nodesJ v ≤ 256 ∧ ∃ (q k : Nat), RdR l 0 0 0 (.ok v q k) ∧ 0 < q ∧ q ≤ l.length ∧ skipB l q = l.length) := by
  by_cases hl : 2048 < l.length
  · unfold ParseR at h
    rw [if_pos hl] at h
    simp only [Prod.mk.injEq] at h
    obtain ⟨rfl, rfl, rfl⟩ := h
    exact .inl ⟨by decide, rfl, by omega, by omega⟩
  · obtain ⟨r, h1, h2, h3⟩ := parse_is (by omega) h
    cases r with
    | err p x =>
      have h3 : (v, a, e) = (jZero, p, x) := h3
      simp only [Prod.mk.injEq] at h3
      obtain ⟨rfl, rfl, rfl⟩ := h3
      exact .inl ⟨h2.2.2, rfl, h2.1, h2.2.1⟩
    | ok u q k =>
      have hs := skipB_le h2.2
      have h3 : (v, a, e) = if skipB l q < l.length then (jZero, ((skipB l q : Nat) : Int), (7 : Int)) else (u, 0, 0) := h3
      split at h3
      · simp only [Prod.mk.injEq] at h3
        obtain ⟨rfl, rfl, rfl⟩ := h3
        exact .inl ⟨by decide, rfl, by omega, by omega⟩
      · simp only [Prod.mk.injEq] at h3
        obtain ⟨rfl, rfl, rfl⟩ := h3
        obtain ⟨i1, i2, i3⟩ := rd_right (by omega) h1 (Nat.zero_le _) (Nat.zero_le _)
        exact .inr ⟨rfl, rfl, by omega, i1, by omega, q, k, h1, h2.1, h2.2, by omega⟩
end Go.Proofs.YtoejdhabpajhlaaGreatDoor
