import Derived.Test.YtgolomgmnanbpaaGreatDoorX03
import Derived.Test.YtgolomgmnanbpaaGreatDoorX02
import Derived.Laws.RangeString
import Derived.Laws.RangeAny
import Derived.Lib.OthersKept
import Derived.KernelRfl
namespace Go.Proofs.YtgolomgmnanbpaaGreatDoor
set_option linter.unusedVariables false
set_option linter.unusedSimpArgs false
open Go.RowKit
inductive EJ where
  | mk : Int → JV → List UInt8 → List EJ → EJ
inductive SJ where
  | mk : Int → List UInt8 → EJ → EJ → List SJ → List SJ → SJ
def EJ.kind : EJ → Int | .mk k _ _ _ => k
def EJ.kids : EJ → List EJ | .mk _ _ _ l => l
def eZero : EJ := .mk 0 jZero [] []
instance : Inhabited EJ := ⟨eZero⟩
instance : Inhabited SJ := ⟨.mk 0 [] eZero eZero [] []⟩
def RR {α : Type} (R : List Value → α → Prop) (css : List (List Value)) (xs : List α) : Prop := css.length = xs.length ∧ ∀ (i : Nat) c x, css[i]? = some c → xs[i]? = some x → R c x
section
variable {α : Type} {R R' : List Value → α → Prop} {css : List (List Value)} {xs : List α} {m : Nat}
theorem RR.imp (h : RR R css xs) (hm : ∀ c x, R c x → R' c x) : RR R' css xs := ⟨h.1, fun i c x h1 h2 => hm c x (h.2 i c x h1 h2)⟩
theorem RR.nil : RR R [] ([] : List α) := ⟨rfl, fun i c x h => by simp at h⟩
theorem flatN_len : ∀ {css : List (List Value)}, (∀ c ∈ css, c.length = m) → css.flatten.length = css.length * m
  | [], _ => by simp
  | c :: r, h => by
    rw [List.flatten_cons, List.length_append, h c List.mem_cons_self, flatN_len (fun c hc => h c (List.mem_cons_of_mem _ hc)), List.length_cons, Nat.add_mul]; omega
theorem flatN_get : ∀ {css : List (List Value)} (_ : ∀ c ∈ css, c.length = m) {i : Nat} {c : List Value} (_ : css[i]? = some c) {j : Nat} (_ : j < m), css.flatten[i * m + j]? = c[j]?
  | [], _, i, c, h, _, _ => by simp at h
  | c' :: r, h5, 0, c, h, j, hj => by
    have : c' = c := by simpa using h
    subst this
    rw [List.flatten_cons, Nat.zero_mul, Nat.zero_add, List.getElem?_append_left (by rw [h5 c' List.mem_cons_self]; exact hj)]
  | c' :: r, h5, i + 1, c, h, j, hj => by
    have h' : r[i]? = some c := by simpa using h
    have hl := h5 c' List.mem_cons_self
    have e : (i + 1) * m = m + i * m := by rw [Nat.add_mul]; omega
    rw [List.flatten_cons, List.getElem?_append_right (by omega), ← flatN_get (fun c hc => h5 c (List.mem_cons_of_mem _ hc)) h' hj]
    congr 1; omega
theorem RR.mem (h : RR R css xs) {c : List Value} (hc : c ∈ css) : ∃ x, x ∈ xs ∧ R c x := by
  obtain ⟨i, hi, rfl⟩ := List.getElem_of_mem hc
  have hx : i < xs.length := by rw [← h.1]; exact hi
  exact ⟨xs[i], List.getElem_mem hx, h.2 i _ _ (List.getElem?_eq_getElem hi) (List.getElem?_eq_getElem hx)⟩
theorem RR.lens (h : RR R css xs) (hR : ∀ c x, R c x → c.length = m) : ∀ c ∈ css, c.length = m := fun c hc => by
  obtain ⟨x, _, hx⟩ := h.mem hc; exact hR c x hx
theorem RR.flat (h : RR R css xs) (hR : ∀ c x, R c x → c.length = m) : css.flatten.length = xs.length * m := by rw [flatN_len (h.lens hR), h.1]
theorem RR.snoc {c : List Value} {x : α} (h : RR R css xs) (hx : R c x) : RR R (css ++ [c]) (xs ++ [x]) := by
  refine ⟨by simp [h.1], fun i c' x' h1 h2 => ?_⟩
  rcases Nat.lt_or_ge i css.length with hi | hi
  · rw [List.getElem?_append_left hi] at h1
    rw [List.getElem?_append_left (by rw [← h.1]; exact hi)] at h2
    exact h.2 i c' x' h1 h2
  · rw [List.getElem?_append_right hi] at h1
    rw [List.getElem?_append_right (by rw [← h.1]; exact hi)] at h2
    have : i - css.length = 0 := by
      rcases Nat.eq_zero_or_pos (i - css.length) with h0 | h0
      · exact h0
      · rw [List.getElem?_eq_none (by simp; omega)] at h1; cases h1
    rw [this] at h1
    rw [← h.1, this] at h2
    obtain rfl : c = c' := by simpa using h1
    obtain rfl : x = x' := by simpa using h2
    exact hx
theorem RR.get_ {i : Nat} {x : α} (h : RR R css xs) (hx : xs[i]? = some x) : ∃ c, css[i]? = some c ∧ R c x := by
  have hi : i < css.length := by rw [h.1]; exact (List.getElem?_eq_some_iff.1 hx).1
  exact ⟨_, List.getElem?_eq_getElem hi, h.2 i _ x (List.getElem?_eq_getElem hi) hx⟩
theorem RR.take (h : RR R css xs) (n : Nat) : RR R (css.take n) (xs.take n) := by
  refine ⟨by simp [h.1], fun i c x h1 h2 => ?_⟩
  rw [List.getElem?_take] at h1 h2
  split at h1
  · rename_i hi; rw [if_pos hi] at h2; exact h.2 i c x h1 h2
  · cases h1
theorem RR.append {css' : List (List Value)} {xs' : List α} (h : RR R css xs) (h' : RR R css' xs') : RR R (css ++ css') (xs ++ xs') := by
  refine ⟨by simp [h.1, h'.1], fun i c x h1 h2 => ?_⟩
  rcases Nat.lt_or_ge i css.length with hi | hi
  · rw [List.getElem?_append_left hi] at h1
    rw [List.getElem?_append_left (by rw [← h.1]; exact hi)] at h2
    exact h.2 i c x h1 h2
  · rw [List.getElem?_append_right hi] at h1
    rw [List.getElem?_append_right (by rw [← h.1]; exact hi), ← h.1] at h2
    exact h'.2 _ c x h1 h2
theorem RR.cell {W : World} {F : Nat → Prop} {A : Option Addr} (h : RR R css xs) (hR : ∀ c x, R c x → c.length = m) (hm : 0 < m) (hr : RdF W F A css.flatten) {i : Nat} {x : α} (hx : xs[i]? = some x) :
    ∃ (b o : Nat) (c : List Value), A = some ⟨b, o, none⟩ ∧ b < W.heap.size ∧ F b ∧ css[i]? = some c ∧ R c x ∧ ∀ (j : Nat) u, j < m → c[j]? = some u → W.cell? ⟨b, o + (i * m + j), none⟩ = some u := by
  obtain ⟨c, hc, hv⟩ := h.get_ hx
  have hl := h.lens hR
  have hi : i < css.length := (List.getElem?_eq_some_iff.1 hc).1
  have hfl := flatN_len hl
  have him : i * m + m ≤ css.length * m := by
    have := Nat.mul_le_mul_right m hi
    rw [Nat.succ_mul] at this; exact this
  have hne : css.flatten ≠ [] := by
    intro e
    rw [e] at hfl
    simp only [List.length_nil] at hfl
    omega
  obtain ⟨b, o, rfl, hb, hf, hx'⟩ := hr hne
  refine ⟨b, o, c, rfl, hb, hf, hc, hv, fun j u hj hu => ?_⟩
  have hg := flatN_get hl hc hj
  rw [hu] at hg
  obtain ⟨h1, h2⟩ := List.getElem?_eq_some_iff.1 hg
  rw [hx' _ h1, h2]
end
inductive ER (W : World) (F : Nat → Prop) : List Value → EJ → Prop where
  | mk {k : Int} {v : JV} {s : List UInt8} {kids : List EJ} {A : Option Addr} {ca : Nat} {a b c d e : Value} {css : List (List Value)} :
      VR W F [a, b, c, d, e] v → css.length = kids.length → kids.length ≤ ca → (A = none → ca = 0) → RdF W F A css.flatten →
      (∀ (i : Nat) c x, css[i]? = some c → kids[i]? = some x → ER W F c x) →
      ER W F [.int .i64 k, a, b, c, d, e, .string ⟨s.toArray⟩, .slice A kids.length ca] (.mk k v s kids)
abbrev ERs (W : World) (F : Nat → Prop) := RR (ER W F)
section
variable {W W' : World} {F F' : Nat → Prop} {cs : List Value} {x : EJ}
theorem ER.keep (h : ER W F cs x) (hk : KeepF F W W') : ER W' F cs x := by
  induction h with
  | mk h0 h1 h2 h3 h4 _ ih => exact .mk (h0.keep hk) h1 h2 h3 (h4.keep hk) ih
theorem ER.mono (h : ER W F cs x) (hm : ∀ b, b < W.heap.size → F b → F' b) : ER W F' cs x := by
  induction h with
  | mk h0 h1 h2 h3 h4 _ ih => exact .mk (h0.mono hm) h1 h2 h3 (h4.mono hm) ih
theorem ER.bel (h : ER W F cs x) (hb : Below W.heap.size W W') : ER W' F cs x := h.keep (KeepF.of_below hb)
theorem ER.len (h : ER W F cs x) : cs.length = 8 := by cases h; rfl
theorem ER.one (h : ER W F cs x) : ∀ u ∈ cs, u.oneCell' = true := by
  cases h with
  | mk h0 h1 h2 h3 h4 h5 =>
    intro u hu
    have h9 := h0.one
    simp only [List.mem_cons, List.not_mem_nil, or_false] at hu h9
    rcases hu with rfl | rfl | rfl | rfl | rfl | rfl | rfl | rfl
    · rfl
    · exact h9 _ (.inl rfl)
    · exact h9 _ (.inr (.inl rfl))
    · exact h9 _ (.inr (.inr (.inl rfl)))
    · exact h9 _ (.inr (.inr (.inr (.inl rfl))))
    · exact h9 _ (.inr (.inr (.inr (.inr rfl))))
    · rfl
    · rfl
theorem ER.out {k : Int} {v : JV} {s : List UInt8} {kids : List EJ} (h : ER W F cs (.mk k v s kids)) :
    ∃ (k1 n1 : Int) (s1 : ByteArray) (A1 : Option Addr) (na1 ca1 : Nat) (B1 : Option Addr) (nb1 cb1 : Nat) (A : Option Addr) (ca : Nat) (css : List (List Value)),
      cs = [.int .i64 k, .int .i64 k1, .int .i64 n1, .string s1, .slice A1 na1 ca1, .slice B1 nb1 cb1, .string ⟨s.toArray⟩, .slice A kids.length ca] ∧
      VR W F [.int .i64 k1, .int .i64 n1, .string s1, .slice A1 na1 ca1, .slice B1 nb1 cb1] v ∧ ERs W F css kids ∧ kids.length ≤ ca ∧ (A = none → ca = 0) ∧ RdF W F A css.flatten := by
  cases h with
  | mk h0 h1 h2 h3 h4 h5 =>
    obtain ⟨k1, n1, s1, A1, na1, ca1, B1, nb1, cb1, e⟩ := h0.form
    injection e with e1 e; injection e with e2 e; injection e with e3 e; injection e with e4 e; injection e with e5 e
    subst e1 e2 e3 e4 e5
    exact ⟨k1, n1, s1, A1, na1, ca1, B1, nb1, cb1, _, _, _, rfl, h0, ⟨h1, h5⟩, h2, h3, h4⟩
theorem ER.into {k : Int} {v : JV} {s : List UInt8} {kids : List EJ} {A : Option Addr} {ca : Nat} {a b c d e : Value} {css : List (List Value)} (h0 : VR W F [a, b, c, d, e] v) (h1 : ERs W F css kids) {n : Nat} (hn : n = kids.length) (h2 : kids.length ≤ ca) (h3 : A = none → ca = 0) (h4 : RdF W F A css.flatten) :
    ER W F [.int .i64 k, a, b, c, d, e, .string ⟨s.toArray⟩, .slice A n ca] (.mk k v s kids) := by
  subst hn; exact .mk h0 h1.1 h2 h3 h4 h1.2
theorem ER.leaf (k : Int) (s : List UInt8) {v : JV} {a b c d e : Value} (h0 : VR W F [a, b, c, d, e] v) : ER W F [.int .i64 k, a, b, c, d, e, .string ⟨s.toArray⟩, .slice none 0 0] (.mk k v s []) :=
  ER.into (kids := []) (css := []) h0 RR.nil rfl (Nat.le_refl _) (fun _ => rfl) RdF.nil
theorem ER.zero : ER W F [.int .i64 0, .int .i64 0, .int .i64 0, .string ⟨#[]⟩, .slice none 0 0, .slice none 0 0, .string ⟨#[]⟩, .slice none 0 0] eZero := ER.leaf 0 [] VR.zero
theorem ER.form (h : ER W F cs x) : ∃ (k k1 n1 : Int) (s1 : ByteArray) (A1 : Option Addr) (na1 ca1 : Nat) (B1 : Option Addr) (nb1 cb1 : Nat) (s : ByteArray) (A : Option Addr) (n ca : Nat),
      cs = [.int .i64 k, .int .i64 k1, .int .i64 n1, .string s1, .slice A1 na1 ca1, .slice B1 nb1 cb1, .string s, .slice A n ca] := by
  obtain ⟨k, v, s, kids⟩ := x
  obtain ⟨k1, n1, s1, A1, na1, ca1, B1, nb1, cb1, A, ca, css, e, _⟩ := h.out
  exact ⟨k, k1, n1, s1, A1, na1, ca1, B1, nb1, cb1, _, A, _, ca, e⟩
end
inductive SR (W : World) (F : Nat → Prop) : List Value → SJ → Prop where
  | mk {k : Int} {s : List UInt8} {a b : EJ} {body els : List SJ} {A B : Option Addr} {ca cb : Nat} {acs bcs : List Value} {css dss : List (List Value)} :
      ER W F acs a → ER W F bcs b → css.length = body.length → body.length ≤ ca → (A = none → ca = 0) → RdF W F A css.flatten →
      dss.length = els.length → els.length ≤ cb → (B = none → cb = 0) → RdF W F B dss.flatten →
      (∀ (i : Nat) c x, css[i]? = some c → body[i]? = some x → SR W F c x) → (∀ (i : Nat) c x, dss[i]? = some c → els[i]? = some x → SR W F c x) →
      SR W F ([.int .i64 k, .string ⟨s.toArray⟩] ++ acs ++ bcs ++ [.slice A body.length ca, .slice B els.length cb]) (.mk k s a b body els)
abbrev SRs (W : World) (F : Nat → Prop) := RR (SR W F)
section
variable {W W' : World} {F F' : Nat → Prop} {cs : List Value} {x : SJ}
theorem SR.keep (h : SR W F cs x) (hk : KeepF F W W') : SR W' F cs x := by
  induction h with
  | mk ha hb h1 h2 h3 h4 g1 g2 g3 g4 _ _ ih1 ih2 => exact .mk (ha.keep hk) (hb.keep hk) h1 h2 h3 (h4.keep hk) g1 g2 g3 (g4.keep hk) ih1 ih2
theorem SR.mono (h : SR W F cs x) (hm : ∀ b, b < W.heap.size → F b → F' b) : SR W F' cs x := by
  induction h with
  | mk ha hb h1 h2 h3 h4 g1 g2 g3 g4 _ _ ih1 ih2 => exact .mk (ha.mono hm) (hb.mono hm) h1 h2 h3 (h4.mono hm) g1 g2 g3 (g4.mono hm) ih1 ih2
theorem SR.bel (h : SR W F cs x) (hb : Below W.heap.size W W') : SR W' F cs x := h.keep (KeepF.of_below hb)
theorem SR.len (h : SR W F cs x) : cs.length = 20 := by
  cases h with
  | mk ha hb => simp [ha.len, hb.len]
theorem SR.one (h : SR W F cs x) : ∀ u ∈ cs, u.oneCell' = true := by
  cases h with
  | mk ha hb =>
    intro u hu
    simp only [List.mem_append, List.mem_cons, List.not_mem_nil, or_false] at hu
    rcases hu with (((rfl | rfl) | hu) | hu) | (rfl | rfl)
    · rfl
    · rfl
    · exact ha.one u hu
    · exact hb.one u hu
    · rfl
    · rfl
theorem SR.out {k : Int} {s : List UInt8} {a b : EJ} {body els : List SJ} (h : SR W F cs (.mk k s a b body els)) :
    ∃ (acs bcs : List Value) (A B : Option Addr) (ca cb : Nat) (css dss : List (List Value)),
      cs = [.int .i64 k, .string ⟨s.toArray⟩] ++ acs ++ bcs ++ [.slice A body.length ca, .slice B els.length cb] ∧ ER W F acs a ∧ ER W F bcs b ∧
      (SRs W F css body ∧ body.length ≤ ca ∧ (A = none → ca = 0) ∧ RdF W F A css.flatten) ∧ SRs W F dss els ∧ els.length ≤ cb ∧ (B = none → cb = 0) ∧ RdF W F B dss.flatten := by
  cases h with
  | mk ha hb h1 h2 h3 h4 g1 g2 g3 g4 h5 g5 => exact ⟨_, _, _, _, _, _, _, _, rfl, ha, hb, ⟨⟨h1, h5⟩, h2, h3, h4⟩, ⟨g1, g5⟩, g2, g3, g4⟩
theorem SR.into {k : Int} {s : List UInt8} {a b : EJ} {body els : List SJ} {A B : Option Addr} {ca cb : Nat} {acs bcs : List Value} {css dss : List (List Value)} (ha : ER W F acs a) (hb : ER W F bcs b)
    (h1 : SRs W F css body) {n : Nat} (hn : n = body.length) (h2 : body.length ≤ ca) (h3 : A = none → ca = 0) (h4 : RdF W F A css.flatten) (g1 : SRs W F dss els) {m : Nat} (hm : m = els.length) (g2 : els.length ≤ cb) (g3 : B = none → cb = 0) (g4 : RdF W F B dss.flatten) :
    SR W F ([.int .i64 k, .string ⟨s.toArray⟩] ++ acs ++ bcs ++ [.slice A n ca, .slice B m cb]) (.mk k s a b body els) := by
  subst hn hm; exact .mk ha hb h1.1 h2 h3 h4 g1.1 g2 g3 g4 h1.2 g1.2
end
def BnR (W : World) (F : Nat → Prop) (cs : List Value) (x : List UInt8 × JV) : Prop := ∃ vcs, cs = .string ⟨x.1.toArray⟩ :: vcs ∧ VR W F vcs x.2
abbrev BnRs (W : World) (F : Nat → Prop) := RR (BnR W F)
def EmR (W : World) (F : Nat → Prop) (cs : List Value) (x : JV × JV) : Prop := ∃ kcs vcs, cs = kcs ++ vcs ∧ VR W F kcs x.1 ∧ VR W F vcs x.2
abbrev EmRs (W : World) (F : Nat → Prop) := RR (EmR W F)
section
variable {W W' : World} {F F' : Nat → Prop} {cs : List Value}
theorem BnR.keep {x : List UInt8 × JV} (h : BnR W F cs x) (hk : KeepF F W W') : BnR W' F cs x := by obtain ⟨v, e, h⟩ := h; exact ⟨v, e, h.keep hk⟩
theorem BnR.mono {x : List UInt8 × JV} (h : BnR W F cs x) (hm : ∀ b, b < W.heap.size → F b → F' b) : BnR W F' cs x := by obtain ⟨v, e, h⟩ := h; exact ⟨v, e, h.mono hm⟩
theorem BnR.len {x : List UInt8 × JV} (h : BnR W F cs x) : cs.length = 6 := by obtain ⟨v, rfl, h⟩ := h; simp [h.len]
theorem BnR.one {x : List UInt8 × JV} (h : BnR W F cs x) : ∀ u ∈ cs, u.oneCell' = true := by
  obtain ⟨v, rfl, h⟩ := h
  intro u hu
  rcases List.mem_cons.1 hu with rfl | hu
  · rfl
  · exact h.one u hu
theorem EmR.keep {x : JV × JV} (h : EmR W F cs x) (hk : KeepF F W W') : EmR W' F cs x := by obtain ⟨k, v, e, h, h'⟩ := h; exact ⟨k, v, e, h.keep hk, h'.keep hk⟩
theorem EmR.mono {x : JV × JV} (h : EmR W F cs x) (hm : ∀ b, b < W.heap.size → F b → F' b) : EmR W F' cs x := by obtain ⟨k, v, e, h, h'⟩ := h; exact ⟨k, v, e, h.mono hm, h'.mono hm⟩
theorem EmR.len {x : JV × JV} (h : EmR W F cs x) : cs.length = 10 := by obtain ⟨k, v, rfl, h, h'⟩ := h; simp [h.len, h'.len]
theorem EmR.one {x : JV × JV} (h : EmR W F cs x) : ∀ u ∈ cs, u.oneCell' = true := by
  obtain ⟨k, v, rfl, h, h'⟩ := h
  intro u hu
  rcases List.mem_append.1 hu with hu | hu
  · exact h.one u hu
  · exact h'.one u hu
end
mutual
/-- an expression all parts of which are of a size -/
def locE (N : Nat) : EJ → Prop | .mk k v s kids => 1 ≤ N ∧ iw k ∧ inJ v ∧ bulkJ v ≤ N ∧ s.length ≤ N ∧ kids.length ≤ N ∧ locEL N kids
def locEL (N : Nat) : List EJ → Prop | [] => True | x :: r => locE N x ∧ locEL N r
end
theorem locEL_iff {N : Nat} : ∀ {xs : List EJ}, locEL N xs ↔ ∀ x ∈ xs, locE N x
  | [] => by simp [locEL]
  | x :: r => by simp [locEL, locEL_iff (xs := r)]
mutual
theorem locE_mono {N M : Nat} (h : N ≤ M) : ∀ (x : EJ), locE N x → locE M x
  | .mk k v s kids, hx => by
    unfold locE at hx ⊢
    obtain ⟨h0, h1, h2, h3, h4, h5, h6⟩ := hx
    exact ⟨by omega, h1, h2, by omega, by omega, by omega, locEL_mono h kids h6⟩
theorem locEL_mono {N M : Nat} (h : N ≤ M) : ∀ (xs : List EJ), locEL N xs → locEL M xs
  | [], _ => trivial
  | x :: r, hx => by unfold locEL at hx ⊢; exact ⟨locE_mono h x hx.1, locEL_mono h r hx.2⟩
end
end Go.Proofs.YtgolomgmnanbpaaGreatDoor
namespace Go.Proofs.YtgolomgmnanbpaaGreatDoor
set_option linter.unusedVariables false
set_option linter.unusedSimpArgs false
open Go.RowKit Go.Deep Go.ChangeShapes Go.WideShapes
section
variable {H : Type}
theorem bulk_agg (l : List (DataW H)) : Rows.uptoBulk (.agg l) = Rows.uptoBulkAll l + 1 := by rw [Rows.uptoBulk]
theorem bulk_cons (d : DataW H) (r : List (DataW H)) : Rows.uptoBulkAll (d :: r) = Rows.uptoBulk d + Rows.uptoBulkAll r := by rw [Rows.uptoBulkAll]
theorem bulk_nil : Rows.uptoBulkAll ([] : List (DataW H)) = 0 := by rw [Rows.uptoBulkAll]
theorem bulk_str (s : List UInt8) : Rows.uptoBulk (H := H) (.lit (.string s)) = s.length + 1 := by rw [Rows.uptoBulk]
theorem bulk_slice (l m : List (DataW H)) : Rows.uptoBulk (.slice l m) = Rows.uptoBulkAll l + Rows.uptoBulkAll m + 1 := by rw [Rows.uptoBulk]
end
section
variable {H : Type} {enc : TypeId × Value → H} {W : World} {α : Type} {R : List Value → α → Prop} {Pr : Nat → α → Prop}
theorem kidsN_of {m : Nat} (hmono : ∀ n n' x, n ≤ n' → Pr n x → Pr n' x) (hpos : ∀ n x, Pr n x → 1 ≤ n) (a : Addr) : ∀ (elems : List (DataW H × List MemPlace)) (a0 : Nat),
    (∀ i, i < elems.length → ∃ c v y, elems[i]? = some y ∧ W.cells? 0 (a.add ((a0 + i) * m)) m = some c ∧ R c v ∧ Pr (Rows.uptoBulk y.1) v) →
    ∃ css kids, RR R css kids ∧ kids.length = elems.length ∧ (∀ i c, css[i]? = some c → W.cells? 0 (a.add ((a0 + i) * m)) m = some c) ∧ (∀ x ∈ kids, Pr (Rows.uptoBulkAll (elems.map (·.1))) x) ∧ kids.length ≤ Rows.uptoBulkAll (elems.map (·.1))
  | [], _, _ => ⟨[], [], RR.nil, rfl, fun i c h => by simp at h, fun x h => (List.not_mem_nil h).elim, Nat.zero_le _⟩
  | y :: r, a0, h => by
    obtain ⟨c, v, y', e, h1, h2, h3⟩ := h 0 (by simp)
    obtain rfl : y = y' := by simpa using e
    obtain ⟨css, kids, k1, k2, k3, k4, k5⟩ := kidsN_of hmono hpos a r (a0 + 1) (fun i hi => by
      obtain ⟨c, v, y', e, h1, h2, h3⟩ := h (i + 1) (by simp; omega)
      exact ⟨c, v, y', by simpa using e, by rw [show a0 + 1 + i = a0 + (i + 1) by omega]; exact h1, h2, h3⟩)
    have hp := hpos _ _ h3
    refine ⟨c :: css, v :: kids, ⟨by simp [k1.1], fun i c' x' e1 e2 => ?_⟩, by simp [k2], fun i c' e1 => ?_, fun x hx => ?_, ?_⟩
    · cases i with
      | zero => obtain rfl : c = c' := by simpa using e1
                obtain rfl : v = x' := by simpa using e2
                exact h2
      | succ i => exact k1.2 i c' x' (by simpa using e1) (by simpa using e2)
    · cases i with
      | zero => obtain rfl : c = c' := by simpa using e1
                exact h1
      | succ i => have := k3 i c' (by simpa using e1); rwa [show a0 + 1 + i = a0 + (i + 1) by omega] at this
    · rw [List.map_cons]; unfold Rows.uptoBulkAll
      rcases List.mem_cons.1 hx with rfl | hx
      · exact hmono _ _ _ (by omega) h3
      · exact hmono _ _ _ (by omega) (k4 x hx)
    · rw [List.map_cons, List.length_cons]; unfold Rows.uptoBulkAll; omega
theorem rowN_of {m : Nat} (hm : 0 < m) (a : Addr) {css : List (List Value)} {kids : List α} (h : RR R css kids) (hR : ∀ c x, R c x → c.length = m) (hc : ∀ i c, css[i]? = some c → W.cells? 0 (a.add (i * m)) m = some c) : RdF W TT (some a) css.flatten := by
  intro hne
  have hpos : 0 < css.length := by
    rcases css with _ | ⟨c, r⟩
    · exact absurd rfl hne
    · simp
  obtain ⟨b, o, spot⟩ := a
  have h5 := h.lens hR
  have h0 := World.cells?_some (hc 0 _ (List.getElem?_eq_getElem hpos))
  have q0 := h0.2.2 0 hm
  rw [List.getElem?_eq_getElem (by omega)] at q0
  have hspot : spot = none := by simpa [Addr.add] using World.cell?_spot q0
  subst hspot
  have hcell : ∀ i (hi : i < css.flatten.length), W.cell? ⟨b, o + i, none⟩ = some css.flatten[i] := by
    intro i hi
    rw [flatN_len h5] at hi
    have hq : i / m < css.length := (Nat.div_lt_iff_lt_mul hm).2 hi
    have hx := World.cells?_some (hc (i / m) _ (List.getElem?_eq_getElem hq))
    have hy := hx.2.2 (i % m) (Nat.mod_lt _ hm)
    rw [add_plain, add_plain, ← flatN_get h5 (List.getElem?_eq_getElem hq) (Nat.mod_lt _ hm)] at hy
    have hd : i / m * m + i % m = i := Nat.div_add_mod' i m
    rw [show o + i = o + i / m * m + i % m by omega, hy, hd, List.getElem?_eq_getElem]
  refine ⟨b, o, rfl, ?_, trivial, hcell⟩
  have hl : 0 < css.flatten.length := by rw [flatN_len h5]; exact Nat.mul_pos hpos hm
  have hz := hcell 0 hl
  rcases Nat.lt_or_ge b W.heap.size with hlt | hge
  · exact hlt
  · unfold World.cell? at hz; simp [Array.getElem?_eq_none hge] at hz
theorem open_rowN {m : Nat} {t e : TypeId} (ht : Tryz.prog.underlying t = some (.slice e)) (hcv : Tryz.prog.cellsOf e = m) (hm : 0 < m) (hR : ∀ c x, R c x → c.length = m) (hmono : ∀ n n' x, n ≤ n' → Pr n x → Pr n' x) (hpos : ∀ n x, Pr n x → 1 ≤ n)
    {fuel : Nat} (ih : ∀ (n : Nat) (cs : List Value) (x : DataW H × List MemPlace), n < fuel → DataW.trod enc Tryz.prog W 0 (fun _ => true) true n e cs = some x → ∃ v, R cs v ∧ Pr (Rows.uptoBulk x.1) v)
    {cs : List Value} {x : DataW H × List MemPlace} (h : DataW.trod enc Tryz.prog W 0 (fun _ => true) true fuel t cs = some x) :
    ∃ A ca css kids, cs = [.slice A kids.length ca] ∧ RR R css kids ∧ kids.length ≤ ca ∧ (A = none → ca = 0) ∧ RdF W TT A css.flatten ∧ (∀ v ∈ kids, Pr (Rows.uptoBulk x.1) v) ∧ kids.length ≤ Rows.uptoBulk x.1 := by
  rcases DataW.trod_slice ht h with ⟨e3, rfl⟩ | ⟨a, len, cap, elems, rest, n', hn, e3, rfl, hb, hl, hmx, hel, hk, _, _⟩
  · exact ⟨none, 0, [], [], by simpa using e3, RR.nil, Nat.le_refl _, fun _ => rfl, RdF.nil, fun v hv => (List.not_mem_nil hv).elim, Nat.zero_le _⟩
  · rw [hcv] at hk
    obtain ⟨css, kids, k1, k2, k3, k4, k5⟩ := kidsN_of (W := W) hmono hpos a elems 0 (fun i hi => by
      have hq := hk i (by omega)
      rw [List.getElem?_eq_getElem hi] at hq
      obtain ⟨c, q1, q2⟩ := Option.bind_eq_some_iff.1 hq
      obtain ⟨v, q3, q4⟩ := ih n' c _ (by omega) q2
      exact ⟨c, v, _, List.getElem?_eq_getElem hi, by rw [Nat.zero_add]; exact q1, q3, q4⟩)
    have hle : Rows.uptoBulkAll (elems.map (·.1)) ≤ Rows.uptoBulk (H := H) (.slice (elems.map (·.1)) (rest.map (·.1))) := by rw [bulk_slice]; omega
    refine ⟨some a, cap, css, kids, ?_, k1, by omega, fun e => by simp at e, rowN_of hm a k1 hR (fun i c e => by have := k3 i c e; rwa [Nat.zero_add] at this), fun v hv => hmono _ _ _ hle (k4 v hv), Nat.le_trans k5 hle⟩
    rw [k2, hel]; exact e3
set_option maxRecDepth 100000 in
/-- an expression that came in -/
theorem open_expr : ∀ (fuel : Nat) (cs : List Value) (x : DataW H × List MemPlace), DataW.trod enc Tryz.prog W 0 (fun _ => true) true fuel 28 cs = some x → ∃ v, ER W TT cs v ∧ locE (Rows.uptoBulk x.1) v := by
  intro fuel
  induction fuel using Nat.strongRecOn with
  | ind fuel ih =>
    intro cs x h
    obtain ⟨xs, n, rfl, rfl, hlen, hxl, hf⟩ := DataW.trod_struct Tryz.underlying28 h
    have ci : Tryz.prog.cellsOf 3 = 1 := by kernel_rfl
    have ct : Tryz.prog.cellsOf 9 = 1 := by kernel_rfl
    have ck : Tryz.prog.cellsOf 26 = 1 := by kernel_rfl
    have cv : Tryz.prog.cellsOf 25 = 5 := by kernel_rfl
    have ce : Tryz.prog.cellsOf 28 = 8 := by kernel_rfl
    rw [ce] at hlen
    have f0 := hf 0 _ rfl
    have f1 := hf 1 _ rfl
    have f2 := hf 2 _ rfl
    have f3 := hf 3 _ rfl
    clear hf
    match xs, hxl, cs, hlen with
    | [y0, y1, y2, y3], _, [c0, c1, c2, c3, c4, c5, c6, c7], _ =>
      simp [ci, ct, ck, cv] at f0 f1 f2 f3
      obtain ⟨k, e0, rfl, w0⟩ := DataW.trod_int Tryz.underlying3 f0
      obtain ⟨v, hv, hi, hb⟩ := open_value n _ _ f1
      obtain ⟨s, e2, rfl, w2⟩ := DataW.trod_string Tryz.underlying9 f2
      obtain ⟨A, ca, css, kids, e3, k1, k2, k3, k4, k5, k6⟩ := open_rowN (R := ER W TT) (Pr := locE) Tryz.underlying26 ce (by decide) (fun c x h => h.len) (fun n n' x h => locE_mono h x) (fun n x h => by cases x; unfold locE at h; exact h.1) (fun n' c y hn hy => ih n' (by omega) c y hy) f3
      obtain rfl : c0 = .int .i64 k := by simpa using e0
      obtain rfl : c6 = .string s := by simpa using e2
      obtain rfl : c7 = .slice A kids.length ca := by simpa using e3
      obtain ⟨ss, rfl⟩ : ∃ ss : List UInt8, s = ⟨ss.toArray⟩ := ⟨s.data.toList, by simp⟩
      refine ⟨.mk k v ss kids, ER.into hv k1 rfl k2 k3 k4, ?_⟩
      simp only [List.map_cons, List.map_nil]
      have e2 : (Lit.string (ByteArray.mk ss.toArray).data.toList) = .string ss := by simp
      have e4 : Rows.uptoBulk (H := H) (.lit (.string ss)) = ss.length + 1 := by unfold Rows.uptoBulk; rfl
      rw [e2]
      have hle : 1 ≤ Rows.uptoBulk (H := H) (.agg [.lit (.int .i64 k), y1.1, .lit (.string ss), y3.1]) ∧ Rows.uptoBulk y1.1 + (ss.length + 1) + Rows.uptoBulk y3.1 ≤ Rows.uptoBulk (H := H) (.agg [.lit (.int .i64 k), y1.1, .lit (.string ss), y3.1]) := by
        simp only [bulk_agg, bulk_cons, bulk_nil, bulk_str]
        constructor <;> omega
      unfold locE
      exact ⟨hle.1, wf_iw w0, hi, by omega, by omega, by omega, locEL_iff.2 fun x hx => locE_mono (by omega) x (k5 x hx)⟩
end
end Go.Proofs.YtgolomgmnanbpaaGreatDoor
namespace Go.Proofs.YtgolomgmnanbpaaGreatDoor
set_option linter.unusedVariables false
set_option linter.unusedSimpArgs false
open Go.RowKit
attribute [local go_sem] run_index_arr run_part_agg run_part_one run_field_agg
theorem letter_any (q : Nat) (w : World) : Calls Tryz.prog 161 #[.int .u8 q] w fun e w' => e = .returned (.bool (decide (97 ≤ q ∧ q ≤ 122))) ∧ w = w' := by
  go_enter Tryz.func161, Tryz.ntmps161
  go_wp2
  all_goals
    go_ret
    exact ⟨ret_bool (by rw [Bool.eq_iff_iff]; simp; try omega), rfl⟩
theorem digit_any (q : Nat) (w : World) : Calls Tryz.prog 162 #[.int .u8 q] w fun e w' => e = .returned (.bool (decide (48 ≤ q ∧ q ≤ 57))) ∧ w = w' := by
  go_enter Tryz.func162, Tryz.ntmps162
  go_wp2
  all_goals
    go_ret
    exact ⟨ret_bool (by rw [Bool.eq_iff_iff]; simp; try omega), rfl⟩
theorem str_of_eq {a b : ByteArray} (h : (a.toList == b.toList) = true) : a = b := by
  have : a.toList = b.toList := by simpa using h
  rw [ByteArray.toList_eq, ByteArray.toList_eq] at this
  exact str_ext this
theorem str_of_ne {a b : ByteArray} (h : (a.toList == b.toList) = false) : a ≠ b := by rintro rfl; simp at h
def wordsL : List (List UInt8) := [[101, 109, 105, 116], [105, 102], [101, 108, 115, 101], [102, 111, 114], [105, 110], [111, 114], [97, 110, 100], [110, 111, 116], [115, 105, 122, 101], [107, 105, 110, 100], [116, 114, 117, 101], [102, 97, 108, 115, 101], [110, 117, 108, 108]]
def wordsV : Value := .agg (wordsL.map fun l => Value.string ⟨l.toArray⟩).toArray
set_option maxRecDepth 100000 in
set_option maxHeartbeats 1000000 in
theorem words_any (w : World) : Calls Tryz.prog 187 #[] w fun e w' => e = .returned wordsV ∧ Below w.heap.size w w' := by
  go_enter Tryz.func187, Tryz.ntmps187
  go_wp2
  go_returns
  exact ⟨rfl, by go_grown⟩
theorem words_at (k : Nat) (h : k < 13) (w : World) : (Instr.index 210 wordsV (.int .i64 (k : Int))).run Tryz.prog w = .ok (.string ⟨(wordsL.getD k []).toArray⟩) w := by
  rcases (by omega : k = 0 ∨ k = 1 ∨ k = 2 ∨ k = 3 ∨ k = 4 ∨ k = 5 ∨ k = 6 ∨ k = 7 ∨ k = 8 ∨ k = 9 ∨ k = 10 ∨ k = 11 ∨ k = 12) with rfl | rfl | rfl | rfl | rfl | rfl | rfl | rfl | rfl | rfl | rfl | rfl | rfl <;> kernel_rfl
def isWord (l : List UInt8) : Bool := decide (l ∈ wordsL)
set_option maxRecDepth 100000 in
set_option maxHeartbeats 1000000 in
theorem Word_any (s : ByteArray) (w : World) : Calls Tryz.prog 163 #[.string s] w fun e w' => e = .returned (.bool (isWord (sl s))) ∧ Below w.heap.size w w' := by
  go_enter Tryz.func163, Tryz.ntmps163
  go_wp2_with (go_at_call 187; refine (words_any _).mono ?_; rintro e w1 ⟨rfl, hb⟩)
  go_loopw [4, 6] (fun _ i wr => ∃ k : Nat, k ≤ 13 ∧ i = .int .i64 k ∧ wr = w1 ∧ ∀ j, j < k → wordsL.getD j [] ≠ sl s) (fun _ i _ => 13 - (intOf i).toNat)
  case atStart => exact ⟨0, by omega, rfl, rfl, by intro j hj; omega⟩
  case round =>
    obtain ⟨k, hk, rfl, rfl, hno⟩ := hrel
    have HN := Lib.hid hno
    clear hno
    by_cases h13 : k < 13
    · have hix := words_at k h13 wr
      obtain ⟨x, hx⟩ : ∃ x : ByteArray, ⟨(wordsL.getD k []).toArray⟩ = x := ⟨_, rfl⟩
      rw [hx] at hix
      have HX := Lib.hid hx
      clear hx
      go_wp2
      · have hq : x = s := str_of_eq ‹(x.toList == s.toList) = true›
        go_ret
        refine ⟨ret_bool ?_, hb⟩
        have : sl s ∈ wordsL := by
          rw [← hq, ← HX.out, sl_mk, List.getD_eq_getElem?_getD, List.getElem?_eq_getElem (show k < wordsL.length from h13)]
          exact List.getElem_mem _
        simp [isWord, this]
      · have hq : x ≠ s := str_of_ne ‹(x.toList == s.toList) = false›
        go_roundw
        case rel =>
          refine ⟨k + 1, by omega, by go_num, trivial, ?_⟩
          intro j hj
          by_cases hjk : j = k
          · rw [hjk]
            intro e
            exact hq (by rw [← HX.out, e])
          · exact HN.out j (by omega)
        case measure => simp [intOf]; omega
    · obtain rfl : k = 13 := by omega
      go_wp2
      go_ret
      refine ⟨ret_bool ?_, hb⟩
      have : sl s ∉ wordsL := fun hm => by
        obtain ⟨j, hj, e⟩ := List.getElem_of_mem hm
        exact HN.out j hj (by rw [List.getD_eq_getElem?_getD, List.getElem?_eq_getElem hj]; exact e)
      simp [isWord, this]
end Go.Proofs.YtgolomgmnanbpaaGreatDoor
namespace Go.Proofs.YtgolomgmnanbpaaGreatDoor
set_option linter.unusedVariables false
set_option linter.unusedSimpArgs false
open Go.RowKit
attribute [local go_sem] run_index_arr run_part_agg run_part_one run_field_agg
def isLetter (c : UInt8) : Bool := decide (97 ≤ c.toNat ∧ c.toNat ≤ 122)
def nameFrom : Nat → List UInt8 → Bool
  | _, [] => true
  | i, c :: r => (isLetter c || (decide (0 < i) && isDig c)) && nameFrom (i + 1) r
def isName (s : ByteArray) : Bool := nameFrom 0 (sl s) && (decide (1 ≤ s.size ∧ s.size ≤ 12) && !isWord (sl s))
theorem bel_iter (w : World) (s : ByteArray) (p : Nat) : Below w.heap.size w (w.iter s p) := (Below.refl _ w).alloc (Nat.le_refl _) _
set_option maxRecDepth 100000 in
set_option maxHeartbeats 1000000 in
theorem Name_any (s : ByteArray) (w : World) : Calls Tryz.prog 120 #[.string s] w fun e w' => e = .returned (.bool (isName s)) ∧ Below w.heap.size w w' := by
  go_enter Tryz.func120, Tryz.ntmps120
  go_wp2
  go_loopw [3] (fun _ wr => ∃ pos : Nat, wr = w.iter s pos ∧ pos ≤ s.size ∧ nameFrom 0 (sl s) = nameFrom pos ((sl s).drop pos)) (fun _ wr => s.size - wr.iterPos w.heap.size)
  case atStart => exact ⟨0, rfl, by omega, by simp⟩
  case round =>
    obtain ⟨pos, rfl, hp, hn⟩ := hrel
    by_cases hlt : pos < s.size
    · have hnext := fun ty => run_next_any (P := Tryz.prog) w s pos ty hlt
      have hd : (sl s).drop pos = s[pos] :: (sl s).drop (pos + 1) := List.drop_eq_getElem_cons (by rw [sl_len]; exact hlt)
      rw [hd] at hn
      obtain ⟨c, hc⟩ : ∃ c, s[pos] = c := ⟨_, rfl⟩
      by_cases hhi : 128 ≤ c.toNat
      · have h1 := (decode_high s pos hlt (by rw [hc]; exact hhi)).1
        obtain ⟨⟨r, k⟩, hr⟩ : ∃ r, Utf8.decode s pos = r := ⟨_, rfl⟩
        rw [hr] at hnext h1
        have HF := Lib.hid (show nameFrom 0 (sl s) = false by
          rw [hn, hc, nameFrom]
          have e1 : isLetter c = false := by simp [isLetter]; omega
          have e2 : isDig c = false := by simp [isDig]; omega
          rw [e1, e2]; simp)
        clear hn hd hc hr
        obtain ⟨x, hx⟩ : ∃ x : Int, (r : Int) = x := ⟨_, rfl⟩
        rw [hx] at hnext
        have h2 : 128 ≤ x := by omega
        clear hx
        go_wp2
        go_ret
        exact ⟨ret_bool (by rw [isName, HF.out]; rfl), bel_iter w s _⟩
      · have h1 := decode_ascii s pos hlt (by rw [hc]; omega)
        rw [hc] at h1
        rw [h1] at hnext
        obtain ⟨b1, hb1⟩ : ∃ b, isLetter c = b := ⟨_, rfl⟩
        obtain ⟨b2, hb2⟩ : ∃ b, isDig c = b := ⟨_, rfl⟩
        have hl := fun w => letter_any c.toNat w
        have hg := fun w => digit_any c.toNat w
        rw [show decide (97 ≤ c.toNat ∧ c.toNat ≤ 122) = b1 from hb1] at hl
        rw [show decide (48 ≤ c.toNat ∧ c.toNat ≤ 57) = b2 from hb2] at hg
        have HL := Lib.hid hl
        have HG := Lib.hid hg
        have hnf : nameFrom 0 (sl s) = ((b1 || (decide (0 < pos) && b2)) && nameFrom (pos + 1) ((sl s).drop (pos + 1))) := by rw [hn, hc, nameFrom, hb1, hb2]
        have HF := Lib.hid hnf
        clear hn hd hc h1 hl hg hnf hb1 hb2
        have hc128 : c.toNat < 128 := by omega
        clear hhi
        obtain ⟨q, hq⟩ : ∃ q, c.toNat = q := ⟨_, rfl⟩
        rw [hq] at hnext hc128 HL HG
        clear hq
        cases b1
        · by_cases h0 : pos = 0
          · subst h0
            go_wp2_with (first | (go_at_call 161; refine (HL.out _).mono ?_; rintro e w1 ⟨rfl, rfl⟩) | (go_at_call 162; refine (HG.out _).mono ?_; rintro e w1 ⟨rfl, rfl⟩))
            go_ret
            exact ⟨ret_bool (by rw [isName, HF.out]; rfl), bel_iter w s _⟩
          · have hp0 : ((pos : Int) == 0) = false := by simp; omega
            cases b2
            · go_wp2_with (first | (go_at_call 161; refine (HL.out _).mono ?_; rintro e w1 ⟨rfl, rfl⟩) | (go_at_call 162; refine (HG.out _).mono ?_; rintro e w1 ⟨rfl, rfl⟩))
              go_ret
              exact ⟨ret_bool (by rw [isName, HF.out]; simp), bel_iter w s _⟩
            · go_wp2_with (first | (go_at_call 161; refine (HL.out _).mono ?_; rintro e w1 ⟨rfl, rfl⟩) | (go_at_call 162; refine (HG.out _).mono ?_; rintro e w1 ⟨rfl, rfl⟩))
              go_roundw
              case rel => exact ⟨pos + 1, rfl, hlt, by rw [HF.out]; simp; omega⟩
              case measure => simp; omega
        · go_wp2_with (first | (go_at_call 161; refine (HL.out _).mono ?_; rintro e w1 ⟨rfl, rfl⟩) | (go_at_call 162; refine (HG.out _).mono ?_; rintro e w1 ⟨rfl, rfl⟩))
          go_roundw
          case rel => exact ⟨pos + 1, rfl, hlt, by rw [HF.out]; simp⟩
          case measure => simp; omega
    · obtain rfl : pos = s.size := by omega
      have hnext := fun ty => run_next_end (P := Tryz.prog) w s s.size ty hlt
      have hnf : nameFrom 0 (sl s) = true := by rw [hn, List.drop_eq_nil_of_le (by rw [sl_len]; exact Nat.le_refl _), nameFrom]
      have HF := Lib.hid hnf
      clear hn hnf
      obtain ⟨b, hb⟩ : ∃ b, isWord (sl s) = b := ⟨_, rfl⟩
      have hw := fun w => Word_any s w
      rw [hb] at hw
      have HW := Lib.hid hw
      have HB := Lib.hid hb
      clear hw hb
      go_wp2_with (go_at_call 163; refine (HW.out _).mono ?_; rintro e w1 ⟨rfl, hb1⟩)
      · go_ret
        refine ⟨ret_bool ?_, (bel_iter w s _).trans (hb1.mono (by simp [World.iter]))⟩
        have h1 : 1 ≤ (s.size : Int) := by assumption
        have h2 : (s.size : Int) ≤ 12 := by assumption
        rw [isName, HF.out, HB.out, decide_eq_true (show 1 ≤ s.size ∧ s.size ≤ 12 by omega)]; rfl
      · go_ret
        have h2 : 12 < (s.size : Int) := by assumption
        exact ⟨ret_bool (by rw [isName, HF.out, decide_eq_false (show ¬ (1 ≤ s.size ∧ s.size ≤ 12) by omega)]; rfl), bel_iter w s _⟩
      · go_ret
        have h2 : (s.size : Int) < 1 := by assumption
        exact ⟨ret_bool (by rw [isName, HF.out, decide_eq_false (show ¬ (1 ≤ s.size ∧ s.size ≤ 12) by omega)]; rfl), bel_iter w s _⟩
end Go.Proofs.YtgolomgmnanbpaaGreatDoor
namespace Go.Proofs.YtgolomgmnanbpaaGreatDoor
set_option linter.unusedVariables false
set_option linter.unusedSimpArgs false
open Go.RowKit
def sgnI (n : Int) : Int := if n < 0 then -1 else if 0 < n then 1 else 0
def lexI (a b : Int) : Int := if a = 0 then b else a
def cmpB (s t : List UInt8) : Int := if s = t then 0 else if ltB s t = true then -1 else 1
def cmpN (a b : Int) : Int := sgnI (a - b)
def rankJ : JV → Int
  | .mk k n _ _ _ => if k = 1 then 0 else if k = 2 then (if n = 1 then 2 else 1) else k
mutual
def cmpJ : JV → JV → Int
  | .mk k n s kids keys, b =>
    if rankJ (.mk k n s kids keys) ≠ rankJ b then sgnI (rankJ (.mk k n s kids keys) - rankJ b)
    else if k = 3 then cmpN n b.num
    else if k = 4 then cmpB s b.txt
    else cmpL (decide (k = 6)) kids keys b.kids b.keys
def cmpL : Bool → List JV → List (List UInt8) → List JV → List (List UInt8) → Int
  | o, x :: r, ks, y :: r', ks' => lexI (if o = true then cmpB (ks.headD []) (ks'.headD []) else 0) (lexI (cmpJ x y) (cmpL o r ks.tail r' ks'.tail))
  | _, [], _, [], _ => 0
  | _, [], _, _ :: _, _ => -1
  | _, _ :: _, _, [], _ => 1
end
def keyC (o : Bool) (ks ks' : List (List UInt8)) : Int := if o = true then cmpB (ks.headD []) (ks'.headD []) else 0
theorem cmpL_cons (o : Bool) (x : JV) (r : List JV) (ks : List (List UInt8)) (y : JV) (r' : List JV) (ks' : List (List UInt8)) :
    cmpL o (x :: r) ks (y :: r') ks' = lexI (keyC o ks ks') (lexI (cmpJ x y) (cmpL o r ks.tail r' ks'.tail)) := by
  rw [cmpL]; rfl
theorem cmpL_nn (o : Bool) (ks ks' : List (List UInt8)) : cmpL o [] ks [] ks' = 0 := by rw [cmpL]
theorem cmpL_nc (o : Bool) (ks : List (List UInt8)) (y : JV) (r' : List JV) (ks' : List (List UInt8)) : cmpL o [] ks (y :: r') ks' = -1 := by rw [cmpL]
theorem cmpL_cn (o : Bool) (x : JV) (r : List JV) (ks ks' : List (List UInt8)) : cmpL o (x :: r) ks [] ks' = 1 := by rw [cmpL]
theorem goodJ_out {d : Nat} {k n : Int} {s : List UInt8} {kids : List JV} {keys : List (List UInt8)} (h : goodJ d (.mk k n s kids keys) = true) : goodA k n s kids.length keys = true ∧ (5 ≤ k → d ≠ 0) ∧ goodL (d - 1) kids = true := by
  unfold goodJ at h
  simp only [Bool.and_eq_true, decide_eq_true_eq] at h
  exact ⟨h.1, h.2.1, h.2.2⟩
theorem rank_of {k n : Int} {s : List UInt8} {kids : List JV} {keys : List (List UInt8)} (h : 1 ≤ k ∧ k ≤ 6) :
    (k = 1 ∧ rankJ (.mk k n s kids keys) = 0) ∨ (k = 2 ∧ n = 1 ∧ rankJ (.mk k n s kids keys) = 2) ∨ (k = 2 ∧ n ≠ 1 ∧ rankJ (.mk k n s kids keys) = 1) ∨ (3 ≤ k ∧ rankJ (.mk k n s kids keys) = k) := by
  rw [rankJ]
  by_cases h1 : k = 1
  · rw [if_pos h1]; exact .inl ⟨h1, rfl⟩
  rw [if_neg h1]
  by_cases h2 : k = 2
  · rw [if_pos h2]
    by_cases h3 : n = 1
    · rw [if_pos h3]; exact .inr (.inl ⟨h2, h3, rfl⟩)
    · rw [if_neg h3]; exact .inr (.inr (.inl ⟨h2, h3, rfl⟩))
  · rw [if_neg h2]; exact .inr (.inr (.inr ⟨by omega, rfl⟩))
theorem rank_same {k n k' n' : Int} {s s' : List UInt8} {kids kids' : List JV} {keys keys' : List (List UInt8)} (h : goodA k n s kids.length keys = true) (h' : goodA k' n' s' kids'.length keys' = true)
    (hr : rankJ (.mk k n s kids keys) = rankJ (.mk k' n' s' kids' keys')) : k = k' ∧ (k ≠ 3 → n = n') ∧ (k ≠ 4 → s = s') := by
  have h1 := goodA_kind h
  have h2 := goodA_kind h'
  have hk : k = k' := by
    have r1 := rank_of (n := n) (s := s) (kids := kids) (keys := keys) h1
    have r2 := rank_of (n := n') (s := s') (kids := kids') (keys := keys') h2
    omega
  subst hk
  refine ⟨rfl, ?_⟩
  have hk7 : k = 1 ∨ k = 2 ∨ k = 3 ∨ k = 4 ∨ k = 5 ∨ k = 6 := by omega
  rcases hk7 with rfl | rfl | rfl | rfl | rfl | rfl <;> simp [goodA] at h h' <;> refine ⟨fun _ => ?_, fun _ => ?_⟩ <;> simp_all
  unfold rankJ at hr
  simp at hr
  rcases h.1.1.1 with rfl | rfl <;> rcases h'.1.1.1 with rfl | rfl <;> simp_all
theorem keyed {k n : Int} {s : List UInt8} {nk : Nat} {keys : List (List UInt8)} (h : goodA k n s nk keys = true) : (k = 6 → keys.length = nk) ∧ (k ≠ 6 → keys = []) := by
  have h1 := goodA_kind h
  refine ⟨fun e => ?_, fun e => ?_⟩
  · subst e; exact (goodA_obj h).2.2.1.symm
  · rcases Int.lt_or_le k 5 with h2 | h2
    · exact (goodA_leaf h h2).2
    · obtain rfl : k = 5 := by omega
      exact (goodA_list h).2.2
end Go.Proofs.YtgolomgmnanbpaaGreatDoor
namespace Go.Proofs.YtgolomgmnanbpaaGreatDoor
set_option linter.unusedVariables false
set_option linter.unusedSimpArgs false
open Go.RowKit
def gd (v : JV) : Prop := good v = true
theorem gd.j {v : JV} (h : gd v) : goodJ 8 v = true := by unfold gd good at h; rw [Bool.and_eq_true] at h; exact h.1
end Go.Proofs.YtgolomgmnanbpaaGreatDoor
namespace Go.Proofs.YtgolomgmnanbpaaGreatDoor
set_option linter.unusedVariables false
set_option linter.unusedSimpArgs false
open Go.RowKit
end Go.Proofs.YtgolomgmnanbpaaGreatDoor
namespace Go.Proofs.YtgolomgmnanbpaaGreatDoor
set_option linter.unusedVariables false
set_option linter.unusedSimpArgs false
open Go.RowKit
def natF : Nat → Nat → List UInt8
  | 0, _ => []
  | f + 1, n => if n < 10 then [UInt8.ofNat (48 + n)] else natF f (n / 10) ++ [UInt8.ofNat (48 + n % 10)]
def natD (n : Nat) : List UInt8 := natF (n + 1) n
theorem natF_same : ∀ (f g n : Nat), n < f → n < g → natF f n = natF g n
  | 0, _, _, h, _ => by omega
  | _ + 1, 0, _, _, h => by omega
  | f + 1, g + 1, n, h, h' => by
    unfold natF
    split
    · rfl
    · rw [natF_same f g (n / 10) (by omega) (by omega)]
theorem natD_small {n : Nat} (h : n < 10) : natD n = [UInt8.ofNat (48 + n)] := by unfold natD natF; rw [if_pos h]
theorem natD_step {n : Nat} (h : 10 ≤ n) : natD n = natD (n / 10) ++ [UInt8.ofNat (48 + n % 10)] := by
  unfold natD
  rw [natF, if_neg (by omega), natF_same n (n / 10 + 1) (n / 10) (by omega) (by omega)]
def numT (n : Int) : List UInt8 := if n < 0 then 45 :: natD n.natAbs else natD n.natAbs
def escOf (c : Nat) : Option Nat :=
  if c = 34 then some 34 else if c = 92 then some 92 else if c = 8 then some 98 else if c = 12 then some 102 else if c = 10 then some 110 else if c = 13 then some 114 else if c = 9 then some 116 else none
def hexD (n : Nat) : Nat := if n < 10 then 48 + n else 87 + n
def qSignT (c : Nat) : List UInt8 :=
  match escOf c with
  | some s => [92, UInt8.ofNat s]
  | none => if c < 32 then [92, 117, 48, 48, UInt8.ofNat (48 + c / 16), UInt8.ofNat (hexD (c % 16))] else cpBytes c
def cpsF : Nat → List UInt8 → List Nat
  | _, [] => []
  | 0, _ :: _ => []
  | f + 1, c :: r => if (cpBegin (c :: r)).2 = 0 then [] else (cpBegin (c :: r)).1 :: cpsF f ((c :: r).drop (cpBegin (c :: r)).2)
def cpsOf (l : List UInt8) : List Nat := cpsF l.length l
def quoT (l : List UInt8) : List UInt8 := 34 :: (cpsOf l).flatMap qSignT ++ [34]
mutual
def canJ : JV → List UInt8
  | .mk k n s kids keys =>
    if k = 1 then nullT else if k = 2 then (if n = 1 then trueT else falseT) else if k = 3 then numT n else if k = 4 then quoT s
    else if k = 6 then 123 :: canL true true kids keys ++ [125] else 91 :: canL false true kids [] ++ [93]
def canL : Bool → Bool → List JV → List (List UInt8) → List UInt8
  | _, _, [], _ => []
  | o, f, x :: r, keys => (if f then [] else [44]) ++ ((if o then quoT (keys.headD []) ++ [58] else []) ++ (canJ x ++ canL o false r keys.tail))
end
theorem cpsF_same : ∀ (f g : Nat) (l : List UInt8), l.length ≤ f → l.length ≤ g → cpsF f l = cpsF g l
  | f, g, [], _, _ => by cases f <;> cases g <;> rfl
  | 0, _, _ :: _, h, _ => by simp at h
  | _ + 1, 0, _ :: _, _, h => by simp at h
  | f + 1, g + 1, c :: r, h, h' => by
    unfold cpsF
    split
    · rfl
    · rename_i hn
      rw [cpsF_same f g _ ?_ ?_] <;> · rw [List.length_drop, List.length_cons] at *; omega
theorem cpsOf_nil : cpsOf [] = [] := rfl
theorem cpsOf_step {l : List UInt8} (h : l ≠ []) : cpsOf l = if (cpBegin l).2 = 0 then [] else (cpBegin l).1 :: cpsOf (l.drop (cpBegin l).2) := by
  cases l with
  | nil => exact absurd rfl h
  | cons c r =>
    show cpsF (r.length + 1) (c :: r) = _
    unfold cpsF
    split
    · rfl
    · rename_i hn
      rw [cpsOf, cpsF_same _ _ _ ?_ (Nat.le_refl _)]; rw [List.length_drop, List.length_cons]; omega
theorem cpOk_what {l : List UInt8} {n : Nat} (h : cpOk l n = true) : isCp (cpNum l n : Int) = true ∧ l.take n = cpBytes (cpNum l n) := by
  have h1 := (cpOk_iff _ _).1 h
  exact ⟨(isCp_iff _).2 h1.2.1, h1.2.2.symm⟩
theorem cpBegin_what {l : List UInt8} (h : (cpBegin l).2 ≠ 0) : isCp ((cpBegin l).1 : Int) = true ∧ l.take (cpBegin l).2 = cpBytes (cpBegin l).1 := by
  by_cases h1 : cpOk l 1 = true
  · rw [begin_1 h1]; exact cpOk_what h1
  · have f1 : cpOk l 1 = false := by simpa using h1
    by_cases h2 : cpOk l 2 = true
    · rw [begin_2 f1 h2]; exact cpOk_what h2
    · have f2 : cpOk l 2 = false := by simpa using h2
      by_cases h3 : cpOk l 3 = true
      · rw [begin_3 f1 f2 h3]; exact cpOk_what h3
      · have f3 : cpOk l 3 = false := by simpa using h3
        by_cases h4 : cpOk l 4 = true
        · rw [begin_4 f1 f2 f3 h4]; exact cpOk_what h4
        · rw [begin_0 f1 f2 f3 (by simpa using h4)] at h; exact absurd rfl h
theorem txtOk_is : ∀ (f : Nat) (l : List UInt8), l.length ≤ f → txtOk l = true → (∀ c ∈ cpsOf l, isCp (c : Int) = true) ∧ l = (cpsOf l).flatMap cpBytes
  | _, [], _, _ => ⟨by simp [cpsOf_nil], rfl⟩
  | 0, _ :: _, h, _ => by simp at h
  | f + 1, c :: r, h, ht => by
    have hne : c :: r ≠ [] := by simp
    rw [txtOk_step hne] at ht
    by_cases h0 : (cpBegin (c :: r)).2 = 0
    · rw [if_pos h0] at ht; cases ht
    · rw [if_neg h0] at ht
      obtain ⟨h1, h2⟩ := txtOk_is f _ (by rw [List.length_drop, List.length_cons]; rw [List.length_cons] at h; omega) ht
      obtain ⟨k1, k2⟩ := cpBegin_what h0
      rw [cpsOf_step hne, if_neg h0]
      refine ⟨fun x hx => ?_, ?_⟩
      · rcases List.mem_cons.1 hx with rfl | hx
        · exact k1
        · exact h1 x hx
      · rw [List.flatMap_cons, ← k2, ← h2, List.take_append_drop]
theorem txtOk_cpsOf {l : List UInt8} (h : txtOk l = true) : (∀ c ∈ cpsOf l, isCp (c : Int) = true) ∧ l = (cpsOf l).flatMap cpBytes := txtOk_is _ l (Nat.le_refl _) h
end Go.Proofs.YtgolomgmnanbpaaGreatDoor
namespace Go.Proofs.YtgolomgmnanbpaaGreatDoor
set_option linter.unusedVariables false
set_option linter.unusedSimpArgs false
open Go.RowKit
theorem ba_get {s : ByteArray} {p k : Nat} {b : UInt8} {u : List UInt8} (h : s.data.toList.drop p = u) (hb : u[k]? = some b) : s.get! (p + k) = b ∧ p + k < s.size := by
  have h1 : s.data.toList[p + k]? = some b := by rw [← hb, ← h, List.getElem?_drop]
  obtain ⟨hlt, he⟩ := List.getElem?_eq_some_iff.1 h1
  have hs : p + k < s.size := by rw [Array.length_toList] at hlt; exact hlt
  refine ⟨?_, hs⟩
  show s.get! (p + k) = b
  have : s.get! (p + k) = s[p + k] := by
    simp [ByteArray.get!, getElem!_pos, hs]
    rfl
  rw [this, ← he]
  rfl
theorem decode_cp {s : ByteArray} {p c : Nat} {r : List UInt8} (hc : isCp (c : Int) = true) (h : s.data.toList.drop p = cpBytes c ++ r) : Utf8.decode s p = (c, (cpBytes c).length) := by
  have hle := (isCp_iff c).1 hc
  unfold cpBytes at h ⊢
  by_cases h1 : c < 128
  · rw [if_pos h1] at h ⊢
    obtain ⟨g0, s0⟩ := ba_get (k := 0) h (by rfl)
    have e0 := oN8 c (by omega)
    unfold Utf8.decode
    simp only [g0, e0]
    rw [if_pos h1]; rfl
  rw [if_neg h1] at h ⊢
  by_cases h2 : c < 2048
  · rw [if_pos h2] at h ⊢
    obtain ⟨g0, s0⟩ := ba_get (k := 0) h (by rfl)
    obtain ⟨g1, s1⟩ := ba_get (k := 1) h (by rfl)
    have e0 := oN8 (192 + c / 64) (by omega)
    have e1 := oN8 (128 + c % 64) (by omega)
    unfold Utf8.decode
    simp only [g0, g1, e0, e1]
    rw [if_neg (by omega), if_pos (by simp [s1]; omega), if_pos (by omega)]
    simp; omega
  rw [if_neg h2] at h ⊢
  by_cases h3 : c < 65536
  · rw [if_pos h3] at h ⊢
    obtain ⟨g0, s0⟩ := ba_get (k := 0) h (by rfl)
    obtain ⟨g1, s1⟩ := ba_get (k := 1) h (by rfl)
    obtain ⟨g2, s2⟩ := ba_get (k := 2) h (by rfl)
    have e0 := oN8 (224 + c / 4096) (by omega)
    have e1 := oN8 (128 + c / 64 % 64) (by omega)
    have e2 := oN8 (128 + c % 64) (by omega)
    have hn : (224 + c / 4096) % 16 * 4096 + (128 + c / 64 % 64) % 64 * 64 + (128 + c % 64) % 64 = c := by omega
    unfold Utf8.decode
    simp only [g0, g1, g2, e0, e1, e2]
    rw [if_neg (by omega), if_neg (by simp; omega), if_pos (by simp [s1, s2]; omega), hn, if_pos (by simp [Utf8.valid]; omega)]
    simp
  · rw [if_neg h3] at h ⊢
    obtain ⟨g0, s0⟩ := ba_get (k := 0) h (by rfl)
    obtain ⟨g1, s1⟩ := ba_get (k := 1) h (by rfl)
    obtain ⟨g2, s2⟩ := ba_get (k := 2) h (by rfl)
    obtain ⟨g3, s3⟩ := ba_get (k := 3) h (by rfl)
    have e0 := oN8 (240 + c / 262144) (by omega)
    have e1 := oN8 (128 + c / 4096 % 64) (by omega)
    have e2 := oN8 (128 + c / 64 % 64) (by omega)
    have e3 := oN8 (128 + c % 64) (by omega)
    have hn : (240 + c / 262144) % 8 * 262144 + (128 + c / 4096 % 64) % 64 * 4096 + (128 + c / 64 % 64) % 64 * 64 + (128 + c % 64) % 64 = c := by omega
    unfold Utf8.decode
    simp only [g0, g1, g2, g3, e0, e1, e2, e3]
    rw [if_neg (by omega), if_neg (by simp; omega), if_neg (by simp; omega), if_pos (by simp [s1, s2, s3]; omega), hn, if_pos (by simp [Utf8.valid]; omega)]
    simp
theorem encode_cp {c : Nat} (hc : isCp (c : Int) = true) : Utf8.encode (c : Int) = ⟨(cpBytes c).toArray⟩ := by
  have hle := (isCp_iff c).1 hc
  have hv : Utf8.valid (c : Int) = true := by simp [Utf8.valid]; omega
  unfold Utf8.encode cpBytes
  simp only [hv, if_true, Int.toNat_natCast]
  by_cases h1 : c < 128
  · rw [if_pos h1, if_pos h1]
  rw [if_neg h1, if_neg h1]
  by_cases h2 : c < 2048
  · rw [if_pos h2, if_pos h2]
  rw [if_neg h2, if_neg h2]
  by_cases h3 : c < 65536
  · rw [if_pos h3, if_pos h3]
  · rw [if_neg h3, if_neg h3]
end Go.Proofs.YtgolomgmnanbpaaGreatDoor
namespace Go.Proofs.YtgolomgmnanbpaaGreatDoor
set_option linter.unusedVariables false
set_option linter.unusedSimpArgs false
open Go.RowKit
variable {l : List UInt8}
theorem natF_ne : ∀ (f n : Nat), n < f → natF f n ≠ []
  | 0, _, h => by omega
  | f + 1, n, h => by unfold natF; split <;> simp
theorem natD_ne (n : Nat) : natD n ≠ [] := natF_ne _ _ (by omega)
end Go.Proofs.YtgolomgmnanbpaaGreatDoor
namespace Go.Proofs.YtgolomgmnanbpaaGreatDoor
set_option linter.unusedVariables false
set_option linter.unusedSimpArgs false
def litOk (v : JV) : Bool := good v && (decide (v.kind = 3 ∧ 0 ≤ v.num) || decide (v.kind = 1 ∨ v.kind = 2 ∨ v.kind = 4))
def zeroJ : JV → Bool | .mk k n s kids keys => decide (k = 0 ∧ n = 0 ∧ s = [] ∧ kids.length + keys.length = 0)
def nameOk (s : List UInt8) : Bool := isName ⟨s.toArray⟩
def okX (k : Int) (v : JV) (s : List UInt8) (nk : Nat) : Bool :=
  if k = 1 then litOk v && decide (s = [] ∧ nk = 0)
  else if zeroJ v = false then false
  else if k = 2 then nameOk s && decide (nk = 0)
  else if k = 3 then nameOk s && decide (nk = 1)
  else if k = 4 then decide (s = [])
  else if 5 ≤ k ∧ k ≤ 7 then decide (s = [] ∧ nk = 1)
  else if 8 ≤ k ∧ k ≤ 15 then decide (s = [] ∧ nk = 2)
  else false
mutual
/-- how deep an expression is that may be, within so many levels; 0: it may not be -/
def deepE : Nat → EJ → Nat
  | room, .mk k v s kids => if room = 0 then 0 else if okX k v s kids.length = true then (match deepL (room - 1) kids with | none => 0 | some m => m + 1) else 0
def deepL : Nat → List EJ → Option Nat
  | _, [] => some 0
  | room, x :: r => if deepE room x = 0 then none else match deepL room r with | none => none | some m => some (max (deepE room x) m)
end
def fitE (x : EJ) : Prop := deepE 12 x ≠ 0
instance (x : EJ) : Decidable (fitE x) := by unfold fitE; infer_instance
def blankE : EJ → Bool | .mk k v s kids => decide (k = 0 ∧ s = [] ∧ kids.length = 0) && zeroJ v
mutual
/-- may a statement be, within so many levels? -/
def mayS : Nat → SJ → Bool
  | room, .mk k s a b body els => decide (room ≠ 0) && (decide (fitE a) &&
      (if k = 1 then decide (fitE b) && decide (s = [] ∧ body.length + els.length = 0)
       else if k = 2 then blankE b && (decide (s = []) && (mayL (room - 1) body && mayL (room - 1) els))
       else if k = 3 then blankE b && (nameOk s && (mayL (room - 1) body && decide (els.length = 0)))
       else false))
def mayL : Nat → List SJ → Bool
  | _, [] => true
  | room, x :: r => mayS room x && mayL room r
end
def mayP (l : List SJ) : Bool := mayL 12 l
theorem mayL_iff {d : Nat} : ∀ {xs : List SJ}, mayL d xs = true ↔ ∀ x ∈ xs, mayS d x = true
  | [] => by simp [mayL]
  | x :: r => by simp [mayL, mayL_iff (xs := r)]
theorem deepL_cons {r : Nat} {x : EJ} {l : List EJ} : deepL r (x :: l) ≠ none ↔ deepE r x ≠ 0 ∧ deepL r l ≠ none := by
  rw [deepL]
  by_cases h : deepE r x = 0
  · rw [if_pos h]; simp [h]
  · rw [if_neg h]
    cases hd : deepL r l <;> simp [h]
theorem deepL_iff {r : Nat} : ∀ {l : List EJ}, deepL r l ≠ none ↔ ∀ x ∈ l, deepE r x ≠ 0
  | [] => by simp [deepL]
  | x :: l => by rw [deepL_cons, deepL_iff (l := l)]; simp
theorem deepE_out {r : Nat} {k : Int} {v : JV} {s : List UInt8} {kids : List EJ} (h : deepE r (.mk k v s kids) ≠ 0) : r ≠ 0 ∧ okX k v s kids.length = true ∧ ∀ x ∈ kids, deepE (r - 1) x ≠ 0 := by
  unfold deepE at h
  by_cases h0 : r = 0
  · rw [if_pos h0] at h; exact absurd rfl h
  · rw [if_neg h0] at h
    by_cases h1 : okX k v s kids.length = true
    · rw [if_pos h1] at h
      refine ⟨h0, h1, deepL_iff.1 fun e => ?_⟩
      rw [e] at h; exact h rfl
    · rw [if_neg h1] at h; exact absurd rfl h
theorem okX_kind {k : Int} {v : JV} {s : List UInt8} {nk : Nat} (h : okX k v s nk = true) : 1 ≤ k ∧ k ≤ 15 ∧ (k = 1 → litOk v = true) ∧ (k = 3 ∨ 5 ≤ k ∧ k ≤ 7 → nk = 1) ∧ (8 ≤ k → nk = 2) := by
  unfold okX at h
  split at h
  · rename_i h1; rw [Bool.and_eq_true] at h; exact ⟨by omega, by omega, fun _ => h.1, by omega, by omega⟩
  · split at h
    · cases h
    · split at h
      · exact ⟨by omega, by omega, by omega, by omega, by omega⟩
      · split at h
        · rw [Bool.and_eq_true, decide_eq_true_eq] at h; exact ⟨by omega, by omega, by omega, fun _ => h.2, by omega⟩
        · split at h
          · exact ⟨by omega, by omega, by omega, by omega, by omega⟩
          · split at h
            · rw [decide_eq_true_eq] at h; exact ⟨by omega, by omega, by omega, fun _ => h.2, by omega⟩
            · split at h
              · rw [decide_eq_true_eq] at h; exact ⟨by omega, by omega, by omega, by omega, fun _ => h.2⟩
              · cases h
def lookJ : List (List UInt8 × JV) → List UInt8 → Option JV
  | [], _ => none
  | (s, v) :: r, t => match lookJ r t with | some u => some u | none => if s = t then some v else none
def jBool (b : Bool) : JV := .mk 2 (if b = true then 1 else 0) [] [] []
def jNum (n : Int) : JV := .mk 3 n [] [] []
def jText (s : List UInt8) : JV := .mk 4 0 s [] []
def jArr (l : List JV) : JV := .mk 5 0 [] l []
def isB : Option JV → Option Bool | some v => if v.kind = 2 then some (decide (v.num = 1)) else none | none => none
def getJ (v : JV) (key : List UInt8) : Option JV := if v.kind = 6 then (match v.keys.idxOf? key with | some i => v.kids[i]? | none => none) else none
def kindT (k : Int) : List UInt8 :=
  if k = 1 then [110, 117, 108, 108] else if k = 2 then [98, 111, 111, 108] else if k = 3 then [105, 110, 116] else if k = 4 then [116, 101, 120, 116] else if k = 5 then [108, 105, 115, 116] else [111, 98, 106, 101, 99, 116]
def ptsN : Nat → List UInt8 → Nat
  | _, [] => 0
  | 0, _ :: _ => 0
  | f + 1, c :: r => ptsN f ((c :: r).drop (max 1 (cpBegin (c :: r)).2)) + 1
def ptsJ (l : List UInt8) : Nat := ptsN l.length l
def sizeJ (v : JV) : Option JV := if v.kind = 4 then some (jNum (ptsJ v.txt)) else if 5 ≤ v.kind then some (jNum v.kids.length) else none
def numR (n : Int) : Option JV := if -9223372036854775808 ≤ n ∧ n ≤ 9223372036854775807 then some (jNum n) else none
def numO (k a b : Int) : Option JV := numR (if k = 8 then a * b else if k = 9 then a + b else a - b)
def ordO (k c : Int) : JV := jBool (if k = 11 then decide (c = 0) else if k = 12 then decide (c < 0) else decide (c ≤ 0))
def allS : List (Option JV) → Option (List JV)
  | [] => some []
  | none :: _ => none
  | some v :: r => match allS r with | none => none | some l => some (v :: l)
def combJ (env : List (List UInt8 × JV)) (k : Int) (v : JV) (s : List UInt8) (l : List (Option JV)) : Option JV :=
  if k = 1 then some v
  else if k = 2 then lookJ env s
  else if k = 4 then (match allS l with | some xs => if good (jArr xs) = true then some (jArr xs) else none | none => none)
  else match l.headD none with
    | none => none
    | some a =>
      if k = 3 then getJ a s
      else if k = 5 then (isB (some a)).map fun b => jBool (!b)
      else if k = 6 then sizeJ a
      else if k = 7 then some (jText (kindT a.kind))
      else if k = 14 ∨ k = 15 then (match isB (some a) with
        | none => none
        | some t => if t = decide (k = 15) then some (jBool t) else (isB (l.tail.headD none)).map jBool)
      else match l.tail.headD none with
        | none => none
        | some b => if 11 ≤ k then some (ordO k (cmpJ a b)) else if a.kind = 3 ∧ b.kind = 3 then numO k a.num b.num else none
mutual
/-- what an expression is -/
def evE (env : List (List UInt8 × JV)) : EJ → Option JV | .mk k v s kids => combJ env k v s (evL env kids)
def evL (env : List (List UInt8 × JV)) : List EJ → List (Option JV) | [] => [] | x :: r => evE env x :: evL env r
end
theorem evL_map (env : List (List UInt8 × JV)) : ∀ l : List EJ, evL env l = l.map (evE env)
  | [] => rfl
  | x :: r => by unfold evL; rw [evL_map env r, List.map_cons]
def codeT (s : List UInt8) : List UInt8 := 5 :: ((s.flatMap fun c => if c = 0 then [0, 255] else [c]) ++ [0, 0])
def codeN (n : Int) : List UInt8 :=
  let m := (n + 9223372036854775808).toNat
  4 :: [56, 48, 40, 32, 24, 16, 8, 0].map fun by_ => UInt8.ofNat (m / 2 ^ by_)
mutual
/-- a value's code -/
def codeJ : JV → List UInt8
  | .mk k n s kids keys =>
    if k = 1 then [1] else if k = 2 then [if n = 1 then 3 else 2] else if k = 3 then codeN n else if k = 4 then codeT s
    else if k = 6 then 7 :: (codeL true kids keys ++ [0]) else 6 :: (codeL false kids keys ++ [0])
def codeL : Bool → List JV → List (List UInt8) → List UInt8
  | _, [], _ => []
  | o, x :: r, ks => (if o = true then codeT (ks.headD []) else []) ++ (codeJ x ++ codeL o r ks.tail)
end
abbrev MSt := Nat × List (JV × JV)
def emitS (st : MSt) (k v : Option JV) : MSt :=
  match k, v with
  | some a, some b => if st.2.length < 4 ∧ (codeJ a).length ≤ 90 ∧ (canJ b).length ≤ 100 then (st.1, st.2 ++ [(a, b)]) else st
  | _, _ => st
mutual
/-- statements gone through -/
def goS (env : List (List UInt8 × JV)) (st : MSt) : SJ → MSt
  | .mk k s a b body els =>
    if k = 1 then emitS st (evE env a) (evE env b)
    else if k = 2 then (match isB (evE env a) with | some true => goL env st body | some false => goL env st els | none => st)
    else match evE env a with
      | some v => if 5 ≤ v.kind then v.kids.foldl (fun st x => if st.1 < 256 then goL (env ++ [(s, x)]) (st.1 + 1, st.2) body else st) st else st
      | none => st
def goL (env : List (List UInt8 × JV)) (st : MSt) : List SJ → MSt
  | [] => st
  | x :: r => goL env (goS env st x) r
end
end Go.Proofs.YtgolomgmnanbpaaGreatDoor
