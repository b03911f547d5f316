import Derived.Test.YtoejdhabpajhlaaDoorJsonP
/- Plain: a value that was parsed is right: its kinds, its texts, its keys in turn, its levels and how many values it has. -/
namespace Go.Proofs.YtoejdhabpajhlaaDoor
set_option linter.unusedVariables false
set_option linter.unusedSimpArgs false

section Less
theorem ltB_cons (a b : UInt8) (x y : List UInt8) : ltB (a :: x) (b :: y) = true ↔ a < b ∨ (a = b ∧ ltB x y = true) := by
  unfold ltB
  rw [Op.bytesLess]
  by_cases h1 : a < b <;> by_cases h2 : a = b <;> simp [h1, h2]
theorem ltB_nil (x : List UInt8) : ltB x [] = false := by cases x <;> rfl
theorem ltB_nil_cons (b : UInt8) (y : List UInt8) : ltB [] (b :: y) = true := rfl
theorem ltB_irrefl : ∀ x : List UInt8, ¬ ltB x x = true
  | [], h => by rw [ltB_nil] at h; cases h
  | a :: x, h => by
    rcases (ltB_cons a a x x).1 h with h | h
    · have := UInt8.lt_iff_toNat_lt.1 h; omega
    · exact ltB_irrefl x h.2
theorem ltB_trans : ∀ {x y z : List UInt8}, ltB x y = true → ltB y z = true → ltB x z = true
  | _, [], _, h, _ => by rw [ltB_nil] at h; cases h
  | _, _ :: _, [], _, h => by rw [ltB_nil] at h; cases h
  | [], _ :: _, c :: z, _, _ => ltB_nil_cons c z
  | a :: x, b :: y, c :: z, h1, h2 => by
    rw [ltB_cons] at h1 h2 ⊢
    rcases h1 with h1 | ⟨rfl, h1⟩
    · rcases h2 with h2 | ⟨rfl, h2⟩
      · left
        have := UInt8.lt_iff_toNat_lt.1 h1
        have := UInt8.lt_iff_toNat_lt.1 h2
        exact UInt8.lt_iff_toNat_lt.2 (by omega)
      · exact .inl h1
    · rcases h2 with h2 | ⟨rfl, h2⟩
      · exact .inl h2
      · exact .inr ⟨rfl, ltB_trans h1 h2⟩
theorem ltB_total : ∀ {x y : List UInt8}, x ≠ y → ltB x y = true ∨ ltB y x = true
  | [], [], h => absurd rfl h
  | [], b :: y, _ => .inl (ltB_nil_cons b y)
  | a :: x, [], _ => .inr (ltB_nil_cons a x)
  | a :: x, b :: y, h => by
    rw [ltB_cons, ltB_cons]
    by_cases hab : a = b
    · subst hab
      have hxy : x ≠ y := fun e => h (by rw [e])
      rcases ltB_total hxy with h1 | h1
      · exact .inl (.inr ⟨rfl, h1⟩)
      · exact .inr (.inr ⟨rfl, h1⟩)
    · have : a.toNat ≠ b.toNat := fun e => hab (UInt8.toNat_inj.1 e)
      rcases Nat.lt_or_gt_of_ne this with h1 | h1
      · exact .inl (.inl (UInt8.lt_iff_toNat_lt.2 h1))
      · exact .inr (.inl (UInt8.lt_iff_toNat_lt.2 h1))
end Less
/-- each one ahead of all that follow -/
abbrev UpB (keys : List (List UInt8)) : Prop := keys.Pairwise fun a b => ltB a b = true
theorem insPos_what (key : List UInt8) (keys : List (List UInt8)) : ∀ n, (∀ j, insPos key keys n ≤ j → j < n → ltB key (keys.getD j []) = true) ∧ (0 < insPos key keys n → ltB key (keys.getD (insPos key keys n - 1) []) = false)
  | 0 => ⟨fun j h h' => absurd h' (Nat.not_lt_zero _), fun h => absurd h (Nat.lt_irrefl _)⟩
  | n + 1 => by
    have ih := insPos_what key keys n
    unfold insPos
    by_cases h : ltB key (keys.getD n []) = true
    · rw [if_pos h]
      refine ⟨fun j h1 h2 => ?_, ih.2⟩
      rcases Nat.lt_or_ge j n with h3 | h3
      · exact ih.1 j h1 h3
      · obtain rfl : j = n := by omega
        exact h
    · rw [if_neg h]
      exact ⟨fun j h1 h2 => by omega, fun _ => by simpa using h⟩
theorem upB_ins {key : List UInt8} {keys : List (List UInt8)} (h : UpB keys) (hk : key ∉ keys) : UpB (insAt keys (insPos key keys keys.length) key) := by
  obtain ⟨h1, h2⟩ := insPos_what key keys keys.length
  have hle := insPos_le key keys keys.length
  generalize insPos key keys keys.length = p at h1 h2 hle
  have hget : ∀ {j}, (hj : j < keys.length) → keys.getD j [] = keys[j] := fun {j} hj => by rw [List.getD_eq_getElem?_getD, List.getElem?_eq_getElem hj]; rfl
  have hp := List.pairwise_iff_getElem.1 h
  unfold insAt UpB
  have hb : ∀ x ∈ keys.take p, ltB x key = true := by
    intro x hx
    obtain ⟨j, hj, rfl⟩ := List.getElem_of_mem hx
    rw [List.length_take] at hj
    rw [List.getElem_take]
    have hp0 : 0 < p := by omega
    have h3 := h2 hp0
    rw [hget (by omega)] at h3
    have hne : keys[p - 1] ≠ key := fun e => hk (by rw [← e]; exact List.getElem_mem _)
    have h4 : ltB keys[p - 1] key = true := by
      rcases ltB_total hne with h5 | h5
      · exact h5
      · rw [h5] at h3; cases h3
    rcases Nat.lt_or_ge j (p - 1) with h6 | h6
    · exact ltB_trans (hp j (p - 1) (by omega) (by omega) h6) h4
    · obtain rfl : j = p - 1 := by omega
      exact h4
  have ha : ∀ x ∈ keys.drop p, ltB key x = true := by
    intro x hx
    obtain ⟨j, hj, rfl⟩ := List.getElem_of_mem hx
    rw [List.length_drop] at hj
    rw [List.getElem_drop]
    have := h1 (p + j) (by omega) (by omega)
    rwa [hget (by omega)] at this
  rw [List.pairwise_append]
  refine ⟨h.take, List.pairwise_cons.2 ⟨ha, h.drop⟩, fun x hx y hy => ?_⟩
  rcases List.mem_cons.1 hy with rfl | hy
  · exact hb x hx
  · exact ltB_trans (hb x hx) (ha y hy)

/-- a row of code points' bytes -/
def IsText (s : List UInt8) : Prop := ∃ cs : List Nat, (∀ c ∈ cs, isCp (c : Int) = true) ∧ s = cs.flatMap cpBytes ∧ cs.length ≤ 262144
theorem IsText.nil : IsText [] := ⟨[], by simp, rfl, by simp⟩
/-- one of its kind, whatever its kids are -/
structure aloneK (k n : Int) (s : List UInt8) (kids : List JV) (keys : List (List UInt8)) : Prop where
  texts : ∀ t ∈ keys, IsText t
  up : UpB keys
  kind : 1 ≤ k ∧ k ≤ 6
  num : k ≠ 3 → n = 0 ∨ (k = 2 ∧ n = 1)
  text : if k = 4 then IsText s else s = []
  leaf : k < 5 → kids = []
  keyed : if k = 6 then keys.length = kids.length else keys = []
mutual
def nodesJ : JV → Nat | .mk _ _ _ kids _ => 1 + nodesL kids
def nodesL : List JV → Nat | [] => 0 | x :: r => nodesJ x + nodesL r
end
mutual
def rightJ : Nat → JV → Prop
  | d, .mk k n s kids keys => aloneK k n s kids keys ∧ (5 ≤ k → d ≠ 0) ∧ rightL (d - 1) kids
def rightL : Nat → List JV → Prop
  | _, [] => True
  | d, x :: r => rightJ d x ∧ rightL d r
end
theorem rightL_iff {d : Nat} : ∀ {xs : List JV}, rightL d xs ↔ ∀ x ∈ xs, rightJ d x
  | [] => by simp [rightL]
  | x :: r => by simp [rightL, rightL_iff (xs := r)]
theorem nodesL_app : ∀ (xs ys : List JV), nodesL (xs ++ ys) = nodesL xs + nodesL ys
  | [], ys => by simp [nodesL]
  | x :: r, ys => by rw [List.cons_append, nodesL, nodesL, nodesL_app r ys]; omega
theorem nodesL_ins (xs : List JV) (i : Nat) (x : JV) : nodesL (insAt xs i x) = nodesL xs + nodesJ x := by
  unfold insAt
  rw [nodesL_app, nodesL]
  have := nodesL_app (xs.take i) (xs.drop i)
  rw [List.take_append_drop] at this
  omega
/-- an object under way, whose kids are right -/
structure ObjW (d : Nat) (v : JV) (keys : List (List UInt8)) (N : Nat) : Prop where
  num : v.num = 0
  text : v.txt = []
  texts : ∀ t ∈ v.keys, IsText t
  up : UpB v.keys
  right : rightL d v.kids
  nodes : nodesL v.kids = N
  obj : IsObj v keys
theorem ObjW.nil (d : Nat) : ObjW d (.mk 6 0 [] [] []) [] 0 := ⟨rfl, rfl, by simp [JV.keys], by simp [JV.keys], trivial, rfl, rfl, rfl, fun s => Iff.rfl⟩
theorem ObjW.add {d N : Nat} {v x : JV} {keys : List (List UInt8)} {s : List UInt8} (h : ObjW d v keys N) (hs : IsText s) (hn : s ∉ keys) (hx : rightJ d x) : ObjW d (addKid v s x) (keys ++ [s]) (N + nodesJ x) := by
  have ho := h.obj.add s x
  obtain ⟨k, n, t, kids, ks⟩ := v
  have hk : k = 6 := h.obj.kind
  have hl : ks.length = kids.length := h.obj.len
  have hns : s ∉ ks := fun e => hn ((h.obj.mem s).1 e)
  have e : addKid (.mk k n t kids ks) s x = .mk k n t (insAt kids (insPos s ks kids.length) x) (insAt ks (insPos s ks kids.length) s) := by
    unfold addKid
    simp only
    rw [if_pos hk]
  rw [e] at ho ⊢
  refine ⟨h.num, h.text, fun y hy => ?_, ?_, ?_, ?_, ho⟩
  · rcases mem_insAt.1 hy with h1 | rfl
    · exact h.texts y h1
    · exact hs
  · have := upB_ins (key := s) h.up hns
    rw [show (JV.mk k n t kids ks).keys.length = kids.length from hl] at this
    exact this
  · refine rightL_iff.2 fun y hy => ?_
    rcases mem_insAt.1 hy with h1 | rfl
    · exact rightL_iff.1 h.right y h1
    · exact hx
  · rw [JV.kids, nodesL_ins]
    have : nodesL kids = N := h.nodes
    omega
theorem ObjW.right_ {d N : Nat} {v : JV} {keys : List (List UInt8)} (h : ObjW d v keys N) : rightJ (d + 1) v ∧ nodesJ v = 1 + N := by
  obtain ⟨k, n, t, kids, ks⟩ := v
  obtain rfl : k = 6 := h.obj.kind
  obtain rfl : n = 0 := h.num
  obtain rfl : t = [] := h.text
  refine ⟨?_, ?_⟩
  · unfold rightJ
    refine ⟨⟨h.texts, h.up, by decide, fun _ => .inl rfl, by rw [if_neg (by decide)], fun e => absurd e (by decide), by rw [if_pos rfl]; exact h.obj.len⟩, fun _ => by omega, by have := h.right; simpa [JV.kids] using this⟩
  · unfold nodesJ; rw [show nodesL kids = N from h.nodes]
theorem list_right {d : Nat} {kids : List JV} (h : rightL d kids) : rightJ (d + 1) (.mk 5 0 [] kids []) := by
  unfold rightJ
  exact ⟨⟨by simp, List.Pairwise.nil, by decide, fun _ => .inl rfl, by rw [if_neg (by decide)], fun e => absurd e (by decide), by rw [if_neg (by decide)]⟩, fun _ => by omega, by simpa using h⟩
theorem atom_r {k n : Int} {s : List UInt8} (h1 : 1 ≤ k ∧ k ≤ 4) (h2 : k ≠ 3 → n = 0 ∨ (k = 2 ∧ n = 1)) (h3 : if k = 4 then IsText s else s = []) (d : Nat) : rightJ d (.mk k n s [] []) ∧ nodesJ (.mk k n s [] []) = 1 := by
  refine ⟨?_, ?_⟩
  · unfold rightJ
    exact ⟨⟨by simp, List.Pairwise.nil, ⟨h1.1, by omega⟩, h2, h3, fun _ => rfl, by rw [if_neg (by omega)]⟩, fun e => by omega, trivial⟩
  · simp [nodesJ, nodesL]
section RightR
variable {l : List UInt8}
theorem cpsJ {xs : List (Int × Int)} (h : ∀ x ∈ xs, ∃ p m : Nat, x = ((p : Int), (m : Int)) ∧ cpLen p ≠ 0) : ∃ cs : List Nat, (∀ c ∈ cs, isCp (c : Int) = true) ∧ qBytes xs = cs.flatMap cpBytes ∧ cs.length = xs.length := by
  induction xs with
  | nil => exact ⟨[], by simp, rfl, rfl⟩
  | cons x r ih =>
    obtain ⟨p, m, rfl, hp⟩ := h x List.mem_cons_self
    obtain ⟨cs, h2, h3, h4⟩ := ih (fun y hy => h y (List.mem_cons_of_mem _ hy))
    refine ⟨p :: cs, ?_, ?_, by simp [h4]⟩
    · intro c hc
      rcases List.mem_cons.1 hc with rfl | hc
      · rw [isCp_iff]
        have : ¬ (1114111 < c ∨ (55296 ≤ c ∧ c ≤ 57343)) := fun e => hp ((cpLen_iff c 0).2 (.inl ⟨rfl, e⟩))
        omega
      · exact h2 c hc
    · rw [List.flatMap_cons, ← h3]; simp [qBytes]
theorem signsF_lenP (l : List UInt8) : ∀ (k a : Nat), (signsF l k a).length ≤ k
  | 0, _ => by simp [signsF]
  | k + 1, a => by
    unfold signsF
    split
    · have := signsF_lenP l k (qsS l a).2.1.toNat
      simp; omega
    · simp
theorem text_is (hL : l.length ≤ 262144) {p : Nat} (h34 : l[p]? = some 34) (h0 : (qRead l p).2.2 = 0) : IsText (qRead l p).1 := by
  have hp := get_lt h34
  have hsp := signs_pre (l := l) (l.length - (p + 1)) (p + 1) (signsL l (p + 1)) (Nat.le_refl _) (List.prefix_refl _) hp
  obtain ⟨cs, h1, h2, h4⟩ := cpsJ hsp.1
  refine ⟨cs, h1, ?_, by rw [h4]; have := signsF_lenP l (l.length - (p + 1)) (p + 1); unfold signsL; omega⟩
  rw [← h2]
  have := qRead_in hp
  rw [qRead_in hp, if_neg (by rw [h34]; simp)] at h0 ⊢
  split at h0
  · rename_i hq; rw [if_pos hq]
  · rename_i hq
    exfalso
    have hin := (ce_in (l := l) (a := p + 1) (by omega)).2
    have hst := signs_stop (l := l) (a := p + 1) (by omega)
    generalize qEnd (p + 1) (signsL l (p + 1)) = E at h0 hin hst
    have h0 : (qSign l (E : Int)).2.2 = 0 := h0
    unfold qSign at h0
    rw [if_neg (by omega)] at h0
    by_cases he : E = l.length
    · rw [if_pos (by omega)] at h0; exact absurd h0 (by decide)
    · rw [if_neg (by omega), Int.toNat_natCast] at h0
      exact qsS_more hst (by omega) h0
theorem atom_right (hL : l.length ≤ 262144) {p q : Nat} {c : UInt8} {v : JV} (hc : l[p]? = some c) (h : atomJ l p c = .inl (v, q)) (d : Nat) : rightJ d v ∧ nodesJ v = 1 := by
  have hw : ∀ u w, wordJ l p u w = .inl (v, q) → v = w := fun u w h => by
    unfold wordJ at h
    cases hm : wordMis l p u with
    | none => rw [hm] at h; simp only [Sum.inl.injEq, Prod.mk.injEq] at h; exact h.1.symm
    | some k => rw [hm] at h; cases h
  unfold atomJ at h
  by_cases c1 : c.toNat = 34
  · rw [if_pos c1] at h
    have h34 : l[p]? = some 34 := by rw [hc]; congr 1; exact UInt8.toNat_inj.1 (by rw [c1]; rfl)
    unfold textJ at h
    split at h
    · rename_i h0
      simp only [Sum.inl.injEq, Prod.mk.injEq] at h
      rw [← h.1]
      exact atom_r (by decide) (fun _ => .inl rfl) (by rw [if_pos rfl]; exact text_is hL h34 h0) d
    · cases h
  rw [if_neg c1] at h
  split at h
  · rw [hw _ _ h]; exact atom_r (by decide) (fun _ => .inl rfl) (by rw [if_neg (by decide)]) d
  split at h
  · rw [hw _ _ h]; exact atom_r (by decide) (fun _ => .inr ⟨rfl, rfl⟩) (by rw [if_neg (by decide)]) d
  split at h
  · rw [hw _ _ h]; exact atom_r (by decide) (fun _ => .inl rfl) (by rw [if_neg (by decide)]) d
  unfold numJ at h
  split at h
  · simp only [Sum.inl.injEq, Prod.mk.injEq] at h
    rw [← h.1]
    exact atom_r (by decide) (fun e => absurd rfl e) (by rw [if_neg (by decide)]) d
  · cases h
theorem begin_right (hL : l.length ≤ 262144) {a m d : Nat} : match beginJ l a m d with | .err _ _ => True | .atom v _ => m ≠ 256 ∧ ∀ d', rightJ d' v ∧ nodesJ v = 1 | .opens _ _ => m ≠ 256 ∧ d ≠ 8 := by
  unfold beginJ
  cases hc : l[skipB l a]? with
  | none => trivial
  | some c =>
    simp only
    by_cases h1 : beginsB c = false
    · rw [if_pos h1]; trivial
    rw [if_neg h1]
    by_cases h2 : m = 256
    · rw [if_pos h2]; trivial
    rw [if_neg h2]
    by_cases h3 : c.toNat = 91 ∨ c.toNat = 123
    · rw [if_pos h3]
      by_cases h4 : d = 8
      · rw [if_pos h4]; trivial
      · rw [if_neg h4]; exact ⟨h2, h4⟩
    rw [if_neg h3]
    cases hat : atomJ l (skipB l a) c with
    | inl r => obtain ⟨v, q⟩ := r; exact ⟨h2, fun d' => atom_right hL hc hat d'⟩
    | inr r => trivial
/-- what a value that was read is -/
def rightR (d m : Nat) : RRes → Prop
  | .ok v _ k => rightJ (8 - d) v ∧ k = m + nodesJ v ∧ k ≤ 256
  | .err _ _ => True
mutual
theorem rd_right (hL : l.length ≤ 262144) {a m d : Nat} {r : RRes} : RdR l a m d r → d ≤ 8 → m ≤ 256 → rightR d m r
  | .err h, _, _ => trivial
  | .atom h, hd, hm => by
    have hb := begin_right (l := l) hL (a := a) (m := m) (d := d)
    rw [h] at hb
    have h1 := hb.2 (8 - d)
    exact ⟨h1.1, by rw [h1.2], by have := hb.1; omega⟩
  | .list0 h h1, hd, hm => by
    have hb := begin_right (l := l) hL (a := a) (m := m) (d := d)
    rw [h] at hb
    have h2 := list_right (d := 7 - d) (kids := []) trivial
    have hb2 := hb.2
    rw [show 7 - d + 1 = 8 - d by omega] at h2
    exact ⟨h2, by simp [nodesJ, nodesL], by have := hb.1; omega⟩
  | .list1 h h1 h2, hd, hm => by
    have hb := begin_right (l := l) hL (a := a) (m := m) (d := d)
    rw [h] at hb
    have hb1 := hb.1
    have hb2 := hb.2
    have ih := ls_right hL h2 (by omega) (by omega) m rfl trivial
    exact ih
  | .obj0 h h1, hd, hm => by
    have hb := begin_right (l := l) hL (a := a) (m := m) (d := d)
    rw [h] at hb
    have h2 := (ObjW.nil (7 - d)).right_
    have hb2 := hb.2
    rw [show 7 - d + 1 = 8 - d by omega] at h2
    exact ⟨h2.1, by rw [h2.2], by have := hb.1; omega⟩
  | .obj1 h h1 h2, hd, hm => by
    have hb := begin_right (l := l) hL (a := a) (m := m) (d := d)
    rw [h] at hb
    have hb1 := hb.1
    have hb2 := hb.2
    have ih := ob_right hL h2 (by omega) (by omega) m 0 rfl rfl (ObjW.nil _)
    exact ih
theorem ls_right (hL : l.length ≤ 262144) {a m d : Nat} {kids : List JV} {r : RRes} : LsR l a m d kids r → d < 8 → m ≤ 256 → ∀ m0, m = m0 + 1 + nodesL kids → rightL (7 - d) kids → rightR d m0 r
  | .err h, hd, hm, m0, e, hk => trivial
  | .close (x := x) h h1, hd, hm, m0, e, hk => by
    obtain ⟨i1, i2, i3⟩ := rd_right hL h (by omega) hm
    rw [show 8 - (d + 1) = 7 - d by omega] at i1
    have h2 : rightL (7 - d) (kids ++ [x]) := by
      refine rightL_iff.2 fun y hy => ?_
      rcases List.mem_append.1 hy with h | h
      · exact rightL_iff.1 hk y h
      · rw [List.mem_singleton.1 h]; exact i1
    have h3 := list_right h2
    rw [show 7 - d + 1 = 8 - d by omega] at h3
    refine ⟨h3, ?_, i3⟩
    rw [nodesJ, nodesL_app, nodesL, nodesL]; omega
  | .comma (x := x) h h1 h2, hd, hm, m0, e, hk => by
    obtain ⟨i1, i2, i3⟩ := rd_right hL h (by omega) hm
    rw [show 8 - (d + 1) = 7 - d by omega] at i1
    have h3 : rightL (7 - d) (kids ++ [x]) := by
      refine rightL_iff.2 fun y hy => ?_
      rcases List.mem_append.1 hy with h | h
      · exact rightL_iff.1 hk y h
      · rw [List.mem_singleton.1 h]; exact i1
    exact ls_right hL h2 hd i3 m0 (by rw [nodesL_app, nodesL, nodesL]; omega) h3
  | .bad h h1 h2, hd, hm, m0, e, hk => trivial
theorem ob_right (hL : l.length ≤ 262144) {a m d : Nat} {keys : List (List UInt8)} {kids : List JV} {r : RRes} : ObR l a m d keys kids r → d < 8 → m ≤ 256 → ∀ m0 N, m = m0 + 1 + N → keys.length = kids.length → ObjW (7 - d) (sortedJ keys kids) keys N → rightR d m0 r
  | .nokey h, hd, hm, m0, N, e, hl, ho => trivial
  | .badkey h h1, hd, hm, m0, N, e, hl, ho => trivial
  | .double h h1 h2, hd, hm, m0, N, e, hl, ho => trivial
  | .nocolon h h1 h2 h3, hd, hm, m0, N, e, hl, ho => trivial
  | .err h h1 h2 h3 h4, hd, hm, m0, N, e, hl, ho => trivial
  | .close (s := s) (x := x) h h1 h2 h3 h4 h5, hd, hm, m0, N, e, hl, ho => by
    obtain ⟨i1, i2, i3⟩ := rd_right hL h4 (by omega) hm
    rw [show 8 - (d + 1) = 7 - d by omega] at i1
    have hs : IsText s := by have := text_is hL h (by rw [h1]); rw [h1] at this; exact this
    have h6 := (ho.add hs h2 i1).right_
    rw [← sortedJ_snoc hl, show 7 - d + 1 = 8 - d by omega] at h6
    exact ⟨h6.1, by rw [h6.2]; omega, i3⟩
  | .comma (s := s) (x := x) h h1 h2 h3 h4 h5 h6, hd, hm, m0, N, e, hl, ho => by
    obtain ⟨i1, i2, i3⟩ := rd_right hL h4 (by omega) hm
    rw [show 8 - (d + 1) = 7 - d by omega] at i1
    have hs : IsText s := by have := text_is hL h (by rw [h1]); rw [h1] at this; exact this
    have h7 := ho.add hs h2 i1
    rw [← sortedJ_snoc hl] at h7
    exact ob_right hL h6 hd i3 m0 _ (by omega) (by simp [hl]) h7
  | .bad h h1 h2 h3 h4 h5 h6, hd, hm, m0, N, e, hl, ho => trivial
end
end RightR
end Go.Proofs.YtoejdhabpajhlaaDoor

/- Plain: an object by rising keys: the pairs of the row, each key ahead of all that follow. -/
namespace Go.Proofs.YtoejdhabpajhlaaDoor
set_option linter.unusedVariables false
set_option linter.unusedSimpArgs false

theorem insAt_zip {α β : Type} {a : List α} {b : List β} (h : a.length = b.length) (i : Nat) (x : α) (y : β) : (insAt a i x).zip (insAt b i y) = insAt (a.zip b) i (x, y) := by
  unfold insAt
  rw [List.zip_append (by simp [h]), List.zip_cons_cons]
  congr 1
  · exact (List.take_zipWith ..).symm
  · congr 1
    exact (List.drop_zipWith ..).symm
theorem insAt_len {α : Type} (l : List α) (i : Nat) (x : α) : (insAt l i x).length = l.length + 1 := by
  unfold insAt
  rw [List.length_append, List.length_cons, List.length_take, List.length_drop]
  omega
theorem sort_gen : ∀ (ps : List (List UInt8 × JV)) (ks : List (List UInt8)) (xs : List JV), ks.length = xs.length → UpB ks → (ps.map Prod.fst).Nodup → (∀ p ∈ ps, p.1 ∉ ks) →
    ∃ ks' xs', ps.foldl (fun v kx => addKid v kx.1 kx.2) (.mk 6 0 [] xs ks) = .mk 6 0 [] xs' ks' ∧ ks'.length = xs'.length ∧ ks'.length = ks.length + ps.length ∧ UpB ks' ∧ ∀ kx, kx ∈ ks'.zip xs' ↔ kx ∈ ks.zip xs ∨ kx ∈ ps
  | [], ks, xs, h, hu, _, _ => ⟨ks, xs, rfl, h, rfl, hu, fun kx => by simp⟩
  | (s, x) :: r, ks, xs, h, hu, hn, hd => by
    have hs : s ∉ ks := hd (s, x) List.mem_cons_self
    have hn2 := List.nodup_cons.1 (show (s :: r.map Prod.fst).Nodup from hn)
    have hu2 := upB_ins hu hs
    rw [h] at hu2
    obtain ⟨ks', xs', e1, e2, e3, e4, e5⟩ := sort_gen r (insAt ks (insPos s ks xs.length) s) (insAt xs (insPos s ks xs.length) x) (by rw [insAt_len, insAt_len, h]) hu2 hn2.2 (fun p hp hm => by
      rcases mem_insAt.1 hm with h1 | h1
      · exact hd p (List.mem_cons_of_mem _ hp) h1
      · exact hn2.1 (by rw [← h1]; exact List.mem_map_of_mem hp))
    refine ⟨ks', xs', ?_, e2, ?_, e4, fun kx => ?_⟩
    · rw [List.foldl_cons, ← e1]
      congr 1
    · rw [e3, insAt_len, List.length_cons]; omega
    · rw [e5 kx, insAt_zip h, mem_insAt, List.mem_cons]
      constructor
      · rintro ((h1 | h1) | h1)
        · exact .inl h1
        · exact .inr (.inl h1)
        · exact .inr (.inr h1)
      · rintro (h1 | h1 | h1)
        · exact .inl (.inl h1)
        · exact .inl (.inr h1)
        · exact .inr h1
theorem sorted_is {keys : List (List UInt8)} {kids : List JV} (h : keys.length = kids.length) (hn : keys.Nodup) :
    ∃ ks xs, sortedJ keys kids = .mk 6 0 [] xs ks ∧ ks.length = keys.length ∧ xs.length = keys.length ∧ UpB ks ∧ ∀ kx, kx ∈ ks.zip xs ↔ kx ∈ keys.zip kids := by
  obtain ⟨ks, xs, e1, e2, e3, e4, e5⟩ := sort_gen (keys.zip kids) [] [] rfl List.Pairwise.nil (by rw [List.map_fst_zip (Nat.le_of_eq h)]; exact hn) (fun _ _ => by simp)
  refine ⟨ks, xs, e1, ?_, ?_, e4, fun kx => by rw [e5 kx]; simp⟩
  · rw [e3]; simp [h]
  · rw [← e2, e3]; simp [h]
/-- the least of those that are not yet taken is the next one -/
theorem pick {keys ks : List (List UInt8)} {kids xs : List JV} {t i : Nat} (hu : UpB ks) (h1 : keys.length = kids.length) (h2 : ks.length = xs.length) (hz : ∀ kx, kx ∈ ks.zip xs ↔ kx ∈ keys.zip kids) (ht : t < ks.length) {k : List UInt8}
    (hi : keys[i]? = some k) (hnot : k ∉ ks.take t) (hmin : ∀ (j : Nat) (k' : List UInt8), keys[j]? = some k' → k' ∉ ks.take t → ¬ ltB k' k = true) : ks[t]? = some k ∧ ∃ x, kids[i]? = some x ∧ xs[t]? = some x := by
  have hp := List.pairwise_iff_getElem.1 hu
  obtain ⟨hik, rfl⟩ := List.getElem?_eq_some_iff.1 hi
  have hm : (keys[i], kids[i]) ∈ ks.zip xs := by
    rw [hz, List.mem_iff_getElem?]
    exact ⟨i, by rw [List.getElem?_zip_eq_some]; exact ⟨List.getElem?_eq_getElem hik, List.getElem?_eq_getElem (by omega)⟩⟩
  obtain ⟨t', ht'⟩ := List.mem_iff_getElem?.1 hm
  rw [List.getElem?_zip_eq_some] at ht'
  obtain ⟨e1, e2⟩ := ht'
  simp only at e1 e2
  obtain ⟨hl1, e3⟩ := List.getElem?_eq_some_iff.1 e1
  have hge : t ≤ t' := by
    rcases Nat.lt_or_ge t' t with h | h
    · exfalso
      refine hnot (List.mem_iff_getElem?.2 ⟨t', ?_⟩)
      rw [List.getElem?_take, if_pos h]; exact e1
    · exact h
  rcases Nat.lt_or_eq_of_le hge with hlt | rfl
  · exfalso
    have h3 := hp t t' ht hl1 hlt
    have hm2 : (ks[t], xs[t]) ∈ keys.zip kids := by
      rw [← hz, List.mem_iff_getElem?]
      exact ⟨t, by rw [List.getElem?_zip_eq_some]; exact ⟨List.getElem?_eq_getElem ht, List.getElem?_eq_getElem (by omega)⟩⟩
    obtain ⟨j, hj⟩ := List.mem_iff_getElem?.1 hm2
    rw [List.getElem?_zip_eq_some] at hj
    refine hmin j ks[t] hj.1 (fun hmem => ?_) (by rw [← e3]; exact h3)
    obtain ⟨j2, hj2⟩ := List.mem_iff_getElem?.1 hmem
    rw [List.getElem?_take] at hj2
    split at hj2
    · rename_i hlt2
      obtain ⟨hl3, e4⟩ := List.getElem?_eq_some_iff.1 hj2
      have := hp j2 t hl3 ht hlt2
      rw [e4] at this
      exact ltB_irrefl _ this
    · cases hj2
  · exact ⟨e1, _, List.getElem?_eq_getElem (by omega), e2⟩
end Go.Proofs.YtoejdhabpajhlaaDoor
