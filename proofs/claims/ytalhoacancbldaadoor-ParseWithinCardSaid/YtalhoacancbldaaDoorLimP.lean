/- Plain: a value that was read, read again with other limits. -/
import Derived.Test.YtalhoacancbldaaDoorTotal5
import Derived.Test.YtalhoacancbldaaDoorMeas5
namespace Go.Proofs.YtalhoacancbldaaDoor
set_option linter.unusedVariables false
set_option linter.unusedSimpArgs false

def sumL : List (List UInt8 × JV) → Nat | [] => 0 | x :: r => nodesJ x.2 + sumL r
theorem foldl_obj : ∀ (ps : List (List UInt8 × JV)) (v : JV), v.kind = 6 → nodesL (ps.foldl (fun v kx => addKid v kx.1 kx.2) v).kids = nodesL v.kids + sumL ps ∧ (ps.foldl (fun v kx => addKid v kx.1 kx.2) v).kind = 6 ∧
    (∀ x ∈ v.kids, x ∈ (ps.foldl (fun v kx => addKid v kx.1 kx.2) v).kids) ∧ ∀ x ∈ ps, x.2 ∈ (ps.foldl (fun v kx => addKid v kx.1 kx.2) v).kids
  | [], v, hk => ⟨by simp [sumL], hk, fun x h => h, fun x h => by cases h⟩
  | p :: ps, v, hk => by
    obtain ⟨k, n, s, kids, keys⟩ := v
    obtain rfl : k = 6 := hk
    have e : addKid (.mk 6 n s kids keys) p.1 p.2 = .mk 6 n s (insAt kids (insPos p.1 keys kids.length) p.2) (insAt keys (insPos p.1 keys kids.length) p.1) := by unfold addKid; simp
    obtain ⟨h1, h2, h3, h4⟩ := foldl_obj ps (addKid (.mk 6 n s kids keys) p.1 p.2) (by rw [e]; rfl)
    rw [List.foldl_cons]
    refine ⟨?_, h2, fun x hx => h3 x ?_, fun x hx => ?_⟩
    · rw [h1, e]
      show nodesL (insAt kids _ _) + _ = nodesL kids + _
      rw [nodesL_ins, sumL]; omega
    · rw [e]; exact mem_insAt.2 (.inl hx)
    · rcases List.mem_cons.1 hx with rfl | hx
      · exact h3 _ (by rw [e]; exact mem_insAt.2 (.inr rfl))
      · exact h4 x hx
theorem sum_zip : ∀ {keys : List (List UInt8)} {kids : List JV}, keys.length = kids.length → sumL (keys.zip kids) = nodesL kids
  | [], [], _ => rfl
  | k :: ks, x :: xs, h => by
    rw [List.zip_cons_cons, sumL, nodesL, sum_zip (by simpa using h)]
  | [], x :: xs, h => by simp at h
  | k :: ks, [], h => by simp at h
theorem sorted_nodes {keys : List (List UInt8)} {kids : List JV} (h : keys.length = kids.length) : nodesJ (sortedJ keys kids) = 1 + nodesL kids ∧ (∀ x ∈ kids, x ∈ (sortedJ keys kids).kids) ∧ (sortedJ keys kids).kind = 6 := by
  obtain ⟨h1, h2, h3, h4⟩ := foldl_obj (keys.zip kids) (.mk 6 0 [] [] []) rfl
  rw [sum_zip h] at h1
  refine ⟨?_, fun x hx => ?_, h2⟩
  · unfold sortedJ
    obtain ⟨V, hV⟩ : ∃ V, (keys.zip kids).foldl (fun v kx => addKid v kx.1 kx.2) (.mk 6 0 [] [] []) = V := ⟨_, rfl⟩
    rw [hV] at h1 ⊢
    obtain ⟨k, n, s, kd, ky⟩ := V
    rw [nodesJ]
    have h1 : nodesL kd = nodesL ([] : List JV) + nodesL kids := h1
    rw [h1, nodesL]; omega
  · obtain ⟨i, hi⟩ := List.mem_iff_getElem?.1 hx
    have hlt : i < keys.length := by rw [h]; exact (List.getElem?_eq_some_iff.1 hi).1
    have hm : (keys[i], x) ∈ keys.zip kids := by
      rw [List.mem_iff_getElem?]
      exact ⟨i, by rw [List.getElem?_zip_eq_some]; exact ⟨List.getElem?_eq_getElem hlt, hi⟩⟩
    exact h4 _ hm
theorem right_kid {d : Nat} {v x : JV} (h : rightJ d v) (hx : x ∈ v.kids) : rightJ (d - 1) x := by
  obtain ⟨k, n, s, kids, keys⟩ := v
  unfold rightJ at h
  exact rightL_iff.1 h.2.2 x hx
theorem nodesL_mem {xs : List JV} {x : JV} (h : x ∈ xs) : nodesJ x ≤ nodesL xs := by
  obtain ⟨i, hi⟩ := List.mem_iff_getElem?.1 h
  have := nodesL_at hi
  omega
/-- may a value be read with so many ahead of it, within so many others? -/
def Fits (v : JV) (m d : Nat) : Prop := rightJ (8 - d) v ∧ m + nodesJ v ≤ 256
/-- what becomes of it -/
def Lim (v : JV) (q m d : Nat) (r : RRes) : Prop := (∃ k, r = .ok v q k) ∨ (∃ p e, r = .err p e ∧ (e = 150 ∨ e = 151) ∧ ¬ Fits v m d)
section
variable {l : List UInt8}
theorem ls_kids {a m d : Nat} {kids : List JV} {r : RRes} : LsR l a m d kids r → ∀ (V : JV) (q k : Nat), r = .ok V q k → ∃ xs, V = .mk 5 0 [] (kids ++ xs) []
  | .err _, _, _, _, h => by cases h
  | .close _ _, V, q, k, h => by cases h; exact ⟨[_], rfl⟩
  | .comma (x := x) _ _ h2, V, q, k, h => by obtain ⟨xs, e⟩ := ls_kids h2 V q k h; exact ⟨x :: xs, by rw [e]; simp⟩
  | .bad _ _ _, _, _, _, h => by unfold rFail at h; cases h
theorem ob_kids {a m d : Nat} {keys : List (List UInt8)} {kids : List JV} {r : RRes} : ObR l a m d keys kids r → keys.length = kids.length → ∀ (V : JV) (q k : Nat), r = .ok V q k → ∃ ks xs, ks.length = xs.length ∧ V = sortedJ (keys ++ ks) (kids ++ xs)
  | .nokey _, _, _, _, _, h => by unfold rFail at h; cases h
  | .badkey _ _, _, _, _, _, h => by unfold rFail at h; cases h
  | .double _ _ _, _, _, _, _, h => by cases h
  | .nocolon _ _ _ _, _, _, _, _, h => by unfold rFail at h; cases h
  | .err _ _ _ _ _, _, _, _, _, h => by cases h
  | .close _ _ _ _ _ _, hl, V, q, k, h => by cases h; exact ⟨[_], [_], rfl, rfl⟩
  | .comma (s := s) (x := x) _ _ _ _ _ _ h2, hl, V, q, k, h => by obtain ⟨ks, xs, e1, e2⟩ := ob_kids h2 (by simp [hl]) V q k h; exact ⟨s :: ks, x :: xs, by simp [e1], by rw [e2]; simp⟩
  | .bad _ _ _ _ _ _ _, _, _, _, _, h => by unfold rFail at h; cases h
theorem begin_lim {a m d m' d' : Nat} : match beginJ l a m d with
    | .err _ _ => True
    | .atom v q => (m' ≠ 256 → beginJ l a m' d' = .atom v q) ∧ (m' = 256 → ∃ p, beginJ l a m' d' = .err p 151)
    | .opens p o => (m' ≠ 256 → d' ≠ 8 → beginJ l a m' d' = .opens p o) ∧ (m' = 256 → ∃ p, beginJ l a m' d' = .err p 151) ∧ (m' ≠ 256 → d' = 8 → ∃ p, beginJ l a m' d' = .err p 150) := by
  unfold beginJ
  cases hc : l[skipB l a]? with
  | none => trivial
  | some c =>
    simp only
    by_cases h1 : beginsB c = false
    · rw [if_pos h1]; trivial
    rw [if_neg h1, if_neg h1]
    by_cases h2 : m = 256
    · rw [if_pos h2]; trivial
    rw [if_neg h2]
    by_cases h3 : c.toNat = 91 ∨ c.toNat = 123
    · rw [if_pos h3, if_pos h3]
      by_cases h4 : d = 8
      · rw [if_pos h4]; trivial
      · rw [if_neg h4]
        refine ⟨fun h5 h6 => by rw [if_neg h5, if_neg h6], fun h5 => ⟨_, by rw [if_pos h5]⟩, fun h5 h6 => ⟨_, by rw [if_neg h5, if_pos h6]⟩⟩
    · rw [if_neg h3, if_neg h3]
      cases hat : atomJ l (skipB l a) c with
      | inl r => exact ⟨fun h5 => by rw [if_neg h5], fun h5 => ⟨_, by rw [if_pos h5]⟩⟩
      | inr r => trivial
mutual
theorem rd_lim (hL : l.length ≤ 262144) {a m d : Nat} {r : RRes} : RdR l a m d r → ∀ (v : JV) (q k : Nat), r = .ok v q k → ∀ (m' d' : Nat), m' ≤ 256 → d' ≤ 8 → ∃ r', RdR l a m' d' r' ∧ Lim v q m' d' r'
  | .err _, v, q, k, h, _, _, _, _ => by cases h
  | .atom (v := u) h, v, q, k, hr, m', d', hm, hd => by
    have hb := begin_lim (l := l) (a := a) (m := m) (d := d) (m' := m') (d' := d')
    rw [h] at hb
    simp only [RRes.ok.injEq] at hr
    obtain ⟨rfl, rfl, rfl⟩ := hr
    by_cases h5 : m' = 256
    · obtain ⟨p, hp⟩ := hb.2 h5
      exact ⟨_, .err hp, .inr ⟨_, _, rfl, .inr rfl, fun hf => by have h8 := hf.2; have h9 := nodesJ_pos u; omega⟩⟩
    · exact ⟨_, .atom (hb.1 h5), .inl ⟨_, rfl⟩⟩
  | .list0 h h1, v, q, k, hr, m', d', hm, hd => by
    cases hr
    have hb := begin_lim (l := l) (a := a) (m := m) (d := d) (m' := m') (d' := d')
    rw [h] at hb
    by_cases h5 : m' = 256
    · obtain ⟨p, hp⟩ := hb.2.1 h5
      exact ⟨_, .err hp, .inr ⟨_, _, rfl, .inr rfl, fun hf => by have := hf.2; have := nodesJ_pos (.mk 5 0 [] [] []); omega⟩⟩
    · by_cases h6 : d' = 8
      · obtain ⟨p, hp⟩ := hb.2.2 h5 h6
        refine ⟨_, .err hp, .inr ⟨_, _, rfl, .inl rfl, fun hf => ?_⟩⟩
        have := hf.1
        unfold rightJ at this
        exact this.2.1 (by decide) (by omega)
      · exact ⟨_, .list0 (hb.1 h5 h6) h1, .inl ⟨_, rfl⟩⟩
  | .list1 h h1 h2, v, q, k, hr, m', d', hm, hd => by
    have hb := begin_lim (l := l) (a := a) (m := m) (d := d) (m' := m') (d' := d')
    rw [h] at hb
    obtain ⟨xs, hv⟩ := ls_kids h2 v q k hr
    by_cases h5 : m' = 256
    · obtain ⟨p, hp⟩ := hb.2.1 h5
      exact ⟨_, .err hp, .inr ⟨_, _, rfl, .inr rfl, fun hf => by have := hf.2; have := nodesJ_pos v; omega⟩⟩
    · by_cases h6 : d' = 8
      · obtain ⟨p, hp⟩ := hb.2.2 h5 h6
        refine ⟨_, .err hp, .inr ⟨_, _, rfl, .inl rfl, fun hf => ?_⟩⟩
        have := hf.1
        rw [hv] at this
        unfold rightJ at this
        exact this.2.1 (by decide) (by omega)
      · obtain ⟨r', h7, h8⟩ := ls_lim hL h2 v q k hr m' d' (by rw [nodesL]; omega) (by omega)
        have e : m' + 1 + nodesL ([] : List JV) = m' + 1 := by rw [nodesL]
        rw [e] at h7
        exact ⟨r', .list1 (hb.1 h5 h6) h1 h7, h8⟩
  | .obj0 h h1, v, q, k, hr, m', d', hm, hd => by
    cases hr
    have hb := begin_lim (l := l) (a := a) (m := m) (d := d) (m' := m') (d' := d')
    rw [h] at hb
    by_cases h5 : m' = 256
    · obtain ⟨p, hp⟩ := hb.2.1 h5
      exact ⟨_, .err hp, .inr ⟨_, _, rfl, .inr rfl, fun hf => by have := hf.2; have := nodesJ_pos (.mk 6 0 [] [] []); omega⟩⟩
    · by_cases h6 : d' = 8
      · obtain ⟨p, hp⟩ := hb.2.2 h5 h6
        refine ⟨_, .err hp, .inr ⟨_, _, rfl, .inl rfl, fun hf => ?_⟩⟩
        have := hf.1
        unfold rightJ at this
        exact this.2.1 (by decide) (by omega)
      · exact ⟨_, .obj0 (hb.1 h5 h6) h1, .inl ⟨_, rfl⟩⟩
  | .obj1 h h1 h2, v, q, k, hr, m', d', hm, hd => by
    have hb := begin_lim (l := l) (a := a) (m := m) (d := d) (m' := m') (d' := d')
    rw [h] at hb
    obtain ⟨ks, xs, e1, hv⟩ := ob_kids h2 rfl v q k hr
    have hk6 := (sorted_nodes (keys := [] ++ ks) (kids := [] ++ xs) (by simpa using e1)).2.2
    by_cases h5 : m' = 256
    · obtain ⟨p, hp⟩ := hb.2.1 h5
      exact ⟨_, .err hp, .inr ⟨_, _, rfl, .inr rfl, fun hf => by have := hf.2; have := nodesJ_pos v; omega⟩⟩
    · by_cases h6 : d' = 8
      · obtain ⟨p, hp⟩ := hb.2.2 h5 h6
        refine ⟨_, .err hp, .inr ⟨_, _, rfl, .inl rfl, fun hf => ?_⟩⟩
        have h9 := hf.1
        rw [hv] at h9
        generalize sortedJ ([] ++ ks) ([] ++ xs) = V at h9 hk6
        obtain ⟨kk, n, s, kd, ky⟩ := V
        obtain rfl : kk = 6 := hk6
        unfold rightJ at h9
        exact h9.2.1 (by decide) (by omega)
      · obtain ⟨r', h7, h8⟩ := ob_lim hL h2 rfl v q k hr m' d' (by rw [nodesL]; omega) (by omega)
        have e : m' + 1 + nodesL ([] : List JV) = m' + 1 := by rw [nodesL]
        rw [e] at h7
        exact ⟨r', .obj1 (hb.1 h5 h6) h1 h7, h8⟩
theorem ls_lim (hL : l.length ≤ 262144) {a m d : Nat} {kids : List JV} {r : RRes} : LsR l a m d kids r → ∀ (V : JV) (q k : Nat), r = .ok V q k → ∀ (m0 d' : Nat), m0 + 1 + nodesL kids ≤ 256 → d' < 8 → ∃ r', LsR l a (m0 + 1 + nodesL kids) d' kids r' ∧ Lim V q m0 d' r'
  | .err _, V, q, k, h, _, _, _, _ => by cases h
  | .close (x := x) h h1, V, q, k, hr, m0, d', hm, hd => by
    cases hr
    obtain ⟨r', h2, h3⟩ := rd_lim hL h x _ _ rfl (m0 + 1 + nodesL kids) (d' + 1) hm (by omega)
    rcases h3 with ⟨k', rfl⟩ | ⟨p, e, rfl, he, hf⟩
    · exact ⟨_, .close h2 h1, .inl ⟨_, rfl⟩⟩
    · refine ⟨_, .err h2, .inr ⟨_, _, rfl, he, fun hF => hf ⟨?_, ?_⟩⟩⟩
      · have := right_kid hF.1 (x := x) (by show x ∈ kids ++ [x]; simp)
        rw [show 8 - (d' + 1) = 8 - d' - 1 by omega]; exact this
      · have h9 := hF.2
        rw [nodesJ, nodesL_app, nodesL, nodesL] at h9
        omega
  | .comma (x := x) h h1 h2, V, q, k, hr, m0, d', hm, hd => by
    obtain ⟨r', h3, h4⟩ := rd_lim hL h x _ _ rfl (m0 + 1 + nodesL kids) (d' + 1) hm (by omega)
    rcases h4 with ⟨k', rfl⟩ | ⟨p, e, rfl, he, hf⟩
    · obtain ⟨i1, i2, i3⟩ := rd_right hL h3 (by omega) hm
      have e : m0 + 1 + nodesL (kids ++ [x]) = k' := by rw [nodesL_app, nodesL, nodesL]; omega
      obtain ⟨r', h5, h6⟩ := ls_lim hL h2 V q k hr m0 d' (by omega) hd
      rw [e] at h5
      exact ⟨r', .comma h3 h1 h5, h6⟩
    · obtain ⟨xs, hv⟩ := ls_kids h2 V q k hr
      refine ⟨_, .err h3, .inr ⟨_, _, rfl, he, fun hF => hf ⟨?_, ?_⟩⟩⟩
      · have h9 := hF.1
        rw [hv] at h9
        have := right_kid h9 (x := x) (by show x ∈ kids ++ [x] ++ xs; simp)
        rw [show 8 - (d' + 1) = 8 - d' - 1 by omega]; exact this
      · have h9 := hF.2
        rw [hv, nodesJ, nodesL_app, nodesL_app, nodesL, nodesL] at h9
        omega
  | .bad _ _ _, _, _, _, h, _, _, _, _ => by unfold rFail at h; cases h
theorem ob_lim (hL : l.length ≤ 262144) {a m d : Nat} {keys : List (List UInt8)} {kids : List JV} {r : RRes} : ObR l a m d keys kids r → keys.length = kids.length → ∀ (V : JV) (q k : Nat), r = .ok V q k → ∀ (m0 d' : Nat), m0 + 1 + nodesL kids ≤ 256 → d' < 8 →
    ∃ r', ObR l a (m0 + 1 + nodesL kids) d' keys kids r' ∧ Lim V q m0 d' r'
  | .nokey _, _, _, _, _, h, _, _, _, _ => by unfold rFail at h; cases h
  | .badkey _ _, _, _, _, _, h, _, _, _, _ => by unfold rFail at h; cases h
  | .double _ _ _, _, _, _, _, h, _, _, _, _ => by cases h
  | .nocolon _ _ _ _, _, _, _, _, h, _, _, _, _ => by unfold rFail at h; cases h
  | .err _ _ _ _ _, _, _, _, _, h, _, _, _, _ => by cases h
  | .close (s := s) (x := x) h h1 h2 h3 h4 h5, hl, V, q, k, hr, m0, d', hm, hd => by
    cases hr
    obtain ⟨r', h6, h7⟩ := rd_lim hL h4 x _ _ rfl (m0 + 1 + nodesL kids) (d' + 1) hm (by omega)
    rcases h7 with ⟨k', rfl⟩ | ⟨p, e, rfl, he, hf⟩
    · exact ⟨_, .close h h1 h2 h3 h6 h5, .inl ⟨_, rfl⟩⟩
    · obtain ⟨n1, n2, n3⟩ := sorted_nodes (keys := keys ++ [s]) (kids := kids ++ [x]) (by simp [hl])
      refine ⟨_, .err h h1 h2 h3 h6, .inr ⟨_, _, rfl, he, fun hF => hf ⟨?_, ?_⟩⟩⟩
      · have := right_kid hF.1 (x := x) (n2 x (by simp))
        rw [show 8 - (d' + 1) = 8 - d' - 1 by omega]; exact this
      · have h9 := hF.2
        rw [n1, nodesL_app, nodesL, nodesL] at h9
        omega
  | .comma (s := s) (x := x) h h1 h2 h3 h4 h5 h8, hl, V, q, k, hr, m0, d', hm, hd => by
    obtain ⟨r', h6, h7⟩ := rd_lim hL h4 x _ _ rfl (m0 + 1 + nodesL kids) (d' + 1) hm (by omega)
    rcases h7 with ⟨k', rfl⟩ | ⟨p, e, rfl, he, hf⟩
    · obtain ⟨i1, i2, i3⟩ := rd_right hL h6 (by omega) hm
      have e : m0 + 1 + nodesL (kids ++ [x]) = k' := by rw [nodesL_app, nodesL, nodesL]; omega
      obtain ⟨r', h9, h10⟩ := ob_lim hL h8 (by simp [hl]) V q k hr m0 d' (by omega) hd
      rw [e] at h9
      exact ⟨r', .comma h h1 h2 h3 h6 h5 h9, h10⟩
    · obtain ⟨ks, xs, e1, hv⟩ := ob_kids h8 (by simp [hl]) V q k hr
      obtain ⟨n1, n2, n3⟩ := sorted_nodes (keys := keys ++ [s] ++ ks) (kids := kids ++ [x] ++ xs) (by simp [hl, e1])
      refine ⟨_, .err h h1 h2 h3 h6, .inr ⟨_, _, rfl, he, fun hF => hf ⟨?_, ?_⟩⟩⟩
      · have h9 := hF.1
        rw [hv] at h9
        have := right_kid h9 (x := x) (n2 x (by simp))
        rw [show 8 - (d' + 1) = 8 - d' - 1 by omega]; exact this
      · have h9 := hF.2
        rw [hv, n1, nodesL_app, nodesL_app, nodesL, nodesL] at h9
        omega
  | .bad _ _ _ _ _ _ _, _, _, _, _, h, _, _, _, _ => by unfold rFail at h; cases h
end
end
end Go.Proofs.YtalhoacancbldaaDoor
