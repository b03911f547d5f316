import Derived.Test.YtgolomgmnanbpaaGreatDoorX02
import Derived.Test.YtgolomgmnanbpaaGreatDoorProg
import Derived.Test.YtgolomgmnanbpaaGreatDoorX01
import Derived.Deep.LoopGhost
import Derived.Deep.DeepCutAuto
import Derived.RegionTactic
import Derived.BigRegion
import Derived.Test.YtgolomgmnanbpaaGreatDoorRows
import Derived.ChangeArms
import Derived.Deep.Strs
namespace Go.Proofs.YtgolomgmnanbpaaGreatDoor
set_option linter.unusedVariables false
set_option linter.unusedSimpArgs false
section Less
theorem ltB_cons (a b : UInt8) (x y : List UInt8) : ltB (a :: x) (b :: y) = true ↔ a < b ∨ (a = b ∧ ltB x y = true) := by
  unfold ltB
  rw [Op.bytesLess]
  by_cases h1 : a < b <;> by_cases h2 : a = b <;> simp [h1, h2]
theorem ltB_nil (x : List UInt8) : ltB x [] = false := by cases x <;> rfl
theorem ltB_nil_cons (b : UInt8) (y : List UInt8) : ltB [] (b :: y) = true := rfl
theorem ltB_irrefl : ∀ x : List UInt8, ¬ ltB x x = true
  | [], h => by rw [ltB_nil] at h; cases h
  | a :: x, h => by
    rcases (ltB_cons a a x x).1 h with h | h
    · have := UInt8.lt_iff_toNat_lt.1 h; omega
    · exact ltB_irrefl x h.2
theorem ltB_trans : ∀ {x y z : List UInt8}, ltB x y = true → ltB y z = true → ltB x z = true
  | _, [], _, h, _ => by rw [ltB_nil] at h; cases h
  | _, _ :: _, [], _, h => by rw [ltB_nil] at h; cases h
  | [], _ :: _, c :: z, _, _ => ltB_nil_cons c z
  | a :: x, b :: y, c :: z, h1, h2 => by
    rw [ltB_cons] at h1 h2 ⊢
    rcases h1 with h1 | ⟨rfl, h1⟩
    · rcases h2 with h2 | ⟨rfl, h2⟩
      · left
        have := UInt8.lt_iff_toNat_lt.1 h1
        have := UInt8.lt_iff_toNat_lt.1 h2
        exact UInt8.lt_iff_toNat_lt.2 (by omega)
      · exact .inl h1
    · rcases h2 with h2 | ⟨rfl, h2⟩
      · exact .inl h2
      · exact .inr ⟨rfl, ltB_trans h1 h2⟩
theorem ltB_total : ∀ {x y : List UInt8}, x ≠ y → ltB x y = true ∨ ltB y x = true
  | [], [], h => absurd rfl h
  | [], b :: y, _ => .inl (ltB_nil_cons b y)
  | a :: x, [], _ => .inr (ltB_nil_cons a x)
  | a :: x, b :: y, h => by
    rw [ltB_cons, ltB_cons]
    by_cases hab : a = b
    · subst hab
      have hxy : x ≠ y := fun e => h (by rw [e])
      rcases ltB_total hxy with h1 | h1
      · exact .inl (.inr ⟨rfl, h1⟩)
      · exact .inr (.inr ⟨rfl, h1⟩)
    · have : a.toNat ≠ b.toNat := fun e => hab (UInt8.toNat_inj.1 e)
      rcases Nat.lt_or_gt_of_ne this with h1 | h1
      · exact .inl (.inl (UInt8.lt_iff_toNat_lt.2 h1))
      · exact .inr (.inl (UInt8.lt_iff_toNat_lt.2 h1))
end Less
abbrev UpB (keys : List (List UInt8)) : Prop := keys.Pairwise fun a b => ltB a b = true
theorem insPos_what (key : List UInt8) (keys : List (List UInt8)) : ∀ n, (∀ j, insPos key keys n ≤ j → j < n → ltB key (keys.getD j []) = true) ∧ (0 < insPos key keys n → ltB key (keys.getD (insPos key keys n - 1) []) = false)
  | 0 => ⟨fun j h h' => absurd h' (Nat.not_lt_zero _), fun h => absurd h (Nat.lt_irrefl _)⟩
  | n + 1 => by
    have ih := insPos_what key keys n
    unfold insPos
    by_cases h : ltB key (keys.getD n []) = true
    · rw [if_pos h]
      refine ⟨fun j h1 h2 => ?_, ih.2⟩
      rcases Nat.lt_or_ge j n with h3 | h3
      · exact ih.1 j h1 h3
      · obtain rfl : j = n := by omega
        exact h
    · rw [if_neg h]
      exact ⟨fun j h1 h2 => by omega, fun _ => by simpa using h⟩
theorem upB_ins {key : List UInt8} {keys : List (List UInt8)} (h : UpB keys) (hk : key ∉ keys) : UpB (insAt keys (insPos key keys keys.length) key) := by
  obtain ⟨h1, h2⟩ := insPos_what key keys keys.length
  have hle := insPos_le key keys keys.length
  generalize insPos key keys keys.length = p at h1 h2 hle
  have hget : ∀ {j}, (hj : j < keys.length) → keys.getD j [] = keys[j] := fun {j} hj => by rw [List.getD_eq_getElem?_getD, List.getElem?_eq_getElem hj]; rfl
  have hp := List.pairwise_iff_getElem.1 h
  unfold insAt UpB
  have hb : ∀ x ∈ keys.take p, ltB x key = true := by
    intro x hx
    obtain ⟨j, hj, rfl⟩ := List.getElem_of_mem hx
    rw [List.length_take] at hj
    rw [List.getElem_take]
    have hp0 : 0 < p := by omega
    have h3 := h2 hp0
    rw [hget (by omega)] at h3
    have hne : keys[p - 1] ≠ key := fun e => hk (by rw [← e]; exact List.getElem_mem _)
    have h4 : ltB keys[p - 1] key = true := by
      rcases ltB_total hne with h5 | h5
      · exact h5
      · rw [h5] at h3; cases h3
    rcases Nat.lt_or_ge j (p - 1) with h6 | h6
    · exact ltB_trans (hp j (p - 1) (by omega) (by omega) h6) h4
    · obtain rfl : j = p - 1 := by omega
      exact h4
  have ha : ∀ x ∈ keys.drop p, ltB key x = true := by
    intro x hx
    obtain ⟨j, hj, rfl⟩ := List.getElem_of_mem hx
    rw [List.length_drop] at hj
    rw [List.getElem_drop]
    have := h1 (p + j) (by omega) (by omega)
    rwa [hget (by omega)] at this
  rw [List.pairwise_append]
  refine ⟨h.take, List.pairwise_cons.2 ⟨ha, h.drop⟩, fun x hx y hy => ?_⟩
  rcases List.mem_cons.1 hy with rfl | hy
  · exact hb x hx
  · exact ltB_trans (hb x hx) (ha y hy)
def IsText (s : List UInt8) : Prop := ∃ cs : List Nat, (∀ c ∈ cs, isCp (c : Int) = true) ∧ s = cs.flatMap cpBytes ∧ cs.length ≤ 262144
theorem IsText.nil : IsText [] := ⟨[], by simp, rfl, by simp⟩
structure aloneK (k n : Int) (s : List UInt8) (kids : List JV) (keys : List (List UInt8)) : Prop where
  texts : ∀ t ∈ keys, IsText t
  up : UpB keys
  kind : 1 ≤ k ∧ k ≤ 6
  num : k ≠ 3 → n = 0 ∨ (k = 2 ∧ n = 1)
  text : if k = 4 then IsText s else s = []
  leaf : k < 5 → kids = []
  keyed : if k = 6 then keys.length = kids.length else keys = []
mutual
def nodesJ : JV → Nat | .mk _ _ _ kids _ => 1 + nodesL kids
def nodesL : List JV → Nat | [] => 0 | x :: r => nodesJ x + nodesL r
end
mutual
def rightJ : Nat → JV → Prop
  | d, .mk k n s kids keys => aloneK k n s kids keys ∧ (5 ≤ k → d ≠ 0) ∧ rightL (d - 1) kids
def rightL : Nat → List JV → Prop
  | _, [] => True
  | d, x :: r => rightJ d x ∧ rightL d r
end
theorem rightL_iff {d : Nat} : ∀ {xs : List JV}, rightL d xs ↔ ∀ x ∈ xs, rightJ d x
  | [] => by simp [rightL]
  | x :: r => by simp [rightL, rightL_iff (xs := r)]
theorem nodesL_app : ∀ (xs ys : List JV), nodesL (xs ++ ys) = nodesL xs + nodesL ys
  | [], ys => by simp [nodesL]
  | x :: r, ys => by rw [List.cons_append, nodesL, nodesL, nodesL_app r ys]; omega
theorem nodesL_ins (xs : List JV) (i : Nat) (x : JV) : nodesL (insAt xs i x) = nodesL xs + nodesJ x := by
  unfold insAt
  rw [nodesL_app, nodesL]
  have := nodesL_app (xs.take i) (xs.drop i)
  rw [List.take_append_drop] at this
  omega
structure ObjW (d : Nat) (v : JV) (keys : List (List UInt8)) (N : Nat) : Prop where
  num : v.num = 0
  text : v.txt = []
  texts : ∀ t ∈ v.keys, IsText t
  up : UpB v.keys
  right : rightL d v.kids
  nodes : nodesL v.kids = N
  obj : IsObj v keys
theorem ObjW.nil (d : Nat) : ObjW d (.mk 6 0 [] [] []) [] 0 := ⟨rfl, rfl, by simp [JV.keys], by simp [JV.keys], trivial, rfl, rfl, rfl, fun s => Iff.rfl⟩
theorem ObjW.add {d N : Nat} {v x : JV} {keys : List (List UInt8)} {s : List UInt8} (h : ObjW d v keys N) (hs : IsText s) (hn : s ∉ keys) (hx : rightJ d x) : ObjW d (addKid v s x) (keys ++ [s]) (N + nodesJ x) := by
  have ho := h.obj.add s x
  obtain ⟨k, n, t, kids, ks⟩ := v
  have hk : k = 6 := h.obj.kind
  have hl : ks.length = kids.length := h.obj.len
  have hns : s ∉ ks := fun e => hn ((h.obj.mem s).1 e)
  have e : addKid (.mk k n t kids ks) s x = .mk k n t (insAt kids (insPos s ks kids.length) x) (insAt ks (insPos s ks kids.length) s) := by
    unfold addKid
    simp only
    rw [if_pos hk]
  rw [e] at ho ⊢
  refine ⟨h.num, h.text, fun y hy => ?_, ?_, ?_, ?_, ho⟩
  · rcases mem_insAt.1 hy with h1 | rfl
    · exact h.texts y h1
    · exact hs
  · have := upB_ins (key := s) h.up hns
    rw [show (JV.mk k n t kids ks).keys.length = kids.length from hl] at this
    exact this
  · refine rightL_iff.2 fun y hy => ?_
    rcases mem_insAt.1 hy with h1 | rfl
    · exact rightL_iff.1 h.right y h1
    · exact hx
  · rw [JV.kids, nodesL_ins]
    have : nodesL kids = N := h.nodes
    omega
section RightR
variable {l : List UInt8}
end RightR
end Go.Proofs.YtgolomgmnanbpaaGreatDoor
namespace Go.Proofs.YtgolomgmnanbpaaGreatDoor
set_option linter.unusedVariables false
set_option linter.unusedSimpArgs false
end Go.Proofs.YtgolomgmnanbpaaGreatDoor
namespace Go.Proofs.YtgolomgmnanbpaaGreatDoor
set_option linter.unusedVariables false
set_option linter.unusedSimpArgs false
open Go.RowKit
attribute [local go_sem] run_index_arr run_part_agg run_part_one run_field_agg
theorem BS.lit (w : World) (l : List UInt8) (cs : Array Value) (h : cs = (byteV l).toArray) (n : Nat) (hn : n = l.length) : BS (w.alloc (.cells cs 5)) (.slice (some ⟨w.heap.size, 0, none⟩) n n) l := by
  subst h hn
  refine ⟨_, _, rfl, Nat.le_refl _, ?_⟩
  have := Rd.of_blk (Blk.new w 5 (byteV l).toArray)
  simpa using this
theorem BS.at_ {w : World} {b o n cap : Nat} {l : List UInt8} (h : Rd w (some ⟨b, o, none⟩) (byteV l)) {k : Nat} {c : UInt8} (hc : l[k]? = some c) : w.cell? ⟨b, o + k, none⟩ = some (.int .u8 c.toNat) := by
  obtain ⟨hlt, e⟩ := List.getElem?_eq_some_iff.1 hc
  obtain ⟨b', o', e2, _, hx⟩ := h (by intro e; have h3 := byteV_len l; rw [e, List.length_nil] at h3; omega)
  obtain ⟨rfl, rfl⟩ : b = b' ∧ o = o' := by simpa using e2
  rw [hx k (by rw [byteV_len]; exact hlt)]; simp [byteV, e]
theorem Rd.some_ {w : World} {A : Option Addr} {l : List UInt8} (h : Rd w A (byteV l)) (hl : 0 < l.length) : ∃ b o, A = some ⟨b, o, none⟩ ∧ b < w.heap.size := by
  obtain ⟨b, o, e, hb, _⟩ := h (by intro e; have h3 := byteV_len l; rw [e, List.length_nil] at h3; omega)
  exact ⟨b, o, e, hb⟩
end Go.Proofs.YtgolomgmnanbpaaGreatDoor
namespace Go.Proofs.YtgolomgmnanbpaaGreatDoor
set_option linter.unusedVariables false
set_option linter.unusedSimpArgs false
open Go.RowKit
attribute [local go_sem] run_index_arr run_part_agg run_part_one run_field_agg
end Go.Proofs.YtgolomgmnanbpaaGreatDoor
namespace Go.Proofs.YtgolomgmnanbpaaGreatDoor
set_option linter.unusedVariables false
set_option linter.unusedSimpArgs false
open Go.RowKit
def RdF (W : World) (F : Nat → Prop) (A : Option Addr) (xs : List Value) : Prop :=
  xs ≠ [] → ∃ b o, A = some ⟨b, o, none⟩ ∧ b < W.heap.size ∧ F b ∧ ∀ i (h : i < xs.length), W.cell? ⟨b, o + i, none⟩ = some xs[i]
def KeepF (F : Nat → Prop) (W W' : World) : Prop := W.heap.size ≤ W'.heap.size ∧ ∀ b, F b → b < W.heap.size → W'.heap[b]? = W.heap[b]?
section
variable {W W' : World} {F F' : Nat → Prop} {A : Option Addr} {xs : List Value}
theorem RdF.rd (h : RdF W F A xs) : Rd W A xs := fun hn => by
  obtain ⟨b, o, e, hb, _, hx⟩ := h hn
  exact ⟨b, o, e, hb, hx⟩
theorem RdF.nil : RdF W F A [] := fun h => (h rfl).elim
theorem RdF.keep (h : RdF W F A xs) (hk : KeepF F W W') : RdF W' F A xs := fun hn => by
  obtain ⟨b, o, e, hb, hf, hx⟩ := h hn
  refine ⟨b, o, e, Nat.lt_of_lt_of_le hb hk.1, hf, fun i hi => ?_⟩
  rw [← hx i hi]
  exact World.cell?_of_block (hk.2 b hf hb)
theorem RdF.mono (h : RdF W F A xs) (hm : ∀ b, b < W.heap.size → F b → F' b) : RdF W F' A xs := fun hn => by
  obtain ⟨b, o, e, hb, hf, hx⟩ := h hn
  exact ⟨b, o, e, hb, hm b hb hf, hx⟩
theorem KeepF.of_below (h : Below W.heap.size W W') : KeepF F W W' := ⟨h.size, fun b _ hb => h.block b hb⟩
theorem KeepF.of_grown {g : Option Nat} (h : W.grownBy W' g) (hg : ∀ b, F b → some b ≠ g) : KeepF F W W' := ⟨h.size, fun b hf hb => h.block b hb (hg b hf)⟩
theorem KeepF.refl : KeepF F W W := ⟨Nat.le_refl _, fun _ _ _ => rfl⟩
theorem KeepF.trans {W'' : World} (h : KeepF F W W') (h' : KeepF F W' W'') : KeepF F W W'' :=
  ⟨Nat.le_trans h.1 h'.1, fun b hf hb => (h'.2 b hf (Nat.lt_of_lt_of_le hb h.1)).trans (h.2 b hf hb)⟩
end
theorem KeepF.set {W W' : World} {F : Nat → Prop} (h : KeepF F W W') {k : Nat} (hk : ∀ b, F b → b ≠ k) (i : Nat) (u : Value) : KeepF F W (W'.setCell ⟨k, i, none⟩ u) :=
  ⟨by simpa using h.1, fun b hf hb => (Below.heap_setCell W' ⟨k, i, none⟩ u b (hk b hf)).trans (h.2 b hf hb)⟩
theorem KeepF.bel {W W' W'' : World} {F : Nat → Prop} (h : KeepF F W W') (hb : Below W'.heap.size W' W'') : KeepF F W W'' := h.trans (KeepF.of_below hb)
theorem KeepF.alloc {W W' : World} {F : Nat → Prop} (h : KeepF F W W') (o : Obj) : KeepF F W (W'.alloc o) := h.bel ((Below.refl _ _).alloc (Nat.le_refl _) o)
def strV (ks : List (List UInt8)) : List Value := ks.map fun s => .string ⟨s.toArray⟩
theorem strV_len (ks : List (List UInt8)) : (strV ks).length = ks.length := by simp [strV]
inductive VR (W : World) (F : Nat → Prop) : List Value → JV → Prop where
  | mk {k n : Int} {s : List UInt8} {kids : List JV} {keys : List (List UInt8)} {A B : Option Addr} {ca cb : Nat} {css : List (List Value)} :
      css.length = kids.length → kids.length ≤ ca → keys.length ≤ cb → (A = none → ca = 0) → (B = none → cb = 0) → RdF W F A css.flatten → RdF W F B (strV keys) →
      (∀ (i : Nat) c x, css[i]? = some c → kids[i]? = some x → VR W F c x) →
      VR W F [.int .i64 k, .int .i64 n, .string ⟨s.toArray⟩, .slice A kids.length ca, .slice B keys.length cb] (.mk k n s kids keys)
section
variable {W W' : World} {F F' : Nat → Prop} {cs : List Value} {v : JV}
theorem VR.keep (h : VR W F cs v) (hk : KeepF F W W') : VR W' F cs v := by
  induction h with
  | mk h1 h2 h3 hA hB h4 h5 _ ih => exact .mk h1 h2 h3 hA hB (h4.keep hk) (h5.keep hk) ih
theorem VR.mono (h : VR W F cs v) (hm : ∀ b, b < W.heap.size → F b → F' b) : VR W F' cs v := by
  induction h with
  | mk h1 h2 h3 hA hB h4 h5 _ ih => exact .mk h1 h2 h3 hA hB (h4.mono hm) (h5.mono hm) ih
theorem VR.bel (h : VR W F cs v) (hb : Below W.heap.size W W') : VR W' F cs v := h.keep (KeepF.of_below hb)
theorem VR.form (h : VR W F cs v) : ∃ (k n : Int) (s : ByteArray) (A : Option Addr) (na ca : Nat) (B : Option Addr) (nb cb : Nat), cs = [.int .i64 k, .int .i64 n, .string s, .slice A na ca, .slice B nb cb] := by
  cases h; exact ⟨_, _, _, _, _, _, _, _, _, rfl⟩
theorem VR.len (h : VR W F cs v) : cs.length = 5 := by cases h; rfl
theorem VR.one (h : VR W F cs v) : ∀ u ∈ cs, u.oneCell' = true := by
  cases h
  intro u hu
  simp only [List.mem_cons, List.not_mem_nil, or_false] at hu
  rcases hu with rfl | rfl | rfl | rfl | rfl <;> rfl
theorem VR.atom (k n : Int) (s : List UInt8) : VR W F [.int .i64 k, .int .i64 n, .string ⟨s.toArray⟩, .slice none 0 0, .slice none 0 0] (.mk k n s [] []) :=
  VR.mk (kids := []) (keys := []) (css := []) (ca := 0) (cb := 0) rfl (Nat.le_refl _) (Nat.le_refl _) (fun _ => rfl) (fun _ => rfl) RdF.nil RdF.nil (fun i c x h => by simp at h)
theorem VR.zero : VR W F [.int .i64 0, .int .i64 0, .string ⟨#[]⟩, .slice none 0 0, .slice none 0 0] jZero := VR.atom 0 0 []
end
def VRs (W : World) (F : Nat → Prop) (css : List (List Value)) (xs : List JV) : Prop := css.length = xs.length ∧ ∀ (i : Nat) c x, css[i]? = some c → xs[i]? = some x → VR W F c x
section
variable {W W' : World} {F F' : Nat → Prop} {css : List (List Value)} {xs : List JV}
theorem VRs.keep (h : VRs W F css xs) (hk : KeepF F W W') : VRs W' F css xs := ⟨h.1, fun i c x h1 h2 => (h.2 i c x h1 h2).keep hk⟩
theorem VRs.mono (h : VRs W F css xs) (hm : ∀ b, b < W.heap.size → F b → F' b) : VRs W F' css xs := ⟨h.1, fun i c x h1 h2 => (h.2 i c x h1 h2).mono hm⟩
theorem VRs.below (h : VRs W F css xs) (hb : Below W.heap.size W W') : VRs W' F css xs := h.keep (KeepF.of_below hb)
theorem VRs.nil : VRs W F [] [] := ⟨rfl, fun i c x h => by simp at h⟩
theorem flat5_len : ∀ {css : List (List Value)}, (∀ c ∈ css, c.length = 5) → css.flatten.length = css.length * 5
  | [], _ => rfl
  | c :: r, h => by
    rw [List.flatten_cons, List.length_append, h c List.mem_cons_self, flat5_len (fun c hc => h c (List.mem_cons_of_mem _ hc)), List.length_cons]; omega
theorem flat5_get : ∀ {css : List (List Value)} (_ : ∀ c ∈ css, c.length = 5) {i : Nat} {c : List Value} (_ : css[i]? = some c) {j : Nat} (_ : j < 5), css.flatten[i * 5 + j]? = c[j]?
  | [], _, i, c, h, _, _ => by simp at h
  | c' :: r, h5, 0, c, h, j, hj => by
    have : c' = c := by simpa using h
    subst this
    rw [List.flatten_cons, Nat.zero_mul, Nat.zero_add, List.getElem?_append_left (by rw [h5 c' List.mem_cons_self]; exact hj)]
  | c' :: r, h5, i + 1, c, h, j, hj => by
    have h' : r[i]? = some c := by simpa using h
    have hl := h5 c' List.mem_cons_self
    rw [List.flatten_cons, List.getElem?_append_right (by omega), ← flat5_get (fun c hc => h5 c (List.mem_cons_of_mem _ hc)) h' hj]
    congr 1; omega
theorem VRs.five (h : VRs W F css xs) : ∀ c ∈ css, c.length = 5 := fun c hc => by
  obtain ⟨i, hi, rfl⟩ := List.getElem_of_mem hc
  have hx : i < xs.length := by rw [← h.1]; exact hi
  exact (h.2 i _ _ (List.getElem?_eq_getElem hi) (List.getElem?_eq_getElem hx)).len
theorem VRs.flat (h : VRs W F css xs) : css.flatten.length = xs.length * 5 := by rw [flat5_len h.five, h.1]
theorem VRs.one (h : VRs W F css xs) : ∀ u ∈ css.flatten, u.oneCell' = true := fun u hu => by
  obtain ⟨c, hc, hu⟩ := List.mem_flatten.1 hu
  obtain ⟨i, hi, rfl⟩ := List.getElem_of_mem hc
  have hx : i < xs.length := by rw [← h.1]; exact hi
  exact (h.2 i _ _ (List.getElem?_eq_getElem hi) (List.getElem?_eq_getElem hx)).one u hu
theorem VRs.snoc {c : List Value} {x : JV} (h : VRs W F css xs) (hx : VR W F c x) : VRs W F (css ++ [c]) (xs ++ [x]) := by
  refine ⟨by simp [h.1], fun i c' x' h1 h2 => ?_⟩
  rcases Nat.lt_or_ge i css.length with hi | hi
  · rw [List.getElem?_append_left hi] at h1
    rw [List.getElem?_append_left (by rw [← h.1]; exact hi)] at h2
    exact h.2 i c' x' h1 h2
  · rw [List.getElem?_append_right hi] at h1
    rw [List.getElem?_append_right (by rw [← h.1]; exact hi)] at h2
    have : i - css.length = 0 := by
      rcases Nat.eq_zero_or_pos (i - css.length) with h0 | h0
      · exact h0
      · rw [List.getElem?_eq_none (by simp; omega)] at h1; cases h1
    rw [this] at h1
    rw [← h.1, this] at h2
    obtain rfl : c = c' := by simpa using h1
    obtain rfl : x = x' := by simpa using h2
    exact hx
theorem VRs.get_ {i : Nat} {x : JV} (h : VRs W F css xs) (hx : xs[i]? = some x) : ∃ c, css[i]? = some c ∧ VR W F c x := by
  have hi : i < css.length := by rw [h.1]; exact (List.getElem?_eq_some_iff.1 hx).1
  exact ⟨_, List.getElem?_eq_getElem hi, h.2 i _ x (List.getElem?_eq_getElem hi) hx⟩
theorem VRs.take (h : VRs W F css xs) (n : Nat) : VRs W F (css.take n) (xs.take n) := by
  refine ⟨by simp [h.1], fun i c x h1 h2 => ?_⟩
  rw [List.getElem?_take] at h1 h2
  split at h1
  · rename_i hi; rw [if_pos hi] at h2; exact h.2 i c x h1 h2
  · cases h1
theorem VRs.drop (h : VRs W F css xs) (n : Nat) : VRs W F (css.drop n) (xs.drop n) := by
  refine ⟨by simp [h.1], fun i c x h1 h2 => ?_⟩
  rw [List.getElem?_drop] at h1 h2
  exact h.2 _ c x h1 h2
theorem VRs.append {css' : List (List Value)} {xs' : List JV} (h : VRs W F css xs) (h' : VRs W F css' xs') : VRs W F (css ++ css') (xs ++ xs') := by
  refine ⟨by simp [h.1, h'.1], fun i c x h1 h2 => ?_⟩
  rcases Nat.lt_or_ge i css.length with hi | hi
  · rw [List.getElem?_append_left hi] at h1
    rw [List.getElem?_append_left (by rw [← h.1]; exact hi)] at h2
    exact h.2 i c x h1 h2
  · rw [List.getElem?_append_right hi] at h1
    rw [List.getElem?_append_right (by rw [← h.1]; exact hi), ← h.1] at h2
    exact h'.2 _ c x h1 h2
end
theorem VR.out {W : World} {F : Nat → Prop} {cs : List Value} {k n : Int} {s : List UInt8} {kids : List JV} {keys : List (List UInt8)} (h : VR W F cs (.mk k n s kids keys)) :
    ∃ A B ca cb css, cs = [.int .i64 k, .int .i64 n, .string ⟨s.toArray⟩, .slice A kids.length ca, .slice B keys.length cb] ∧ VRs W F css kids ∧ kids.length ≤ ca ∧ keys.length ≤ cb ∧ (A = none → ca = 0) ∧ (B = none → cb = 0) ∧ RdF W F A css.flatten ∧ RdF W F B (strV keys) := by
  cases h with
  | mk h1 h2 h3 hA hB h4 h5 h6 => exact ⟨_, _, _, _, _, rfl, ⟨h1, h6⟩, h2, h3, hA, hB, h4, h5⟩
theorem VR.into {W : World} {F : Nat → Prop} {A B : Option Addr} {ca cb : Nat} {css : List (List Value)} (k n : Int) (s : List UInt8) {kids : List JV} {keys : List (List UInt8)} (h : VRs W F css kids) (h2 : kids.length ≤ ca) (h3 : keys.length ≤ cb) (hA : A = none → ca = 0) (hB : B = none → cb = 0)
    (h4 : RdF W F A css.flatten) (h5 : RdF W F B (strV keys)) {na nb : Nat} (hna : na = kids.length) (hnb : nb = keys.length) : VR W F [.int .i64 k, .int .i64 n, .string ⟨s.toArray⟩, .slice A na ca, .slice B nb cb] (.mk k n s kids keys) := by
  subst hna hnb
  exact .mk h.1 h2 h3 hA hB h4 h5 h.2
theorem gbBel {w w' : World} (h : Below w.heap.size w w') (row : Option Nat) : w.grownBy w' row := ⟨h.os, h.tape, h.output, h.size, fun k hk _ => h.block k hk⟩
theorem ownBel {w w' : World} {base : Nat} {e : TypeId} {size n : Nat} {v : Value} {xs : List Value} (h : w.ownsRow base e size v n xs) (hb : Below w.heap.size w w') : w'.ownsRow base e size v n xs :=
  h.kept (gbBel hb none) (by cases v.ownBlock <;> simp)
end Go.Proofs.YtgolomgmnanbpaaGreatDoor
namespace Go.Proofs.YtgolomgmnanbpaaGreatDoor
set_option linter.unusedVariables false
set_option linter.unusedSimpArgs false
open Go.RowKit
theorem oN8 (n : Nat) (h : n < 256) : (UInt8.ofNat n).toNat = n := by
  have : (UInt8.ofNat n).toNat = n % 256 := by simp
  rw [this]; omega
theorem cpBegin_bytes (c : Nat) (r : List UInt8) (h : isCp (c : Int) = true) : cpBegin (cpBytes c ++ r) = (c, (cpBytes c).length) ∧ 1 ≤ (cpBytes c).length ∧ (cpBytes c).length ≤ 4 := by
  have hc := (isCp_iff c).1 h
  by_cases h1 : c < 128
  · obtain ⟨c0, e0, h0⟩ : ∃ c0 : UInt8, UInt8.ofNat c = c0 ∧ c0.toNat = c := ⟨_, rfl, oN8 _ (by omega)⟩
    have e : cpBytes c = [c0] := by unfold cpBytes; rw [if_pos h1, e0]
    rw [e, List.cons_append, List.nil_append, begin_1 ((ok1 c0 r).2 (by omega))]
    refine ⟨?_, by simp, by simp⟩
    have : cpNum (c0 :: r) 1 = c0.toNat := by simp [cpNum]
    rw [this, h0]; rfl
  by_cases h2 : c < 2048
  · obtain ⟨c0, e0, h0⟩ : ∃ c0 : UInt8, UInt8.ofNat (192 + c / 64) = c0 ∧ c0.toNat = 192 + c / 64 := ⟨_, rfl, oN8 _ (by omega)⟩
    obtain ⟨c1, e1, k1⟩ : ∃ c1 : UInt8, UInt8.ofNat (128 + c % 64) = c1 ∧ c1.toNat = 128 + c % 64 := ⟨_, rfl, oN8 _ (by omega)⟩
    have e : cpBytes c = [c0, c1] := by unfold cpBytes; rw [if_neg h1, if_pos h2, e0, e1]
    have n1 : cpOk (c0 :: c1 :: r) 1 = false := by rw [Bool.eq_false_iff, Ne, ok1]; omega
    rw [e]
    show cpBegin (c0 :: c1 :: r) = _ ∧ _
    rw [begin_2 n1 ((ok2 c0 c1 r).2 (by omega))]
    refine ⟨?_, by simp, by simp⟩
    have : cpNum (c0 :: c1 :: r) 2 = c0.toNat % 32 * 64 + c1.toNat % 64 := by simp [cpNum]
    rw [this, h0, k1]
    show (_, 2) = (_, 2)
    congr 1; omega
  by_cases h3 : c < 65536
  · obtain ⟨c0, e0, h0⟩ : ∃ c0 : UInt8, UInt8.ofNat (224 + c / 4096) = c0 ∧ c0.toNat = 224 + c / 4096 := ⟨_, rfl, oN8 _ (by omega)⟩
    obtain ⟨c1, e1, k1⟩ : ∃ c1 : UInt8, UInt8.ofNat (128 + c / 64 % 64) = c1 ∧ c1.toNat = 128 + c / 64 % 64 := ⟨_, rfl, oN8 _ (by omega)⟩
    obtain ⟨c2, e2, k2⟩ : ∃ c2 : UInt8, UInt8.ofNat (128 + c % 64) = c2 ∧ c2.toNat = 128 + c % 64 := ⟨_, rfl, oN8 _ (by omega)⟩
    have e : cpBytes c = [c0, c1, c2] := by unfold cpBytes; rw [if_neg h1, if_neg h2, if_pos h3, e0, e1, e2]
    have n1 : cpOk (c0 :: c1 :: c2 :: r) 1 = false := by rw [Bool.eq_false_iff, Ne, ok1]; omega
    have n2 : cpOk (c0 :: c1 :: c2 :: r) 2 = false := no2 _ _ (by omega)
    rw [e]
    show cpBegin (c0 :: c1 :: c2 :: r) = _ ∧ _
    rw [begin_3 n1 n2 ((ok3 c0 c1 c2 r).2 (by omega))]
    refine ⟨?_, by simp, by simp⟩
    have : cpNum (c0 :: c1 :: c2 :: r) 3 = (c0.toNat % 16 * 64 + c1.toNat % 64) * 64 + c2.toNat % 64 := by simp [cpNum]
    rw [this, h0, k1, k2]
    show (_, 3) = (_, 3)
    congr 1; omega
  · obtain ⟨c0, e0, h0⟩ : ∃ c0 : UInt8, UInt8.ofNat (240 + c / 262144) = c0 ∧ c0.toNat = 240 + c / 262144 := ⟨_, rfl, oN8 _ (by omega)⟩
    obtain ⟨c1, e1, k1⟩ : ∃ c1 : UInt8, UInt8.ofNat (128 + c / 4096 % 64) = c1 ∧ c1.toNat = 128 + c / 4096 % 64 := ⟨_, rfl, oN8 _ (by omega)⟩
    obtain ⟨c2, e2, k2⟩ : ∃ c2 : UInt8, UInt8.ofNat (128 + c / 64 % 64) = c2 ∧ c2.toNat = 128 + c / 64 % 64 := ⟨_, rfl, oN8 _ (by omega)⟩
    obtain ⟨c3, e3, k3⟩ : ∃ c3 : UInt8, UInt8.ofNat (128 + c % 64) = c3 ∧ c3.toNat = 128 + c % 64 := ⟨_, rfl, oN8 _ (by omega)⟩
    have e : cpBytes c = [c0, c1, c2, c3] := by unfold cpBytes; rw [if_neg h1, if_neg h2, if_neg h3, e0, e1, e2, e3]
    have n1 : cpOk (c0 :: c1 :: c2 :: c3 :: r) 1 = false := by rw [Bool.eq_false_iff, Ne, ok1]; omega
    have n2 : cpOk (c0 :: c1 :: c2 :: c3 :: r) 2 = false := no2 _ _ (by omega)
    have n3 : cpOk (c0 :: c1 :: c2 :: c3 :: r) 3 = false := no3 _ _ (by omega)
    rw [e]
    show cpBegin (c0 :: c1 :: c2 :: c3 :: r) = _ ∧ _
    rw [begin_4 n1 n2 n3 ((ok4 c0 c1 c2 c3 r).2 (by omega))]
    refine ⟨?_, by simp, by simp⟩
    have : cpNum (c0 :: c1 :: c2 :: c3 :: r) 4 = ((c0.toNat % 8 * 64 + c1.toNat % 64) * 64 + c2.toNat % 64) * 64 + c3.toNat % 64 := by simp [cpNum]
    rw [this, h0, k1, k2, k3]
    show (_, 4) = (_, 4)
    congr 1; omega
theorem cps_len {cs : List Nat} (h : ∀ c ∈ cs, isCp (c : Int) = true) : cs.length ≤ (cs.flatMap cpBytes).length ∧ (cs.flatMap cpBytes).length ≤ 4 * cs.length := by
  induction cs with
  | nil => simp
  | cons c r ih =>
    have h1 := cpBegin_bytes c [] (h c List.mem_cons_self)
    have h2 := ih (fun x hx => h x (List.mem_cons_of_mem _ hx))
    rw [List.flatMap_cons, List.length_append, List.length_cons]
    omega
theorem strV_cell {W : World} {b o : Nat} {ks : List (List UInt8)} {n : Nat} (h : RdF W (fun _ => True) (some ⟨b, o, none⟩) (strV ks)) {i : Nat} {t : List UInt8} (hx : ks[i]? = some t) : W.cell? ⟨b, o + i, none⟩ = some (.string ⟨t.toArray⟩) := by
  have hkl := List.getElem?_eq_some_iff.1 hx
  obtain ⟨b', o', e, _, _, hc⟩ := h (by intro e; have h := strV_len ks; rw [e] at h; have := hkl.1; simp at h; omega)
  injection e with e; injection e with e1 e2
  subst e1; subst e2
  rw [hc i (by rw [strV_len]; exact hkl.1)]
  simp [strV, hkl.2]
theorem strV_some {W : World} {F : Nat → Prop} {A : Option Addr} {ks : List (List UInt8)} (h : RdF W F A (strV ks)) (hx : 0 < ks.length) : ∃ b o, A = some ⟨b, o, none⟩ ∧ b < W.heap.size := by
  obtain ⟨b, o, e, hb, _⟩ := h (by intro e; have h := strV_len ks; rw [e] at h; simp at h; omega)
  exact ⟨b, o, e, hb⟩
theorem nodesJ_pos (v : JV) : 1 ≤ nodesJ v := by cases v; unfold nodesJ; omega
theorem nodesL_len : ∀ xs : List JV, xs.length ≤ nodesL xs
  | [] => Nat.zero_le _
  | x :: r => by have := nodesL_len r; have := nodesJ_pos x; rw [nodesL, List.length_cons]; omega
theorem nodesL_at {xs : List JV} {i : Nat} {x : JV} (h : xs[i]? = some x) : nodesL (xs.take (i + 1)) = nodesL (xs.take i) + nodesJ x ∧ nodesL (xs.take i) + nodesJ x ≤ nodesL xs := by
  have e : nodesL (xs.take (i + 1)) = nodesL (xs.take i) + nodesJ x := by rw [List.take_add_one, h, nodesL_app]; show _ + nodesL [x] = _; rw [nodesL, nodesL]; omega
  refine ⟨e, ?_⟩
  have := nodesL_app (xs.take (i + 1)) (xs.drop (i + 1))
  rw [List.take_append_drop] at this
  omega
end Go.Proofs.YtgolomgmnanbpaaGreatDoor
namespace Go.Proofs.YtgolomgmnanbpaaGreatDoor
set_option linter.unusedVariables false
set_option linter.unusedSimpArgs false
open Go.RowKit
def txtGo : Nat → List UInt8 → Bool
  | _, [] => true
  | 0, _ :: _ => false
  | f + 1, c :: r => if (cpBegin (c :: r)).2 = 0 then false else txtGo f ((c :: r).drop (cpBegin (c :: r)).2)
def txtOk (l : List UInt8) : Bool := txtGo l.length l
theorem txtGo_same : ∀ (f g : Nat) (l : List UInt8), l.length ≤ f → l.length ≤ g → txtGo f l = txtGo g l
  | f, g, [], _, _ => by cases f <;> cases g <;> rfl
  | 0, _, _ :: _, h, _ => by simp at h
  | _ + 1, 0, _ :: _, _, h => by simp at h
  | f + 1, g + 1, c :: r, h, h' => by
    unfold txtGo
    split
    · rfl
    · rename_i hn
      refine txtGo_same f g _ ?_ ?_ <;> · rw [List.length_drop, List.length_cons] at *; omega
theorem txtOk_nil : txtOk [] = true := rfl
theorem txtOk_step {l : List UInt8} (h : l ≠ []) : txtOk l = (if (cpBegin l).2 = 0 then false else txtOk (l.drop (cpBegin l).2)) := by
  cases l with
  | nil => exact absurd rfl h
  | cons c r =>
    show txtGo (r.length + 1) (c :: r) = _
    unfold txtGo
    split
    · rfl
    · rename_i hn
      refine txtGo_same _ _ _ ?_ ?_ <;> · rw [List.length_drop, List.length_cons]; omega
theorem txtOk_cps : ∀ {cs : List Nat}, (∀ c ∈ cs, isCp (c : Int) = true) → txtOk (cs.flatMap cpBytes) = true
  | [], _ => rfl
  | c :: r, h => by
    obtain ⟨h1, h2, h3⟩ := cpBegin_bytes c (r.flatMap cpBytes) (h c List.mem_cons_self)
    rw [List.flatMap_cons, txtOk_step (by intro e; have h := congrArg List.length e; rw [List.length_append] at h; simp only [List.length_nil] at h; omega), h1, if_neg (by show ¬ (cpBytes c).length = 0; omega)]
    show txtOk ((cpBytes c ++ _).drop (cpBytes c).length) = _
    rw [List.drop_left]
    exact txtOk_cps (fun x hx => h x (List.mem_cons_of_mem _ hx))
theorem IsText.ok {s : List UInt8} (h : IsText s) : txtOk s = true := by
  obtain ⟨cs, h1, rfl, _⟩ := h
  exact txtOk_cps h1
theorem cpBegin_le4 (l : List UInt8) : (cpBegin l).2 ≤ l.length ∧ (cpBegin l).2 ≤ 4 := ⟨cpBegin_len l, cpBegin_le l⟩
def keysOk : List (List UInt8) → Bool
  | [] => true
  | k :: r => txtOk k && ((match r with | [] => true | k' :: _ => ltB k k') && keysOk r)
theorem keysOk_iff : ∀ {keys : List (List UInt8)}, keysOk keys = true ↔ (∀ t ∈ keys, txtOk t = true) ∧ UpB keys
  | [] => by simp [keysOk]
  | [k] => by simp [keysOk]
  | k :: k' :: r => by
    have ih := keysOk_iff (keys := k' :: r)
    unfold keysOk
    rw [Bool.and_eq_true, Bool.and_eq_true, ih]
    show txtOk k = true ∧ ltB k k' = true ∧ _ ↔ _
    constructor
    · rintro ⟨h1, h2, h3, h4⟩
      refine ⟨fun t ht => ?_, List.pairwise_cons.2 ⟨fun y hy => ?_, h4⟩⟩
      · rcases List.mem_cons.1 ht with rfl | ht
        · exact h1
        · exact h3 t ht
      · rcases List.mem_cons.1 hy with rfl | hy
        · exact h2
        · exact ltB_trans h2 ((List.pairwise_cons.1 h4).1 y hy)
    · rintro ⟨h1, h2⟩
      have h2 := List.pairwise_cons.1 h2
      exact ⟨h1 k List.mem_cons_self, h2.1 k' List.mem_cons_self, fun t ht => h1 t (List.mem_cons_of_mem _ ht), h2.2⟩
def goodA (k n : Int) (s : List UInt8) (nk : Nat) (keys : List (List UInt8)) : Bool :=
  if k = 1 then n == 0 && s == [] && nk == 0 && keys == []
  else if k = 2 then (n == 0 || n == 1) && s == [] && nk == 0 && keys == []
  else if k = 3 then s == [] && nk == 0 && keys == []
  else if k = 4 then n == 0 && txtOk s && nk == 0 && keys == []
  else if k = 5 then n == 0 && s == [] && keys == []
  else if k = 6 then n == 0 && s == [] && nk == keys.length && keysOk keys
  else false
mutual
/-- right within so many levels -/
def goodJ : Nat → JV → Bool
  | d, .mk k n s kids keys => goodA k n s kids.length keys && (decide (5 ≤ k → d ≠ 0) && goodL (d - 1) kids)
def goodL : Nat → List JV → Bool
  | _, [] => true
  | d, x :: r => goodJ d x && goodL d r
end
theorem goodL_iff {d : Nat} : ∀ {xs : List JV}, goodL d xs = true ↔ ∀ x ∈ xs, goodJ d x = true
  | [] => by simp [goodL]
  | x :: r => by simp [goodL, goodL_iff (xs := r)]
def good (v : JV) : Bool := goodJ 8 v && decide (nodesJ v ≤ 256)
theorem goodA_kind {k n : Int} {s : List UInt8} {nk : Nat} {keys : List (List UInt8)} (h : goodA k n s nk keys = true) : 1 ≤ k ∧ k ≤ 6 := by
  unfold goodA at h
  split at h
  · omega
  split at h
  · omega
  split at h
  · omega
  split at h
  · omega
  split at h
  · omega
  split at h
  · omega
  · cases h
theorem goodA_leaf {k n : Int} {s : List UInt8} {nk : Nat} {keys : List (List UInt8)} (h : goodA k n s nk keys = true) (hk : k < 5) : nk = 0 ∧ keys = [] := by
  have := goodA_kind h
  unfold goodA at h
  split at h
  · simp only [Bool.and_eq_true, beq_iff_eq] at h; exact ⟨h.1.2, h.2⟩
  split at h
  · simp only [Bool.and_eq_true, beq_iff_eq] at h; exact ⟨h.1.2, h.2⟩
  split at h
  · simp only [Bool.and_eq_true, beq_iff_eq] at h; exact ⟨h.1.2, h.2⟩
  split at h
  · simp only [Bool.and_eq_true, beq_iff_eq] at h; exact ⟨h.1.2, h.2⟩
  · omega
theorem goodA_list {n : Int} {s : List UInt8} {nk : Nat} {keys : List (List UInt8)} (h : goodA 5 n s nk keys = true) : n = 0 ∧ s = [] ∧ keys = [] := by
  unfold goodA at h
  simp at h
  exact ⟨h.1.1, h.1.2, h.2⟩
theorem goodA_obj {n : Int} {s : List UInt8} {nk : Nat} {keys : List (List UInt8)} (h : goodA 6 n s nk keys = true) : n = 0 ∧ s = [] ∧ nk = keys.length ∧ keysOk keys = true := by
  unfold goodA at h
  simp at h
  exact ⟨h.1.1.1, h.1.1.2, h.1.2, h.2⟩
theorem aloneK.good {k n : Int} {s : List UInt8} {kids : List JV} {keys : List (List UInt8)} (h : aloneK k n s kids keys) : goodA k n s kids.length keys = true := by
  have hk := h.kind
  have hky := h.keyed
  have ht := h.text
  have hl := h.leaf
  have hn := h.num
  have hk7 : k = 1 ∨ k = 2 ∨ k = 3 ∨ k = 4 ∨ k = 5 ∨ k = 6 := by omega
  rcases hk7 with rfl | rfl | rfl | rfl | rfl | rfl
  · have h1 := hl (by decide); have h2 := hn (by decide); simp at ht hky h2; subst h1 ht hky h2; rfl
  · have h1 := hl (by decide); have h2 := hn (by decide); simp at ht hky h2; subst h1 ht hky; rcases h2 with rfl | rfl <;> rfl
  · have h1 := hl (by decide); simp at ht hky; subst h1 ht hky; rfl
  · have h1 := hl (by decide); have h2 := hn (by decide); simp at ht hky h2; subst h1 hky h2
    have := ht.ok
    simp [goodA, this]
  · have h2 := hn (by decide); simp at ht hky h2; subst ht hky h2; simp [goodA]
  · have h2 := hn (by decide); simp at ht hky h2; subst ht h2
    have := keysOk_iff.2 ⟨fun t htt => (h.texts t htt).ok, h.up⟩
    simp [goodA, this, hky]
mutual
theorem rightJ.good : ∀ {d : Nat} {v : JV}, rightJ d v → goodJ d v = true
  | d, .mk k n s kids keys, h => by
    unfold rightJ at h
    unfold goodJ
    rw [h.1.good, rightL.good h.2.2]
    rw [decide_eq_true h.2.1]; rfl
theorem rightL.good : ∀ {d : Nat} {xs : List JV}, rightL d xs → goodL d xs = true
  | _, [], _ => by simp [goodL]
  | d, x :: r, h => by
    unfold rightL at h
    unfold goodL
    rw [rightJ.good h.1, rightL.good h.2]; rfl
end
end Go.Proofs.YtgolomgmnanbpaaGreatDoor
namespace Go.Proofs.YtgolomgmnanbpaaGreatDoor
set_option linter.unusedVariables false
set_option linter.unusedSimpArgs false
open Go.RowKit
def TT : Nat → Prop := fun _ => True
def iw (n : Int) : Prop := -9223372036854775808 ≤ n ∧ n ≤ 9223372036854775807
mutual
def inJ : JV → Prop | .mk k n s kids keys => iw k ∧ iw n ∧ inL kids
def inL : List JV → Prop | [] => True | x :: r => inJ x ∧ inL r
end
theorem inL_iff : ∀ {xs : List JV}, inL xs ↔ ∀ x ∈ xs, inJ x
  | [] => by simp [inL]
  | x :: r => by simp [inL, inL_iff (xs := r)]
def bulkK : List (List UInt8) → Nat | [] => 0 | k :: r => k.length + 1 + bulkK r
mutual
/-- how much a value is -/
def bulkJ : JV → Nat | .mk k n s kids keys => 1 + s.length + bulkK keys + bulkL kids
def bulkL : List JV → Nat | [] => 0 | x :: r => bulkJ x + bulkL r
end
theorem bulkJ_pos (v : JV) : 1 ≤ bulkJ v := by cases v; unfold bulkJ; omega
theorem bulkK_len : ∀ ks : List (List UInt8), ks.length ≤ bulkK ks
  | [] => Nat.zero_le _
  | k :: r => by have := bulkK_len r; unfold bulkK; rw [List.length_cons]; omega
theorem bulkK_at : ∀ {ks : List (List UInt8)} {t : List UInt8}, t ∈ ks → t.length + 1 ≤ bulkK ks
  | k :: r, t, h => by
    unfold bulkK
    rcases List.mem_cons.1 h with rfl | h
    · omega
    · have := bulkK_at h; omega
theorem bulkL_len : ∀ xs : List JV, xs.length ≤ bulkL xs
  | [] => Nat.zero_le _
  | x :: r => by have := bulkL_len r; have := bulkJ_pos x; unfold bulkL; rw [List.length_cons]; omega
mutual
theorem nodes_bulk : ∀ v : JV, nodesJ v ≤ bulkJ v
  | .mk k n s kids keys => by have := nodesL_bulk kids; unfold nodesJ bulkJ; omega
theorem nodesL_bulk : ∀ xs : List JV, nodesL xs ≤ bulkL xs
  | [] => Nat.le_refl _
  | x :: r => by have := nodes_bulk x; have := nodesL_bulk r; unfold nodesL bulkL; omega
end
mutual
/-- the lengths of a value's parts -/
def lenJ : JV → Prop | .mk k n s kids keys => s.length ≤ 4194304 ∧ kids.length ≤ 4194304 ∧ keys.length ≤ 4194304 ∧ (∀ t ∈ keys, t.length ≤ 4194304) ∧ lenL kids
def lenL : List JV → Prop | [] => True | x :: r => lenJ x ∧ lenL r
end
theorem lenL_iff : ∀ {xs : List JV}, lenL xs ↔ ∀ x ∈ xs, lenJ x
  | [] => by simp [lenL]
  | x :: r => by simp [lenL, lenL_iff (xs := r)]
mutual
theorem lenJ_bulk : ∀ v : JV, bulkJ v ≤ 4194304 → lenJ v
  | .mk k n s kids keys, h => by
    unfold bulkJ at h
    have := bulkK_len keys
    have := bulkL_len kids
    unfold lenJ
    exact ⟨by omega, by omega, by omega, fun t ht => by have := bulkK_at ht; omega, lenL_bulk kids (by omega)⟩
theorem lenL_bulk : ∀ xs : List JV, bulkL xs ≤ 4194304 → lenL xs
  | [], _ => trivial
  | x :: r, h => by unfold bulkL at h; unfold lenL; exact ⟨lenJ_bulk x (by omega), lenL_bulk r (by omega)⟩
end
theorem nodesL_in : ∀ {xs : List JV} {x : JV}, x ∈ xs → nodesJ x ≤ nodesL xs
  | y :: r, x, h => by
    unfold nodesL
    rcases List.mem_cons.1 h with rfl | h
    · omega
    · have := nodesL_in h; omega
structure Came (v : JV) : Prop where
  ints : inJ v
  nodes : nodesJ v ≤ 4194304
  lens : lenJ v
theorem Came.of {v : JV} (h1 : inJ v) (h2 : bulkJ v ≤ 4194304) : Came v := ⟨h1, Nat.le_trans (nodes_bulk v) h2, lenJ_bulk v h2⟩
theorem Came.out {k n : Int} {s : List UInt8} {kids : List JV} {keys : List (List UInt8)} (h : Came (.mk k n s kids keys)) :
    iw k ∧ iw n ∧ s.length ≤ 4194304 ∧ kids.length ≤ 4194304 ∧ keys.length ≤ 4194304 ∧ (∀ t ∈ keys, t.length ≤ 4194304) ∧ ∀ x ∈ kids, Came x := by
  obtain ⟨h1, h2, h3⟩ := h
  unfold inJ at h1
  unfold nodesJ at h2
  unfold lenJ at h3
  refine ⟨h1.1, h1.2.1, h3.1, h3.2.1, h3.2.2.1, h3.2.2.2.1, fun x hx => ⟨inL_iff.1 h1.2.2 x hx, ?_, lenL_iff.1 h3.2.2.2.2 x hx⟩⟩
  have := nodesL_in hx; omega
instance : Inhabited JV := ⟨jZero⟩
end Go.Proofs.YtgolomgmnanbpaaGreatDoor
namespace Go.Proofs.YtgolomgmnanbpaaGreatDoor
set_option linter.unusedVariables false
set_option linter.unusedSimpArgs false
open Go.RowKit Go.Deep Go.ChangeShapes Go.WideShapes
section
variable {H : Type} {enc : TypeId × Value → H} {W : World}
theorem kids_of (a : Addr) : ∀ (elems : List (DataW H × List MemPlace)) (a0 : Nat), (∀ i, i < elems.length → ∃ c v y, elems[i]? = some y ∧ W.cells? 0 (a.add ((a0 + i) * 5)) 5 = some c ∧ VR W TT c v ∧ inJ v ∧ bulkJ v ≤ Rows.uptoBulk y.1) →
    ∃ css kids, VRs W TT css kids ∧ kids.length = elems.length ∧ (∀ i c, css[i]? = some c → W.cells? 0 (a.add ((a0 + i) * 5)) 5 = some c) ∧ inL kids ∧ bulkL kids ≤ Rows.uptoBulkAll (elems.map (·.1))
  | [], _, _ => ⟨[], [], VRs.nil, rfl, fun i c h => by simp at h, trivial, Nat.zero_le _⟩
  | y :: r, a0, h => by
    obtain ⟨c, v, y', e, h1, h2, h3, h4⟩ := h 0 (by simp)
    obtain rfl : y = y' := by simpa using e
    obtain ⟨css, kids, k1, k2, k3, k4, k5⟩ := kids_of a r (a0 + 1) (fun i hi => by
      obtain ⟨c, v, y', e, h1, h2, h3, h4⟩ := h (i + 1) (by simp; omega)
      exact ⟨c, v, y', by simpa using e, by rw [show a0 + 1 + i = a0 + (i + 1) by omega]; exact h1, h2, h3, h4⟩)
    refine ⟨c :: css, v :: kids, ⟨by simp [k1.1], fun i c' x' e1 e2 => ?_⟩, by simp [k2], fun i c' e1 => ?_, ?_, ?_⟩
    · cases i with
      | zero => obtain rfl : c = c' := by simpa using e1
                obtain rfl : v = x' := by simpa using e2
                exact h2
      | succ i => exact k1.2 i c' x' (by simpa using e1) (by simpa using e2)
    · cases i with
      | zero => obtain rfl : c = c' := by simpa using e1
                exact h1
      | succ i => have := k3 i c' (by simpa using e1); rwa [show a0 + 1 + i = a0 + (i + 1) by omega] at this
    · unfold inL; exact ⟨h3, k4⟩
    · unfold bulkL; rw [List.map_cons]; unfold Rows.uptoBulkAll; omega
theorem row_of (a : Addr) {css : List (List Value)} {kids : List JV} (h : VRs W TT css kids) (hc : ∀ i c, css[i]? = some c → W.cells? 0 (a.add (i * 5)) 5 = some c) : RdF W TT (some a) css.flatten := by
  intro hne
  have hpos : 0 < css.length := by
    rcases css with _ | ⟨c, r⟩
    · exact absurd rfl hne
    · simp
  obtain ⟨b, o, spot⟩ := a
  have h5 := h.five
  have h0 := World.cells?_some (hc 0 _ (List.getElem?_eq_getElem hpos))
  have q0 := h0.2.2 0 (by decide)
  rw [List.getElem?_eq_getElem (by omega)] at q0
  have hspot : spot = none := by simpa [Addr.add] using World.cell?_spot q0
  subst hspot
  have hcell : ∀ i (hi : i < css.flatten.length), W.cell? ⟨b, o + i, none⟩ = some css.flatten[i] := by
    intro i hi
    rw [flat5_len h5] at hi
    have hq : i / 5 < css.length := by omega
    have hx := World.cells?_some (hc (i / 5) _ (List.getElem?_eq_getElem hq))
    have hy := hx.2.2 (i % 5) (by omega)
    rw [add_plain, add_plain, ← flat5_get h5 (List.getElem?_eq_getElem hq) (by omega)] at hy
    rw [show o + i = o + i / 5 * 5 + i % 5 by omega, hy, show i / 5 * 5 + i % 5 = i by omega, List.getElem?_eq_getElem]
  refine ⟨b, o, rfl, ?_, trivial, hcell⟩
  have hl : 0 < css.flatten.length := by rw [flat5_len h5]; omega
  have hz := hcell 0 hl
  rcases Nat.lt_or_ge b W.heap.size with hlt | hge
  · exact hlt
  · unfold World.cell? at hz; simp [Array.getElem?_eq_none hge] at hz
theorem keys_of (f : Nat → ByteArray) : ∀ l : List Nat, bulkK (l.map fun i => (f i).data.toList) ≤ Rows.uptoBulkAll (H := H) (l.map fun i => .lit (.string (f i).data.toList))
  | [] => Nat.zero_le _
  | i :: r => by
    have := keys_of f r
    rw [List.map_cons, List.map_cons]
    unfold bulkK Rows.uptoBulkAll Rows.uptoBulk
    omega
theorem wf_iw {n : Int} (h : (Lit.int .i64 n).wf = true) : iw n := by
  have h : (decide (IntKind.i64.min ≤ n) && decide (n ≤ IntKind.i64.max)) = true := h
  rw [Bool.and_eq_true, decide_eq_true_eq, decide_eq_true_eq] at h
  have e1 : IntKind.i64.min = -9223372036854775808 := by decide
  have e2 : IntKind.i64.max = 9223372036854775807 := by decide
  unfold iw; omega
set_option maxRecDepth 100000 in
theorem open_value : ∀ (fuel : Nat) (cs : List Value) (x : DataW H × List MemPlace), DataW.trod enc Tryz.prog W 0 (fun _ => true) true fuel 25 cs = some x → ∃ v, VR W TT cs v ∧ inJ v ∧ bulkJ v ≤ Rows.uptoBulk x.1 := by
  intro fuel
  induction fuel using Nat.strongRecOn with
  | ind fuel ih =>
    intro cs x h
    obtain ⟨xs, n, rfl, rfl, hlen, hxl, hf⟩ := DataW.trod_struct Tryz.underlying25 h
    have ci : Tryz.prog.cellsOf 3 = 1 := by kernel_rfl
    have cl : Tryz.prog.cellsOf 2 = 1 := by kernel_rfl
    have ct : Tryz.prog.cellsOf 9 = 1 := by kernel_rfl
    have ck : Tryz.prog.cellsOf 22 = 1 := by kernel_rfl
    have cy : Tryz.prog.cellsOf 23 = 1 := by kernel_rfl
    have cv : Tryz.prog.cellsOf 25 = 5 := by kernel_rfl
    rw [cv] at hlen
    have f0 := hf 0 _ rfl
    have f1 := hf 1 _ rfl
    have f2 := hf 2 _ rfl
    have f3 := hf 3 _ rfl
    have f4 := hf 4 _ rfl
    clear hf
    match xs, hxl, cs, hlen with
    | [y0, y1, y2, y3, y4], _, [c0, c1, c2, c3, c4], _ =>
      simp [ci, cl, ct, ck, cy] at f0 f1 f2 f3 f4
      obtain ⟨k, e0, rfl, w0⟩ := DataW.trod_int Tryz.underlying3 f0
      obtain ⟨m, e1, rfl, w1⟩ := DataW.trod_int Tryz.underlying2 f1
      obtain ⟨s, e2, rfl, w2⟩ := DataW.trod_string Tryz.underlying9 f2
      obtain rfl : c0 = .int .i64 k := by simpa using e0
      obtain rfl : c1 = .int .i64 m := by simpa using e1
      obtain rfl : c2 = .string s := by simpa using e2
      obtain ⟨A, ca, css, kids, rfl, hk1, hk2, hk3, hk4, hk5, hk6⟩ : ∃ A ca css kids, c3 = .slice A kids.length ca ∧ VRs W TT css kids ∧ kids.length ≤ ca ∧ (A = none → ca = 0) ∧ RdF W TT A css.flatten ∧ inL kids ∧ bulkL kids ≤ Rows.uptoBulk y3.1 := by
        rcases DataW.trod_slice Tryz.underlying22 f3 with ⟨e3, rfl⟩ | ⟨a, len, cap, elems, rest, n', hn, e3, rfl, hb, hl, hm, hel, hk, _, _⟩
        · exact ⟨none, 0, [], [], by simpa using e3, VRs.nil, Nat.le_refl _, fun _ => rfl, RdF.nil, trivial, Nat.zero_le _⟩
        · rw [cv] at hk
          obtain ⟨css, kids, k1, k2, k3, k4, k5⟩ := kids_of (W := W) a elems 0 (fun i hi => by
            have hq := hk i (by omega)
            rw [List.getElem?_eq_getElem hi] at hq
            obtain ⟨c, q1, q2⟩ := Option.bind_eq_some_iff.1 hq
            obtain ⟨v, q3, q4, q5⟩ := ih n' (by omega) c _ q2
            exact ⟨c, v, _, List.getElem?_eq_getElem hi, by rw [Nat.zero_add]; exact q1, q3, q4, q5⟩)
          refine ⟨some a, cap, css, kids, ?_, k1, by omega, fun e => by simp at e, row_of a k1 (fun i c e => by have := k3 i c e; rwa [Nat.zero_add] at this), k4, ?_⟩
          · rw [k2, hel]; simpa using e3
          · show _ ≤ Rows.uptoBulk (.slice _ _); unfold Rows.uptoBulk; omega
      obtain ⟨B, cb, keys, rfl, hy1, hy2, hy3, hy4⟩ : ∃ B cb keys, c4 = .slice B keys.length cb ∧ keys.length ≤ cb ∧ (B = none → cb = 0) ∧ RdF W TT B (strV keys) ∧ bulkK keys ≤ Rows.uptoBulk y4.1 := by
        rcases open_strs Tryz.underlying23 Tryz.underlying9 ct f4 with ⟨e4, rfl⟩ | ⟨a, len, cap, q, Sx, e4, hb, hl, hm, hq, rfl, hx⟩
        · exact ⟨none, 0, [], by simpa using e4, Nat.le_refl _, fun _ => rfl, RdF.nil, Nat.zero_le _⟩
        · simp at hq
          subst hq
          refine ⟨some a, q, (List.range len).map fun i => (Sx i).data.toList, by simpa using e4, by simpa using hl, fun e => by simp at e, fun hne => ?_, ?_⟩
          · have hpos : 0 < len := by
              rcases len with _ | len
              · exact absurd rfl hne
              · omega
            obtain ⟨b, o, spot⟩ := a
            have q0 := (hx 0 (by omega)).1
            have hspot : spot = none := by simpa [Addr.add] using World.cell?_spot q0
            subst hspot
            refine ⟨b, o, rfl, ?_, trivial, fun i hi => ?_⟩
            · rcases Nat.lt_or_ge b W.heap.size with hlt | hge
              · exact hlt
              · rw [add_plain] at q0; unfold World.cell? at q0; simp [Array.getElem?_eq_none hge] at q0
            · have hi' : i < len := by rw [strV_len] at hi; simpa using hi
              have := (hx i (by omega)).1
              rw [add_plain] at this
              rw [this]
              simp [strV]
          · have := keys_of (H := H) Sx (List.range len)
            show _ ≤ Rows.uptoBulk (.slice _ _); unfold Rows.uptoBulk; omega
      obtain ⟨ss, rfl⟩ : ∃ ss : List UInt8, s = ⟨ss.toArray⟩ := ⟨s.data.toList, by simp⟩
      refine ⟨.mk k m ss kids keys, VR.into k m ss hk1 hk2 hy1 hk3 hy2 hk4 hy3 rfl rfl, ?_, ?_⟩
      · unfold inJ; exact ⟨wf_iw w0, wf_iw w1, hk5⟩
      · unfold bulkJ
        simp only [List.map_cons, List.map_nil]
        unfold Rows.uptoBulk Rows.uptoBulkAll Rows.uptoBulkAll Rows.uptoBulkAll Rows.uptoBulkAll Rows.uptoBulkAll Rows.uptoBulkAll
        have : Rows.uptoBulk (H := H) (.lit (.string ss)) = ss.length + 1 := by unfold Rows.uptoBulk; rfl
        have e2 : (Lit.string (ByteArray.mk ss.toArray).data.toList) = .string ss := by simp
        rw [e2, this]
        omega
end
end Go.Proofs.YtgolomgmnanbpaaGreatDoor
