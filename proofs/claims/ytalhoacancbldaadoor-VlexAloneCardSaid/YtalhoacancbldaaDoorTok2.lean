/- Rows of tokens: slices.Clone, davenportlaw22.moved, few. -/
import Derived.Test.YtalhoacancbldaaDoorTok
namespace Go.Proofs.YtalhoacancbldaaDoor
set_option linter.unusedVariables false
set_option linter.unusedSimpArgs false
open Go.RowKit
attribute [local go_sem] run_index_arr run_part_agg run_part_one run_field_agg

theorem infoTok : (Tryd.prog.info? 30).map (fun i => (i.zero, i.size, i.bytes)) = some (some (.agg #[.int .i64 0, .int .i64 0, .string ⟨#[]⟩, .int .i64 0]), 4, 40) := by kernel_rfl
theorem tokCells_one (ts : List VTok) : ∀ v ∈ tokCells ts, v.oneCell' = true := by
  intro v hv
  simp only [tokCells, List.mem_flatMap] at hv
  obtain ⟨x, _, hx⟩ := hv
  simp only [tokL, List.mem_cons, List.not_mem_nil, or_false] at hx
  rcases hx with rfl | rfl | rfl | rfl <;> rfl
theorem TS.of_own {w : World} {base : Nat} {e : TypeId} {v : Value} {n : Nat} {ts : List VTok} (h : w.ownsRow base e 4 v n (tokCells ts)) : TS w v ts := by
  obtain ⟨A, cap, rfl, hc, hr⟩ := Rd.of_own h
  have h1 := h.1
  rw [tokCells_len] at h1
  obtain rfl : n = ts.length := by omega
  exact ⟨A, cap, rfl, hc, hr⟩

def OwnTok (ts : List VTok) (w : World) (e : Ending) (w' : World) : Prop := ∃ v, e = .returned v ∧ w'.ownsRow w.heap.size 30 4 v ts.length (tokCells ts) ∧ Below w.heap.size w w'
set_option maxRecDepth 100000 in
set_option maxHeartbeats 2000000 in
theorem tokClone_any (v : Value) (ts : List VTok) (w : World) (h : TS w v ts) (hl : ts.length ≤ 1048576) :
    Calls Tryd.prog 48 #[v] w (OwnTok ts w) := by
  obtain ⟨A, cap, rfl, hc, hr⟩ := h
  obtain ⟨i0, hi, hz0, hz1, hz2⟩ := info_parts infoTok
  have hnil := fun (A : Option Addr) (n c : Nat) (w : World) => Lib.run_eql_slice_nil (P := Tryd.prog) (w := w) 24 30 A n c 0 0 Tryd.underlying24
  rcases A with _ | ad
  · have hts : ts = [] := by
      cases ts with
      | nil => rfl
      | cons x r =>
        obtain ⟨b, o, e, _⟩ := hr (by simp [tokCells_cons, tokL])
        cases e
    subst hts
    go_enter Tryd.func48, Tryd.ntmps48
    go_wp2
    go_ret
    exact ⟨_, rfl, World.ownsRow_nil _ _ _ _, Below.refl _ _⟩
  · go_enter Tryd.func48, Tryd.ntmps48
    go_wp2_with (at_builtin; refine wpList_append_rd _ rfl _ _ 24 rfl w.heap.size 30 i0 _ 4 40 Tryd.underlying24 hi hz0 hz1 hz2 rfl (by decide) _ 0 [] rfl (World.ownsRow_made w #[] 0 (Nat.le_refl _) (by decide) rfl) (some ad) ts.length cap (by intro h; cases h) (tokCells ts) rfl (tokCells_len ts) (hr.alloc _) (tokCells_one ts) (by unfold maxLen; omega) (by omega) (by simp) ?_; intro v' w1 hown hgr _)
    go_ret
    rw [Nat.zero_add, List.nil_append] at hown
    exact ⟨_, rfl, hown, ((Below.refl _ w).alloc (Nat.le_refl _) _).grown hgr (by simp) (fun k e => by cases e; exact Nat.le_refl _)⟩

/-- tokens with their places moved -/
def movT (b : Nat) (x : VTok) : VTok := (x.1, x.2.1 + b, x.2.2)
theorem tokCells_set (a : List VTok) (x : VTok) (r : List VTok) (b : Nat) : (tokCells (a ++ x :: r)).set (a.length * 4 + 1) (.int .i64 (x.2.1 + b : Nat)) = tokCells (a ++ movT b x :: r) := by
  rw [tokCells_app, tokCells_app, List.set_append_right _ _ (by rw [tokCells_len]; omega), tokCells_len, show a.length * 4 + 1 - a.length * 4 = 1 from by omega]
  congr 1
set_option maxRecDepth 100000 in
set_option maxHeartbeats 4000000 in
theorem moved_any (v : Value) (ts : List VTok) (b : Nat) (w : World) (h : TS w v ts) (hl : ts.length ≤ 1048576) (hb : b ≤ 1048576) (hts : ∀ x ∈ ts, x.2.1 ≤ 1048576) :
    Calls Tryd.prog 24 #[v, .int .i64 b] w (OwnTok (ts.map (movT b)) w) := by
  have HC := Lib.hid (tokClone_any v ts w h hl)
  clear h
  by_cases h0 : ts = []
  · subst h0
    go_enter Tryd.func24, Tryd.ntmps24
    go_wp2_with (go_at_call 48; refine HC.out.mono ?_; rintro e w1 ⟨v1, rfl, hown, hb1⟩; obtain ⟨A1, c1, rfl, hc1, hr1⟩ := Rd.of_own hown; simp only [List.length_nil] at hown hc1 ⊢)
    go_loop [6, 11] (fun _ i => i = .int .i64 0) (fun _ _ => 0)
    case atStart => rfl
    case round =>
      obtain rfl := hrel
      go_wp2
      go_ret
      exact ⟨_, rfl, hown, hb1⟩
  · have hpos : 0 < ts.length := List.length_pos_iff.2 h0
    obtain ⟨n, hn⟩ : ∃ n, ts.length = n := ⟨_, rfl⟩
    have HN := Lib.hid hn
    have HT := Lib.hid hts
    unfold OwnTok at HC
    rw [hn] at hl hpos HC
    clear h0 hn hts
    go_enter Tryd.func24, Tryd.ntmps24
    go_wp2_with (go_at_call 48; refine HC.out.mono ?_; rintro e w1 ⟨v1, rfl, hown, hb1⟩; obtain ⟨g, cap, rfl, hg1, hg2⟩ := hown.form hpos)
    go_loopg [11] n (fun gk i wr => ∃ k : Nat, k ≤ n ∧ gk = n - k ∧ i = .int .i64 k ∧ wr.ownsRow w.heap.size 30 4 (.slice (some ⟨g, 0, none⟩) n cap) n (tokCells ((ts.take k).map (movT b) ++ ts.drop k)) ∧ Below w.heap.size w wr)
    case atStart => exact ⟨0, Nat.zero_le _, rfl, rfl, by simpa using hown, hb1⟩
    case round =>
      obtain ⟨k, hk, hgk, rfl, how, hbw⟩ := hrel
      have HG := Lib.hid hgk
      clear hgk
      by_cases hlt : k < n
      · obtain ⟨⟨x1, x2, x3, x4⟩, hx⟩ : ∃ x, ts[k]? = some x := ⟨_, List.getElem?_eq_getElem (by rw [HN.out]; exact hlt)⟩
        have hd : ts.drop k = (x1, x2, x3, x4) :: ts.drop (k + 1) := by
          obtain ⟨h1, h2⟩ := List.getElem?_eq_some_iff.1 hx
          rw [List.drop_eq_getElem_cons h1, h2]
        have hx2 : x2 ≤ 1048576 := HT.out _ (List.mem_of_getElem? hx)
        have hlk : ((ts.take k).map (movT b)).length = k := by rw [List.length_map, List.length_take, HN.out]; omega
        have hc : wr.cell? ⟨g, k * 4 + 1, none⟩ = some (.int .i64 x2) := by
          rw [how.cellAt _ (by omega), tokCells_get (x := (x1, x2, x3, x4)) (by rw [List.getElem?_append_right (by omega), hlk, Nat.sub_self, hd]; rfl) (by omega)]; rfl
        have hf := how.frozenAt (k * 4 + 1)
        have hst := how.stored (k * 4 + 1) (.int .i64 ((x2 + b : Nat) : Int))
        have hts2 : (tokCells ((ts.take k).map (movT b) ++ ts.drop k)).set (k * 4 + 1) (.int .i64 ((x2 + b : Nat) : Int)) = tokCells ((ts.take (k + 1)).map (movT b) ++ ts.drop (k + 1)) := by
          have h1 := tokCells_set ((ts.take k).map (movT b)) (x1, x2, x3, x4) (ts.drop (k + 1)) b
          rw [hlk, ← hd] at h1
          rw [h1, List.take_add_one, hx]
          simp
        rw [hts2] at hst
        have e : ((x2 + b : Nat) : Int) = (x2 : Int) + (b : Int) := by omega
        rw [e] at hst
        have HS := Lib.hid hst
        clear hst hts2 hd hx hlk
        go_wp2
        go_roundg (n - (k + 1))
        case measure => rw [HG.out]; omega
        case rel => exact ⟨k + 1, hlt, rfl, by go_num, HS.out.1, hbw.grown HS.out.2 (Nat.le_trans (Nat.le_of_eq rfl) hbw.size) (fun j e => by cases e; exact hg1)⟩
      · obtain rfl : k = n := by omega
        go_wp2
        go_ret
        refine ⟨_, rfl, ?_, hbw⟩
        rw [List.length_map, HN.out]
        have e : (ts.take k).map (movT b) ++ ts.drop k = ts.map (movT b) := by rw [← HN.out]; simp
        rw [e] at how
        exact how
/-- a text of a byte more than may be at most -/
def fewS (s : ByteArray) : ByteArray := ⟨((sl s).take 513).toArray⟩
theorem few_any (s : ByteArray) (w : World) (hs : s.size ≤ maxLen) : Calls Tryd.prog 16 #[.string s] w fun e w' => e = .returned (.string (fewS s)) ∧ w = w' := by
  unfold maxLen at hs
  go_enter Tryd.func16, Tryd.ntmps16
  go_wp2
  · go_ret
    refine ⟨ret_str (str_ext ?_), rfl⟩
    rw [fewS, sl_mk]
    simp [sl]
  · go_ret
    refine ⟨ret_str (str_ext ?_), rfl⟩
    rw [fewS, sl_mk, List.take_of_length_le (by rw [sl_len]; omega)]
end Go.Proofs.YtalhoacancbldaaDoor
