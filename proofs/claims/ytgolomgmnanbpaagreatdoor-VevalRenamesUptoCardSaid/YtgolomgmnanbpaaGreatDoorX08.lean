import Derived.Test.YtgolomgmnanbpaaGreatDoorX04
import Derived.Test.YtgolomgmnanbpaaGreatDoorX07
import Derived.Deep.WholeRow
import Derived.Deep.DeepCutAuto
import Derived.Deep.CutBlock
import Derived.Deep.RegionHeld3
namespace Go.Proofs.YtgolomgmnanbpaaGreatDoor
set_option linter.unusedVariables false
set_option linter.unusedSimpArgs false
open Go.RowKit
attribute [local go_sem] run_index_arr run_part_agg run_part_one run_field_agg
structure GOE (w : World) : Prop where
  gok : GOK w
  lt : 0 < w.heap.size
  c0 : w.cell? ⟨0, 0, none⟩ = some (.string ⟨#[]⟩)
  c1 : w.cell? ⟨0, 1, none⟩ = some (.int .i64 0)
  c2 : w.cell? ⟨0, 2, none⟩ = some (.int .i64 0)
theorem GOE.keep {w w' : World} (h : GOE w) (hb : Below w.heap.size w w') : GOE w' :=
  ⟨h.gok.keep hb, Nat.lt_of_lt_of_le h.lt hb.size, (hb.cell (p := ⟨0, 0, none⟩) h.lt).trans h.c0, (hb.cell (p := ⟨0, 1, none⟩) h.lt).trans h.c1, (hb.cell (p := ⟨0, 2, none⟩) h.lt).trans h.c2⟩
def opsL : List (List UInt8 × Int × Int) := [([111, 114], 15, 1), ([97, 110, 100], 14, 2), ([61, 61], 11, 4), ([60], 12, 4), ([60, 61], 13, 4), ([43], 9, 5), ([45], 10, 5), ([42], 8, 6), ([110, 111, 116], 5, 3), ([115, 105, 122, 101], 6, 7), ([107, 105, 110, 100], 7, 7)]
def opCells (o : List UInt8 × Int × Int) : List Value := [.string ⟨o.1.toArray⟩, .int .i64 o.2.1, .int .i64 o.2.2]
def opsV : Value := .agg #[.string ⟨#[111, 114]⟩, .int .i64 15, .int .i64 1, .string ⟨#[97, 110, 100]⟩, .int .i64 14, .int .i64 2, .string ⟨#[61, 61]⟩, .int .i64 11, .int .i64 4, .string ⟨#[60]⟩, .int .i64 12, .int .i64 4, .string ⟨#[60, 61]⟩, .int .i64 13, .int .i64 4, .string ⟨#[43]⟩, .int .i64 9, .int .i64 5, .string ⟨#[45]⟩, .int .i64 10, .int .i64 5, .string ⟨#[42]⟩, .int .i64 8, .int .i64 6, .string ⟨#[110, 111, 116]⟩, .int .i64 5, .int .i64 3, .string ⟨#[115, 105, 122, 101]⟩, .int .i64 6, .int .i64 7, .string ⟨#[107, 105, 110, 100]⟩, .int .i64 7, .int .i64 7]
def noOp : List UInt8 × Int × Int := ([], 0, 0)
def ofJ (k : Int) : List UInt8 × Int × Int := (opsL.find? fun o => decide (o.2.1 = k)).getD noOp
theorem wp_store_new {P : Program} {op : Oper} {a : Act} {w : World} {K : Act → World → Prop} {Q : Exit → Act → World → Prop} (ty : TypeId) (x y : Operand) (ho : op.op = .store ty x y)
    (old cells : Array Value) (hx : a.eval x = .pointer (some ⟨w.heap.size, 0, none⟩)) (hy : a.eval y = .agg cells)
    (hi : (P.info? ty).map (·.size) = some cells.size) (hs : old.size = cells.size) (h1 : cells.all (·.oneCell') = true)
    (h : K (a.put op.dst undef) (w.alloc (.cells cells ty))) : op.wp P a (w.alloc (.cells old ty)) K Q := by
  unfold Oper.wp execOp
  simp only [ho, hx, hy, Instr.storeAt, Instr.sureAddr, Sem.run_bind, Sem.run_pure, Result.andThen_ok, run_storeVar_new w ty old cells hi hs h1]
  exact h
theorem results_cell1 {P : Program} {fn : Func} {tmps : Array Value} {a : Nat} {t : TypeId} {ad : Addr} {v : Value} {w : World} (hf : fn.results = #[ResultVar.cell a t]) (hx : tmps.getD a undef = .pointer (some ad)) (hl : (loadVar t ad).run P w = .ok v w) : (results fn tmps).run P w = .ok v w := by
  unfold results
  rw [hf]
  have hx' : tmps[a]?.getD undef = .pointer (some ad) := by simpa using hx
  simp [hx', asAddr, hl, Sem.run_bind, Result.andThen]
set_option maxRecDepth 100000 in
set_option maxHeartbeats 4000000 in
theorem eOperators (w : World) : Calls Tryz.prog 185 #[] w fun e w' => e = .returned opsV ∧ Below w.heap.size w w' := by
  go_enter Tryz.func185, Tryz.ntmps185
  go_step
  go_step
  go_step
  go_step
  go_step
  go_step
  go_step
  go_step
  go_step
  go_step
  go_step
  go_step
  go_step
  go_step
  go_step
  go_step
  go_step
  go_step
  go_step
  go_step
  go_step
  go_step
  go_step
  go_step
  go_step
  go_step
  go_step
  go_step
  go_step
  go_step
  go_step
  go_step
  go_step
  go_step
  go_step
  go_step
  go_step
  go_step
  go_step
  go_step
  go_step
  go_step
  go_step
  go_step
  go_step
  go_step
  go_step
  go_step
  refine wp_store_new 208 (.tmp 0) (.tmp 12) rfl _ _ rfl rfl (by kernel_rfl) (by kernel_rfl) (by kernel_rfl) ?_
  go_wp2
  refine bodyPost_ret (v := opsV) (results_cell1 Tryz.results185 rfl (run_loadVar_new w 208 _ 11 183 Tryz.underlying208 (by kernel_rfl))) rfl ?_
  exact ⟨rfl, (Below.refl _ w).alloc (Nat.le_refl _) _⟩
theorem ops_at (k : Nat) (h : k < 11) (w : World) : (Instr.index 208 opsV (.int .i64 (k : Int))).run Tryz.prog w = .ok (.agg (opCells (opsL.getD k noOp)).toArray) w := by
  rcases (by omega : k = 0 ∨ k = 1 ∨ k = 2 ∨ k = 3 ∨ k = 4 ∨ k = 5 ∨ k = 6 ∨ k = 7 ∨ k = 8 ∨ k = 9 ∨ k = 10) with rfl | rfl | rfl | rfl | rfl | rfl | rfl | rfl | rfl | rfl | rfl <;> kernel_rfl
theorem find_at {k : Int} : ∀ {l : List (List UInt8 × Int × Int)} {i : Nat}, i < l.length → (∀ j, j < i → (l.getD j noOp).2.1 ≠ k) → (l.getD i noOp).2.1 = k → (l.find? fun o => decide (o.2.1 = k)).getD noOp = l.getD i noOp
  | x :: r, 0, h, _, e => by
    have e : x.2.1 = k := by simpa using e
    simp [e]
  | x :: r, i + 1, h, hj, e => by
    have hx : x.2.1 ≠ k := by simpa using hj 0 (by omega)
    rw [List.find?_cons, decide_eq_false hx]
    simp only [List.getD_cons_succ]
    exact find_at (by simpa using h) (fun j hj' => by simpa using hj (j + 1) (by omega)) (by simpa using e)
theorem find_no {k : Int} : ∀ {l : List (List UInt8 × Int × Int)}, (∀ j, j < l.length → (l.getD j noOp).2.1 ≠ k) → (l.find? fun o => decide (o.2.1 = k)).getD noOp = noOp
  | [], _ => rfl
  | x :: r, hj => by
    have hx : x.2.1 ≠ k := by simpa using hj 0 (by simp)
    rw [List.find?_cons, decide_eq_false hx]
    exact find_no fun j h => by simpa using hj (j + 1) (by simpa using h)
theorem three_bel {B : Nat} {w W : World} (h : Below B w W) {g : Nat} (hg : B ≤ g) (a b c : Value) : Below B w (((W.setCell ⟨g, 0, none⟩ a).setCell ⟨g, 1, none⟩ b).setCell ⟨g, 2, none⟩ c) :=
  ((h.setCell (p := ⟨g, 0, none⟩) hg a).setCell (p := ⟨g, 1, none⟩) hg b).setCell (p := ⟨g, 2, none⟩) hg c
def OfP (k : Int) (w : World) (e : Ending) (w' : World) : Prop := e = .returned (.agg (opCells (ofJ k)).toArray) ∧ Below w.heap.size w w'
set_option maxRecDepth 100000 in
set_option maxHeartbeats 4000000 in
theorem eOf (q : Int) (w : World) (hG : GOE w) : Calls Tryz.prog 157 #[.int .i64 q] w (OfP q w) := by
  have HG := Lib.hid hG
  have HH0 := Lib.hid ((Held.nil w).push 183 #[.string ⟨#[]⟩, .int .i64 0, .int .i64 0] (g := w.heap.size) rfl)
  clear hG
  go_enter Tryz.func157, Tryz.ntmps157
  go_wp2_with fail
  refine (eOperators _).mono ?_
  rintro e w1 ⟨rfl, hb1⟩
  have HH1 := Lib.hid (HH0.out.keep hb1)
  clear hb1 HH0
  go_wp2
  go_loopw [4, 6] (fun _ i wr => ∃ k : Nat, k ≤ 11 ∧ i = .int .i64 k ∧ Hid (Held [(w.heap.size, 183, #[.string ⟨#[]⟩, .int .i64 0, .int .i64 0])] w wr) ∧ Hid (∀ j, j < k → (opsL.getD j noOp).2.1 ≠ q)) (fun _ i _ => 11 - (intOf i).toNat)
  case atStart => exact ⟨0, by omega, rfl, HH1, Lib.hid (by intro j hj; omega)⟩
  case round =>
    obtain ⟨k, hk, rfl, HH, HN⟩ := hrel
    by_cases h11 : k < 11
    · have hix := fun W => ops_at k h11 W
      obtain ⟨⟨t, q1, q2⟩, hx⟩ : ∃ x, opsL.getD k noOp = x := ⟨_, rfl⟩
      rw [hx] at hix
      unfold opCells at hix
      simp only at hix
      have HX := Lib.hid hx
      clear hx
      have HH2 := Lib.hid (HH.out.push 183 #[.string ⟨t.toArray⟩, .int .i64 q1, .int .i64 q2] (g := wr.heap.size) rfl)
      obtain ⟨c1, f1, l1⟩ := HH.out.b0.rules
      by_cases hq : q1 = q
      · have HR := Lib.hid (show ofJ q = (t, q1, q2) by unfold ofJ; rw [find_at (l := opsL) (i := k) h11 HN.out (by rw [HX.out]; exact hq), HX.out])
        have hqe : (q1 == q) = true := by simp [hq]
        go_wp2
        refine bodyPost_ret (v := .agg #[.string ⟨t.toArray⟩, .int .i64 q, .int .i64 q2]) (by simp only [results, Tryz.results157]; go_simp) rfl ?_
        exact ⟨by rw [HR.out, ← hq]; rfl, (three_bel HH.out.1 (Nat.le_refl _) _ _ _).alloc (by have := HH.out.1.size; simpa using this) _⟩
      · have hqe : (q1 == q) = false := by simp [hq]
        go_wp2
        go_roundw
        case rel => exact ⟨k + 1, by omega, by go_num, Lib.hid HH2.out.pop, Lib.hid (fun j hj => by
          by_cases hjk : j = k
          · rw [hjk, HX.out]; exact hq
          · exact HN.out j (by omega))⟩
        case measure => simp [intOf]; omega
    · obtain rfl : k = 11 := by omega
      have HR := Lib.hid (show ofJ q = noOp by unfold ofJ; exact find_no (fun j hj => HN.out j hj))
      have hg := HG.out.keep HH.out.1
      have hg0 := hg.c0
      have hg1 := hg.c1
      have hg2 := hg.c2
      clear hg
      obtain ⟨c0, f0, l0⟩ := HH.out.b0.rules
      go_wp2
      refine bodyPost_ret (v := .agg #[.string ⟨#[]⟩, .int .i64 0, .int .i64 0]) (by simp only [results, Tryz.results157]; go_simp) rfl ?_
      exact ⟨by rw [HR.out]; rfl, three_bel HH.out.1 (Nat.le_refl _) _ _ _⟩
set_option maxRecDepth 100000 in
set_option maxHeartbeats 4000000 in
theorem eAhead (t : ByteArray) (k l : Int) (w : World) : Calls Tryz.prog 186 #[.agg #[.string t, .int .i64 k, .int .i64 l]] w fun e w' => e = .returned (.bool (decide (l = 3 ∨ l = 7))) ∧ Below w.heap.size w w' := by
  have HH0 := Lib.hid ((Held.nil w).push 183 #[.string t, .int .i64 k, .int .i64 l] (g := w.heap.size) rfl)
  by_cases h3 : l = 3
  · have h1 : (l == 3) = true := by simp [h3]
    have H3 := Lib.hid h3
    clear h3
    go_enter Tryz.func186, Tryz.ntmps186
    go_wp2
    go_ret
    exact ⟨ret_bool (by simp [H3.out]), HH0.out.1⟩
  · have h1 : (l == 3) = false := by simp [h3]
    go_enter Tryz.func186, Tryz.ntmps186
    go_wp2
    go_ret
    exact ⟨ret_bool (by rw [Bool.eq_iff_iff]; simp [h3]), HH0.out.1⟩
def kidsO (l : Int) : Nat := if l = 3 ∨ l = 7 then 1 else 2
set_option maxRecDepth 100000 in
set_option maxHeartbeats 4000000 in
theorem eKids (t : ByteArray) (k l : Int) (w : World) : Calls Tryz.prog 160 #[.agg #[.string t, .int .i64 k, .int .i64 l]] w fun e w' => e = .returned (.int .i64 (kidsO l)) ∧ Below w.heap.size w w' := by
  have HH0 := Lib.hid ((Held.nil w).push 183 #[.string t, .int .i64 k, .int .i64 l] (g := w.heap.size) rfl)
  unfold kidsO
  obtain ⟨b, hb⟩ : ∃ b, decide (l = 3 ∨ l = 7) = b := ⟨_, rfl⟩
  have HA := Lib.hid (fun W => eAhead t k l W)
  rw [hb] at HA
  have hn : (if l = 3 ∨ l = 7 then 1 else 2) = (if b = true then 1 else 2) := by rw [← hb]; simp
  rw [hn]
  clear hn hb
  go_enter Tryz.func160, Tryz.ntmps160
  go_wp2_with fail
  refine (HA.out _).mono ?_
  rintro e w1 ⟨rfl, hb1⟩
  have HH1 := Lib.hid (HH0.out.keep hb1)
  clear hb1
  cases b
  · go_wp2
    go_ret
    exact ⟨rfl, HH1.out.1⟩
  · go_wp2
    go_ret
    exact ⟨rfl, HH1.out.1⟩
set_option maxRecDepth 100000 in
set_option maxHeartbeats 4000000 in
theorem eZeroV (v : JV) (cs : List Value) (F : Nat → Prop) (w : World) (hv : VR w F cs v) (hc : Came v) : Calls Tryz.prog 159 #[.agg cs.toArray] w fun e w' => e = .returned (.bool (zeroJ v)) ∧ Below w.heap.size w w' := by
  obtain ⟨k, n, s, kids, keys⟩ := v
  obtain ⟨A, B, ca, cb, css, rfl, _⟩ := hv.out
  obtain ⟨_, _, _, hl1, hl2, _⟩ := hc.out
  obtain ⟨nk, hnk⟩ : ∃ q, kids.length = q := ⟨_, rfl⟩
  obtain ⟨ny, hny⟩ : ∃ q, keys.length = q := ⟨_, rfl⟩
  have HZ := Lib.hid (show zeroJ (.mk k n s kids keys) = decide (k = 0 ∧ n = 0 ∧ s = [] ∧ nk + ny = 0) by unfold zeroJ; simp only [hnk, hny])
  rw [hnk] at hl1 ⊢
  rw [hny] at hl2 ⊢
  have HH0 := Lib.hid ((Held.nil w).push 25 #[.int .i64 k, .int .i64 n, .string ⟨s.toArray⟩, .slice A nk ca, .slice B ny cb] (g := w.heap.size) rfl)
  clear hv hc hnk hny
  rw [HZ.out]
  clear HZ
  by_cases h1 : k = 0
  · have e1 : (k == 0) = true := by simp [h1]
    have H1 := Lib.hid h1
    clear h1
    by_cases h2 : n = 0
    · have e2 : (n == 0) = true := by simp [h2]
      have H2 := Lib.hid h2
      clear h2
      by_cases h3 : s = []
      · subst h3
        by_cases h4 : nk + ny = 0
        · have e4 : ((nk : Int) + ny == 0) = true := by rw [beq_iff_eq]; omega
          have H4 := Lib.hid h4
          clear h4
          go_enter Tryz.func159, Tryz.ntmps159
          go_wp2
          go_ret
          exact ⟨ret_bool (by simp [H1.out, H2.out, H4.out, e4]), HH0.out.1⟩
        · have e4 : ((nk : Int) + ny == 0) = false := by rw [beq_eq_false_iff_ne]; omega
          have H4 := Lib.hid h4
          clear h4
          go_enter Tryz.func159, Tryz.ntmps159
          go_wp2
          go_ret
          exact ⟨ret_bool (by have := H4.out; simp [H1.out, H2.out, e4]; omega), HH0.out.1⟩
      · have e3 : ((ByteArray.mk s.toArray).toList == (ByteArray.mk #[]).toList) = false := by
          rw [beq_eq_false_iff_ne, ByteArray.toList_eq, ByteArray.toList_eq]; simpa using h3
        have H3 := Lib.hid h3
        clear h3
        go_enter Tryz.func159, Tryz.ntmps159
        go_wp2
        go_ret
        exact ⟨ret_bool (by simp [H3.out]), HH0.out.1⟩
    · have e2 : (n == 0) = false := by simp [h2]
      have H2 := Lib.hid h2
      clear h2
      go_enter Tryz.func159, Tryz.ntmps159
      go_wp2
      go_ret
      exact ⟨ret_bool (by simp [H2.out]), HH0.out.1⟩
  · have e1 : (k == 0) = false := by simp [h1]
    have H1 := Lib.hid h1
    clear h1
    go_enter Tryz.func159, Tryz.ntmps159
    go_wp2
    go_ret
    exact ⟨ret_bool (by simp [H1.out]), HH0.out.1⟩
set_option maxRecDepth 100000 in
set_option maxHeartbeats 4000000 in
theorem eLiteral (v : JV) (cs : List Value) (F : Nat → Prop) (w : World) (hG : GOE w) (hv : VR w F cs v) (hc : Came v) : Calls Tryz.prog 158 #[.agg cs.toArray] w fun e w' => e = .returned (.bool (litOk v)) ∧ Below w.heap.size w w' := by
  have HV := Lib.hid (fun (W : World) (h : Below w.heap.size w W) => hv.bel h)
  obtain ⟨k, n, s, kids, keys⟩ := v
  obtain ⟨A, B, ca, cb, css, rfl, _⟩ := hv.out
  obtain ⟨nk, hnk⟩ : ∃ q, kids.length = q := ⟨_, rfl⟩
  obtain ⟨ny, hny⟩ : ∃ q, keys.length = q := ⟨_, rfl⟩
  have HZ := Lib.hid (show litOk (.mk k n s kids keys) = (good (.mk k n s kids keys) && (decide (k = 3 ∧ 0 ≤ n) || decide (k = 1 ∨ k = 2 ∨ k = 4))) from rfl)
  rw [hnk, hny] at HV ⊢
  have HH0 := Lib.hid ((Held.nil w).push 25 #[.int .i64 k, .int .i64 n, .string ⟨s.toArray⟩, .slice A nk ca, .slice B ny cb] (g := w.heap.size) rfl)
  have HG := Lib.hid hG.gok
  have HC := Lib.hid hc
  obtain ⟨b, hb⟩ : ∃ b, good (.mk k n s kids keys) = b := ⟨_, rfl⟩
  have HK := Lib.hid (show chkJ (.mk k n s kids keys) = (if b = true then 0 else 140) by unfold chkJ; rw [hb])
  rw [hb] at HZ
  rw [HZ.out]
  clear hv hc hnk hny hb hG HZ
  go_enter Tryz.func158, Tryz.ntmps158
  go_wp2_with fail
  refine (vChk_is HK.out (HG.out.keep HH0.out.1) (HV.out _ HH0.out.1) HC.out).mono ?_
  rintro e w1 ⟨rfl, hb1⟩
  have HH1 := Lib.hid (HH0.out.keep hb1)
  clear hb1 HH0
  obtain ⟨c0, f0, l0⟩ := HH1.out.b0.rules
  cases b
  · go_wp2
    go_ret
    exact ⟨rfl, HH1.out.1⟩
  · by_cases h3 : k = 3
    · have e3 : (k == 3) = true := by simp [h3]
      have H3 := Lib.hid h3
      clear h3
      go_wp2
      go_ret
      exact ⟨ret_bool (by rw [Bool.eq_iff_iff]; simp [H3.out]), HH1.out.1⟩
    · have e3 : (k == 3) = false := by simp [h3]
      have H3 := Lib.hid h3
      clear h3
      by_cases h1 : k = 1
      · have e1 : (k == 1) = true := by simp [h1]
        have H1 := Lib.hid h1
        clear h1
        go_wp2
        go_ret
        exact ⟨ret_bool (by simp [H1.out]), HH1.out.1⟩
      · have e1 : (k == 1) = false := by simp [h1]
        have H1 := Lib.hid h1
        clear h1
        by_cases h2 : k = 2
        · have e2 : (k == 2) = true := by simp [h2]
          have H2 := Lib.hid h2
          clear h2
          go_wp2
          go_ret
          exact ⟨ret_bool (by simp [H2.out]), HH1.out.1⟩
        · have e2 : (k == 2) = false := by simp [h2]
          have H2 := Lib.hid h2
          clear h2
          by_cases h4 : k = 4
          · have e4 : (k == 4) = true := by simp [h4]
            have H4 := Lib.hid h4
            clear h4
            go_wp2
            go_ret
            exact ⟨ret_bool (by simp [H4.out]), HH1.out.1⟩
          · have e4 : (k == 4) = false := by simp [h4]
            have H4 := Lib.hid h4
            clear h4
            go_wp2
            go_ret
            exact ⟨ret_bool (by simp [H1.out, H2.out, H3.out, H4.out]), HH1.out.1⟩
end Go.Proofs.YtgolomgmnanbpaaGreatDoor
namespace Go.Proofs.YtgolomgmnanbpaaGreatDoor
set_option linter.unusedVariables false
set_option linter.unusedSimpArgs false
open Go.RowKit
attribute [local go_sem] run_index_arr run_part_agg run_part_one run_field_agg
theorem kid_cellsE {W : World} {F : Nat → Prop} {css : List (List Value)} {xs : List EJ} {A : Option Addr} (h : ERs W F css xs) (hr : RdF W F A css.flatten) {i : Nat} {x : EJ} (hx : xs[i]? = some x) :
    ∃ (b o : Nat) (k k1 n1 : Int) (s1 : ByteArray) (A1 : Option Addr) (na1 ca1 : Nat) (B1 : Option Addr) (nb1 cb1 : Nat) (s : ByteArray) (A2 : Option Addr) (n2 ca2 : Nat), A = some ⟨b, o, none⟩ ∧ b < W.heap.size ∧
      ER W F [.int .i64 k, .int .i64 k1, .int .i64 n1, .string s1, .slice A1 na1 ca1, .slice B1 nb1 cb1, .string s, .slice A2 n2 ca2] x ∧
      ∀ W', Below W.heap.size W W' → W'.cell? ⟨b, o + i * 8, none⟩ = some (.int .i64 k) ∧ W'.cell? ⟨b, o + i * 8 + 1, none⟩ = some (.int .i64 k1) ∧ W'.cell? ⟨b, o + i * 8 + 2, none⟩ = some (.int .i64 n1) ∧ W'.cell? ⟨b, o + i * 8 + 3, none⟩ = some (.string s1) ∧
        W'.cell? ⟨b, o + i * 8 + 4, none⟩ = some (.slice A1 na1 ca1) ∧ W'.cell? ⟨b, o + i * 8 + 5, none⟩ = some (.slice B1 nb1 cb1) ∧ W'.cell? ⟨b, o + i * 8 + 6, none⟩ = some (.string s) ∧ W'.cell? ⟨b, o + i * 8 + 7, none⟩ = some (.slice A2 n2 ca2) := by
  obtain ⟨b, o, c, rfl, hb, _, hc, hv, hz⟩ := h.cell (fun c x h => h.len) (by decide) hr hx
  obtain ⟨k, k1, n1, s1, A1, na1, ca1, B1, nb1, cb1, s, A2, n2, ca2, rfl⟩ := hv.form
  refine ⟨b, o, k, k1, n1, s1, A1, na1, ca1, B1, nb1, cb1, s, A2, n2, ca2, rfl, hb, hv, fun W' hW => ?_⟩
  have z := fun (j : Nat) u (hj : j < 8) hu => (hW.cell (p := ⟨b, o + (i * 8 + j), none⟩) hb).trans (hz j u hj hu)
  exact ⟨z 0 _ (by decide) rfl, z 1 _ (by decide) rfl, z 2 _ (by decide) rfl, z 3 _ (by decide) rfl, z 4 _ (by decide) rfl, z 5 _ (by decide) rfl, z 6 _ (by decide) rfl, z 7 _ (by decide) rfl⟩
mutual
/-- what came in: an expression all parts of which are of a size -/
def camE : EJ → Prop | .mk k v s kids => iw k ∧ Came v ∧ s.length ≤ 4194304 ∧ kids.length ≤ 4194304 ∧ camEL kids
def camEL : List EJ → Prop | [] => True | x :: r => camE x ∧ camEL r
end
theorem camEL_iff : ∀ {xs : List EJ}, camEL xs ↔ ∀ x ∈ xs, camE x
  | [] => by simp [camEL]
  | x :: r => by simp [camEL, camEL_iff (xs := r)]
set_option maxRecDepth 100000 in
set_option maxHeartbeats 4000000 in
theorem eBlank (x : EJ) (cs : List Value) (F : Nat → Prop) (w : World) (hx : ER w F cs x) (hc : camE x) : Calls Tryz.prog 119 #[.agg cs.toArray] w fun e w' => e = .returned (.bool (blankE x)) ∧ Below w.heap.size w w' := by
  obtain ⟨k, v, s, kids⟩ := x
  have HX := Lib.hid (fun (W : World) (h : Below w.heap.size w W) => hx.bel h)
  obtain ⟨k1, n1, s1, A1, na1, ca1, B1, nb1, cb1, A, ca, css, rfl, hv, h1, h2, h3, h4⟩ := hx.out
  unfold camE at hc
  obtain ⟨_, hcv, _, hck, _⟩ := hc
  have HZ := Lib.hid (fun (W : World) (h : Below w.heap.size w W) => eZeroV v _ F W (hv.bel h) hcv)
  obtain ⟨nk, hnk⟩ : ∃ q, kids.length = q := ⟨_, rfl⟩
  obtain ⟨z, hz⟩ : ∃ z, zeroJ v = z := ⟨_, rfl⟩
  have HR := Lib.hid (show blankE (.mk k v s kids) = (decide (k = 0 ∧ s = [] ∧ nk = 0) && z) by unfold blankE; simp only [hz, hnk])
  rw [HR.out, hnk]
  rw [hnk] at hck
  rw [hz] at HZ
  have HH0 := Lib.hid ((Held.nil w).push 28 #[.int .i64 k, .int .i64 k1, .int .i64 n1, .string s1, .slice A1 na1 ca1, .slice B1 nb1 cb1, .string ⟨s.toArray⟩, .slice A nk ca] (g := w.heap.size) rfl)
  clear hx hv h1 h2 h3 h4 hcv hnk hz HR HX
  by_cases h1 : k = 0
  · have e1 : (k == 0) = true := by simp [h1]
    have H1 := Lib.hid h1
    clear h1
    by_cases hs : s = []
    rotate_left
    · go_enter Tryz.func119, Tryz.ntmps119
      go_wp2
      go_ret
      exact ⟨ret_bool (by simp [hs]), HH0.out.1⟩
    · subst hs
      by_cases h4 : nk = 0
      · have e4 : ((nk : Int) == 0) = true := by rw [beq_iff_eq]; omega
        have H4 := Lib.hid h4
        clear h4
        go_enter Tryz.func119, Tryz.ntmps119
        go_wp2_with fail
        refine (HZ.out _ HH0.out.1).mono ?_
        rintro e w1 ⟨rfl, hb1⟩
        have HH1 := Lib.hid (HH0.out.keep hb1)
        clear hb1
        go_wp2
        go_ret
        exact ⟨ret_bool (by simp [H1.out, H4.out]), HH1.out.1⟩
      · have e4 : ((nk : Int) == 0) = false := by rw [beq_eq_false_iff_ne]; omega
        have H4 := Lib.hid h4
        clear h4
        go_enter Tryz.func119, Tryz.ntmps119
        go_wp2
        go_ret
        exact ⟨ret_bool (by simp [H4.out]), HH0.out.1⟩
  · have e1 : (k == 0) = false := by simp [h1]
    have H1 := Lib.hid h1
    clear h1
    go_enter Tryz.func119, Tryz.ntmps119
    go_wp2
    go_ret
    exact ⟨ret_bool (by simp [H1.out]), HH0.out.1⟩
end Go.Proofs.YtgolomgmnanbpaaGreatDoor
namespace Go.Proofs.YtgolomgmnanbpaaGreatDoor
set_option linter.unusedVariables false
set_option linter.unusedSimpArgs false
open Go.RowKit
attribute [local go_sem] run_index_arr run_part_agg run_part_one run_field_agg
mutual
theorem deepE_le : ∀ (r : Nat) (x : EJ), deepE r x ≤ r
  | r, .mk k v s kids => by
    rw [deepE]
    split
    · omega
    · split
      · have h := deepL_le (r - 1) kids
        split
        · omega
        · rename_i m hm; have := h m hm; omega
      · omega
theorem deepL_le : ∀ (r : Nat) (l : List EJ) (m : Nat), deepL r l = some m → m ≤ r
  | r, [], m, h => by rw [deepL] at h; have := Option.some.inj h; omega
  | r, x :: l, m, h => by
    rw [deepL] at h
    split at h
    · cases h
    · split at h
      · cases h
      · rename_i m' hm'
        have h1 := deepL_le r l m' hm'
        have h2 := deepE_le r x
        have := Option.some.inj h; omega
end
theorem deepL_snoc {r : Nat} {x : EJ} : ∀ {l : List EJ} {m : Nat}, deepL r l = some m → deepE r x ≠ 0 → deepL r (l ++ [x]) = some (max m (deepE r x))
  | [], m, h, hx => by
    rw [deepL] at h
    have : m = 0 := (Option.some.inj h).symm
    subst this
    show deepL r [x] = _
    rw [deepL, if_neg hx, deepL]
    simp
  | y :: l, m, h, hx => by
    show deepL r (y :: (l ++ [x])) = _
    rw [deepL] at h ⊢
    split at h
    · cases h
    · rename_i hy
      rw [if_neg hy]
      cases hd : deepL r l with
      | none => rw [hd] at h; cases h
      | some m' =>
        rw [hd] at h
        rw [deepL_snoc hd hx]
        have := Option.some.inj h
        simp only [Option.some.injEq]
        omega
theorem ofJ_op {k : Int} (h : 5 ≤ k ∧ k ≤ 15) : ∃ t l, ofJ k = (t, k, l) ∧ kidsO l = (if k ≤ 7 then 1 else 2) := by
  obtain rfl | rfl | rfl | rfl | rfl | rfl | rfl | rfl | rfl | rfl | rfl : k = 5 ∨ k = 6 ∨ k = 7 ∨ k = 8 ∨ k = 9 ∨ k = 10 ∨ k = 11 ∨ k = 12 ∨ k = 13 ∨ k = 14 ∨ k = 15 := by omega
  all_goals exact ⟨_, _, by rfl, by rfl⟩
theorem ofJ_no {k : Int} (h : ¬ (5 ≤ k ∧ k ≤ 15)) : ofJ k = noOp := by
  unfold ofJ
  refine find_no fun j hj => ?_
  have hj : j < 11 := hj
  obtain rfl | rfl | rfl | rfl | rfl | rfl | rfl | rfl | rfl | rfl | rfl : j = 0 ∨ j = 1 ∨ j = 2 ∨ j = 3 ∨ j = 4 ∨ j = 5 ∨ j = 6 ∨ j = 7 ∨ j = 8 ∨ j = 9 ∨ j = 10 := by omega
  all_goals (show (_ : Int) ≠ k; simp only [opsL, List.getD_cons_zero, List.getD_cons_succ]; omega)
def DepP (n : Nat) (w : World) (e : Ending) (w' : World) : Prop := e = .returned (.int .i64 n) ∧ Below w.heap.size w w'
def ForD (r : Nat) : Prop := ∀ (x : EJ) (cs : List Value) (F : Nat → Prop) (w : World), GOE w → ER w F cs x → camE x → Calls Tryz.prog 118 #[.agg cs.toArray, .int .i64 (r : Int)] w (DepP (deepE r x) w)
set_option maxRecDepth 100000 in
set_option maxHeartbeats 4000000 in
theorem eDeep0 : ForD 0 := by
  intro x cs F w hG hx hc
  obtain ⟨k, v, s, kids⟩ := x
  obtain ⟨k1, n1, s1, A1, na1, ca1, B1, nb1, cb1, A, ca, css, rfl, _⟩ := hx.out
  have HZ := Lib.hid (show deepE 0 (.mk k v s kids) = 0 by rw [deepE, if_pos rfl])
  rw [HZ.out]
  obtain ⟨nk, hnk⟩ : ∃ q, kids.length = q := ⟨_, rfl⟩
  rw [hnk]
  have HH0 := Lib.hid ((Held.nil w).push 28 #[.int .i64 k, .int .i64 k1, .int .i64 n1, .string s1, .slice A1 na1 ca1, .slice B1 nb1 cb1, .string ⟨s.toArray⟩, .slice A nk ca] (g := w.heap.size) rfl)
  clear hx hc hG hnk
  show Calls _ _ #[_, .int .i64 0] _ _
  go_enter Tryz.func118, Tryz.ntmps118
  go_wp2
  go_ret
  exact ⟨rfl, HH0.out.1⟩
set_option maxRecDepth 100000 in
set_option maxHeartbeats 8000000 in
theorem eDeepS (r : Nat) (hr : r < 12) (ih : ForD r) : ForD (r + 1) := by
  intro x cs F w hG hx hc
  obtain ⟨k, v, s, kids⟩ := x
  have HX := Lib.hid (fun (W : World) (h : Below w.heap.size w W) => hx.bel h)
  obtain ⟨k1, n1, s1, A1, na1, ca1, B1, nb1, cb1, A, ca, css, rfl, hv, h1, h2, h3, h4⟩ := hx.out
  have hc' := hc
  unfold camE at hc'
  obtain ⟨_, hcv, hsl, hck, hcl⟩ := hc'
  have HZ := Lib.hid (fun (W : World) (h : Below w.heap.size w W) => eZeroV v _ F W (hv.bel h) hcv)
  have HL := Lib.hid (fun (W : World) (h : Below w.heap.size w W) => eLiteral v _ F W (hG.keep h) (hv.bel h) hcv)
  have HKD := Lib.hid (And.intro h1 (And.intro h4 (camEL_iff.1 hcl)))
  obtain ⟨nk, hnk⟩ : ∃ q, kids.length = q := ⟨_, rfl⟩
  have HNK := Lib.hid hnk
  obtain ⟨ok, hok⟩ : ∃ z, okX k v s nk = z := ⟨_, rfl⟩
  have HOK := Lib.hid hok
  have HG := Lib.hid hG
  rw [hnk] at hck ⊢
  have HH0 := Lib.hid ((Held.nil w).push 28 #[.int .i64 k, .int .i64 k1, .int .i64 n1, .string s1, .slice A1 na1 ca1, .slice B1 nb1 cb1, .string ⟨s.toArray⟩, .slice A nk ca] (g := w.heap.size) rfl)
  obtain ⟨R, hR⟩ : ∃ R : Int, ((r + 1 : Nat) : Int) = R := ⟨_, rfl⟩
  have hR0 : (R == 0) = false := by rw [beq_eq_false_iff_ne]; omega
  have HR := Lib.hid hR
  have HDE := Lib.hid (show deepE (r + 1) (.mk k v s kids) = (if ok = true then (match deepL r kids with | none => 0 | some m => m + 1) else 0) by rw [deepE, if_neg (by omega), hnk, hok]; rfl)
  obtain ⟨D, hD⟩ : ∃ D, deepE (r + 1) (.mk k v s kids) = D := ⟨_, rfl⟩
  rw [hD] at HDE ⊢
  have hsub : IntKind.i64.wrap (R - 1) = (r : Int) := by rw [IntWalk.i64_in _ (by omega)]; omega
  have HSUB := Lib.hid hsub
  rw [hR]
  clear hD hsub
  obtain ⟨⟨ot, oa, ol⟩, hof⟩ : ∃ o, ofJ k = o := ⟨_, rfl⟩
  have HOF := Lib.hid (fun W (h : Below w.heap.size w W) => eOf k W (hG.keep h))
  unfold OfP at HOF
  rw [hof] at HOF
  unfold opCells at HOF
  simp only at HOF
  have HOO := Lib.hid hof
  clear hG hx hc hv h1 h2 h3 h4 hcv hcl hnk hok hR hof
  obtain ⟨c0, f0, l0⟩ := HH0.out.b0.rules
  go_enter Tryz.func118, Tryz.ntmps118
  go_wp2_with fail
  refine (HOF.out _ HH0.out.1).mono ?_
  rintro e w1 ⟨rfl, hb1⟩
  have HH1 := Lib.hid ((HH0.out.keep hb1).push 183 #[.string ⟨ot.toArray⟩, .int .i64 oa, .int .i64 ol] (g := w1.heap.size) rfl)
  clear hb1 c0 f0 l0 HH0
  go_upto_block 0 with fail
  go_cut [5] (fun s5 wx => s5 = .bool ok ∧ Hid (Held [(w1.heap.size, 183, #[.string ⟨ot.toArray⟩, .int .i64 oa, .int .i64 ol]), (w.heap.size, 28, #[.int .i64 k, .int .i64 k1, .int .i64 n1, .string s1, .slice A1 na1 ca1, .slice B1 nb1 cb1, .string ⟨s.toArray⟩, .slice A nk ca])] w wx))
  case first =>
    obtain ⟨c1, f1, l1⟩ := HH1.out.b1.rules
    obtain ⟨c0, f0, l0⟩ := HH1.out.b0.rules
    by_cases hk1 : k = 1
    · have ek1 : (k == 1) = true := by simp [hk1]
      have HK1 := Lib.hid hk1
      clear hk1
      obtain ⟨b, hb⟩ : ∃ b, litOk v = b := ⟨_, rfl⟩
      rw [hb] at HL
      have HB := Lib.hid hb
      clear hb
      go_wp2_with fail
      refine (HL.out _ HH1.out.1).mono ?_
      rintro e w2 ⟨rfl, hb2⟩
      have HH2 := Lib.hid (HH1.out.keep hb2)
      clear hb2 c0 f0 l0 c1 f1 l1
      obtain ⟨c1, f1, l1⟩ := HH2.out.b1.rules
      obtain ⟨c0, f0, l0⟩ := HH2.out.b0.rules
      cases b
      · go_wp2
        go_meet
        case rel => exact ⟨by rw [← HOK.out]; unfold okX; simp [HK1.out, HB.out], Lib.hid HH2.out⟩
      · by_cases hs : s = []
        · subst hs
          by_cases hn : nk = 0
          · have en : ((nk : Int) == 0) = true := by rw [beq_iff_eq]; omega
            have HN := Lib.hid hn
            clear hn
            go_wp2
            go_meet
            case rel => exact ⟨by rw [← HOK.out]; unfold okX; simp [HK1.out, HB.out, HN.out], Lib.hid HH2.out⟩
          · have en : ((nk : Int) == 0) = false := by rw [beq_eq_false_iff_ne]; omega
            have HN := Lib.hid hn
            clear hn
            go_wp2
            go_meet
            case rel => exact ⟨by rw [← HOK.out]; unfold okX; simp [HK1.out, HB.out, HN.out], Lib.hid HH2.out⟩
        · go_wp2
          go_meet
          case rel => exact ⟨by rw [← HOK.out]; unfold okX; simp [HK1.out, HB.out, hs], Lib.hid HH2.out⟩
    · have ek1 : (k == 1) = false := by simp [hk1]
      have HK1 := Lib.hid hk1
      clear hk1
      obtain ⟨zb, hzb⟩ : ∃ b, zeroJ v = b := ⟨_, rfl⟩
      rw [hzb] at HZ
      have HZB := Lib.hid hzb
      clear hzb
      go_wp2_with fail
      refine (HZ.out _ HH1.out.1).mono ?_
      rintro e w2 ⟨rfl, hb2⟩
      have HH2 := Lib.hid (HH1.out.keep hb2)
      clear hb2 c0 f0 l0 c1 f1 l1
      obtain ⟨c1, f1, l1⟩ := HH2.out.b1.rules
      obtain ⟨c0, f0, l0⟩ := HH2.out.b0.rules
      cases zb
      · go_wp2
        go_meet
        case rel => exact ⟨by rw [← HOK.out]; unfold okX; simp [HK1.out, HZB.out], Lib.hid HH2.out⟩
      · by_cases hk2 : k = 2
        · have ek2 : (k == 2) = true := by simp [hk2]
          have HK2 := Lib.hid hk2
          clear hk2
          obtain ⟨b, hb⟩ : ∃ b, nameOk s = b := ⟨_, rfl⟩
          have HNM := Lib.hid (fun W => Name_any ⟨s.toArray⟩ W)
          rw [show isName ⟨s.toArray⟩ = b from hb] at HNM
          have HB := Lib.hid hb
          clear hb
          go_wp2_with fail
          refine (HNM.out _).mono ?_
          rintro e w3 ⟨rfl, hb3⟩
          have HH3 := Lib.hid (HH2.out.keep hb3)
          clear hb3 c0 f0 l0 c1 f1 l1
          obtain ⟨c1, f1, l1⟩ := HH3.out.b1.rules
          cases b
          · go_wp2
            go_meet
            case rel => exact ⟨by rw [← HOK.out]; unfold okX; simp [HK1.out, HZB.out, HK2.out, HB.out], Lib.hid HH3.out⟩
          · by_cases hn : nk = 0
            · have en : ((nk : Int) == 0) = true := by rw [beq_iff_eq]; omega
              have HN := Lib.hid hn
              clear hn
              go_wp2
              go_meet
              case rel => exact ⟨by rw [← HOK.out]; unfold okX; simp [HK1.out, HZB.out, HK2.out, HB.out, HN.out], Lib.hid HH3.out⟩
            · have en : ((nk : Int) == 0) = false := by rw [beq_eq_false_iff_ne]; omega
              have HN := Lib.hid hn
              clear hn
              go_wp2
              go_meet
              case rel => exact ⟨by rw [← HOK.out]; unfold okX; simp [HK1.out, HZB.out, HK2.out, HB.out, HN.out], Lib.hid HH3.out⟩
        · have ek2 : (k == 2) = false := by simp [hk2]
          have HK2 := Lib.hid hk2
          clear hk2
          by_cases hk3 : k = 3
          · have ek3 : (k == 3) = true := by simp [hk3]
            have HK3 := Lib.hid hk3
            clear hk3
            obtain ⟨b, hb⟩ : ∃ b, nameOk s = b := ⟨_, rfl⟩
            have HNM := Lib.hid (fun W => Name_any ⟨s.toArray⟩ W)
            rw [show isName ⟨s.toArray⟩ = b from hb] at HNM
            have HB := Lib.hid hb
            clear hb
            go_wp2_with fail
            refine (HNM.out _).mono ?_
            rintro e w3 ⟨rfl, hb3⟩
            have HH3 := Lib.hid (HH2.out.keep hb3)
            clear hb3 c0 f0 l0 c1 f1 l1
            obtain ⟨c1, f1, l1⟩ := HH3.out.b1.rules
            cases b
            · go_wp2
              go_meet
              case rel => exact ⟨by rw [← HOK.out]; unfold okX; simp [HK1.out, HZB.out, HK2.out, HK3.out, HB.out], Lib.hid HH3.out⟩
            · by_cases hn : nk = 1
              · have en : ((nk : Int) == 1) = true := by rw [beq_iff_eq]; omega
                have HN := Lib.hid hn
                clear hn
                go_wp2
                go_meet
                case rel => exact ⟨by rw [← HOK.out]; unfold okX; simp [HK1.out, HZB.out, HK2.out, HK3.out, HB.out, HN.out], Lib.hid HH3.out⟩
              · have en : ((nk : Int) == 1) = false := by rw [beq_eq_false_iff_ne]; omega
                have HN := Lib.hid hn
                clear hn
                go_wp2
                go_meet
                case rel => exact ⟨by rw [← HOK.out]; unfold okX; simp [HK1.out, HZB.out, HK2.out, HK3.out, HB.out, HN.out], Lib.hid HH3.out⟩
          · have ek3 : (k == 3) = false := by simp [hk3]
            have HK3 := Lib.hid hk3
            clear hk3
            by_cases hk4 : k = 4
            · have ek4 : (k == 4) = true := by simp [hk4]
              have HK4 := Lib.hid hk4
              clear hk4
              by_cases hs : s = []
              · subst hs
                go_wp2
                go_meet
                case rel => exact ⟨by rw [← HOK.out]; unfold okX; simp [HK1.out, HZB.out, HK2.out, HK3.out, HK4.out], Lib.hid HH2.out⟩
              · go_wp2
                go_meet
                case rel => exact ⟨by rw [← HOK.out]; unfold okX; simp [HK1.out, HZB.out, HK2.out, HK3.out, HK4.out, hs], Lib.hid HH2.out⟩
            · have ek4 : (k == 4) = false := by simp [hk4]
              have HK4 := Lib.hid hk4
              clear hk4
              by_cases hop : 5 ≤ k ∧ k ≤ 15
              · obtain ⟨t', l', ho, hkk⟩ := ofJ_op hop
                have hoo := HOO.out
                rw [ho] at hoo
                simp only [Prod.mk.injEq] at hoo
                obtain ⟨rfl, rfl, rfl⟩ := hoo
                have HOP := Lib.hid hop
                have HKK := Lib.hid hkk
                have ea : (k == 0) = false := by rw [beq_eq_false_iff_ne]; omega
                have hg := HG.out.keep HH2.out.1
                have hg0 := hg.c0
                have hg1 := hg.c1
                have hg2 := hg.c2
                clear hg hop hkk ho
                by_cases hs : s = []
                · subst hs
                  obtain ⟨kk, hkk⟩ : ∃ q, kidsO l' = q := ⟨_, rfl⟩
                  have HKO := Lib.hid (fun W => eKids ⟨t'.toArray⟩ k l' W)
                  rw [hkk] at HKO
                  have HKE := Lib.hid hkk
                  clear hkk
                  go_wp2
                  go_region_held3 (fun w' => w'.cell? ⟨w.heap.size, 6, none⟩ = some (.string ⟨#[]⟩) ∧ w'.cell? ⟨w.heap.size, 7, none⟩ = some (.slice A nk ca) ∧ w'.cell? ⟨w1.heap.size, 0, none⟩ = some (.string ⟨t'.toArray⟩) ∧ w'.cell? ⟨w1.heap.size, 1, none⟩ = some (.int .i64 k) ∧ w'.cell? ⟨w1.heap.size, 2, none⟩ = some (.int .i64 l')) (go_keep) ((go_at_call 160; refine (HKO.out _).mono ?_; rintro e w3 ⟨rfl, hb3⟩; have hx3 := HH2.out.drew.keep hb3; have d6 := hx3.b1.cell 6; have d7 := hx3.b1.cell 7; have d0 := hx3.b0.cell 0; have d1 := hx3.b0.cell 1; have d2 := hx3.b0.cell 2; simp at d6 d7 d0 d1 d2))
                  go_wp2
                  go_meet
                  case rel =>
                    refine ⟨?_, Lib.hid hx3⟩
                    have h5 := HOP.out
                    rw [← HOK.out]
                    congr 1
                    unfold okX
                    rw [if_neg HK1.out, HZB.out, if_neg (by simp), if_neg HK2.out, if_neg HK3.out, if_neg HK4.out]
                    rw [← HKE.out, HKK.out]
                    rw [Bool.eq_iff_iff]
                    by_cases h7 : k ≤ 7
                    · rw [if_pos h7, if_pos ⟨h5.1, h7⟩]; simp; omega
                    · rw [if_neg h7, if_neg (by omega), if_pos ⟨by omega, h5.2⟩]; simp; omega
                · have HS := Lib.hid hs
                  go_wp2
                  go_quiet (fail)
                  go_wp2
                  go_meet
                  case rel =>
                    refine ⟨?_, Lib.hid (HH2.out.drewN _)⟩
                    have h5 := HOP.out
                    rw [← HOK.out]
                    unfold okX
                    rw [if_neg HK1.out, HZB.out, if_neg (by simp), if_neg HK2.out, if_neg HK3.out, if_neg HK4.out]
                    by_cases h7 : k ≤ 7
                    · rw [if_pos ⟨h5.1, h7⟩]; simp [HS.out]
                    · rw [if_neg (by omega), if_pos ⟨by omega, h5.2⟩]; simp [HS.out]
              · have hoo := HOO.out
                rw [ofJ_no hop] at hoo
                unfold noOp at hoo
                simp only [Prod.mk.injEq] at hoo
                obtain ⟨rfl, rfl, rfl⟩ := hoo
                have hg := HG.out.keep HH2.out.1
                have hg0 := hg.c0
                have hg1 := hg.c1
                have hg2 := hg.c2
                clear hg
                have HOP := Lib.hid hop
                clear hop
                go_wp2
                go_meet
                case rel => exact ⟨by rw [← HOK.out]; have h := HOP.out; unfold okX; rw [if_neg HK1.out, HZB.out, if_neg (by simp), if_neg HK2.out, if_neg HK3.out, if_neg HK4.out, if_neg (by omega), if_neg (by omega)], Lib.hid HH2.out⟩
  case rest =>
    obtain ⟨rfl, HC⟩ := hcut
    cases ok
    · have HD0 := Lib.hid (show D = 0 by rw [HDE.out]; rfl)
      go_wp2
      go_ret
      exact ⟨by rw [HD0.out]; rfl, HC.out.1⟩
    · have HD1 := Lib.hid (show D = (match deepL r kids with | none => 0 | some m => m + 1) by rw [HDE.out]; rfl)
      obtain ⟨c1, f1, l1⟩ := HC.out.b1.rules
      go_wp2
      clear c1 f1 l1
      go_loopw [7, 92] (fun s7 s92 wr => ∃ i m : Nat, i ≤ nk ∧ m ≤ r ∧ s92 = .int .i64 (i : Int) ∧ s7 = .int .i64 (m : Int) ∧ Hid (Below w.heap.size w wr) ∧ Hid (deepL r (kids.take i) = some m)) (fun _ s92 _ => nk - (intOf s92).toNat)
      case atStart => exact ⟨0, 0, by omega, by omega, rfl, rfl, Lib.hid HC.out.1, Lib.hid (by rw [List.take_zero, deepL])⟩
      case round =>
        obtain ⟨i, m, hi, hm, rfl, rfl, HB, HM⟩ := hrel
        by_cases hin : i < nk
        · obtain ⟨x, hx⟩ : ∃ x, kids[i]? = some x := ⟨_, List.getElem?_eq_getElem (by rw [HNK.out]; exact hin)⟩
          have hxm := List.mem_of_getElem? hx
          have HCX := Lib.hid (HKD.out.2.2 x hxm)
          obtain ⟨b, o, k', k1', n1', s1', A1', na1', ca1', B1', nb1', cb1', s', A2', n2', ca2', rfl, hb, hER, hz⟩ := kid_cellsE HKD.out.1 HKD.out.2.1 hx
          obtain ⟨z0, z1, z2, z3, z4, z5, z6, z7⟩ := hz wr HB.out
          have HTK := Lib.hid (show kids.take (i + 1) = kids.take i ++ [x] by rw [List.take_add_one, hx]; rfl)
          have HXN := Lib.hid (show deepE r x = 0 → deepL r kids = none from fun h0 => by
            cases hd : deepL r kids with
            | none => rfl
            | some q => exact absurd h0 (deepL_iff.1 (by rw [hd]; simp) x hxm))
          have HE := Lib.hid (fun (W : World) (h : Below w.heap.size w W) => ih x _ F W (HG.out.keep h) (hER.bel h) HCX.out)
          obtain ⟨d, hd⟩ : ∃ d, deepE r x = d := ⟨_, rfl⟩
          have hdr : d ≤ r := by rw [← hd]; exact deepE_le r x
          unfold DepP at HE
          rw [hd] at HE HXN
          have HDX := Lib.hid hd
          have hlb : b < wr.heap.size := Nat.lt_of_lt_of_le hb HB.out.size
          have hs := HSUB.out
          clear hz hER hx hxm hd hb
          go_wp2_with fail
          refine (HE.out _ (HB.out.alloc HB.out.size _)).mono ?_
          rintro e w4 ⟨rfl, hb4⟩
          have HB4 := Lib.hid (Below.trans (HB.out.alloc HB.out.size _) (hb4.mono (by have := HB.out.size; simp; omega)))
          clear hb4 z0 z1 z2 z3 z4 z5 z6 z7
          by_cases hd0 : d = 0
          · subst hd0
            have HD0 := Lib.hid (show D = 0 by rw [HD1.out, HXN.out rfl])
            go_wp2
            go_ret
            exact ⟨by rw [HD0.out]; rfl, HB4.out⟩
          · have hdn : ((d : Int) == 0) = false := by rw [beq_eq_false_iff_ne]; omega
            have HNX := Lib.hid (show deepL r (kids.take (i + 1)) = some (max m d) by rw [HTK.out, deepL_snoc HM.out (by rw [HDX.out]; exact hd0), HDX.out])
            have HD0 := Lib.hid hd0
            clear hd0
            by_cases hmd : m < d
            · have hmi : (m : Int) < (d : Int) := by omega
              have HNX2 := Lib.hid (show deepL r (kids.take (i + 1)) = some d by rw [HNX.out, Nat.max_eq_right (by omega)])
              go_wp2
              go_roundw
              case rel => exact ⟨i + 1, d, by omega, by omega, by go_num, by go_num, HB4, HNX2⟩
              case measure => simp [intOf]; omega
            · have hmi : ¬ (m : Int) < (d : Int) := by omega
              have HNX2 := Lib.hid (show deepL r (kids.take (i + 1)) = some m by rw [HNX.out, Nat.max_eq_left (by omega)])
              go_wp2
              go_roundw
              case rel => exact ⟨i + 1, m, by omega, by omega, by go_num, by go_num, HB4, HNX2⟩
              case measure => simp [intOf]; omega
        · obtain rfl : i = nk := by omega
          have HF := Lib.hid (show D = m + 1 by
            have h := HM.out
            rw [List.take_of_length_le (Nat.le_of_eq HNK.out)] at h
            rw [HD1.out, h])
          go_wp2
          go_ret
          exact ⟨by rw [HF.out]; rfl, HB.out⟩
theorem eDeep : ∀ r, r ≤ 12 → ForD r
  | 0, _ => eDeep0
  | r + 1, h => eDeepS r (by omega) (eDeep r (by omega))
end Go.Proofs.YtgolomgmnanbpaaGreatDoor
namespace Go.Proofs.YtgolomgmnanbpaaGreatDoor
set_option linter.unusedVariables false
set_option linter.unusedSimpArgs false
mutual
theorem goodJ_up : ∀ (d : Nat) (v : JV), goodJ d v = true → goodJ (d + 1) v = true
  | d, .mk k n s kids keys, h => by
    obtain ⟨h1, h2, h3⟩ := goodJ_out h
    unfold goodJ
    rw [h1, Nat.add_sub_cancel]
    by_cases h0 : d = 0
    · subst h0
      have hk : ¬ 5 ≤ k := fun e => h2 e rfl
      cases kids with
      | nil => simp [goodL]
      | cons x r =>
        exfalso
        unfold goodA at h1
        simp only [List.length_cons] at h1
        have : k = 1 ∨ k = 2 ∨ k = 3 ∨ k = 4 ∨ k = 5 ∨ k = 6 ∨ (k ≠ 1 ∧ k ≠ 2 ∧ k ≠ 3 ∧ k ≠ 4 ∧ k ≠ 5 ∧ k ≠ 6) := by omega
        rcases this with rfl | rfl | rfl | rfl | rfl | rfl | ⟨a1, a2, a3, a4, a5, a6⟩
        · simp at h1
        · simp at h1
        · simp at h1
        · simp at h1
        · omega
        · omega
        · rw [if_neg a1, if_neg a2, if_neg a3, if_neg a4, if_neg a5, if_neg a6] at h1; cases h1
    · have hl := goodL_up (d - 1) kids h3
      rw [show d - 1 + 1 = d by omega] at hl
      rw [hl]; simp
theorem goodL_up : ∀ (d : Nat) (xs : List JV), goodL d xs = true → goodL (d + 1) xs = true
  | d, [], _ => rfl
  | d, x :: r, h => by
    unfold goodL at h ⊢
    rw [Bool.and_eq_true] at h
    rw [goodJ_up d x h.1, goodL_up d r h.2]; rfl
end
theorem good_kid {v x : JV} (h : good v = true) (hx : x ∈ v.kids) : good x = true := by
  obtain ⟨k, n, s, kids, keys⟩ := v
  have hx : x ∈ kids := hx
  unfold good at h ⊢
  rw [Bool.and_eq_true, decide_eq_true_eq] at h ⊢
  obtain ⟨h1, h2⟩ := h
  obtain ⟨_, _, h3⟩ := goodJ_out h1
  unfold nodesJ at h2
  have := nodesL_in hx
  exact ⟨goodJ_up 7 x (goodL_iff.1 h3 x hx), by omega⟩
theorem good_bool (b : Bool) : good (jBool b) = true := by cases b <;> rfl
theorem good_int (n : Int) : good (jNum n) = true := by
  unfold good jNum goodJ goodA nodesJ nodesL goodL; simp
theorem good_kind (k : Int) : good (jText (kindT k)) = true := by
  unfold kindT
  split
  · decide
  split
  · decide
  split
  · decide
  split
  · decide
  split
  · decide
  · decide
theorem look_mem : ∀ {env : List (List UInt8 × JV)} {s : List UInt8} {v : JV}, lookJ env s = some v → ∃ b ∈ env, b.2 = v
  | (t, u) :: r, s, v, h => by
    unfold lookJ at h
    cases hr : lookJ r s with
    | some z => rw [hr] at h; obtain ⟨b, hb, e⟩ := look_mem hr; exact ⟨b, List.mem_cons_of_mem _ hb, e.trans (Option.some.inj h)⟩
    | none =>
      rw [hr] at h
      simp only at h
      split at h
      · exact ⟨_, List.mem_cons_self, Option.some.inj h⟩
      · cases h
theorem get_mem {v x : JV} {key : List UInt8} (h : getJ v key = some x) : x ∈ v.kids := by
  unfold getJ at h
  split at h
  · split at h
    · exact List.mem_of_getElem? h
    · cases h
  · cases h
theorem size_good {v x : JV} (h : sizeJ v = some x) : good x = true := by
  unfold sizeJ at h
  split at h
  · rw [← Option.some.inj h]; exact good_int _
  · split at h
    · rw [← Option.some.inj h]; exact good_int _
    · cases h
theorem numR_good {n : Int} {x : JV} (h : numR n = some x) : good x = true := by
  unfold numR at h
  split at h
  · rw [← Option.some.inj h]; exact good_int _
  · cases h
theorem num_good {k a b : Int} {x : JV} (h : numO k a b = some x) : good x = true := numR_good h
theorem comb_good {env : List (List UInt8 × JV)} {k : Int} {v : JV} {s : List UInt8} {l : List (Option JV)} (he : ∀ b ∈ env, good b.2 = true) (hv : k = 1 → good v = true) (hl : ∀ y, some y ∈ l → good y = true) {x : JV} (h : combJ env k v s l = some x) : good x = true := by
  unfold combJ at h
  split at h
  · rename_i e; rw [← Option.some.inj h]; exact hv e
  split at h
  · obtain ⟨b, hb, e⟩ := look_mem h; rw [← e]; exact he b hb
  split at h
  · split at h
    · split at h
      · rename_i hg; rw [← Option.some.inj h]; exact hg
      · cases h
    · cases h
  split at h
  · cases h
  · rename_i a ha
    have hga : good a = true := by
      cases l with
      | nil => simp at ha
      | cons z r => exact hl a (by simp at ha; rw [ha]; exact List.mem_cons_self)
    split at h
    · exact good_kid hga (get_mem h)
    split at h
    · obtain ⟨t, _, e⟩ := Option.map_eq_some_iff.1 h; rw [← e]; exact good_bool _
    split at h
    · exact size_good h
    split at h
    · rw [← Option.some.inj h]; exact good_kind _
    split at h
    · split at h
      · cases h
      · split at h
        · rw [← Option.some.inj h]; exact good_bool _
        · obtain ⟨t, _, e⟩ := Option.map_eq_some_iff.1 h; rw [← e]; exact good_bool _
    · split at h
      · cases h
      · split at h
        · rw [← Option.some.inj h]; exact good_bool _
        · split at h
          · exact num_good h
          · cases h
mutual
theorem evE_good {env : List (List UInt8 × JV)} (he : ∀ b ∈ env, good b.2 = true) : ∀ (x : EJ) (r : Nat), deepE r x ≠ 0 → ∀ v, evE env x = some v → good v = true
  | .mk k v s kids, r, hd, u, hu => by
    obtain ⟨_, hk, hkids⟩ := deepE_out hd
    unfold evE at hu
    refine comb_good he (fun e => ?_) (fun y hy => ?_) hu
    · have := (okX_kind hk).2.2.1 e; unfold litOk at this; rw [Bool.and_eq_true] at this; exact this.1
    · exact evL_good he kids (r - 1) hkids y hy
theorem evL_good {env : List (List UInt8 × JV)} (he : ∀ b ∈ env, good b.2 = true) : ∀ (l : List EJ) (r : Nat), (∀ x ∈ l, deepE r x ≠ 0) → ∀ y, some y ∈ evL env l → good y = true
  | [], _, _, y, hy => by unfold evL at hy; cases hy
  | x :: l, r, hd, y, hy => by
    unfold evL at hy
    rcases List.mem_cons.1 hy with e | hy
    · exact evE_good he x r (hd x List.mem_cons_self) y e.symm
    · exact evL_good he l r (fun z hz => hd z (List.mem_cons_of_mem _ hz)) y hy
end
def EmOk (st : MSt) : Prop := st.2.length ≤ 4 ∧ st.1 ≤ 256 ∧ ∀ e ∈ st.2, good e.1 = true ∧ good e.2 = true ∧ (codeJ e.1).length ≤ 90 ∧ (canJ e.2).length ≤ 100
def EmMore (st st' : MSt) : Prop := st.2 <+: st'.2
theorem emitS_ok {st : MSt} {k v : Option JV} (h : EmOk st) (hk : ∀ x, k = some x → good x = true) (hv : ∀ x, v = some x → good x = true) : EmOk (emitS st k v) ∧ EmMore st (emitS st k v) := by
  unfold emitS
  cases k with
  | none => exact ⟨h, List.prefix_refl _⟩
  | some a =>
    cases v with
    | none => exact ⟨h, List.prefix_refl _⟩
    | some b =>
      simp only
      split
      · rename_i hc
        refine ⟨⟨by rw [List.length_append]; simp only [List.length_cons, List.length_nil]; omega, h.2.1, fun e he => ?_⟩, List.prefix_append _ _⟩
        rcases List.mem_append.1 he with he | he
        · exact h.2.2 e he
        · obtain rfl : e = (a, b) := by simpa using he
          exact ⟨hk a rfl, hv b rfl, hc.2.1, hc.2.2⟩
      · exact ⟨h, List.prefix_refl _⟩
theorem fold_ok {α : Type} {f : MSt → α → MSt} {l : List α} (hf : ∀ st, ∀ x ∈ l, EmOk st → EmOk (f st x) ∧ EmMore st (f st x)) {st : MSt} (h : EmOk st) : EmOk (l.foldl f st) ∧ EmMore st (l.foldl f st) := by
  induction l generalizing st with
  | nil => exact ⟨h, List.prefix_refl _⟩
  | cons x r ih =>
    obtain ⟨h1, h2⟩ := hf st x List.mem_cons_self h
    obtain ⟨h3, h4⟩ := ih (fun st y hy => hf st y (List.mem_cons_of_mem _ hy)) h1
    exact ⟨h3, List.IsPrefix.trans h2 h4⟩
mutual
theorem goS_ok : ∀ (x : SJ) (env : List (List UInt8 × JV)) (room : Nat) (st : MSt), (∀ b ∈ env, good b.2 = true) → mayS room x = true → EmOk st → EmOk (goS env st x) ∧ EmMore st (goS env st x)
  | .mk k s a b body els, env, room, st, he, hm, h => by
    unfold mayS at hm
    simp only [Bool.and_eq_true, decide_eq_true_eq] at hm
    obtain ⟨_, ha, hm⟩ := hm
    unfold goS
    by_cases h1 : k = 1
    · rw [if_pos h1] at hm ⊢
      simp only [Bool.and_eq_true, decide_eq_true_eq] at hm
      exact emitS_ok h (fun x hx => evE_good he a 12 ha x hx) (fun x hx => evE_good he b 12 hm.1 x hx)
    · rw [if_neg h1] at hm ⊢
      by_cases h2 : k = 2
      · rw [if_pos h2] at hm ⊢
        simp only [Bool.and_eq_true, decide_eq_true_eq] at hm
        cases hb : isB (evE env a) with
        | none => exact ⟨h, List.prefix_refl _⟩
        | some t =>
          cases t with
          | true => exact goL_ok body env (room - 1) st he hm.2.2.1 h
          | false => exact goL_ok els env (room - 1) st he hm.2.2.2 h
      · rw [if_neg h2] at hm ⊢
        by_cases h3 : k = 3
        · rw [if_pos h3] at hm
          simp only [Bool.and_eq_true, decide_eq_true_eq] at hm
          cases hv : evE env a with
          | none => exact ⟨h, List.prefix_refl _⟩
          | some v =>
            have hg := evE_good he a 12 ha v hv
            simp only
            split
            · refine fold_ok (fun st x hx hst => ?_) h
              split
              · rename_i hp
                have := goL_ok body (env ++ [(s, x)]) (room - 1) (st.1 + 1, st.2) (fun y hy => by
                  rcases List.mem_append.1 hy with hy | hy
                  · exact he y hy
                  · obtain rfl : y = (s, x) := by simpa using hy
                    exact good_kid hg hx) hm.2.2.1 ⟨hst.1, by show st.1 + 1 ≤ 256; omega, hst.2.2⟩
                exact this
              · exact ⟨hst, List.prefix_refl _⟩
            · exact ⟨h, List.prefix_refl _⟩
        · rw [if_neg h3] at hm; cases hm
theorem goL_ok : ∀ (l : List SJ) (env : List (List UInt8 × JV)) (room : Nat) (st : MSt), (∀ b ∈ env, good b.2 = true) → mayL room l = true → EmOk st → EmOk (goL env st l) ∧ EmMore st (goL env st l)
  | [], env, room, st, he, hm, h => by unfold goL; exact ⟨h, List.prefix_refl _⟩
  | x :: r, env, room, st, he, hm, h => by
    unfold mayL at hm
    rw [Bool.and_eq_true] at hm
    unfold goL
    obtain ⟨h1, h2⟩ := goS_ok x env room st he hm.1 h
    obtain ⟨h3, h4⟩ := goL_ok r env room _ he hm.2 h1
    exact ⟨h3, List.IsPrefix.trans h2 h4⟩
end
theorem goL_app (env : List (List UInt8 × JV)) : ∀ (l m : List SJ) (st : MSt), goL env st (l ++ m) = goL env (goL env st l) m
  | [], m, st => by show goL env st m = _; rw [goL]
  | x :: r, m, st => by show goL env st (x :: (r ++ m)) = _; rw [goL, goL, goL_app env r m]
theorem mayL_app {d : Nat} {l m : List SJ} : mayL d (l ++ m) = (mayL d l && mayL d m) := by
  induction l with
  | nil => simp [mayL]
  | cons x r ih => show (mayS d x && mayL d (r ++ m)) = _; rw [ih, mayL, Bool.and_assoc]
def rnN (f t s : List UInt8) : List UInt8 := if s = f then t else s
mutual
def rnE (f t : List UInt8) : EJ → EJ | .mk k v s kids => .mk k v (if k = 2 then rnN f t s else s) (rnL f t kids)
def rnL (f t : List UInt8) : List EJ → List EJ | [] => [] | x :: r => rnE f t x :: rnL f t r
end
mutual
/-- does a name stand in an expression? -/
def hasE (t : List UInt8) : EJ → Bool | .mk k v s kids => decide (k = 2 ∧ s = t) || hasL t kids
def hasL (t : List UInt8) : List EJ → Bool | [] => false | x :: r => hasE t x || hasL t r
end
theorem rnL_len (f t : List UInt8) : ∀ l : List EJ, (rnL f t l).length = l.length
  | [] => rfl
  | x :: r => by unfold rnL; rw [List.length_cons, List.length_cons, rnL_len f t r]
theorem look_app (env : List (List UInt8 × JV)) (s t : List UInt8) (v : JV) : lookJ (env ++ [(s, v)]) t = if s = t then some v else lookJ env t := by
  induction env with
  | nil => show lookJ [(s, v)] t = _; simp [lookJ]
  | cons b r ih =>
    obtain ⟨u, z⟩ := b
    show lookJ ((u, z) :: (r ++ [(s, v)])) t = _
    rw [lookJ, ih, lookJ]
    by_cases h : s = t
    · rw [if_pos h, if_pos h]
    · rw [if_neg h, if_neg h]
mutual
theorem evE_rn {env : List (List UInt8 × JV)} {f t : List UInt8} {v : JV} : ∀ (x : EJ), hasE t x = false → (∀ b ∈ env, b.1 ≠ f ∧ b.1 ≠ t) → evE (env ++ [(t, v)]) (rnE f t x) = evE (env ++ [(f, v)]) x
  | .mk k u s kids, hx, he => by
    unfold hasE at hx
    rw [Bool.or_eq_false_iff, decide_eq_false_iff_not] at hx
    unfold rnE evE
    rw [evL_rn kids hx.2 he]
    unfold combJ
    by_cases h1 : k = 1
    · rw [if_pos h1, if_pos h1]
    rw [if_neg h1, if_neg h1]
    by_cases h2 : k = 2
    · rw [if_pos h2, if_pos h2, if_pos h2, look_app, look_app]
      unfold rnN
      by_cases hs : s = f
      · rw [if_pos hs, if_pos rfl, if_pos hs.symm]
      · rw [if_neg hs, if_neg (fun e => hx.1 ⟨h2, e.symm⟩), if_neg (fun e => hs e.symm)]
    · rw [if_neg h2, if_neg h2, if_neg h2]
theorem evL_rn {env : List (List UInt8 × JV)} {f t : List UInt8} {v : JV} : ∀ (l : List EJ), hasL t l = false → (∀ b ∈ env, b.1 ≠ f ∧ b.1 ≠ t) → evL (env ++ [(t, v)]) (rnL f t l) = evL (env ++ [(f, v)]) l
  | [], _, _ => rfl
  | x :: r, hx, he => by
    unfold hasL at hx
    rw [Bool.or_eq_false_iff] at hx
    unfold rnL evL
    rw [evE_rn x hx.1 he, evL_rn r hx.2 he]
end
mutual
theorem deep_rn {f t : List UInt8} (hf : nameOk f = true) (ht : nameOk t = true) : ∀ (x : EJ) (r : Nat), deepE r (rnE f t x) = deepE r x
  | .mk k u s kids, r => by
    unfold rnE deepE
    rw [rnL_len, deepL_rn hf ht kids (r - 1)]
    have : okX k u (if k = 2 then rnN f t s else s) kids.length = okX k u s kids.length := by
      by_cases h2 : k = 2
      · subst h2
        rw [if_pos rfl]
        unfold okX rnN
        by_cases hs : s = f
        · subst hs; simp [hf, ht]
        · simp [hs]
      · rw [if_neg h2]
    rw [this]
theorem deepL_rn {f t : List UInt8} (hf : nameOk f = true) (ht : nameOk t = true) : ∀ (l : List EJ) (r : Nat), deepL r (rnL f t l) = deepL r l
  | [], r => rfl
  | x :: l, r => by unfold rnL deepL; rw [deep_rn hf ht x r, deepL_rn hf ht l r]
end
end Go.Proofs.YtgolomgmnanbpaaGreatDoor
