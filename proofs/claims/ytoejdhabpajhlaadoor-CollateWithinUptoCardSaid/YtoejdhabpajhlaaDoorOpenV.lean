/- A value that came in: five cells are a value, and how much it is. -/
import Derived.Test.YtoejdhabpajhlaaDoorGoodP
import Derived.Test.YtoejdhabpajhlaaDoorRows
import Derived.ChangeArms
import Derived.Deep.Strs
namespace Go.Proofs.YtoejdhabpajhlaaDoor
set_option linter.unusedVariables false
set_option linter.unusedSimpArgs false
open Go.RowKit Go.Deep Go.ChangeShapes Go.WideShapes

/-- every block -/
def TT : Nat → Prop := fun _ => True
/-- a number of 64 bits -/
def iw (n : Int) : Prop := -9223372036854775808 ≤ n ∧ n ≤ 9223372036854775807
mutual
def inJ : JV → Prop | .mk k n s kids keys => iw k ∧ iw n ∧ inL kids
def inL : List JV → Prop | [] => True | x :: r => inJ x ∧ inL r
end
theorem inL_iff : ∀ {xs : List JV}, inL xs ↔ ∀ x ∈ xs, inJ x
  | [] => by simp [inL]
  | x :: r => by simp [inL, inL_iff (xs := r)]
def bulkK : List (List UInt8) → Nat | [] => 0 | k :: r => k.length + 1 + bulkK r
mutual
/-- how much a value is -/
def bulkJ : JV → Nat | .mk k n s kids keys => 1 + s.length + bulkK keys + bulkL kids
def bulkL : List JV → Nat | [] => 0 | x :: r => bulkJ x + bulkL r
end
theorem bulkJ_pos (v : JV) : 1 ≤ bulkJ v := by cases v; unfold bulkJ; omega
theorem bulkK_len : ∀ ks : List (List UInt8), ks.length ≤ bulkK ks
  | [] => Nat.zero_le _
  | k :: r => by have := bulkK_len r; unfold bulkK; rw [List.length_cons]; omega
theorem bulkK_at : ∀ {ks : List (List UInt8)} {t : List UInt8}, t ∈ ks → t.length + 1 ≤ bulkK ks
  | k :: r, t, h => by
    unfold bulkK
    rcases List.mem_cons.1 h with rfl | h
    · omega
    · have := bulkK_at h; omega
theorem bulkL_len : ∀ xs : List JV, xs.length ≤ bulkL xs
  | [] => Nat.zero_le _
  | x :: r => by have := bulkL_len r; have := bulkJ_pos x; unfold bulkL; rw [List.length_cons]; omega
theorem bulkL_at : ∀ {xs : List JV} {x : JV}, x ∈ xs → bulkJ x ≤ bulkL xs
  | y :: r, x, h => by
    unfold bulkL
    rcases List.mem_cons.1 h with rfl | h
    · omega
    · have := bulkL_at h; omega
mutual
theorem nodes_bulk : ∀ v : JV, nodesJ v ≤ bulkJ v
  | .mk k n s kids keys => by have := nodesL_bulk kids; unfold nodesJ bulkJ; omega
theorem nodesL_bulk : ∀ xs : List JV, nodesL xs ≤ bulkL xs
  | [] => Nat.le_refl _
  | x :: r => by have := nodes_bulk x; have := nodesL_bulk r; unfold nodesL bulkL; omega
end
/-- what came in, and how much it may be -/
structure Came (v : JV) : Prop where
  ints : inJ v
  bulk : bulkJ v ≤ 4194304
theorem Came.out {k n : Int} {s : List UInt8} {kids : List JV} {keys : List (List UInt8)} (h : Came (.mk k n s kids keys)) :
    iw k ∧ iw n ∧ s.length ≤ 4194304 ∧ kids.length ≤ 4194304 ∧ keys.length ≤ 4194304 ∧ (∀ t ∈ keys, t.length ≤ 4194304) ∧ ∀ x ∈ kids, Came x := by
  obtain ⟨h1, h2⟩ := h
  unfold inJ at h1
  unfold bulkJ at h2
  have := bulkK_len keys
  have := bulkL_len kids
  refine ⟨h1.1, h1.2.1, by omega, by omega, by omega, fun t ht => ?_, fun x hx => ⟨inL_iff.1 h1.2.2 x hx, ?_⟩⟩
  · have := bulkK_at ht; omega
  · have := bulkL_at hx; omega
instance : Inhabited JV := ⟨jZero⟩
section
variable {H : Type} {enc : TypeId × Value → H} {W : World}
theorem kids_of (a : Addr) : ∀ (elems : List (DataW H × List MemPlace)) (a0 : Nat), (∀ i, i < elems.length → ∃ c v y, elems[i]? = some y ∧ W.cells? 0 (a.add ((a0 + i) * 5)) 5 = some c ∧ VR W TT c v ∧ inJ v ∧ bulkJ v ≤ Rows.uptoBulk y.1) →
    ∃ css kids, VRs W TT css kids ∧ kids.length = elems.length ∧ (∀ i c, css[i]? = some c → W.cells? 0 (a.add ((a0 + i) * 5)) 5 = some c) ∧ inL kids ∧ bulkL kids ≤ Rows.uptoBulkAll (elems.map (·.1))
  | [], _, _ => ⟨[], [], VRs.nil, rfl, fun i c h => by simp at h, trivial, Nat.zero_le _⟩
  | y :: r, a0, h => by
    obtain ⟨c, v, y', e, h1, h2, h3, h4⟩ := h 0 (by simp)
    obtain rfl : y = y' := by simpa using e
    obtain ⟨css, kids, k1, k2, k3, k4, k5⟩ := kids_of a r (a0 + 1) (fun i hi => by
      obtain ⟨c, v, y', e, h1, h2, h3, h4⟩ := h (i + 1) (by simp; omega)
      exact ⟨c, v, y', by simpa using e, by rw [show a0 + 1 + i = a0 + (i + 1) by omega]; exact h1, h2, h3, h4⟩)
    refine ⟨c :: css, v :: kids, ⟨by simp [k1.1], fun i c' x' e1 e2 => ?_⟩, by simp [k2], fun i c' e1 => ?_, ?_, ?_⟩
    · cases i with
      | zero => obtain rfl : c = c' := by simpa using e1
                obtain rfl : v = x' := by simpa using e2
                exact h2
      | succ i => exact k1.2 i c' x' (by simpa using e1) (by simpa using e2)
    · cases i with
      | zero => obtain rfl : c = c' := by simpa using e1
                exact h1
      | succ i => have := k3 i c' (by simpa using e1); rwa [show a0 + 1 + i = a0 + (i + 1) by omega] at this
    · unfold inL; exact ⟨h3, k4⟩
    · unfold bulkL; rw [List.map_cons]; unfold Rows.uptoBulkAll; omega
theorem row_of (a : Addr) {css : List (List Value)} {kids : List JV} (h : VRs W TT css kids) (hc : ∀ i c, css[i]? = some c → W.cells? 0 (a.add (i * 5)) 5 = some c) : RdF W TT (some a) css.flatten := by
  intro hne
  have hpos : 0 < css.length := by
    rcases css with _ | ⟨c, r⟩
    · exact absurd rfl hne
    · simp
  obtain ⟨b, o, spot⟩ := a
  have h5 := h.five
  have h0 := World.cells?_some (hc 0 _ (List.getElem?_eq_getElem hpos))
  have q0 := h0.2.2 0 (by decide)
  rw [List.getElem?_eq_getElem (by omega)] at q0
  have hspot : spot = none := by simpa [Addr.add] using World.cell?_spot q0
  subst hspot
  have hcell : ∀ i (hi : i < css.flatten.length), W.cell? ⟨b, o + i, none⟩ = some css.flatten[i] := by
    intro i hi
    rw [flat5_len h5] at hi
    have hq : i / 5 < css.length := by omega
    have hx := World.cells?_some (hc (i / 5) _ (List.getElem?_eq_getElem hq))
    have hy := hx.2.2 (i % 5) (by omega)
    rw [add_plain, add_plain, ← flat5_get h5 (List.getElem?_eq_getElem hq) (by omega)] at hy
    rw [show o + i = o + i / 5 * 5 + i % 5 by omega, hy, show i / 5 * 5 + i % 5 = i by omega, List.getElem?_eq_getElem]
  refine ⟨b, o, rfl, ?_, trivial, hcell⟩
  have hl : 0 < css.flatten.length := by rw [flat5_len h5]; omega
  have hz := hcell 0 hl
  rcases Nat.lt_or_ge b W.heap.size with hlt | hge
  · exact hlt
  · unfold World.cell? at hz; simp [Array.getElem?_eq_none hge] at hz
theorem keys_of (f : Nat → ByteArray) : ∀ l : List Nat, bulkK (l.map fun i => (f i).data.toList) ≤ Rows.uptoBulkAll (H := H) (l.map fun i => .lit (.string (f i).data.toList))
  | [] => Nat.zero_le _
  | i :: r => by
    have := keys_of f r
    rw [List.map_cons, List.map_cons]
    unfold bulkK Rows.uptoBulkAll Rows.uptoBulk
    omega
theorem wf_iw {n : Int} (h : (Lit.int .i64 n).wf = true) : iw n := by
  have h : (decide (IntKind.i64.min ≤ n) && decide (n ≤ IntKind.i64.max)) = true := h
  rw [Bool.and_eq_true, decide_eq_true_eq, decide_eq_true_eq] at h
  have e1 : IntKind.i64.min = -9223372036854775808 := by decide
  have e2 : IntKind.i64.max = 9223372036854775807 := by decide
  unfold iw; omega
set_option maxRecDepth 100000 in
theorem open_value : ∀ (fuel : Nat) (cs : List Value) (x : DataW H × List MemPlace), DataW.trod enc Tryd.prog W 0 (fun _ => true) true fuel 28 cs = some x → ∃ v, VR W TT cs v ∧ inJ v ∧ bulkJ v ≤ Rows.uptoBulk x.1 := by
  intro fuel
  induction fuel using Nat.strongRecOn with
  | ind fuel ih =>
    intro cs x h
    obtain ⟨xs, n, rfl, rfl, hlen, hxl, hf⟩ := DataW.trod_struct Tryd.underlying28 h
    have ci : Tryd.prog.cellsOf 3 = 1 := by kernel_rfl
    have cl : Tryd.prog.cellsOf 2 = 1 := by kernel_rfl
    have ct : Tryd.prog.cellsOf 9 = 1 := by kernel_rfl
    have ck : Tryd.prog.cellsOf 25 = 1 := by kernel_rfl
    have cy : Tryd.prog.cellsOf 26 = 1 := by kernel_rfl
    have cv : Tryd.prog.cellsOf 28 = 5 := by kernel_rfl
    rw [cv] at hlen
    have f0 := hf 0 _ rfl
    have f1 := hf 1 _ rfl
    have f2 := hf 2 _ rfl
    have f3 := hf 3 _ rfl
    have f4 := hf 4 _ rfl
    clear hf
    match xs, hxl, cs, hlen with
    | [y0, y1, y2, y3, y4], _, [c0, c1, c2, c3, c4], _ =>
      simp [ci, cl, ct, ck, cy] at f0 f1 f2 f3 f4
      obtain ⟨k, e0, rfl, w0⟩ := DataW.trod_int Tryd.underlying3 f0
      obtain ⟨m, e1, rfl, w1⟩ := DataW.trod_int Tryd.underlying2 f1
      obtain ⟨s, e2, rfl, w2⟩ := DataW.trod_string Tryd.underlying9 f2
      obtain rfl : c0 = .int .i64 k := by simpa using e0
      obtain rfl : c1 = .int .i64 m := by simpa using e1
      obtain rfl : c2 = .string s := by simpa using e2
      obtain ⟨A, ca, css, kids, rfl, hk1, hk2, hk3, hk4, hk5, hk6⟩ : ∃ A ca css kids, c3 = .slice A kids.length ca ∧ VRs W TT css kids ∧ kids.length ≤ ca ∧ (A = none → ca = 0) ∧ RdF W TT A css.flatten ∧ inL kids ∧ bulkL kids ≤ Rows.uptoBulk y3.1 := by
        rcases DataW.trod_slice Tryd.underlying25 f3 with ⟨e3, rfl⟩ | ⟨a, len, cap, elems, rest, n', hn, e3, rfl, hb, hl, hm, hel, hk, _, _⟩
        · exact ⟨none, 0, [], [], by simpa using e3, VRs.nil, Nat.le_refl _, fun _ => rfl, RdF.nil, trivial, Nat.zero_le _⟩
        · rw [cv] at hk
          obtain ⟨css, kids, k1, k2, k3, k4, k5⟩ := kids_of (W := W) a elems 0 (fun i hi => by
            have hq := hk i (by omega)
            rw [List.getElem?_eq_getElem hi] at hq
            obtain ⟨c, q1, q2⟩ := Option.bind_eq_some_iff.1 hq
            obtain ⟨v, q3, q4, q5⟩ := ih n' (by omega) c _ q2
            exact ⟨c, v, _, List.getElem?_eq_getElem hi, by rw [Nat.zero_add]; exact q1, q3, q4, q5⟩)
          refine ⟨some a, cap, css, kids, ?_, k1, by omega, fun e => by simp at e, row_of a k1 (fun i c e => by have := k3 i c e; rwa [Nat.zero_add] at this), k4, ?_⟩
          · rw [k2, hel]; simpa using e3
          · show _ ≤ Rows.uptoBulk (.slice _ _); unfold Rows.uptoBulk; omega
      obtain ⟨B, cb, keys, rfl, hy1, hy2, hy3, hy4⟩ : ∃ B cb keys, c4 = .slice B keys.length cb ∧ keys.length ≤ cb ∧ (B = none → cb = 0) ∧ RdF W TT B (strV keys) ∧ bulkK keys ≤ Rows.uptoBulk y4.1 := by
        rcases open_strs Tryd.underlying26 Tryd.underlying9 ct f4 with ⟨e4, rfl⟩ | ⟨a, len, cap, q, Sx, e4, hb, hl, hm, hq, rfl, hx⟩
        · exact ⟨none, 0, [], by simpa using e4, Nat.le_refl _, fun _ => rfl, RdF.nil, Nat.zero_le _⟩
        · simp at hq
          subst hq
          refine ⟨some a, q, (List.range len).map fun i => (Sx i).data.toList, by simpa using e4, by simpa using hl, fun e => by simp at e, fun hne => ?_, ?_⟩
          · have hpos : 0 < len := by
              rcases len with _ | len
              · exact absurd rfl hne
              · omega
            obtain ⟨b, o, spot⟩ := a
            have q0 := (hx 0 (by omega)).1
            have hspot : spot = none := by simpa [Addr.add] using World.cell?_spot q0
            subst hspot
            refine ⟨b, o, rfl, ?_, trivial, fun i hi => ?_⟩
            · rcases Nat.lt_or_ge b W.heap.size with hlt | hge
              · exact hlt
              · rw [add_plain] at q0; unfold World.cell? at q0; simp [Array.getElem?_eq_none hge] at q0
            · have hi' : i < len := by rw [strV_len] at hi; simpa using hi
              have := (hx i (by omega)).1
              rw [add_plain] at this
              rw [this]
              simp [strV]
          · have := keys_of (H := H) Sx (List.range len)
            show _ ≤ Rows.uptoBulk (.slice _ _); unfold Rows.uptoBulk; omega
      obtain ⟨ss, rfl⟩ : ∃ ss : List UInt8, s = ⟨ss.toArray⟩ := ⟨s.data.toList, by simp⟩
      refine ⟨.mk k m ss kids keys, VR.into k m ss hk1 hk2 hy1 hk3 hy2 hk4 hy3 rfl rfl, ?_, ?_⟩
      · unfold inJ; exact ⟨wf_iw w0, wf_iw w1, hk5⟩
      · unfold bulkJ
        simp only [List.map_cons, List.map_nil]
        unfold Rows.uptoBulk Rows.uptoBulkAll Rows.uptoBulkAll Rows.uptoBulkAll Rows.uptoBulkAll Rows.uptoBulkAll Rows.uptoBulkAll
        have : Rows.uptoBulk (H := H) (.lit (.string ss)) = ss.length + 1 := by unfold Rows.uptoBulk; rfl
        have e2 : (Lit.string (ByteArray.mk ss.toArray).data.toList) = .string ss := by simp
        rw [e2, this]
        omega
/-- a row of values that came in -/
theorem open_values {fuel : Nat} {cs : List Value} {x : DataW H × List MemPlace} (h : DataW.trod enc Tryd.prog W 0 (fun _ => true) true fuel 25 cs = some x) :
    ∃ A ca css kids, cs = [.slice A kids.length ca] ∧ VRs W TT css kids ∧ kids.length ≤ ca ∧ (A = none → ca = 0) ∧ RdF W TT A css.flatten ∧ inL kids ∧ bulkL kids ≤ Rows.uptoBulk x.1 := by
  have cv : Tryd.prog.cellsOf 28 = 5 := by kernel_rfl
  rcases DataW.trod_slice Tryd.underlying25 h with ⟨e3, rfl⟩ | ⟨a, len, cap, elems, rest, n', hn, e3, rfl, hb, hl, hm, hel, hk, _, _⟩
  · exact ⟨none, 0, [], [], by simpa using e3, VRs.nil, Nat.le_refl _, fun _ => rfl, RdF.nil, trivial, Nat.zero_le _⟩
  · rw [cv] at hk
    obtain ⟨css, kids, k1, k2, k3, k4, k5⟩ := kids_of (W := W) a elems 0 (fun i hi => by
      have hq := hk i (by omega)
      rw [List.getElem?_eq_getElem hi] at hq
      obtain ⟨c, q1, q2⟩ := Option.bind_eq_some_iff.1 hq
      obtain ⟨v, q3, q4, q5⟩ := open_value n' c _ q2
      exact ⟨c, v, _, List.getElem?_eq_getElem hi, by rw [Nat.zero_add]; exact q1, q3, q4, q5⟩)
    refine ⟨some a, cap, css, kids, ?_, k1, by omega, fun e => by simp at e, row_of a k1 (fun i c e => by have := k3 i c e; rwa [Nat.zero_add] at this), k4, ?_⟩
    · rw [k2, hel]; exact e3
    · show _ ≤ Rows.uptoBulk (.slice _ _); unfold Rows.uptoBulk; omega
end
end Go.Proofs.YtoejdhabpajhlaaDoor
