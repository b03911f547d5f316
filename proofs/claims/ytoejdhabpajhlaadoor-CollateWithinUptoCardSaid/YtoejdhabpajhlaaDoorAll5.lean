/- The walks of package value: all (an iterator whose closure calls itself). -/
import Derived.Test.YtoejdhabpajhlaaDoorTextP
import Derived.Test.YtoejdhabpajhlaaDoorEq18
import Derived.Test.YtoejdhabpajhlaaDoorBase
namespace Go.Proofs.YtoejdhabpajhlaaDoor
set_option linter.unusedVariables false
set_option linter.unusedSimpArgs false
open Go.RowKit Go.Shelf
attribute [local go_sem] run_index_arr run_part_agg run_part_one run_field_agg Oper.semAt_some

mutual
def flatJ : Nat → JV → List (Nat × JV) | lv, .mk k n s kids keys => (lv, .mk k n s kids keys) :: flatL (lv + 1) kids
def flatL : Nat → List JV → List (Nat × JV) | _, [] => [] | lv, x :: r => flatJ lv x ++ flatL lv r
end
theorem flatL_app (lv : Nat) : ∀ xs ys : List JV, flatL lv (xs ++ ys) = flatL lv xs ++ flatL lv ys
  | [], ys => by simp [flatL]
  | x :: r, ys => by rw [List.cons_append, flatL, flatL, flatL_app lv r ys, List.append_assoc]
mutual
theorem flatJ_len : ∀ (lv : Nat) (v : JV), (flatJ lv v).length = nodesJ v
  | lv, .mk k n s kids keys => by rw [flatJ, nodesJ, List.length_cons, flatL_len (lv + 1) kids]; omega
theorem flatL_len : ∀ (lv : Nat) (xs : List JV), (flatL lv xs).length = nodesL xs
  | lv, [] => by rw [flatL, nodesL]; rfl
  | lv, x :: r => by rw [flatL, nodesL, List.length_append, flatJ_len lv x, flatL_len lv r]
end
theorem flatL_at {lv : Nat} {xs : List JV} {i : Nat} {x : JV} (h : xs[i]? = some x) : flatL lv (xs.take (i + 1)) = flatL lv (xs.take i) ++ flatJ lv x ∧ flatL lv xs = flatL lv (xs.take i) ++ (flatJ lv x ++ flatL lv (xs.drop (i + 1))) := by
  have e : flatL lv (xs.take (i + 1)) = flatL lv (xs.take i) ++ flatJ lv x := by rw [List.take_add_one, h, flatL_app]; show _ ++ flatL lv [x] = _; rw [flatL, flatL, List.append_nil]
  refine ⟨e, ?_⟩
  have h2 := flatL_app lv (xs.take (i + 1)) (xs.drop (i + 1))
  rw [List.take_append_drop, e, List.append_assoc] at h2
  exact h2
abbrev NodeV := Nat × JV × Array Value
def nodeP (x : NodeV) : Nat × JV := (x.1, x.2.1)
def encN (x : NodeV) : Array Value := #[.int .i64 x.1, .agg x.2.2]
def AllT : Nat → Prop := fun _ => True
/-- what a round keeps: all blocks of cells, but some -/
def KpC (C : Nat → Prop) (N : Nat) (A B : World) : Prop := A.heap.size ≤ B.heap.size ∧ ∀ k, k < A.heap.size → ¬ C k → (k < N ∨ ∃ t cs, Blk A k t cs) → B.heap[k]? = A.heap[k]?
theorem KpC.trans {C : Nat → Prop} {N : Nat} {A B D : World} (h : KpC C N A B) (k : KpC C N B D) : KpC C N A D := by
  refine ⟨Nat.le_trans h.1 k.1, fun j hj hc hb => ?_⟩
  have h1 := h.2 j hj hc hb
  refine (k.2 j (Nat.lt_of_lt_of_le hj h.1) hc ?_).trans h1
  rcases hb with hb | ⟨t, cs, hb⟩
  · exact .inl hb
  · exact .inr ⟨t, cs, h1.trans hb⟩
theorem KpC.of_below {C : Nat → Prop} {N : Nat} {A B : World} (h : Below A.heap.size A B) : KpC C N A B := ⟨h.size, fun k hk _ _ => h.block k hk⟩
theorem KpC.refl (C : Nat → Prop) (N : Nat) (A : World) : KpC C N A A := ⟨Nat.le_refl _, fun _ _ _ _ => rfl⟩
theorem KpC.blk {C : Nat → Prop} {N : Nat} {A B : World} {g : Nat} {t : TypeId} {cs : Array Value} (h : KpC C N A B) (hb : Blk A g t cs) (hg : ¬ C g) : Blk B g t cs := (h.2 g hb.lt hg (.inr ⟨t, cs, hb⟩)).trans hb
theorem KpC.keepF {C : Nat → Prop} {w0 A B : World} (h : KpC C w0.heap.size A B) (hk : KeepF AllT w0 A) (hC : ∀ k, C k → w0.heap.size ≤ k) : KeepF AllT w0 B :=
  ⟨Nat.le_trans hk.1 h.1, fun b _ hb => (h.2 b (Nat.lt_of_lt_of_le hb hk.1) (fun hc => by have := hC b hc; omega) (.inl hb)).trans (hk.2 b trivial hb)⟩
theorem KpC.set {C : Nat → Prop} {N : Nat} {A B : World} (h : KpC C N A B) {k : Nat} (hk : C k) (i : Nat) (u : Value) : KpC C N A (B.setCell ⟨k, i, none⟩ u) :=
  ⟨by simpa using h.1, fun b hb hc hx => (Below.heap_setCell B ⟨k, i, none⟩ u b (fun e => hc (by have e : b = k := e; rw [e]; exact hk))).trans (h.2 b hb hc hx)⟩
/-- the five cells of a kid, as a walk reads them in a world that kept them -/
theorem kid_cellsK {W : World} {css : List (List Value)} {xs : List JV} {A : Option Addr} (h : VRs W AllT css xs) (hr : RdF W AllT A css.flatten) {i : Nat} {x : JV} (hx : xs[i]? = some x) :
    ∃ (b o : Nat) (k n : Int) (s : ByteArray) (A' : Option Addr) (na ca : Nat) (B' : Option Addr) (nb cb : Nat), A = some ⟨b, o, none⟩ ∧ b < W.heap.size ∧ VR W AllT [.int .i64 k, .int .i64 n, .string s, .slice A' na ca, .slice B' nb cb] x ∧
      ∀ W', KeepF AllT W W' → W'.cell? ⟨b, o + i * 5, none⟩ = some (.int .i64 k) ∧ W'.cell? ⟨b, o + i * 5 + 1, none⟩ = some (.int .i64 n) ∧ W'.cell? ⟨b, o + i * 5 + 2, none⟩ = some (.string s) ∧ W'.cell? ⟨b, o + i * 5 + 3, none⟩ = some (.slice A' na ca) ∧ W'.cell? ⟨b, o + i * 5 + 4, none⟩ = some (.slice B' nb cb) := by
  obtain ⟨b, o, c, rfl, hb, _, hv, hc⟩ := h.cell hr hx
  obtain ⟨k, n, s, A', na, ca, B', nb, cb, rfl⟩ := hv.form
  refine ⟨b, o, k, n, s, A', na, ca, B', nb, cb, rfl, hb, hv, fun W' hW => ?_⟩
  have z := fun (j : Nat) u (hj : j < 5) hu => (World.cell?_of_block (w := W) (a := ⟨b, o + (i * 5 + j), none⟩) (hW.2 b trivial hb)).trans (hc j u hj hu)
  exact ⟨z 0 _ (by decide) rfl, z 1 _ (by decide) rfl, z 2 _ (by decide) rfl, z 3 _ (by decide) rfl, z 4 _ (by decide) rfl⟩
/-- what the loop's body owes the iterator -/
def AdmN (w0 : World) (v0 : JV) (pre : List NodeV) (x : NodeV) : Prop := VR w0 AllT x.2.2.toList x.2.1 ∧ (pre ++ [x]).map nodeP <+: flatJ 0 v0
def YN (l : Nat) (w0 : World) (C : Nat → Prop) (v0 : JV) (J Jx : List NodeV → World → Prop) : Prop := ∀ pre x W1, J pre W1 → AdmN w0 v0 pre x → YieldAt Fence.wide 1 Tryd.prog l (encN x) W1 fun e W' =>
  (e = .returned (.bool true) ∧ J (pre ++ [x]) W' ∧ KpC C w0.heap.size W1 W') ∨ (e = .returned (.bool false) ∧ Jx (pre ++ [x]) W' ∧ KpC C w0.heap.size W1 W')
def IntoPost (w0 : World) (C : Nat → Prop) (J Jx : List NodeV → World → Prop) (lv : Nat) (v : JV) (pre : List NodeV) (W : World) (e : Ending) (W' : World) : Prop :=
  (e = .returned (.bool true) ∧ ∃ ys, ys.map nodeP = flatJ lv v ∧ J (pre ++ ys) W' ∧ KpC C w0.heap.size W W') ∨ (e = .returned (.bool false) ∧ ∃ ys, Jx ys W')
abbrev intoV (yb ib : Nat) : Value := .func (.func 105) #[] #[.pointer (some ⟨yb, 0, none⟩), .pointer (some ⟨ib, 0, none⟩)]
set_option maxRecDepth 100000 in
set_option maxHeartbeats 4000000 in
theorem into_any (l : Nat) (w0 : World) (C : Nat → Prop) (NC : Nat) (v0 : JV) (J Jx : List NodeV → World → Prop) (yb ib : Nat) (hC0 : ∀ k, C k → w0.heap.size ≤ k) (hCN : ∀ k, C k → k < NC) (hyC : ¬ C yb) (hiC : ¬ C ib)
    (hJ : ∀ s A B, Below A.heap.size A B → J s A → J s B) (hY : YN l w0 C v0 J Jx) : ∀ (M : Nat) (v : JV), nodesJ v ≤ M → ∀ (lv : Nat) (pre : List NodeV) (rest : List (Nat × JV)) (cs : List Value) (W : World),
    VR w0 AllT cs v → KeepF AllT w0 W → J pre W → Blk W yb 147 #[.func (.yield l) #[] #[]] → Blk W ib 147 #[intoV yb ib] → flatJ 0 v0 = pre.map nodeP ++ (flatJ lv v ++ rest) → lv + nodesJ v ≤ 4194304 → NC ≤ W.heap.size →
    Calls Tryd.prog 105 #[.int .i64 lv, .agg cs.toArray, .pointer (some ⟨yb, 0, none⟩), .pointer (some ⟨ib, 0, none⟩)] W (IntoPost w0 C J Jx lv v pre W)
  | 0, v, h, _, _, _, _, _, _, _, _, _, _, _, _, _ => by have := nodesJ_pos v; omega
  | M + 1, .mk k n s kids keys, hM, lv, pre, rest, cs, W, hv, hK, hJ0, hyb, hib, hfl, hlv, hNC => by
    have ih := into_any l w0 C NC v0 J Jx yb ib hC0 hCN hyC hiC hJ hY M
    obtain ⟨A, B, ca, cb, css, rfl, h1, h2, h3, h4, h5, h6, h7⟩ := hv.out
    have HIH := Lib.hid (fun (i : Nat) (x : JV) (hx : kids[i]? = some x) => kid_cellsK h1 h6 hx)
    unfold nodesJ at hM hlv
    have hkl := nodesL_len kids
    have hfl2 : flatJ 0 v0 = pre.map nodeP ++ ((lv, JV.mk k n s kids keys) :: flatL (lv + 1) kids ++ rest) := hfl
    obtain ⟨nk, hnk⟩ : ∃ nk, kids.length = nk := ⟨_, rfl⟩
    obtain ⟨ny, hny⟩ : ∃ ny, keys.length = ny := ⟨_, rfl⟩
    rw [hnk] at h2 hkl hv
    rw [hny] at h3 hv
    rw [hnk, hny]
    have hb1 := (Below.refl W.heap.size W).alloc (Nat.le_refl _) (.cells #[.int .i64 k, .int .i64 n, .string ⟨s.toArray⟩, .slice A nk ca, .slice B ny cb] 28)
    obtain ⟨fn, tmps, assign, body, hy, hR⟩ := hY pre (lv, .mk k n s kids keys, #[.int .i64 k, .int .i64 n, .string ⟨s.toArray⟩, .slice A nk ca, .slice B ny cb]) _ (hJ _ _ _ hb1 hJ0)
      ⟨hv, by rw [hfl2, List.map_append]; exact ⟨flatL (lv + 1) kids ++ rest, by simp [nodeP]⟩⟩
    unfold encN at hy
    simp only at hy
    have hbk := Blk.new W 28 #[.int .i64 k, .int .i64 n, .string ⟨s.toArray⟩, .slice A nk ca, .slice B ny cb]
    have hgC : ¬ C W.heap.size := fun h => by have := hCN _ h; omega
    have HKB := Lib.hid hb1
    have HBK := Lib.hid hbk
    have HI := Lib.hid ih
    have HJ := Lib.hid hJ
    have HK := Lib.hid hK
    have HYB := Lib.hid hyb
    have HIB := Lib.hid hib
    have HFL := Lib.hid hfl2
    have HNK := Lib.hid hnk
    have HC0 := Lib.hid hC0
    obtain ⟨a1, b1, d1⟩ := (hyb.alloc (.cells #[.int .i64 k, .int .i64 n, .string ⟨s.toArray⟩, .slice A nk ca, .slice B ny cb] 28)).rules
    clear hv hK hyb hib hfl hfl2 h1 h4 h5 h6 h7 hbk hb1 ih hJ hY hJ0 hnk hny hC0 hCN
    refine (callsIn_wide (n := 2)).1 ?_
    refine callsIn_of_wp Tryd.func105 rfl trivial ?_ rfl
    simp only [Tryd.ntmps105, List.size_toArray, List.length_cons, List.length_nil, Nat.reduceAdd, Nat.reduceSub, Array.replicate_succ, Array.replicate_zero, List.push_toArray, List.append_toArray, List.nil_append, List.cons_append]
    gi_wp2
    refine hR.mono ?_
    rintro e W3 (⟨rfl, hJ3, hk3⟩ | ⟨rfl, hJx3, hk3⟩)
    · have hk1 : KpC C w0.heap.size W W3 := (KpC.of_below HKB.out).trans hk3
      obtain ⟨c1, f1, l1⟩ := (hk3.blk HBK.out hgC).rules
      have z3 := c1 3
      simp at z3
      have HK1 := Lib.hid hk1
      have HJ3 := Lib.hid hJ3
      clear hk1 hk3 hJ3 hR hy a1 b1 d1
      gi_wp2
      clear c1 f1 l1 z3
      gi_loopg [17] nk (fun gk s17 wr => ∃ (i : Nat) (ys : List NodeV), i ≤ nk ∧ gk = nk - i ∧ s17 = .int .i64 i ∧ Hid (ys.map nodeP = (lv, .mk k n s kids keys) :: flatL (lv + 1) (kids.take i)) ∧ Hid (J (pre ++ ys) wr) ∧ Hid (KpC C w0.heap.size W wr))
      case atStart => exact ⟨0, [(lv, .mk k n s kids keys, #[.int .i64 k, .int .i64 n, .string ⟨s.toArray⟩, .slice A nk ca, .slice B ny cb])], Nat.zero_le _, rfl, by go_num, Lib.hid (by simp [nodeP, flatL]), HJ3, HK1⟩
      case round =>
        obtain ⟨i, ys, hi, hgk, rfl, HYS, HJw, HKw⟩ := hrel
        have HG := Lib.hid hgk
        clear hgk HK1 HJ3
        by_cases hlt : i < nk
        · obtain ⟨x, hx⟩ : ∃ x, kids[i]? = some x := ⟨_, List.getElem?_eq_getElem (by rw [HNK.out]; exact hlt)⟩
          obtain ⟨b, o, k', n', s', A', na, ca', B', nb, cb', rfl, hb, hvx, hz⟩ := HIH.out i x hx
          have hKF := HKw.out.keepF HK.out HC0.out
          obtain ⟨q0, q1, q2, q3, q4⟩ := hz _ hKF
          have hyw := HKw.out.blk HYB.out hyC
          have hiw := HKw.out.blk HIB.out hiC
          obtain ⟨hf1, hf2⟩ := flatL_at (lv := lv + 1) hx
          obtain ⟨hn1, hn2⟩ := nodesL_at hx
          have hbA := (Below.refl wr.heap.size wr).alloc (Nat.le_refl _) (.cells #[.int .i64 k', .int .i64 n', .string s', .slice A' na ca', .slice B' nb cb'] 28)
          have hcl := HI.out x (by omega) (lv + 1) (pre ++ ys) (flatL (lv + 1) (kids.drop (i + 1)) ++ rest) _ _ hvx (hKF.bel hbA) (HJ.out _ _ _ hbA HJw.out) (hyw.alloc _) (hiw.alloc _)
            (by rw [HFL.out, List.map_append, HYS.out, hf2]; simp) (by omega) (by have := HKw.out.1; simp; omega)
          rw [show ((lv + 1 : Nat) : Int) = (lv : Int) + 1 by omega] at hcl
          have HCL := Lib.hid hcl
          have HF1 := Lib.hid hf1
          have HKA := Lib.hid (HKw.out.trans (KpC.of_below hbA))
          obtain ⟨d1, d2, d3⟩ := (hyw.alloc (.cells #[.int .i64 k', .int .i64 n', .string s', .slice A' na ca', .slice B' nb cb'] 28)).rules
          obtain ⟨e1, e2, e3⟩ := (hiw.alloc (.cells #[.int .i64 k', .int .i64 n', .string s', .slice A' na ca', .slice B' nb cb'] 28)).rules
          clear hcl hf1 hf2 hn1 hn2 hbA hz hvx hx hKF hyw hiw
          gi_wp2
          refine ⟨trivial, CallsIn.mono (callsIn_wide.2 HCL.out) ?_⟩
          rintro e W5 (⟨rfl, zs, hzs, hJ5, hk5⟩ | ⟨rfl, zs, hJx5⟩)
          · have HJ5 := Lib.hid hJ5
            have HK5 := Lib.hid (HKA.out.trans hk5)
            have HZ := Lib.hid hzs
            clear hJ5 hk5 hzs
            gi_wp2
            gi_roundg (nk - (i + 1))
            case measure => rw [HG.out]; omega
            case rel => exact ⟨i + 1, ys ++ zs, hlt, rfl, by go_num, Lib.hid (by rw [List.map_append, HYS.out, HZ.out, HF1.out]; simp), Lib.hid (by rw [← List.append_assoc]; exact HJ5.out), HK5⟩
          · gi_wp2
            go_ret
            exact .inr ⟨rfl, zs, hJx5⟩
        · obtain rfl : i = nk := by omega
          gi_wp2
          go_ret
          refine .inl ⟨rfl, ys, ?_, HJw.out, HKw.out⟩
          have h := HYS.out
          rw [List.take_of_length_le (by rw [HNK.out]; exact Nat.le_refl _)] at h
          exact h
    · have HJX := Lib.hid hJx3
      clear hJx3 hk3 hR hy a1 b1 d1
      gi_wp2
      go_ret
      exact .inr ⟨rfl, _, HJX.out⟩
theorem all_any (k n : Int) (s : ByteArray) (A B : Option Addr) (nk ca ny cb : Nat) (w : World) :
    Calls Tryd.prog 77 #[.agg #[.int .i64 k, .int .i64 n, .string s, .slice A nk ca, .slice B ny cb]] w fun e w' => e = .returned (.func (.func 104) #[] #[.pointer (some ⟨w.heap.size, 0, none⟩)]) ∧ w.alloc (.cells #[.int .i64 k, .int .i64 n, .string s, .slice A nk ca, .slice B ny cb] 28) = w' := by
  have hmf : ∀ (fn : Fn) (first cap : Array Value) (w : World), (Instr.makeFunc fn first cap).run Tryd.prog w = .ok (.func fn first cap) w := fun _ _ _ _ => rfl
  go_enter Tryd.func77, Tryd.ntmps77
  go_wp2
  go_ret
  exact ⟨rfl, rfl⟩
set_option maxRecDepth 100000 in
set_option maxHeartbeats 4000000 in
theorem all1_any (l : Nat) (w0 : World) (C : Nat → Prop) (NC : Nat) (v0 : JV) (J Jx : List NodeV → World → Prop) (hC0 : ∀ k, C k → w0.heap.size ≤ k) (hCN : ∀ k, C k → k < NC)
    (hJ : ∀ s A B, Below A.heap.size A B → J s A → J s B) (hY : YN l w0 C v0 J Jx) (vb : Nat) (cs : List Value) (W : World) (hv : VR w0 AllT cs v0) (hK : KeepF AllT w0 W) (hvb : Blk W vb 28 cs.toArray) (hJ0 : J [] W) (hn : nodesJ v0 ≤ 4194304) (hNC : NC ≤ W.heap.size) :
    CallsIn Fence.wide 2 Tryd.prog 104 #[.func (.yield l) #[] #[], .pointer (some ⟨vb, 0, none⟩)] W fun e W' => (∃ v, e = .returned v) ∧ ((∃ xs, xs.map nodeP = flatJ 0 v0 ∧ J xs W') ∨ (∃ pre, True ∧ Jx pre W')) := by
  have hmf : ∀ (fn : Fn) (first cap : Array Value) (w : World), (Instr.makeFunc fn first cap).run Tryd.prog w = .ok (.func fn first cap) w := fun _ _ _ _ => rfl
  have hb2 : Below W.heap.size W ((W.alloc (.cells #[.func (.yield l) #[] #[]] 147)).alloc (.cells #[intoV W.heap.size (W.heap.size + 1)] 147)) := ((Below.refl _ W).alloc (Nat.le_refl _) _).alloc (by simp) _
  have hib := Blk.new (W.alloc (.cells #[.func (.yield l) #[] #[]] 147)) 147 #[intoV W.heap.size (W.heap.size + 1)]
  rw [World.size_alloc] at hib
  have hcl := into_any l w0 C NC v0 J Jx W.heap.size (W.heap.size + 1) hC0 hCN (fun h => by have := hCN _ h; omega) (fun h => by have := hCN _ h; omega) hJ hY _ v0 (Nat.le_refl _) 0 [] [] cs _ hv (hK.bel hb2) (hJ _ _ _ hb2 hJ0)
    ((Blk.new W 147 #[.func (.yield l) #[] #[]]).alloc _) hib (by simp) (by omega) (by simp; omega)
  rw [show ((0 : Nat) : Int) = 0 from rfl] at hcl
  obtain ⟨k, n, s, A, na, ca, B, nb, cb, rfl⟩ := hv.form
  have HCL := Lib.hid hcl
  obtain ⟨c1, f1, l1⟩ := (hvb.keep hb2).rules
  obtain ⟨d1, d2, d3⟩ := hvb.rules
  clear hcl hib hb2 hvb hY hJ hK hv hJ0
  refine callsIn_of_wp Tryd.func104 rfl trivial ?_ rfl
  simp only [Tryd.ntmps104, List.size_toArray, List.length_cons, List.length_nil, Nat.reduceAdd, Nat.reduceSub, Array.replicate_succ, Array.replicate_zero, List.push_toArray, List.append_toArray, List.nil_append, List.cons_append]
  gi_wp2
  refine ⟨trivial, CallsIn.mono (callsIn_wide.2 HCL.out) ?_⟩
  rintro e W5 (⟨rfl, ys, hys, hJ5, _⟩ | ⟨rfl, ys, hJx⟩)
  · gi_wp2
    go_end0
    exact ⟨⟨_, rfl⟩, .inl ⟨ys, hys, hJ5⟩⟩
  · gi_wp2
    go_end0
    exact ⟨⟨_, rfl⟩, .inr ⟨ys, trivial, hJx⟩⟩
end Go.Proofs.YtoejdhabpajhlaaDoor
