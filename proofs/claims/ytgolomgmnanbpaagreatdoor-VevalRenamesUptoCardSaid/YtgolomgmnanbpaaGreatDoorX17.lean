import Derived.Test.YtgolomgmnanbpaaGreatDoorX11
import Derived.Test.YtgolomgmnanbpaaGreatDoorX05
import Derived.Test.YtgolomgmnanbpaaGreatDoorX12
import Derived.Test.YtgolomgmnanbpaaGreatDoorX14
import Derived.Test.YtgolomgmnanbpaaGreatDoorX16
namespace Go.Proofs.YtgolomgmnanbpaaGreatDoor
set_option linter.unusedVariables false
set_option linter.unusedSimpArgs false
open Go.RowKit Go.Shelf
attribute [local go_sem] run_index_arr run_part_agg run_part_one run_field_agg
abbrev BnV := (List UInt8 × JV) × Array Value
def encB (x : BnV) : Array Value := #[.agg x.2]
def AdmB (w0 : World) (F : Nat → Prop) (env : List (List UInt8 × JV)) (pre : List BnV) (x : BnV) : Prop := BnR w0 F x.2.toList x.1 ∧ (pre ++ [x]).map Prod.fst <+: env.reverse
theorem kid_cellsB {W : World} {F : Nat → Prop} {css : List (List Value)} {xs : List (List UInt8 × JV)} {A : Option Addr} (h : BnRs W F css xs) (hr : RdF W F A css.flatten) {i : Nat} {x : List UInt8 × JV} (hx : xs[i]? = some x) :
    ∃ (b o : Nat) (k n : Int) (s : ByteArray) (A' : Option Addr) (na ca : Nat) (B' : Option Addr) (nb cb : Nat), A = some ⟨b, o, none⟩ ∧ b < W.heap.size ∧ F b ∧ VR W F [.int .i64 k, .int .i64 n, .string s, .slice A' na ca, .slice B' nb cb] x.2 ∧
      ∀ W', KeepF F W W' → W'.cell? ⟨b, o + i * 6, none⟩ = some (.string ⟨x.1.toArray⟩) ∧ W'.cell? ⟨b, o + i * 6 + 1, none⟩ = some (.int .i64 k) ∧ W'.cell? ⟨b, o + i * 6 + 2, none⟩ = some (.int .i64 n) ∧ W'.cell? ⟨b, o + i * 6 + 3, none⟩ = some (.string s) ∧ W'.cell? ⟨b, o + i * 6 + 4, none⟩ = some (.slice A' na ca) ∧ W'.cell? ⟨b, o + i * 6 + 5, none⟩ = some (.slice B' nb cb) := by
  obtain ⟨b, o, c, rfl, hb, hFb, hc, hv, hz⟩ := h.cell (fun c x h => h.len) (by decide) hr hx
  obtain ⟨vcs, rfl, hvr⟩ := hv
  obtain ⟨k, n, s, A', na, ca, B', nb, cb, rfl⟩ := hvr.form
  refine ⟨b, o, k, n, s, A', na, ca, B', nb, cb, rfl, hb, hFb, hvr, fun W' hW => ?_⟩
  have z := fun (j : Nat) u (hj : j < 6) hu => (World.cell?_of_block (w := W) (a := ⟨b, o + (i * 6 + j), none⟩) (hW.2 b hFb hb)).trans (hz j u hj hu)
  exact ⟨z 0 _ (by decide) rfl, z 1 _ (by decide) rfl, z 2 _ (by decide) rfl, z 3 _ (by decide) rfl, z 4 _ (by decide) rfl, z 5 _ (by decide) rfl⟩
theorem mBackward (mb : Nat) (w : World) :
    Calls Tryz.prog 121 #[.pointer (some ⟨mb, 0, none⟩)] w fun e w' => e = .returned (.func (.func 164) #[] #[.pointer (some ⟨w.heap.size, 0, none⟩)]) ∧ w.alloc (.cells #[.pointer (some ⟨mb, 0, none⟩)] 84) = w' := by
  have hmf : ∀ (fn : Fn) (first cap : Array Value) (w : World), (Instr.makeFunc fn first cap).run Tryz.prog w = .ok (.func fn first cap) w := fun _ _ _ _ => rfl
  go_enter Tryz.func121, Tryz.ntmps121
  go_wp2
  go_ret
  exact ⟨rfl, rfl⟩
theorem rev_snoc {α : Type} {l : List α} {j : Nat} {x : α} (hx : l[j]? = some x) : l.reverse.take (l.length - j) = l.reverse.take (l.length - (j + 1)) ++ [x] := by
  have hlt : j < l.length := (List.getElem?_eq_some_iff.1 hx).1
  have e : l.length - j = l.length - (j + 1) + 1 := by omega
  rw [e, List.take_add_one]
  congr 1
  rw [List.getElem?_reverse (by omega), show l.length - 1 - (l.length - (j + 1)) = j by omega, hx]
  rfl
set_option maxRecDepth 100000 in
set_option maxHeartbeats 4000000 in
theorem back1_any (l : Nat) (w0 : World) (C : Nat → Prop) (F : Nat → Prop) (env : List (List UInt8 × JV)) (ecs : List (List Value)) (mb vb n ec : Nat) (EA : Option Addr) (p mv : Value) (J Jx : List BnV → World → Prop) (W : World) (hC0 : ∀ k, C k → w0.heap.size ≤ k) (hvC : ¬ C vb)
    (hMB : Blk w0 mb 88 #[p, .slice EA n ec, mv]) (hE : BnRs w0 F ecs env) (hn : env.length = n) (hnc : n ≤ ec) (hr : RdF w0 F EA ecs.flatten) (hlen : n ≤ 4194304)
    (hY : ∀ pre x W1, J pre W1 → AdmB w0 F env pre x → YieldAt Fence.wide 1 Tryz.prog l (encB x) W1 fun e W' => (e = .returned (.bool true) ∧ J (pre ++ [x]) W' ∧ KpC C w0.heap.size W1 W') ∨ (e = .returned (.bool false) ∧ Jx (pre ++ [x]) W' ∧ KpC C w0.heap.size W1 W'))
    (hK : KeepF AllT w0 W) (hvb : Blk W vb 84 #[.pointer (some ⟨mb, 0, none⟩)]) (hJ0 : J [] W) :
    CallsIn Fence.wide 2 Tryz.prog 164 #[.func (.yield l) #[] #[], .pointer (some ⟨vb, 0, none⟩)] W fun e W' => (∃ v, e = .returned v) ∧ ((∃ xs, xs.map Prod.fst = env.reverse ∧ J xs W') ∨ (∃ pre, True ∧ Jx pre W')) := by
  have HMB := Lib.hid hMB
  have HK := Lib.hid hK
  have HE := Lib.hid (And.intro hE hr)
  have HN := Lib.hid hn
  have HVB := Lib.hid hvb
  have HY := Lib.hid hY
  have HC0 := Lib.hid (And.intro hC0 hvC)
  have HJ0 := Lib.hid hJ0
  have hmW : Blk W mb 88 #[p, .slice EA n ec, mv] := (hK.2 mb trivial hMB.lt).trans hMB
  obtain ⟨c0, f0, l0⟩ := hvb.rules
  obtain ⟨c1, f1, l1⟩ := hmW.rules
  clear hMB hK hE hr hn hvb hY hC0 hvC hJ0 hmW
  refine callsIn_of_wp Tryz.func164 rfl trivial ?_ rfl
  simp only [Tryz.ntmps164, List.size_toArray, List.length_cons, List.length_nil, Nat.reduceAdd, Nat.reduceSub, Array.replicate_succ, Array.replicate_zero, List.push_toArray, List.append_toArray, List.nil_append, List.cons_append]
  gi_wp2
  clear c0 f0 l0 c1 f1 l1
  gi_loopg [3] n (fun gk s3 wr => ∃ (i : Nat) (pre : List BnV), i ≤ n ∧ gk = i ∧ s3 = .int .i64 (i : Int) ∧ Hid (pre.map Prod.fst = env.reverse.take (n - i)) ∧ Hid (J pre wr) ∧ Hid (KpC C w0.heap.size W wr))
  case atStart => exact ⟨n, [], Nat.le_refl _, by go_num, rfl, Lib.hid (by simp), HJ0, Lib.hid (KpC.refl _ _ _)⟩
  case round =>
    obtain ⟨i, pre, hi, hgk, rfl, HPR, HJ, HKP⟩ := hrel
    have HG := Lib.hid hgk
    clear hgk HJ0
    by_cases h0 : i = 0
    · subst h0
      gi_wp2
      go_end0
      exact ⟨⟨_, rfl⟩, .inl ⟨pre, by rw [HPR.out, List.take_of_length_le (by rw [List.length_reverse, HN.out]; omega)], HJ.out⟩⟩
    · obtain ⟨j, hj⟩ : ∃ j, i = j + 1 := ⟨i - 1, by omega⟩
      obtain ⟨x, hx⟩ : ∃ x, env[j]? = some x := ⟨_, List.getElem?_eq_getElem (by rw [HN.out]; omega)⟩
      obtain ⟨b, o, k, m, s, A', na, ca, B', nb, cb, rfl, hb, hFb, hvx, hz⟩ := kid_cellsB HE.out.1 HE.out.2 hx
      have hKF : KeepF AllT w0 wr := HKP.out.keepF HK.out HC0.out.1
      obtain ⟨z0, z1, z2, z3, z4, z5⟩ := hz wr ⟨hKF.1, fun b _ hb => hKF.2 b trivial hb⟩
      have hlb : b < wr.heap.size := Nat.lt_of_lt_of_le hb hKF.1
      obtain ⟨c0, f0, l0⟩ := (HKP.out.blk HVB.out HC0.out.2).rules
      obtain ⟨c1, f1, l1⟩ := Blk.rules (w := wr) (g := mb) (t := 88) (cs := #[p, .slice (some ⟨b, o, none⟩) n ec, mv]) ((hKF.2 mb trivial HMB.out.lt).trans HMB.out)
      have hpr : (pre ++ [((x, #[.string ⟨x.1.toArray⟩, .int .i64 k, .int .i64 m, .string s, .slice A' na ca, .slice B' nb cb]) : BnV)]).map Prod.fst = env.reverse.take (n - j) := by
        rw [List.map_append, HPR.out]
        have := rev_snoc hx
        rw [HN.out] at this
        rw [this, hj]; rfl
      have HPN := Lib.hid hpr
      obtain ⟨fn, tmps, assign, body, hy, hR⟩ := HY.out pre (x, #[.string ⟨x.1.toArray⟩, .int .i64 k, .int .i64 m, .string s, .slice A' na ca, .slice B' nb cb]) wr HJ.out ⟨⟨_, rfl, hvx⟩, by rw [hpr]; exact List.take_prefix _ _⟩
      unfold encB at hy
      simp only at hy
      have hw1 : IntKind.i64.wrap ((i : Int) - 1) = (j : Int) := by rw [IntWalk.i64_in _ (by omega)]; omega
      have hi0 : (0 : Int) < (i : Int) := by omega
      have hjn : j < n := by omega
      have hji : (j : Int) < (n : Int) := by omega
      have HJI := Lib.hid hj
      clear hz hx hb hFb hvx hpr h0 hj
      gi_wp2
      refine hR.mono ?_
      rintro e W3 (⟨rfl, hJ3, hk3⟩ | ⟨rfl, hJx3, hk3⟩)
      · have HJ3 := Lib.hid hJ3
        have HK3 := Lib.hid (HKP.out.trans hk3)
        clear hJ3 hk3 hR hy z0 z1 z2 z3 z4 z5 c0 f0 l0 c1 f1 l1
        gi_wp2
        gi_roundg j
        case measure => rw [HG.out, HJI.out]; omega
        case rel => exact ⟨j, _, by omega, rfl, by go_num, HPN, HJ3, HK3⟩
      · have HJX := Lib.hid hJx3
        clear hJx3 hk3 hR hy z0 z1 z2 z3 z4 z5 c0 f0 l0 c1 f1 l1
        gi_wp2
        refine bodyPost_ret (results_none rfl _ _ _) rfl ?_
        exact ⟨⟨_, rfl⟩, .inr ⟨_, trivial, HJX.out⟩⟩
end Go.Proofs.YtgolomgmnanbpaaGreatDoor
namespace Go.Proofs.YtgolomgmnanbpaaGreatDoor
set_option linter.unusedVariables false
set_option linter.unusedSimpArgs false
open Go.RowKit Go.Shelf
attribute [local go_sem] run_index_arr run_part_agg run_part_one run_field_agg Oper.semAt_some
theorem look_append (a : List (List UInt8 × JV)) (s : List UInt8) : ∀ b : List (List UInt8 × JV), lookJ (a ++ b) s = match lookJ b s with | some u => some u | none => lookJ a s := by
  induction a with
  | nil => intro b; show lookJ b s = _; cases lookJ b s <;> rfl
  | cons x r ih =>
    intro b
    obtain ⟨t, v⟩ := x
    show lookJ ((t, v) :: (r ++ b)) s = _
    rw [lookJ, ih b]
    cases lookJ b s with
    | some u => rfl
    | none => rw [lookJ]
theorem look_none {s : List UInt8} : ∀ {l : List (List UInt8 × JV)}, (∀ y ∈ l, y.1 ≠ s) → lookJ l s = none
  | [], _ => rfl
  | (t, v) :: r, h => by
    rw [lookJ, look_none (fun y hy => h y (List.mem_cons_of_mem _ hy))]
    show (if t = s then some v else none) = none
    rw [if_neg (h (t, v) List.mem_cons_self)]
theorem look_rev {env pre rest : List (List UInt8 × JV)} {s : List UInt8} {v : JV} (h : env.reverse = pre ++ (s, v) :: rest) (hp : ∀ y ∈ pre, y.1 ≠ s) : lookJ env s = some v := by
  have e : env = (rest.reverse ++ [(s, v)]) ++ pre.reverse := by
    have := congrArg List.reverse h
    rw [List.reverse_reverse] at this
    rw [this]; simp
  rw [e, look_append, look_none (fun y hy => hp y (by simpa using hy)), look_app, if_pos rfl]
def NmB (w : World) (g : Nat) (xc vc : Array Value) (t : Bool) (W : World) : Prop :=
  (Blk W w.heap.size 28 xc ∧ Blk W (w.heap.size + 1) 25 #[.int .i64 0, .int .i64 0, .string ⟨#[]⟩, .slice none 0 0, .slice none 0 0]) ∧ Blk W g 25 vc ∧ Blk W (g + 1) 4 #[.bool t] ∧ Below w.heap.size w W ∧ w.heap.size + 2 ≤ g
section
variable {w W W' : World} {g : Nat} {xc vc : Array Value} {t : Bool}
theorem NmB.keep (h : NmB w g xc vc t W) (hb : Below W.heap.size W W') : NmB w g xc vc t W' := ⟨⟨h.1.1.keep hb, h.1.2.keep hb⟩, h.2.1.keep hb, h.2.2.1.keep hb, h.2.2.2.1.trans (hb.mono h.2.2.2.1.size), h.2.2.2.2⟩
theorem NmB.drew (h : NmB w g xc vc t W) : NmB w g xc vc t W.drew := ⟨⟨h.1.1.drew, h.1.2.drew⟩, h.2.1.drew, h.2.2.1.drew, h.2.2.2.1.drew, h.2.2.2.2⟩
theorem NmB.putObj (h : NmB w g xc vc t W) {k : Nat} {o : Obj} (o' : Obj) (hk : g + 2 ≤ k) (ho : W.heap[k]? = some o) (hc : o.isCells = false) : NmB w g xc vc t (W.putObj k o') :=
  ⟨⟨h.1.1.putObj o' ho hc, h.1.2.putObj o' ho hc⟩, h.2.1.putObj o' ho hc, h.2.2.1.putObj o' ho hc, below_putObj h.2.2.2.1 k o' (by have := h.2.2.2.2; omega), h.2.2.2.2⟩
theorem NmB.found (h : NmB w g xc #[.int .i64 0, .int .i64 0, .string ⟨#[]⟩, .slice none 0 0, .slice none 0 0] t W) (a b c d e : Value) (t' : Bool) :
    NmB w g xc #[a, b, c, d, e] t' ((((((W.setCell ⟨g, 0, none⟩ a).setCell ⟨g, 1, none⟩ b).setCell ⟨g, 2, none⟩ c).setCell ⟨g, 3, none⟩ d).setCell ⟨g, 4, none⟩ e).setCell ⟨g + 1, 0, none⟩ (.bool t')) := by
  have h5 := h.2.2.2.2
  have n0 : w.heap.size ≠ g := by omega
  have n1 : w.heap.size + 1 ≠ g := by omega
  have n2 : g + 1 ≠ g := by omega
  have n3 : w.heap.size ≠ g + 1 := by omega
  have n4 : w.heap.size + 1 ≠ g + 1 := by omega
  have n5 : g ≠ g + 1 := by omega
  refine ⟨⟨?_, ?_⟩, ?_, ?_, ?_, h5⟩
  · exact (((((h.1.1.far n0 _).far n0 _).far n0 _).far n0 _).far n0 _).far n3 _
  · exact (((((h.1.2.far n1 _).far n1 _).far n1 _).far n1 _).far n1 _).far n4 _
  · exact (((((h.2.1.set_ 0 a).set_ 1 b).set_ 2 c).set_ 3 d).set_ 4 e).far n5 _
  · exact ((((((h.2.2.1.far n2 _).far n2 _).far n2 _).far n2 _).far n2 _)).set_ 0 _
  · exact (five_bel h.2.2.2.1 (by omega) a b c d e).setCell (p := ⟨g + 1, 0, none⟩) (by show w.heap.size ≤ g + 1; omega) _
end
theorem back_seq (w0 : World) (C : Nat → Prop) (F : Nat → Prop) (env : List (List UInt8 × JV)) (ecs : List (List Value)) (mb vb n ec : Nat) (EA : Option Addr) (p mv : Value) (W : World) (hC0 : ∀ k, C k → w0.heap.size ≤ k) (hvC : ¬ C vb)
    (hMB : Blk w0 mb 88 #[p, .slice EA n ec, mv]) (hE : BnRs w0 F ecs env) (hn : env.length = n) (hnc : n ≤ ec) (hr : RdF w0 F EA ecs.flatten) (hlen : n ≤ 4194304)
    (hK : KeepF AllT w0 W) (hvb : Blk W vb 84 #[.pointer (some ⟨mb, 0, none⟩)]) :
    SeqSt Fence.wide 2 Tryz.prog 164 #[.pointer (some ⟨vb, 0, none⟩)] encB (fun A B => Below A.heap.size A B) (KpC C w0.heap.size) (AdmB w0 F env) (fun xs _ => xs.map Prod.fst = env.reverse) (fun _ _ => True) W := by
  intro l J Jx W2 hW2 hJ _ hY h0
  exact back1_any l w0 C F env ecs mb vb n ec EA p mv J Jx W2 hC0 hvC hMB hE hn hnc hr hlen hY (hK.bel hW2) (hvb.keep hW2) h0
def NmC (g : Nat) (k : Nat) : Prop := k = g ∨ k = g + 1
def NmI (w : World) (g : Nat) (xc : Array Value) (s : List UInt8) (pre : List BnV) (W : World) : Prop := (∀ y ∈ pre, y.1.1 ≠ s) ∧ NmB w g xc #[.int .i64 0, .int .i64 0, .string ⟨#[]⟩, .slice none 0 0, .slice none 0 0] false W
def NmX (w : World) (g : Nat) (xc : Array Value) (F : Nat → Prop) (env : List (List UInt8 × JV)) (s : List UInt8) (c : Code) (pre : List BnV) (W : World) : Prop :=
  c = .exit 0 ∧ ∃ (u : JV) (k n : Int) (t : ByteArray) (A : Option Addr) (na ca : Nat) (B : Option Addr) (nb cb : Nat), lookJ env s = some u ∧ VR w F [.int .i64 k, .int .i64 n, .string t, .slice A na ca, .slice B nb cb] u ∧ NmB w g xc #[.int .i64 k, .int .i64 n, .string t, .slice A na ca, .slice B nb cb] true W
set_option maxRecDepth 100000 in
set_option maxHeartbeats 8000000 in
theorem mName {F : Nat → Prop} {env : List (List UInt8 × JV)} {w : World} {k : Int} {v : JV} {s : List UInt8} {kids : List EJ} {cs : List Value} (mb : Nat) (ecs : List (List Value)) (n ec : Nat) (EA : Option Addr) (p mv : Value) (hF : ∀ b, F b → b < w.heap.size)
    (hMB : Blk w mb 88 #[p, .slice EA n ec, mv]) (hE : BnRs w F ecs env) (hn : env.length = n) (hnc : n ≤ ec) (hr : RdF w F EA ecs.flatten) (hlen : n ≤ 4194304) (hgd : ∀ b ∈ env, good b.2 = true ∧ Came b.2) (hx : ER w F cs (.mk k v s kids)) :
    Calls Tryz.prog 72 #[.pointer (some ⟨mb, 0, none⟩), .agg cs.toArray] w (ExP (lookJ env s) F w) := by
  obtain ⟨k1, n1, s1, A1, na1, ca1, B1, nb1, cb1, A, ca, css, rfl, _⟩ := hx.out
  obtain ⟨nr, hnr⟩ : ∃ q, kids.length = q := ⟨_, rfl⟩
  rw [hnr]
  have HM := Lib.hid (And.intro hMB (And.intro hE (And.intro hn (And.intro hnc (And.intro hr hlen)))))
  have HGD := Lib.hid hgd
  have HFF := Lib.hid hF
  have HH0 := Lib.hid (((Held.nil w).push 28 #[.int .i64 k, .int .i64 k1, .int .i64 n1, .string s1, .slice A1 na1 ca1, .slice B1 nb1 cb1, .string ⟨s.toArray⟩, .slice A nr ca] (g := w.heap.size) rfl).push 25 #[.int .i64 0, .int .i64 0, .string ⟨#[]⟩, .slice none 0 0, .slice none 0 0] (g := w.heap.size + 1) (by simp))
  clear hMB hE hn hnc hr hlen hgd hF hx hnr
  refine (callsIn_wide (n := 3)).1 ?_
  refine callsIn_of_wp_marks Tryz.func72 rfl trivial ?_ rfl
  simp only [Tryz.ntmps72, List.size_toArray, List.length_cons, List.length_nil, Nat.reduceAdd, Nat.reduceSub, Array.replicate_succ, Array.replicate_zero, List.push_toArray, List.append_toArray, List.nil_append, List.cons_append]
  refine wpIn_wide.2 ?_
  go_wp2_with fail
  go_step3
  go_wp2_with fail
  refine (mNone _).mono ?_
  rintro e w1 ⟨rfl, hb1⟩
  have HH1 := Lib.hid (((HH0.out.keep hb1).push 25 #[.int .i64 0, .int .i64 0, .string ⟨#[]⟩, .slice none 0 0, .slice none 0 0] (g := w1.heap.size) rfl).push 4 #[.bool false] (g := w1.heap.size + 1) (by simp))
  have hg2 : w.heap.size + 2 ≤ w1.heap.size := by have := hb1.size; simpa using this
  clear hb1 HH0
  go_wp2_with fail
  go_step3
  go_wp2_with fail
  refine (mBackward mb _).mono ?_
  rintro e w2 ⟨rfl, rfl⟩
  go_wp2_with fail
  obtain ⟨Wr, hWr⟩ : ∃ Wr, ((w1.alloc (.cells #[.int .i64 0, .int .i64 0, .string ⟨#[]⟩, .slice none 0 0, .slice none 0 0] 25)).alloc (.cells #[.bool false] 4)).alloc (.cells #[.pointer (some ⟨mb, 0, none⟩)] 84) = Wr := ⟨_, rfl⟩
  have hnb : NmB w w1.heap.size #[.int .i64 k, .int .i64 k1, .int .i64 n1, .string s1, .slice A1 na1 ca1, .slice B1 nb1 cb1, .string ⟨s.toArray⟩, .slice A nr ca] #[.int .i64 0, .int .i64 0, .string ⟨#[]⟩, .slice none 0 0, .slice none 0 0] false Wr := by
    rw [← hWr]
    have h := HH1.out.alloc (.cells #[.pointer (some ⟨mb, 0, none⟩)] 84)
    exact ⟨⟨h.b3, h.b2⟩, h.b1, h.b0, h.1, hg2⟩
  have hvb : Blk Wr (w1.heap.size + 1 + 1) 84 #[.pointer (some ⟨mb, 0, none⟩)] := by
    rw [← hWr]
    have := Blk.new ((w1.alloc (.cells #[.int .i64 0, .int .i64 0, .string ⟨#[]⟩, .slice none 0 0, .slice none 0 0] 25)).alloc (.cells #[.bool false] 4)) 84 #[.pointer (some ⟨mb, 0, none⟩)]
    rw [World.size_alloc, World.size_alloc] at this; exact this
  have hszr : w1.heap.size + 3 ≤ Wr.heap.size := by rw [← hWr]; simp
  rw [hWr]
  clear hWr HH1
  refine (wpIn_wide (n := 3)).1 ?_
  refine wpIn_rf2 rfl (by omega) (gf := 164) (lb := #[.pointer (some ⟨w1.heap.size + 1 + 1, 0, none⟩)]) rfl trivial (enters_of Tryz.func164 (by kernel_rfl) rfl)
    (back_seq w (NmC w1.heap.size) F env ecs mb (w1.heap.size + 1 + 1) n ec EA p mv Wr (fun k h => by unfold NmC at h; omega) (fun h => by unfold NmC at h; omega) HM.out.1 HM.out.2.1 HM.out.2.2.1 HM.out.2.2.2.1 HM.out.2.2.2.2.1 HM.out.2.2.2.2.2 (KeepF.of_below hnb.2.2.2.1) hvb) (Below.refl _ _) (fun _ => rfl)
    (fun A B k o hs hk ho _ => (hs.block k (Array.getElem?_eq_some_iff.1 ho).1).trans ho)
    (fun h k => h.trans k) (fun W k o o' hk ho hc => KpC.putObj (by omega) ho hc)
    (fun _ _ _ _ _ _ _ _ h => h) (fun _ _ _ _ _ _ _ _ h => h)
    (NmI w w1.heap.size #[.int .i64 k, .int .i64 k1, .int .i64 n1, .string s1, .slice A1 na1 ca1, .slice B1 nb1 cb1, .string ⟨s.toArray⟩, .slice A nr ca] s) (NmX w w1.heap.size #[.int .i64 k, .int .i64 k1, .int .i64 n1, .string s1, .slice A1 na1 ca1, .slice B1 nb1 cb1, .string ⟨s.toArray⟩, .slice A nr ca] F env s) (fun s A B hs h => ⟨h.1, h.2.keep hs⟩) (fun _ _ _ _ hs ⟨h1, u, a1, a2, a3, a4, a5, a6, a7, a8, a9, h2, h3, h4⟩ => ⟨h1, u, a1, a2, a3, a4, a5, a6, a7, a8, a9, h2, h3, h4.keep hs⟩) (fun s W k o o' hk ho hc h => ⟨h.1, h.2.putObj o' (by omega) ho hc⟩) (fun _ _ _ _ _ o' hk ho hc ⟨h1, u, a1, a2, a3, a4, a5, a6, a7, a8, a9, h2, h3, h4⟩ => ⟨h1, u, a1, a2, a3, a4, a5, a6, a7, a8, a9, h2, h3, h4.putObj o' (by omega) ho hc⟩)
    (fun o o' => ⟨(fun y hy => by cases hy), (hnb.keep ((Below.refl _ Wr).alloc (Nat.le_refl _) o)).keep ((Below.refl _ _).alloc (Nat.le_refl _) o')⟩)
    (fun pre x a1 W => ∃ tb, a1 = { tmps := #[.pointer (some ⟨mb, 0, none⟩), .agg #[.int .i64 k, .int .i64 k1, .int .i64 n1, .string s1, .slice A1 na1 ca1, .slice B1 nb1 cb1, .string ⟨s.toArray⟩, .slice A nr ca], undef, .pointer (some ⟨w.heap.size, 0, none⟩), .pointer (some ⟨w.heap.size + 1, 0, none⟩), .bool false, .pointer (some ⟨w1.heap.size, 0, none⟩), .pointer (some ⟨w1.heap.size + 1, 0, none⟩), .pointer (some ⟨tb, 0, none⟩), .tuple #[.agg #[.int .i64 0, .int .i64 0, .string ⟨#[]⟩, .slice none 0 0, .slice none 0 0], .bool false], .tuple #[.agg #[.int .i64 0, .int .i64 0, .string ⟨#[]⟩, .slice none 0 0, .slice none 0 0], .bool false], .agg #[.int .i64 0, .int .i64 0, .string ⟨#[]⟩, .slice none 0 0, .slice none 0 0], .bool false, .pointer (some ⟨mb, 0, none⟩), .func (.func 164) #[] #[.pointer (some ⟨w1.heap.size + 1 + 1, 0, none⟩)], .agg x.2, undef, undef, undef, undef, undef, undef, undef, undef, undef], defers := [] } ∧ Blk W tb 37 x.2 ∧ w1.heap.size + 2 ≤ tb ∧ NmI w w1.heap.size #[.int .i64 k, .int .i64 k1, .int .i64 n1, .string s1, .slice A1 na1 ca1, .slice B1 nb1 cb1, .string ⟨s.toArray⟩, .slice A nr ca] s pre W)
    ?hI1p ?assign ?body ?done ?stop
  case hI1p =>
    rintro pre x a1 W k o o' hk ho hc ⟨tb, e, h1, h2, h3⟩
    exact ⟨tb, e, h1.putObj o' ho hc, h2, h3.1, h3.2.putObj o' (by omega) ho hc⟩
  case assign =>
    rintro r pre ⟨⟨nm, jx⟩, ax⟩ W hI hadm
    have hIA := hI.2.keep ((Below.refl _ W).alloc (Nat.le_refl _) (.cells ax 37))
    obtain ⟨⟨vcs, hf, hvx⟩, _⟩ := hadm
    obtain ⟨kf, nf, tf, Af, naf, caf, Bf, nbf, cbf, rfl⟩ := hvx.form
    obtain rfl : ax = #[.string ⟨nm.toArray⟩, .int .i64 kf, .int .i64 nf, .string tf, .slice Af naf caf, .slice Bf nbf cbf] := by rw [← Array.toArray_toList (xs := ax)]; exact congrArg List.toArray hf
    have HIA := Lib.hid hIA
    have hd := hI.1
    have hsz : w1.heap.size + 2 ≤ W.heap.size := hI.2.2.2.1.lt
    clear hIA hf hvx hI
    simp only [encB]
    gi_wp2
    have hba : Below W.heap.size W (W.alloc (.cells #[.string ⟨nm.toArray⟩, .int .i64 kf, .int .i64 nf, .string tf, .slice Af naf caf, .slice Bf nbf cbf] 37)) := (Below.refl _ W).alloc (Nat.le_refl _) _
    exact ⟨⟨W.heap.size, rfl, Blk.new _ _ _, hsz, hd, HIA.out⟩, KeepsFrom.below_ hba, KpC.of_below hba⟩
  case body =>
    rintro r pre ⟨⟨nm, jx⟩, ax⟩ a1 W ⟨tb, rfl, htb, htb4, hd, hmb⟩ hadm
    obtain ⟨⟨vcs, hf, hvx⟩, hpx⟩ := hadm
    obtain ⟨kf, nf, tf, Af, naf, caf, Bf, nbf, cbf, rfl⟩ := hvx.form
    obtain rfl : ax = #[.string ⟨nm.toArray⟩, .int .i64 kf, .int .i64 nf, .string tf, .slice Af naf caf, .slice Bf nbf cbf] := by rw [← Array.toArray_toList (xs := ax)]; exact congrArg List.toArray hf
    obtain ⟨t1, t2, t3⟩ := htb.rules
    obtain ⟨x1, x2, x3⟩ := hmb.1.1.rules
    obtain ⟨v1, v2, v3⟩ := hmb.2.1.rules
    obtain ⟨b1, b2, b3⟩ := hmb.2.2.1.rules
    have hne1 : tb ≠ w1.heap.size := by omega
    have hne2 : w1.heap.size ≠ tb := by omega
    have hne3 : tb ≠ w1.heap.size + 1 := by omega
    have hne4 : w1.heap.size + 1 ≠ w1.heap.size := by omega
    have hne5 : w1.heap.size ≠ w1.heap.size + 1 := by omega
    by_cases hs : nm = s
    · subst hs
      have hlk : lookJ env nm = some jx := by
        obtain ⟨rest, hrest⟩ := hpx
        rw [List.map_append, List.append_assoc] at hrest
        refine look_rev (pre := pre.map Prod.fst) (rest := rest) hrest.symm (fun y hy => ?_)
        obtain ⟨z, hz, rfl⟩ := List.mem_map.1 hy
        exact hd z hz
      have hfo := hmb.found (.int .i64 kf) (.int .i64 nf) (.string tf) (.slice Af naf caf) (.slice Bf nbf cbf) true
      have hkf : KeepsFrom Wr.heap.size W ((((((W.setCell ⟨w1.heap.size, 0, none⟩ (.int .i64 kf)).setCell ⟨w1.heap.size, 1, none⟩ (.int .i64 nf)).setCell ⟨w1.heap.size, 2, none⟩ (.string tf)).setCell ⟨w1.heap.size, 3, none⟩ (.slice Af naf caf)).setCell ⟨w1.heap.size, 4, none⟩ (.slice Bf nbf cbf)).setCell ⟨w1.heap.size + 1, 0, none⟩ (.bool true)) := by
        have k0 := kf_setBlk (KeepsFrom.below_ (B := Wr.heap.size) (Below.refl _ W)) hmb.2.1 0 (.int .i64 kf)
        have k1 := kf_setBlk k0 (hmb.2.1.set_ 0 _) 1 (.int .i64 nf)
        have k2 := kf_setBlk k1 ((hmb.2.1.set_ 0 _).set_ 1 _) 2 (.string tf)
        have k3 := kf_setBlk k2 (((hmb.2.1.set_ 0 _).set_ 1 _).set_ 2 _) 3 (.slice Af naf caf)
        have k4 := kf_setBlk k3 ((((hmb.2.1.set_ 0 _).set_ 1 _).set_ 2 _).set_ 3 _) 4 (.slice Bf nbf cbf)
        exact kf_setBlk k4 (((((hmb.2.2.1.far hne4 _).far hne4 _).far hne4 _).far hne4 _).far hne4 _) 0 (.bool true)
      have hkp := ((((((KpC.refl (NmC w1.heap.size) w.heap.size W).set (k := w1.heap.size) (.inl rfl) 0 (.int .i64 kf)).set (k := w1.heap.size) (.inl rfl) 1 (.int .i64 nf)).set (k := w1.heap.size) (.inl rfl) 2 (.string tf)).set (k := w1.heap.size) (.inl rfl) 3 (.slice Af naf caf)).set (k := w1.heap.size) (.inl rfl) 4 (.slice Bf nbf cbf)).set (k := w1.heap.size + 1) (.inr rfl) 0 (.bool true)
      have HF := Lib.hid (And.intro hkf (And.intro hkp (And.intro hlk (And.intro hvx hfo))))
      clear hkf hkp hlk hfo hvx hpx hd hmb htb hf
      gi_wp2
      exact ⟨HF.out.1, HF.out.2.1, rfl, jx, _, _, _, _, _, _, _, _, _, HF.out.2.2.1, HF.out.2.2.2.1, HF.out.2.2.2.2⟩
    · have hbe : (nm == s) = false := by simpa using hs
      have HF := Lib.hid (And.intro (show ∀ y ∈ pre ++ [(((nm, jx), #[.string ⟨nm.toArray⟩, .int .i64 kf, .int .i64 nf, .string tf, .slice Af naf caf, .slice Bf nbf cbf]) : BnV)], y.1.1 ≠ s from fun y hy => by
        rcases List.mem_append.1 hy with hy | hy
        · exact hd y hy
        · obtain rfl := List.mem_singleton.1 hy; exact hs) hmb)
      clear hvx hpx hd hmb htb hf hs
      gi_wp2
      exact ⟨KeepsFrom.below_ (Below.refl _ _), KpC.refl _ _ _, HF.out.1, HF.out.2⟩
  case done =>
    rintro D xs W hD hxs ⟨hd, hmb⟩ hK
    have HNO := Lib.hid (show lookJ env s = none from look_none fun y hy => by
      have hy' : y ∈ xs.map Prod.fst := by rw [hxs]; exact List.mem_reverse.2 hy
      obtain ⟨z, hz, rfl⟩ := List.mem_map.1 hy'
      exact hd z hz)
    have HM2 := Lib.hid hmb
    clear hd hmb hxs
    go_wp2
    refine wp_region_noPanic ?_
    refine wp_region_held_drew (S := fun W' => Blk W' w1.heap.size 25 #[.int .i64 0, .int .i64 0, .string ⟨#[]⟩, .slice none 0 0, .slice none 0 0] ∧ Blk W' (w1.heap.size + 1) 4 #[.bool false]) (by kernel_rfl) (by exact ⟨HM2.out.2.1.drew, HM2.out.2.2.1.drew⟩) (fun hHeld => ?_)
    refine wpAnyH_take (i := 0) (oi := ⟨some 23, _, _, _, _, _⟩) (v := .agg #[.int .i64 0, .int .i64 0, .string ⟨#[]⟩, .slice none 0 0, .slice none 0 0]) rfl (by kernel_rfl) (by kernel_rfl) (by kernel_rfl) (fun _ _ _ h => h) (Or.inl ⟨by kernel_rfl, ?_⟩) (by assumption) ?_
    · intro W' hSw; obtain ⟨hc, hf, hl⟩ := hSw.1.rules; go_simp
    try simp only [Act.put, List.setIfInBounds_toArray, List.set_cons_zero, List.set_cons_succ]
    refine wpAnyH_take (i := 1) (oi := ⟨some 24, _, _, _, _, _⟩) (v := .bool false) rfl (by kernel_rfl) (by kernel_rfl) (by kernel_rfl) (fun _ _ _ h => h) (Or.inl ⟨by kernel_rfl, ?_⟩) (by assumption) ?_
    · intro W' hSw; obtain ⟨hc, hf, hl⟩ := hSw.2.rules; go_simp
    try simp only [Act.put, List.setIfInBounds_toArray, List.set_cons_zero, List.set_cons_succ]
    refine wpAnyH_ready (rs := [2]) (by kernel_rfl) (by simp) ?_
    refine AllReadyH.cons (o := ⟨none, _, _, _, _, _⟩) rfl (fun K hK => ?_) AllReadyH.nil
    rw [if_pos (by kernel_rfl)]
    refine wp_store_mid 25 (.tmp 4) (.tmp 23) rfl (w.heap.size + 1) 0 #[.int .i64 0, .int .i64 0, .string ⟨#[]⟩, .slice none 0 0, .slice none 0 0] rfl rfl HM2.out.1.2.drew.there (by kernel_rfl) (by kernel_rfl) ?_
    have hgne : w1.heap.size ≠ w.heap.size + 1 := by omega
    have hgne2 : w1.heap.size + 1 ≠ w.heap.size + 1 := by omega
    refine hK.out _ _ (by exact ⟨Blk.farC hgne _ _ HM2.out.2.1.drew, Blk.farC hgne2 _ _ HM2.out.2.2.1.drew⟩) (fun hHeld2 => ?_)
    clear hK K hHeld
    try simp only [Act.put, List.setIfInBounds_toArray, List.set_cons_zero, List.set_cons_succ]
    refine wpAnyH_take (i := 3) (oi := ⟨some 5, _, _, _, _, _⟩) (v := .bool false) rfl (by kernel_rfl) (by kernel_rfl) (by kernel_rfl) (fun _ _ _ h => h) (Or.inl ⟨by kernel_rfl, ?_⟩) (by assumption) ?_
    · intro W' hSw; go_simp
    try simp only [Act.put, List.setIfInBounds_toArray, List.set_cons_zero, List.set_cons_succ]
    refine wpAnyH_done (by kernel_rfl) ?_ _
    refine NoPanic.normal ?_
    have hK1 : (W.drew.setCells (w.heap.size + 1) 0 [.int .i64 0, .int .i64 0, .string ⟨#[]⟩, .slice none 0 0, .slice none 0 0]).heap[D]? = some (.deferred (some [])) := by
      refine Eq.trans ?_ hK
      exact ((((Below.heap_setCell _ ⟨w.heap.size + 1, 4, none⟩ _ D (by show D ≠ w.heap.size + 1; omega)).trans (Below.heap_setCell _ ⟨w.heap.size + 1, 3, none⟩ _ D (by show D ≠ w.heap.size + 1; omega))).trans (Below.heap_setCell _ ⟨w.heap.size + 1, 2, none⟩ _ D (by show D ≠ w.heap.size + 1; omega))).trans (Below.heap_setCell _ ⟨w.heap.size + 1, 1, none⟩ _ D (by show D ≠ w.heap.size + 1; omega))).trans (Below.heap_setCell _ ⟨w.heap.size + 1, 0, none⟩ _ D (by show D ≠ w.heap.size + 1; omega))
    have HB4 := Lib.hid (HM2.out.1.2.drew.set5C (.int .i64 0) (.int .i64 0) (.string ⟨#[]⟩) (.slice none 0 0) (.slice none 0 0))
    have HBF := Lib.hid (bel_setC (B := w.heap.size) (b := w.heap.size + 1) (by omega) [.int .i64 0, .int .i64 0, .string ⟨#[]⟩, .slice none 0 0, .slice none 0 0] 0 HM2.out.2.2.2.1.drew)
    have HKF := Lib.hid (fun (G : Nat → Prop) (g1 : ∀ k, G k → k ≠ w.heap.size + 1) => KeepF.setC (F := G) g1 [.int .i64 0, .int .i64 0, .string ⟨#[]⟩, .slice none 0 0, .slice none 0 0] 0 ((KeepF.of_below HM2.out.2.2.2.1.drew : KeepF G w W.drew)))
    obtain ⟨Wf, hWf⟩ : ∃ Wf, Wf = W.drew.setCells (w.heap.size + 1) 0 [.int .i64 0, .int .i64 0, .string ⟨#[]⟩, .slice none 0 0, .slice none 0 0] := ⟨_, rfl⟩
    rw [← hWf] at hK1 HB4 HBF HKF ⊢
    clear hWf hHeld2
    go_wp2
    have hB5 := HB4.out.putObj (.deferred none) hK1 rfl
    obtain ⟨c4, f4, l4⟩ := hB5.rules
    rw [Exit.noGoto_ret]
    refine ⟨by simp, .inl ⟨_, _, rfl, run_takeDeferred hK1, ?_⟩⟩
    refine ⟨.tuple #[.agg #[.int .i64 0, .int .i64 0, .string ⟨#[]⟩, .slice none 0 0, .slice none 0 0], .bool false], by simp only [results, Tryz.results72]; go_simp, ?_⟩
    exact ExP.none_ (w1 := w) HNO.out (below_putObj HBF.out D _ (by omega))
  case stop =>
    rintro D c pre W hD _ ⟨rfl, u, kf, nf, tf, Af, naf, caf, Bf, nbf, cbf, hlk, hvx, hmb⟩ hK
    obtain ⟨y, hy, rfl⟩ := look_mem hlk
    have HLK := Lib.hid (And.intro hlk (And.intro hvx (HGD.out y hy)))
    have HM2 := Lib.hid hmb
    clear hlk hvx hmb hy
    refine wpIn_wide.2 ?_
    go_wp2
    refine wp_region_noPanic ?_
    refine wp_region_held_drew (S := fun W' => Blk W' w1.heap.size 25 #[.int .i64 kf, .int .i64 nf, .string tf, .slice Af naf caf, .slice Bf nbf cbf] ∧ Blk W' (w1.heap.size + 1) 4 #[.bool true]) (by kernel_rfl) (by exact ⟨HM2.out.2.1.drew, HM2.out.2.2.1.drew⟩) (fun hHeld => ?_)
    refine wpAnyH_take (i := 0) (oi := ⟨some 23, _, _, _, _, _⟩) (v := .agg #[.int .i64 kf, .int .i64 nf, .string tf, .slice Af naf caf, .slice Bf nbf cbf]) rfl (by kernel_rfl) (by kernel_rfl) (by kernel_rfl) (fun _ _ _ h => h) (Or.inl ⟨by kernel_rfl, ?_⟩) (by assumption) ?_
    · intro W' hSw; obtain ⟨hc, hf, hl⟩ := hSw.1.rules; go_simp
    try simp only [Act.put, List.setIfInBounds_toArray, List.set_cons_zero, List.set_cons_succ]
    refine wpAnyH_take (i := 1) (oi := ⟨some 24, _, _, _, _, _⟩) (v := .bool true) rfl (by kernel_rfl) (by kernel_rfl) (by kernel_rfl) (fun _ _ _ h => h) (Or.inl ⟨by kernel_rfl, ?_⟩) (by assumption) ?_
    · intro W' hSw; obtain ⟨hc, hf, hl⟩ := hSw.2.rules; go_simp
    try simp only [Act.put, List.setIfInBounds_toArray, List.set_cons_zero, List.set_cons_succ]
    refine wpAnyH_ready (rs := [2]) (by kernel_rfl) (by simp) ?_
    refine AllReadyH.cons (o := ⟨none, _, _, _, _, _⟩) rfl (fun K hK => ?_) AllReadyH.nil
    rw [if_pos (by kernel_rfl)]
    refine wp_store_mid 25 (.tmp 4) (.tmp 23) rfl (w.heap.size + 1) 0 #[.int .i64 kf, .int .i64 nf, .string tf, .slice Af naf caf, .slice Bf nbf cbf] rfl rfl HM2.out.1.2.drew.there (by kernel_rfl) (by kernel_rfl) ?_
    have hgne : w1.heap.size ≠ w.heap.size + 1 := by omega
    have hgne2 : w1.heap.size + 1 ≠ w.heap.size + 1 := by omega
    refine hK.out _ _ (by exact ⟨Blk.farC hgne _ _ HM2.out.2.1.drew, Blk.farC hgne2 _ _ HM2.out.2.2.1.drew⟩) (fun hHeld2 => ?_)
    clear hK K hHeld
    try simp only [Act.put, List.setIfInBounds_toArray, List.set_cons_zero, List.set_cons_succ]
    refine wpAnyH_take (i := 3) (oi := ⟨some 5, _, _, _, _, _⟩) (v := .bool true) rfl (by kernel_rfl) (by kernel_rfl) (by kernel_rfl) (fun _ _ _ h => h) (Or.inl ⟨by kernel_rfl, ?_⟩) (by assumption) ?_
    · intro W' hSw; go_simp
    try simp only [Act.put, List.setIfInBounds_toArray, List.set_cons_zero, List.set_cons_succ]
    refine wpAnyH_done (by kernel_rfl) ?_ _
    refine NoPanic.normal ?_
    have hK1 : (W.drew.setCells (w.heap.size + 1) 0 [.int .i64 kf, .int .i64 nf, .string tf, .slice Af naf caf, .slice Bf nbf cbf]).heap[D]? = some (.deferred (some [])) := by
      refine Eq.trans ?_ hK
      exact ((((Below.heap_setCell _ ⟨w.heap.size + 1, 4, none⟩ _ D (by show D ≠ w.heap.size + 1; omega)).trans (Below.heap_setCell _ ⟨w.heap.size + 1, 3, none⟩ _ D (by show D ≠ w.heap.size + 1; omega))).trans (Below.heap_setCell _ ⟨w.heap.size + 1, 2, none⟩ _ D (by show D ≠ w.heap.size + 1; omega))).trans (Below.heap_setCell _ ⟨w.heap.size + 1, 1, none⟩ _ D (by show D ≠ w.heap.size + 1; omega))).trans (Below.heap_setCell _ ⟨w.heap.size + 1, 0, none⟩ _ D (by show D ≠ w.heap.size + 1; omega))
    have HB4 := Lib.hid (HM2.out.1.2.drew.set5C (.int .i64 kf) (.int .i64 nf) (.string tf) (.slice Af naf caf) (.slice Bf nbf cbf))
    have HBF := Lib.hid (bel_setC (B := w.heap.size) (b := w.heap.size + 1) (by omega) [.int .i64 kf, .int .i64 nf, .string tf, .slice Af naf caf, .slice Bf nbf cbf] 0 HM2.out.2.2.2.1.drew)
    have HKF := Lib.hid (fun (G : Nat → Prop) (g1 : ∀ k, G k → k ≠ w.heap.size + 1) => KeepF.setC (F := G) g1 [.int .i64 kf, .int .i64 nf, .string tf, .slice Af naf caf, .slice Bf nbf cbf] 0 ((KeepF.of_below HM2.out.2.2.2.1.drew : KeepF G w W.drew)))
    obtain ⟨Wf, hWf⟩ : ∃ Wf, Wf = W.drew.setCells (w.heap.size + 1) 0 [.int .i64 kf, .int .i64 nf, .string tf, .slice Af naf caf, .slice Bf nbf cbf] := ⟨_, rfl⟩
    rw [← hWf] at hK1 HB4 HBF HKF ⊢
    clear hWf hHeld2
    go_wp2
    have hB5 := HB4.out.putObj (.deferred none) hK1 rfl
    obtain ⟨c4, f4, l4⟩ := hB5.rules
    rw [Exit.noGoto_ret]
    refine ⟨by simp, .inl ⟨_, _, rfl, run_takeDeferred hK1, ?_⟩⟩
    refine ⟨.tuple #[.agg #[.int .i64 kf, .int .i64 nf, .string tf, .slice Af naf caf, .slice Bf nbf cbf], .bool true], by simp only [results, Tryz.results72]; go_simp, ?_⟩
    refine ⟨_, y.2, true, rfl, ?_, HLK.out.2.2.2, HLK.out.1, fun _ => HLK.out.2.2.1, below_putObj HBF.out D _ (by omega)⟩
    have hv1 := HLK.out.2.1.mono (F' := fun b => F b ∧ b < w.heap.size) fun b hb hF => ⟨hF, hb⟩
    have hv2 := hv1.keep (HKF.out _ (fun k hk => by have := hk.2; omega))
    refine VR.mono (F := fun b => F b ∧ b < w.heap.size) (hv2.keep ⟨by simp [World.putObj], fun b hb _ => World.putObj_heap_other (by have := hb.2; omega)⟩) (fun b _ hb => .inl hb.1)
end Go.Proofs.YtgolomgmnanbpaaGreatDoor
namespace Go.Proofs.YtgolomgmnanbpaaGreatDoor
set_option linter.unusedVariables false
set_option linter.unusedSimpArgs false
open Go.RowKit
attribute [local go_sem] run_index_arr run_part_agg run_part_one run_field_agg
theorem ptsN_fuel : ∀ (f g : Nat) (l : List UInt8), l.length ≤ f → l.length ≤ g → ptsN f l = ptsN g l
  | 0, 0, l, _, _ => rfl
  | 0, g + 1, l, h, _ => by
    obtain rfl : l = [] := List.eq_nil_of_length_eq_zero (by omega)
    rfl
  | f + 1, 0, l, _, h => by
    obtain rfl : l = [] := List.eq_nil_of_length_eq_zero (by omega)
    rfl
  | f + 1, g + 1, l, h1, h2 => by
    cases l with
    | nil => rfl
    | cons c r =>
      rw [ptsN, ptsN, ptsN_fuel f g]
      · rw [List.length_drop]; simp at h1 ⊢; omega
      · rw [List.length_drop]; simp at h2 ⊢; omega
theorem ptsJ_step {l : List UInt8} (hne : l ≠ []) (hm : (cpBegin l).2 ≠ 0) : ptsJ l = ptsJ (l.drop (cpBegin l).2) + 1 := by
  cases l with
  | nil => exact absurd rfl hne
  | cons c r =>
    unfold ptsJ
    have e : max 1 (cpBegin (c :: r)).2 = (cpBegin (c :: r)).2 := Nat.max_eq_right (by omega)
    rw [List.length_cons, ptsN, e]
    congr 1
    refine ptsN_fuel _ _ _ ?_ (Nat.le_refl _)
    rw [List.length_drop, List.length_cons]; omega
theorem ptsJ_le (l : List UInt8) : ptsJ l ≤ l.length := by
  have : ∀ (f : Nat) (l : List UInt8), ptsN f l ≤ l.length := by
    intro f
    induction f with
    | zero => intro l; cases l <;> simp [ptsN]
    | succ f ih =>
      intro l
      cases l with
      | nil => simp [ptsN]
      | cons c r =>
        have h := ih ((c :: r).drop (max 1 (cpBegin (c :: r)).2))
        rw [List.length_drop] at h
        rw [ptsN]
        simp only [List.length_cons] at h ⊢
        omega
  exact this _ l
theorem infoIntP : (Tryz.prog.info? 3).map (fun i => (i.zero, i.size, i.bytes)) = some (some (.int .i64 0), 1, 8) := by kernel_rfl
def PtsP (base n : Nat) (xs : List Value) (p : Int) (row : Value) (w : World) (e : Ending) (w' : World) : Prop := ∃ row' : Value, e = .returned row' ∧ w'.ownsRow base 3 1 row' (n + 1) (xs ++ [.int .i64 p]) ∧ ∀ B, (∀ k, row.ownBlock = some k → B ≤ k) → B ≤ w.heap.size → Below B w w'
set_option maxRecDepth 100000 in
set_option maxHeartbeats 4000000 in
theorem uPt1 (row : Value) (base n : Nat) (xs : List Value) (p : Int) (w : World) (hown : w.ownsRow base 3 1 row n xs) (hb : base ≤ w.heap.size) (hn : n ≤ 4194304) :
    Calls Tryz.prog 170 #[row, .int .i64 p] w (PtsP base n xs p row w) := by
  obtain ⟨i0, hi, hz0, hz1, hz2⟩ := info_parts infoIntP
  have HI := Lib.hid hi
  have HO := Lib.hid (hown.alloc (.cells #[.int .i64 p] 3))
  have HR := Lib.hid (Rd.of_blk (Blk.new w 3 #[.int .i64 p]))
  have HRW := Lib.hid (And.intro (show row = row from rfl) hb)
  have HFIN := Lib.hid (fun (v' : Value) (w6 : World) (h1 : w6.ownsRow base 3 1 v' (n + 1) (xs ++ [.int .i64 p])) (h2 : (w.alloc (.cells #[.int .i64 p] 3)).grownBy w6 row.ownBlock) => show PtsP base n xs p row w (.returned v') w6 from
    ⟨v', rfl, h1, fun B hB hBw => ((Below.refl B w).alloc hBw _).grown h2 (by simp; omega) hB⟩)
  clear hi hown
  go_enter Tryz.func170, Tryz.ntmps170
  go_wp2_with (at_builtin; refine wpList_append_rd _ rfl _ _ 96 rfl base 3 i0 _ 1 8 Tryz.underlying96 HI.out hz0 hz1 hz2 rfl (by decide) row n xs rfl HO.out (some ⟨w.heap.size, 0, none⟩) 1 1 (fun h => by cases h) [.int .i64 p] rfl rfl HR.out (by intro u hu; obtain rfl := List.mem_singleton.1 hu; rfl) (by unfold maxLen; omega) (by omega) (by simp; omega) ?_; intro row2 w6 hown6 hgr6 hob6)
  have HX := Lib.hid (HFIN.out _ _ hown6 hgr6)
  clear hown6 hgr6 hob6
  go_ret
  exact HX.out
def TruL (s : List UInt8) (w : World) (e : Ending) (w' : World) : Prop := (∃ (A : Option Addr) (cap : Nat), e = .returned (.tuple #[.slice A (ptsJ s) cap, .int .i64 0, .int .i64 0])) ∧ Below w.heap.size w w'
set_option maxRecDepth 100000 in
set_option maxHeartbeats 4000000 in
theorem uThroughL (s : List UInt8) (w : World) (hG : GOK w) (hl : s.length ≤ 4194304) (hok : txtOk s = true) :
    Calls Tryz.prog 169 #[.string ⟨s.toArray⟩, .slice none 0 0, .func (.func 170) #[] #[]] w (TruL s w) := by
  obtain ⟨ba, hba⟩ : ∃ ba : ByteArray, (⟨s.toArray⟩ : ByteArray) = ba := ⟨_, rfl⟩
  have hsl : sl ba = s := by rw [← hba, sl_mk]
  rw [hba]
  obtain ⟨cap, W1, hcv, hcap, hb1, hs1, hr1⟩ := conv_bytes (P := Tryz.prog) w 9 76 5 ba Tryz.underlying9 Tryz.underlying76 Tryz.underlying5
  rw [hsl] at hr1
  have hsz : ba.size = s.length := by rw [← hsl, sl_len]
  rw [hsz] at hcv hcap
  have HR := Lib.hid hr1
  have HB1 := Lib.hid hb1
  have hlt1 : w.heap.size < W1.heap.size := by omega
  clear hr1 hb1 hsl hba hsz hs1
  have HGK := Lib.hid hG
  clear hG
  obtain ⟨tt, htt⟩ : ∃ tt, ptsJ s = tt := ⟨_, rfl⟩
  have HTT := Lib.hid htt
  have HFIN := Lib.hid (fun (A : Option Addr) (c : Nat) (w' : World) (h : Below w.heap.size w w') => show TruL s w (.returned (.tuple #[.slice A tt c, .int .i64 0, .int .i64 0])) w' from ⟨⟨A, c, by rw [htt]⟩, h⟩)
  have HOK := Lib.hid hok
  clear htt hok
  go_enter Tryz.func169, Tryz.ntmps169
  go_wp2
  go_loopg [1, 10] s.length (fun gk s1 s10 wr => ∃ (p n : Nat) (row : Value) (xs : List Value), row = s1 ∧ p ≤ s.length ∧ n ≤ p ∧ gk = s.length - p ∧ s10 = .int .i64 p ∧ Hid (txtOk (s.drop p) = true ∧ n + ptsJ (s.drop p) = tt) ∧ Hid (wr.ownsRow W1.heap.size 3 1 row n xs) ∧ Hid (Below W1.heap.size W1 wr))
  case atStart => exact ⟨0, 0, _, [], rfl, Nat.zero_le _, Nat.le_refl _, by go_num, by go_num, Lib.hid ⟨by rw [List.drop_zero]; exact HOK.out, by rw [List.drop_zero, HTT.out]; omega⟩, Lib.hid (World.ownsRow_nil _ _ _ _), Lib.hid (Below.refl _ _)⟩
  case round =>
    obtain ⟨p, n, row, xs, rfl, hp, hnp, hgk, rfl, HQ, HO, HW⟩ := hrel
    have HG := Lib.hid hgk
    clear hgk
    by_cases hlt : p < s.length
    · obtain ⟨c, m, hcm⟩ : ∃ c m, cpBegin (s.drop p) = (c, m) := ⟨_, _, rfl⟩
      have hne : s.drop p ≠ [] := by intro e; have h := congrArg List.length e; rw [List.length_drop] at h; simp at h; omega
      have hle := cpBegin_le4 (s.drop p)
      have hst := txtOk_step hne
      have hps := fun h => ptsJ_step hne h
      rw [hcm] at hle hst hps
      rw [List.length_drop] at hle
      have hpn : p + m ≤ s.length := by have := hle.1; simp only at this; omega
      have hm4 : m ≤ 4 := hle.2
      rw [List.drop_drop] at hst hps
      have hm0 : m ≠ 0 := fun e => by
        have h := HQ.out.1
        rw [hst, if_pos e] at h; cases h
      have hW := HB1.out.trans (HW.out.mono HB1.out.size)
      have hcell : ∀ i x, (s.drop p)[i]? = some x → wr.cell? ⟨w.heap.size, p + i, none⟩ = some (.int .u8 x.toNat) := fun i x hx => by
        rw [List.getElem?_drop] at hx
        have h := BS.at_ (n := 0) (cap := 0) (HR.out.below HW.out) hx
        rwa [Nat.zero_add] at h
      have hNX := next_any w.heap.size p (cap - p) (s.drop p) wr hne (HGK.out.keep hW) (by have := HW.out.size; omega) hcell (by rw [List.length_drop]; omega) (by rw [List.length_drop]; omega)
      rw [hcm, List.length_drop] at hNX
      have HNX := Lib.hid hNX
      have hcapp : ¬ cap = p := by omega
      have HQ2 := Lib.hid (show txtOk (s.drop (p + m)) = true ∧ n + 1 + ptsJ (s.drop (p + m)) = tt by
        obtain ⟨q1, q2⟩ := HQ.out
        refine ⟨by rw [hst, if_neg hm0] at q1; exact q1, ?_⟩
        rw [hps hm0] at q2
        simp only at q2
        omega)
      have hm1 : ((m : Int) == 0) = false := by simp; omega
      clear hNX hcell hW hcm hne hle hst hps
      go_wp2_with fail
      refine HNX.out.mono ?_
      rintro e w1 ⟨rfl, hb2⟩
      have HO2 := Lib.hid (ownBel HO.out hb2)
      have HW2 := Lib.hid (HW.out.trans (hb2.mono HW.out.size))
      have HLT := Lib.hid (fun (k : Nat) (h : row.ownBlock = some k) => (HO.out.lt k h).1)
      clear hb2
      go_wp2_with fail
      refine (uPt1 row W1.heap.size n xs c w1 HO2.out HW2.out.size (by omega)).mono ?_
      rintro e w2 ⟨row2, rfl, hown, hbel⟩
      have HO3 := Lib.hid hown
      have HW3 := Lib.hid (HW2.out.trans (hbel W1.heap.size HLT.out HW2.out.size))
      clear hown hbel
      go_wp2
      go_roundg (s.length - (p + m))
      case measure => rw [HG.out]; omega
      case rel => exact ⟨p + m, n + 1, row2, _, rfl, hpn, by omega, rfl, by go_num, HQ2, HO3, HW3⟩
    · obtain rfl : p = s.length := by omega
      have hn : n = tt := by
        have h := HQ.out.2
        rw [List.drop_length] at h
        have : ptsJ [] = 0 := rfl
        omega
      subst hn
      obtain ⟨RA, rc, rfl, _⟩ := own_parts HO.out
      go_wp2
      go_ret3
      exact HFIN.out _ _ _ (HB1.out.trans (HW.out.mono HB1.out.size))
set_option maxRecDepth 100000 in
set_option maxHeartbeats 4000000 in
theorem uPoints (s : List UInt8) (w : World) (hG : GOK w) (hl : s.length ≤ 4194304) (hok : txtOk s = true) : Calls Tryz.prog 125 #[.string ⟨s.toArray⟩] w (TruL s w) := by
  have HT := Lib.hid (uThroughL s w hG hl hok)
  clear hl hG hok
  obtain ⟨er, her⟩ : ∃ er, ptsJ s = er := ⟨_, rfl⟩
  unfold TruL at HT ⊢
  rw [her] at HT ⊢
  clear her
  go_enter Tryz.func125, Tryz.ntmps125
  go_wp2_with fail
  refine HT.out.mono ?_
  rintro e w1 ⟨⟨A, c, rfl⟩, hb⟩
  have HB := Lib.hid hb
  clear hb
  go_wp2
  go_ret3
  exact ⟨⟨_, _, rfl⟩, HB.out⟩
end Go.Proofs.YtgolomgmnanbpaaGreatDoor
namespace Go.Proofs.YtgolomgmnanbpaaGreatDoor
set_option linter.unusedVariables false
set_option linter.unusedSimpArgs false
open Go.RowKit
attribute [local go_sem] run_index_arr run_part_agg run_part_one run_field_agg
theorem good_txt {n : Int} {s : List UInt8} {kids : List JV} {keys : List (List UInt8)} (h : good (.mk 4 n s kids keys) = true) : txtOk s = true := by
  have h1 := (goodJ_out (good_J h).1).1
  unfold goodA at h1
  simp at h1
  exact h1.1.1.2
set_option maxRecDepth 100000 in
set_option maxHeartbeats 4000000 in
theorem mSize {pv : Value} {F : Nat → Prop} {env : List (List UInt8 × JV)} {w : World} {k : Int} {v : JV} {s : List UInt8} {y : EJ} {r : List EJ} {cs : List Value} (hG : GOE w) (hF : ∀ b, F b → b < w.heap.size) (hk : KidC pv F env w y) (hx : ER w F cs (.mk k v s (y :: r))) :
    Calls Tryz.prog 76 #[pv, .agg cs.toArray] w (ExP (match evE env y with | some a => sizeJ a | none => none) F w) := by
  obtain ⟨k1, n1, s1, A1, na1, ca1, B1, nb1, cb1, A, ca, css, rfl, hv, h1, h2, h3, h4⟩ := hx.out
  obtain ⟨b, o, kx, px, nx, sx, Ax, nax, cax, Bx, nbx, cbx, tx, Cx, ncx, ccx, rfl, hb, hER, hz⟩ := kid_cellsE h1 h4 (i := 0) (x := y) rfl
  have HKC := Lib.hid (fun (W : World) (h : Below w.heap.size w W) => hk W _ h (hER.bel h))
  have HZZ := Lib.hid (fun (W : World) (h : Below w.heap.size w W) => hz W h)
  obtain ⟨nr, hnr⟩ : ∃ q, (y :: r).length = q := ⟨_, rfl⟩
  have hnr1 : 1 ≤ nr := by rw [← hnr]; simp
  rw [hnr] at h2 ⊢
  have HLB := Lib.hid hb
  obtain ⟨o0, ho0⟩ : ∃ o, evE env y = o := ⟨_, rfl⟩
  rw [ho0] at HKC ⊢
  have HH0 := Lib.hid (((Held.nil w).push 28 #[.int .i64 k, .int .i64 k1, .int .i64 n1, .string s1, .slice A1 na1 ca1, .slice B1 nb1 cb1, .string ⟨s.toArray⟩, .slice (some ⟨b, o, none⟩) nr ca] (g := w.heap.size) rfl).push 25 #[.int .i64 0, .int .i64 0, .string ⟨#[]⟩, .slice none 0 0, .slice none 0 0] (g := w.heap.size + 1) (by simp))
  have HG := Lib.hid hG
  have HFF := Lib.hid hF
  clear hk hx hv h1 h2 h3 h4 hER hz hb hnr ho0 hG hF
  obtain ⟨op, hop⟩ : ∃ p, (match o0 with | some a => sizeJ a | none => none) = p := ⟨_, rfl⟩
  have HOP := Lib.hid hop
  rw [hop]
  clear hop
  obtain ⟨c0, f0, l0⟩ := HH0.out.b1.rules
  obtain ⟨z0, z1, z2, z3, z4, z5, z6, z7⟩ := HZZ.out _ (Below.refl _ _)
  simp only [Nat.zero_mul, Nat.add_zero] at z0 z1 z2 z3 z4 z5 z6 z7
  have lb := HLB.out
  go_enter Tryz.func76, Tryz.ntmps76
  go_wp2_with fail
  refine (HKC.out _ HH0.out.1).mono ?_
  rintro e w1 ⟨cs1, v1, b1, rfl, hv1, hc1, ho, hg1, hb1⟩
  obtain ⟨vk, vn, vs, vkids, vkeys⟩ := v1
  obtain ⟨VA, VB, va, vb, vcss, rfl, _⟩ := hv1.out
  have hkl : vkids.length ≤ 4194304 := hc1.out.2.2.2.1
  have hsl : vs.length ≤ 4194304 := hc1.out.2.2.1
  obtain ⟨nk, hnk⟩ : ∃ q, vkids.length = q := ⟨_, rfl⟩
  obtain ⟨ny, hny⟩ : ∃ q, vkeys.length = q := ⟨_, rfl⟩
  rw [hnk] at hkl
  have HNK := Lib.hid hnk
  rw [hnk, hny]
  have HH1 := Lib.hid ((HH0.out.keep hb1).push 25 #[.int .i64 vk, .int .i64 vn, .string ⟨vs.toArray⟩, .slice VA nk va, .slice VB ny vb] (g := w1.heap.size) rfl)
  have HO := Lib.hid ho
  have HGD := Lib.hid hg1
  have hsz : w.heap.size + 2 ≤ w1.heap.size := by have := hb1.size; simpa using this
  clear hb1 c0 f0 l0 hv1 hc1 ho hg1 z0 z1 z2 z3 z4 z5 z6 z7 lb hnk hny
  obtain ⟨c0, f0, l0⟩ := HH1.out.b0.rules
  obtain ⟨c2, f2, l2⟩ := HH1.out.b1.rules
  cases b1
  · go_wp2_with fail
    refine (mNone _).mono ?_
    rintro e wn ⟨rfl, hbn⟩
    have HHN := Lib.hid (HH1.out.keep hbn)
    clear hbn c0 f0 l0 c2 f2 l2
    obtain ⟨c1, f1, l1⟩ := HHN.out.b1.rules
    go_wp2
    refine bodyPost_ret (v := .tuple #[.agg #[.int .i64 0, .int .i64 0, .string ⟨#[]⟩, .slice none 0 0, .slice none 0 0], .bool false]) (by simp only [results, Tryz.results76]; go_simp) rfl ?_
    exact ExP.none_ (w1 := w) (by rw [← HOP.out, HO.out]; rfl) (five_bel HHN.out.1 (by omega) _ _ _ _ _)
  · have HOQ := Lib.hid (show op = sizeJ (.mk vk vn vs vkids vkeys) by rw [← HOP.out, HO.out]; rfl)
    by_cases h4 : vk = 4
    · subst h4
      have HPT := Lib.hid (uPoints vs _ (HG.out.keep HH1.out.1).gok hsl (good_txt (HGD.out rfl)))
      have hpl := ptsJ_le vs
      have HOZ := Lib.hid (show op = some (jNum (ptsJ vs)) by rw [HOQ.out]; rfl)
      obtain ⟨pp, hpp⟩ : ∃ q, ptsJ vs = q := ⟨_, rfl⟩
      unfold TruL at HPT
      rw [hpp] at HPT hpl HOZ
      clear hpp
      go_wp2_with fail
      refine HPT.out.mono ?_
      rintro e w2 ⟨⟨RA, rc, rfl⟩, hb2⟩
      have HH2 := Lib.hid (HH1.out.keep hb2)
      clear hb2 c0 f0 l0 c2 f2 l2
      go_wp2_with fail
      refine (vIntV (pp : Int) _).mono ?_
      rintro e w3 ⟨rfl, hb3⟩
      have HH3 := Lib.hid (HH2.out.keep hb3)
      clear hb3
      obtain ⟨c9, f9, l9⟩ := HH3.out.b1.rules
      go_wp2
      refine bodyPost_ret (v := .tuple #[.agg #[.int .i64 3, .int .i64 (pp : Int), .string ⟨#[]⟩, .slice none 0 0, .slice none 0 0], .bool true]) (by simp only [results, Tryz.results76]; go_simp) rfl ?_
      exact ExP.num_ (by unfold iw; omega) HOZ.out (five_bel HH3.out.1 (by omega) _ _ _ _ _)
    · have e4 : (vk == 4) = false := by simp [h4]
      by_cases h5 : vk < 5
      · have HOZ := Lib.hid (show op = none by rw [HOQ.out]; show (if vk = 4 then _ else if 5 ≤ vk then _ else none) = none; rw [if_neg h4, if_neg (by omega)])
        clear h4
        go_wp2_with fail
        refine (mNone _).mono ?_
        rintro e wn ⟨rfl, hbn⟩
        have HHN := Lib.hid (HH1.out.keep hbn)
        clear hbn c0 f0 l0 c2 f2 l2
        obtain ⟨c1, f1, l1⟩ := HHN.out.b1.rules
        go_wp2
        refine bodyPost_ret (v := .tuple #[.agg #[.int .i64 0, .int .i64 0, .string ⟨#[]⟩, .slice none 0 0, .slice none 0 0], .bool false]) (by simp only [results, Tryz.results76]; go_simp) rfl ?_
        exact ExP.none_ (w1 := w) HOZ.out (five_bel HHN.out.1 (by omega) _ _ _ _ _)
      · have HOZ := Lib.hid (show op = some (jNum nk) by rw [HOQ.out]; show (if vk = 4 then _ else if 5 ≤ vk then some (jNum vkids.length) else none) = _; rw [if_neg h4, if_pos (by omega), HNK.out])
        clear h4
        go_wp2_with fail
        refine (vIntV (nk : Int) _).mono ?_
        rintro e w3 ⟨rfl, hb3⟩
        have HH3 := Lib.hid (HH1.out.keep hb3)
        clear hb3 c0 f0 l0 c2 f2 l2
        obtain ⟨c9, f9, l9⟩ := HH3.out.b1.rules
        go_wp2
        refine bodyPost_ret (v := .tuple #[.agg #[.int .i64 3, .int .i64 (nk : Int), .string ⟨#[]⟩, .slice none 0 0, .slice none 0 0], .bool true]) (by simp only [results, Tryz.results76]; go_simp) rfl ?_
        exact ExP.num_ (by unfold iw; omega) HOZ.out (five_bel HH3.out.1 (by omega) _ _ _ _ _)
end Go.Proofs.YtgolomgmnanbpaaGreatDoor
namespace Go.Proofs.YtgolomgmnanbpaaGreatDoor
set_option linter.unusedVariables false
set_option linter.unusedSimpArgs false
open Go.RowKit
mutual
/-- no expression within has too many kids -/
def smlE : EJ → Prop | .mk _ _ _ kids => kids.length ≤ 16000 ∧ smlEL kids
def smlEL : List EJ → Prop | [] => True | x :: r => smlE x ∧ smlEL r
end
theorem smlEL_iff : ∀ {xs : List EJ}, smlEL xs ↔ ∀ x ∈ xs, smlE x
  | [] => by simp [smlEL]
  | x :: r => by simp [smlEL, smlEL_iff (xs := r)]
def MacOk (mb : Nat) (F : Nat → Prop) (env : List (List UInt8 × JV)) (w : World) : Prop :=
  GOE w ∧ (∀ b, F b → b < w.heap.size) ∧ (∃ (p mv : Value) (EA : Option Addr) (ec : Nat) (ecs : List (List Value)), Blk w mb 88 #[p, .slice EA env.length ec, mv] ∧ BnRs w F ecs env ∧ env.length ≤ ec ∧ RdF w F EA ecs.flatten) ∧ env.length ≤ 4194304 ∧ ∀ b ∈ env, good b.2 = true ∧ Came b.2
theorem MacOk.keep {mb : Nat} {F : Nat → Prop} {env : List (List UInt8 × JV)} {w W : World} (h : MacOk mb F env w) (hb : Below w.heap.size w W) : MacOk mb F env W := by
  obtain ⟨h1, h2, ⟨p, mv, EA, ec, ecs, h3, h4, h5, h6⟩, h7, h8⟩ := h
  exact ⟨h1.keep hb, fun b hf => Nat.lt_of_lt_of_le (h2 b hf) hb.size, ⟨p, mv, EA, ec, ecs, h3.keep hb, RR.imp h4 fun c x hc => hc.keep (KeepF.of_below hb), h5, h6.keep (KeepF.of_below hb)⟩, h7, h8⟩
theorem comb3 {env : List (List UInt8 × JV)} {v : JV} {s : List UInt8} {a : Option JV} {l : List (Option JV)} : combJ env 3 v s (a :: l) = (match a with | some a => getJ a s | none => none) := by cases a <;> rfl
theorem comb5 {env : List (List UInt8 × JV)} {v : JV} {s : List UInt8} {a : Option JV} {l : List (Option JV)} : combJ env 5 v s (a :: l) = (isB a).map fun b => jBool (!b) := by cases a <;> rfl
theorem comb6 {env : List (List UInt8 × JV)} {v : JV} {s : List UInt8} {a : Option JV} {l : List (Option JV)} : combJ env 6 v s (a :: l) = (match a with | some a => sizeJ a | none => none) := by cases a <;> rfl
theorem comb7 {env : List (List UInt8 × JV)} {v : JV} {s : List UInt8} {a : Option JV} {l : List (Option JV)} : combJ env 7 v s (a :: l) = a.map fun a => jText (kindT a.kind) := by cases a <;> rfl
theorem comb4 {env : List (List UInt8 × JV)} {v : JV} {s : List UInt8} {l : List (Option JV)} : combJ env 4 v s l = listJ l := rfl
theorem combN {env : List (List UInt8 × JV)} {v : JV} {s : List UInt8} {a b : Option JV} {l : List (Option JV)} :
    combJ env 8 v s (a :: b :: l) = numB (fun a b : Int => a * b) a b ∧ combJ env 9 v s (a :: b :: l) = numB (fun a b : Int => a + b) a b ∧ combJ env 10 v s (a :: b :: l) = numB (fun a b : Int => a - b) a b := by
  refine ⟨?_, ?_, ?_⟩ <;> (cases a <;> cases b <;> rfl)
theorem combO {env : List (List UInt8 × JV)} {v : JV} {s : List UInt8} {a b : Option JV} {l : List (Option JV)} :
    combJ env 11 v s (a :: b :: l) = ordB (fun n : Int => n == 0) a b ∧ combJ env 12 v s (a :: b :: l) = ordB (fun n : Int => decide (n < 0)) a b ∧ combJ env 13 v s (a :: b :: l) = ordB (fun n : Int => decide (n ≤ 0)) a b := by
  refine ⟨?_, ?_, ?_⟩ <;> (cases a <;> cases b <;> rfl)
theorem combE {env : List (List UInt8 × JV)} {v : JV} {s : List UInt8} {a b : Option JV} {l : List (Option JV)} :
    combJ env 14 v s (a :: b :: l) = eitJ false (isB a) (isB b) ∧ combJ env 15 v s (a :: b :: l) = eitJ true (isB a) (isB b) := by
  constructor
  · cases a with
    | none => rfl
    | some a =>
      show (match isB (some a) with | none => none | some t => if t = decide ((14 : Int) = 15) then some (jBool t) else (isB b).map jBool) = _
      unfold eitJ
      cases isB (some a) with
      | none => rfl
      | some t => cases t <;> (first | rfl | (cases isB b <;> rfl))
  · cases a with
    | none => rfl
    | some a =>
      show (match isB (some a) with | none => none | some t => if t = decide ((15 : Int) = 15) then some (jBool t) else (isB b).map jBool) = _
      unfold eitJ
      cases isB (some a) with
      | none => rfl
      | some t => cases t <;> (first | rfl | (cases isB b <;> rfl))
def ForX (r : Nat) : Prop := ∀ (mb : Nat) (F : Nat → Prop) (env : List (List UInt8 × JV)) (w : World) (x : EJ) (cs : List Value), MacOk mb F env w → deepE r x ≠ 0 → camE x → smlE x → ER w F cs x →
  Calls Tryz.prog 41 #[.pointer (some ⟨mb, 0, none⟩), .agg cs.toArray] w (ExP (evE env x) F w)
theorem ExP.later {o : Option JV} {F : Nat → Prop} {w : World} {e : Ending} {w' : World} (h : ExP o F w e w') : ExP o F w e w' := h
theorem mExprS (r : Nat) (ih : ForX r) : ForX (r + 1) := by
  intro mb F env w x cs hM hd hc hs hx
  obtain ⟨k, v, s, kids⟩ := x
  obtain ⟨_, hok, hkd⟩ := deepE_out hd
  obtain ⟨hk1, hk15, hlit, h3, h8⟩ := okX_kind hok
  have hc' := hc
  unfold camE at hc'
  obtain ⟨_, hcv, hsl, hck, hcl⟩ := hc'
  have hcl := camEL_iff.1 hcl
  unfold smlE at hs
  have hsk := smlEL_iff.1 hs.2
  have HK : ∀ W, Below w.heap.size w W → ∀ y ∈ kids, KidC (.pointer (some ⟨mb, 0, none⟩)) F env W y := fun W h y hy W' cs' h' hy' =>
    ih mb F env W' y cs' (hM.keep (h.trans (h'.mono h.size))) (hkd y hy) (hcl y hy) (hsk y hy) hy'
  have hev : evE env (.mk k v s kids) = combJ env k v s (kids.map (evE env)) := by rw [evE, evL_map]
  rw [hev]
  obtain ⟨k1, n1, s1, A1, na1, ca1, B1, nb1, cb1, A, ca, css, rfl, _⟩ := hx.out
  refine mExprK k k1 n1 s1 A1 na1 ca1 B1 nb1 cb1 _ A kids.length ca ⟨hk1, hk15⟩ hM.2.1 fun W hW => ?_
  have hxW := hx.bel hW
  have hMW := hM.keep hW
  have hKW := HK W hW
  have hFW := hMW.2.1
  have one : (k = 3 ∨ 5 ≤ k ∧ k ≤ 7) → ∃ y, kids = [y] := fun h => List.length_eq_one_iff.1 (h3 h)
  have two : 8 ≤ k → ∃ y z, kids = [y, z] := fun h => by
    have h2 := h8 h
    match kids, h2 with
    | [y, z], _ => exact ⟨y, z, rfl⟩
  rcases (by omega : k = 1 ∨ k = 2 ∨ k = 3 ∨ k = 4 ∨ k = 5 ∨ k = 6 ∨ k = 7 ∨ k = 8 ∨ k = 9 ∨ k = 10 ∨ k = 11 ∨ k = 12 ∨ k = 13 ∨ k = 14 ∨ k = 15) with rfl | rfl | rfl | rfl | rfl | rfl | rfl | rfl | rfl | rfl | rfl | rfl | rfl | rfl | rfl
  · have hl := hlit rfl
    unfold litOk at hl
    rw [Bool.and_eq_true] at hl
    exact mLiteral hFW hxW hl.1 hcv
  · obtain ⟨_, _, ⟨p, mv, EA, ec, ecs, m1, m2, m3, m4⟩, m5, m6⟩ := hMW
    exact mName mb ecs env.length ec EA p mv hFW m1 m2 rfl m3 m4 m5 m6 hxW
  · obtain ⟨y, rfl⟩ := one (.inl rfl)
    rw [List.map_cons, comb3]
    exact mPath hMW.1 hFW (hKW y List.mem_cons_self) hxW
  · rw [comb4]
    exact mList hMW.1 hFW hKW hxW hs.1
  · obtain ⟨y, rfl⟩ := one (.inr ⟨by decide, by decide⟩)
    rw [List.map_cons, comb5]
    exact mNot (hKW y List.mem_cons_self).bool hxW
  · obtain ⟨y, rfl⟩ := one (.inr ⟨by decide, by decide⟩)
    rw [List.map_cons, comb6]
    exact mSize hMW.1 hFW (hKW y List.mem_cons_self) hxW
  · obtain ⟨y, rfl⟩ := one (.inr ⟨by decide, by decide⟩)
    rw [List.map_cons, comb7]
    exact mKind hMW.1 hFW (hKW y List.mem_cons_self) hxW
  all_goals
    obtain ⟨y, z, rfl⟩ := two (by decide)
    have hy := hKW y List.mem_cons_self
    have hz := hKW z (List.mem_cons_of_mem _ List.mem_cons_self)
    rw [List.map_cons, List.map_cons]
  · rw [combN.1]; exact mMul hy hz hFW hxW
  · rw [combN.2.1]; exact mAdd hy hz hFW hxW
  · rw [combN.2.2]; exact mSub hy hz hFW hxW
  · rw [combO.1]; exact mSame hMW.1 hy hz hFW hxW
  · rw [combO.2.1]; exact mLess hMW.1 hy hz hFW hxW
  · rw [combO.2.2]; exact mMost hMW.1 hy hz hFW hxW
  · rw [combE.1]; exact mAnd hy.bool hz.bool hFW hxW
  · rw [combE.2]; exact mOr hy.bool hz.bool hFW hxW
theorem mExpr : ∀ r, ForX r
  | 0 => fun mb F env w x cs hM hd => absurd (by cases x; rw [deepE, if_pos rfl]) hd
  | r + 1 => mExprS r (mExpr r)
end Go.Proofs.YtgolomgmnanbpaaGreatDoor
