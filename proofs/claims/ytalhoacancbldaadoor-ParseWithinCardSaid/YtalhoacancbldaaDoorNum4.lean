import Derived.Test.YtalhoacancbldaaDoorNum2
import Derived.Defers
import Derived.Recover
import Derived.Laws.EntriesVeiled
/- The walks of package numeral: the reader's run, with its deferred closure. -/
namespace Go.Proofs.YtalhoacancbldaaDoor
set_option linter.unusedVariables false
set_option linter.unusedSimpArgs false
open Go.RowKit
attribute [local go_sem] run_index_arr run_part_agg run_part_one run_field_agg

def stepsV : Value := .agg #[.func (.func 142) #[] #[], .func (.func 143) #[] #[], .func (.func 144) #[] #[], .func (.func 145) #[] #[]]
theorem steps_any (w : World) : Calls Tryd.prog 129 #[] w fun e w' => e = .returned stepsV ∧ Below w.heap.size w w' := by
  go_enter Tryd.func129, Tryd.ntmps129
  go_wp2
  go_returns
  exact ⟨rfl, by go_grown⟩

theorem catch_idle (p q : Addr) (w : World) :
    CallsD Tryd.prog 128 #[.pointer (some p), .pointer (some q)] .returning w fun e u' w' => e = .returned (.tuple #[]) ∧ u' = .returning ∧ w' = w := by
  refine callsD_of_wpS Tryd.func128 rfl fun c₀ cs hu => ?_
  simp only [Tryd.ntmps128, List.size_toArray, List.length_cons, List.length_nil, Nat.reduceAdd, Nat.reduceSub, Array.replicate_succ,
     Array.replicate_zero, List.push_toArray, List.append_toArray, List.nil_append, List.cons_append]
  apply wpS_seq
  apply wpS_region
  simp [wpOpsS, go_sem, recoverD, hu, Exit.thenS]
  refine wpS_of_wp ?_
  go_wp2
  cases c₀
  simp_all [bodyPostS, results, Tryd.results128]

set_option maxRecDepth 100000 in
set_option maxHeartbeats 1000000 in
theorem catch_wrong (b d : Nat) (x : Int) (c c' : Value) (w : World) (hbd : b ≠ d) (hp : w.cell? ⟨b, 0, none⟩ = some c) (hz : w.frozen? ⟨b, 0, none⟩ = false) (hq : w.cell? ⟨d, 0, none⟩ = some c') (hy : w.frozen? ⟨d, 0, none⟩ = false) :
    CallsD Tryd.prog 128 #[.pointer (some ⟨b, 0, none⟩), .pointer (some ⟨d, 0, none⟩)] (.panicking [{ v := .iface 165 (.int .i64 x), recovered := false }]) w fun e u' w' =>
      e = .returned (.tuple #[]) ∧ u' = .panicking [{ v := .iface 165 (.int .i64 x), recovered := true }] ∧ w' = (w.setCell ⟨b, 0, none⟩ (.int .i64 x)).setCell ⟨d, 0, none⟩ (.int .i64 7) := by
  have hta : ∀ w : World, (Instr.typeAssert (.iface 165 (.int .i64 x)) 20 165 true).run Tryd.prog w = .ok (.tuple #[.int .i64 x, .bool true]) w := fun _ => by kernel_rfl
  refine callsD_of_wpS Tryd.func128 rfl fun c₀ cs hu => ?_
  simp only [Tryd.ntmps128, List.size_toArray, List.length_cons, List.length_nil, Nat.reduceAdd, Nat.reduceSub, Array.replicate_succ,
     Array.replicate_zero, List.push_toArray, List.append_toArray, List.nil_append, List.cons_append]
  apply wpS_seq
  apply wpS_region
  simp [wpOpsS, go_sem, recoverD, hu, Exit.thenS]
  refine wpS_of_wp ?_
  go_wp2
  simp [bodyPostS, results, Tryd.results128]

/-- step k of the reader -/
def stepK : Nat → List UInt8 → NSt → NSt × Option Nat
  | 0 => signS | 1 => wholeS | 2 => fracS | _ => expS
def runK (l : List UInt8) : List Nat → NSt → NSt × Option Nat
  | [], st => (st, none)
  | k :: ks, st => match stepK k l st with | (st', none) => runK l ks st' | r => r
def numRun (l : List UInt8) (st : NSt) : NSt × Option Nat := runK l [0, 1, 2, 3] st
theorem runK_none {l : List UInt8} {k : Nat} {ks : List Nat} {st st' : NSt} (h : stepK k l st = (st', none)) : runK l (k :: ks) st = runK l ks st' := by simp [runK, h]
theorem runK_some {l : List UInt8} {k p : Nat} {ks : List Nat} {st st' : NSt} (h : stepK k l st = (st', some p)) : runK l (k :: ks) st = (st', some p) := by simp [runK, h]
theorem stepK_le {k : Nat} {l : List UInt8} {st st' : NSt} {q : Option Nat} (h : stepK k l st = (st', q)) (hp : st.pos ≤ l.length) (hs : st.size < 18446744073709551616) :
    st'.pos ≤ l.length ∧ st'.size < 18446744073709551616 := by
  have e : (stepK k l st).1 = st' := by rw [h]
  rw [← e]
  rcases k with _ | _ | _ | k
  · exact ⟨takeS_le (s := [45]) hp, by show (takeS [45] l st).size < _; rw [takeS_size]; exact hs⟩
  · show (wholeS l st).1.pos ≤ _ ∧ (wholeS l st).1.size < _
    unfold wholeS
    split
    · rename_i h2; exact ⟨sees_lt h2, hs⟩
    · exact ⟨rowS_le hp, rowS_size hs⟩
  · show (fracS l st).1.pos ≤ _ ∧ (fracS l st).1.size < _
    unfold fracS
    split
    · rename_i h2; exact ⟨rowS_le (sees_lt h2), rowS_size hs⟩
    · exact ⟨hp, hs⟩
  · show (expS l st).1.pos ≤ _ ∧ (expS l st).1.size < _
    unfold expS
    split
    · rename_i h2; exact ⟨rowS_le (takeS_le (sees_lt h2)), rowS_size (by rw [takeS_size]; exact hs)⟩
    · exact ⟨hp, hs⟩

def ReadsPost (o : NSt × Option Nat) (g : Nat) (A : Option Addr) (cap : Nat) (l : List UInt8) (w : World) (e : Ending) (w' : World) : Prop :=
  (e = match o.2 with | none => .returned (.tuple #[.int .i64 o.1.pos, .int .i64 0]) | some p => .returned (.tuple #[.int .i64 p, .int .i64 7])) ∧ NStep w g A cap l o.1 w'

theorem gb_new {a w : World} {row : Option Nat} (h : a.grownBy w row) (p : Addr) (u : Value) (hp : a.heap.size ≤ p.block) : a.grownBy (w.setCell p u) row :=
  ⟨h.os, h.tape, h.output, by simpa [World.setCell] using h.size, fun j hj hne => (Below.heap_setCell w p u j (by omega)).trans (h.block j hj hne)⟩
theorem one_no {x : Int} : ∀ (i : Nat) (c : Int), (#[Value.int .i64 x] : Array Value)[i]? = some (Value.int .u8 c) → False := by
  intro i c h
  match i with
  | 0 => simp at h
  | i + 1 => simp at h
/-- both named results are laid -/
theorem laid_two (w : World) (g : Nat) (A : Option Addr) (cap : Nat) (l : List UInt8) (st' : NSt) (p q : Int) (hlt : g < w.heap.size) (w2 : World)
    (hN : NB w2 g A cap l st') (c0 : Blk w2 w.heap.size 3 #[.int .i64 0]) (c1 : Blk w2 (w.heap.size + 1) 25 #[.int .i64 0]) (hgr : w.grownBy w2 (some g)) :
    ((w2.setCell ⟨w.heap.size, 0, none⟩ (.int .i64 p)).setCell ⟨w.heap.size + 1, 0, none⟩ (.int .i64 q)).cell? ⟨w.heap.size, 0, none⟩ = some (.int .i64 p) ∧
    ((w2.setCell ⟨w.heap.size, 0, none⟩ (.int .i64 p)).setCell ⟨w.heap.size + 1, 0, none⟩ (.int .i64 q)).cell? ⟨w.heap.size + 1, 0, none⟩ = some (.int .i64 q) ∧
    NStep w g A cap l st' ((w2.setCell ⟨w.heap.size, 0, none⟩ (.int .i64 p)).setCell ⟨w.heap.size + 1, 0, none⟩ (.int .i64 q)) := by
  have d0 := (c0.set_ 0 (.int .i64 p)).far (p := ⟨w.heap.size + 1, 0, none⟩) (show w.heap.size ≠ w.heap.size + 1 by omega) (.int .i64 q)
  have d1 := (c1.far (p := ⟨w.heap.size, 0, none⟩) (show w.heap.size + 1 ≠ w.heap.size by omega) (.int .i64 p)).set_ 0 (.int .i64 q)
  have e0 := hN.2.ne_blk c0 one_no
  have e1 := hN.2.ne_blk c1 one_no
  refine ⟨by rw [d0.cell]; rfl, by rw [d1.cell]; rfl, ⟨⟨(hN.1.far (p := ⟨w.heap.size, 0, none⟩) (by simp; omega) _).far (p := ⟨w.heap.size + 1, 0, none⟩) (by simp; omega) _, (hN.2.setCell e0 _ _).setCell e1 _ _⟩, gb_new (gb_new hgr _ _ (Nat.le_refl _)) _ _ (by simp)⟩⟩

set_option maxRecDepth 100000 in
set_option maxHeartbeats 4000000 in
theorem reads_any (w : World) (g : Nat) (A : Option Addr) (cap : Nat) (l : List UInt8) (st : NSt) (hN : NB w g A cap l st) (hl : l.length ≤ 1048576) (hp : st.pos ≤ l.length) (hsz : st.size < 18446744073709551616) :
    Calls Tryd.prog 113 #[.pointer (some ⟨g, 0, none⟩)] w (ReadsPost (numRun l st) g A cap l w) := by
  have hmf : ∀ (fn : Fn) (first cap : Array Value) (w : World), (Instr.makeFunc fn first cap).run Tryd.prog w = .ok (.func fn first cap) w := fun _ _ _ _ => rfl
  have HN := Lib.hid hN
  clear hN
  go_enter_defers Tryd.func113, Tryd.ntmps113
  go_wp2_with (go_at_call 129; refine (steps_any _).mono ?_; rintro e w1 ⟨rfl, hb⟩)
  have hlt := HN.out.1.lt
  go_loopw [5, 8] (fun _ i wr => ∃ k : Nat, k ≤ 4 ∧ i = .int .i64 k ∧ True ∧ ∃ sk : NSt, sk.pos ≤ l.length ∧ sk.size < 18446744073709551616 ∧ runK l ([0, 1, 2, 3].drop k) sk = numRun l st ∧ NB wr g A cap l sk ∧
      Blk wr w.heap.size 3 #[.int .i64 0] ∧ Blk wr (w.heap.size + 1) 25 #[.int .i64 0] ∧ w.grownBy wr (some g)) (fun _ i _ => 4 - (intOf i).toNat)
  case atStart =>
    have b0 := ((Blk.new w 3 #[.int .i64 0]).alloc (.cells #[.int .i64 0] 25)).keep hb
    have b1 := (Blk.new (w.alloc (.cells #[.int .i64 0] 3)) 25 #[.int .i64 0]).keep hb
    rw [World.size_alloc] at b1
    have hbw : Below w.heap.size w w1 := (((Below.refl _ w).alloc (Nat.le_refl _) _).alloc (by simp) _).trans (hb.mono (by simp; omega))
    exact ⟨0, by omega, rfl, trivial, st, hp, hsz, rfl, ⟨HN.out.1.keep hbw, HN.out.2.below hbw⟩, b0, b1, ⟨hbw.os, hbw.tape, hbw.output, hbw.size, fun i hi _ => hbw.block i hi⟩⟩
  case round =>
    obtain ⟨k, hk, rfl, -, sk, hpk, hsk, hK, hst, b0, b1, hgr⟩ := hrel
    have HK := Lib.hid hK
    clear hK
    have hg0 : some w.heap.size ≠ some g := by simp; omega
    have hg1 : some (w.heap.size + 1) ≠ some g := by simp; omega
    rcases (by omega : k = 0 ∨ k = 1 ∨ k = 2 ∨ k = 3 ∨ k = 4) with rfl | rfl | rfl | rfl | rfl
    · obtain ⟨⟨st', q⟩, hr⟩ : ∃ r, stepK 0 l sk = r := ⟨_, rfl⟩
      have hcon := fun w h => sign_any w g A cap l sk h hl hpk
      rw [show signS l sk = (st', q) from hr] at hcon
      have hle := stepK_le hr hpk hsk
      unfold stepsV
      cases q with
      | none =>
        have HC := Lib.hid (show ∀ w, NB w g A cap l sk → Calls Tryd.prog 142 #[.pointer (some ⟨g, 0, none⟩)] w (fun e w' => e = .returned (.tuple #[]) ∧ NStep w g A cap l st' w') from fun w h => hcon w h)
        have HR := Lib.hid (runK_none (ks := [1, 2, 3]) hr)
        clear hcon hr
        go_wp2_with (go_at_call 142; refine (HC.out _ hst).mono ?_; rintro e w2 ⟨rfl, hw2⟩)
        go_roundw
        case rel =>
          exact ⟨1, by omega, rfl, trivial, st', hle.1, hle.2, HK.out.symm ▸ HR.out.symm, hw2.1, b0.grown hw2.2 hg0, b1.grown hw2.2 hg1, gb_trans hgr hw2.2⟩
        case measure => simp [intOf]
      | some p =>
        have HC := Lib.hid (show ∀ w, NB w g A cap l sk → Calls Tryd.prog 142 #[.pointer (some ⟨g, 0, none⟩)] w (fun e w' => e = .panicked [{ v := .iface 165 (.int .i64 p), recovered := false }] ∧ NStep w g A cap l st' w') from fun w h => hcon w h)
        have HR := Lib.hid (runK_some (ks := [1, 2, 3]) hr)
        clear hcon hr
        go_wp2_with (go_at_call 142; refine (HC.out _ hst).mono ?_; rintro e w2 ⟨rfl, hw2⟩)
        have c0 := b0.grown hw2.2 hg0
        have c1 := b1.grown hw2.2 hg1
        refine leaves_cons (f := 128) (args := #[.pointer (some ⟨w.heap.size, 0, none⟩), .pointer (some ⟨w.heap.size + 1, 0, none⟩)]) (by simp) (by simp [go_sem]) ?_
        refine (catch_wrong w.heap.size (w.heap.size + 1) p _ _ w2 (by omega) (c0.cell 0) (c0.frozen 0) (c1.cell 0) (c1.frozen 0)).mono ?_
        rintro e u' w3 ⟨rfl, rfl, rfl⟩
        obtain ⟨r0, r1, hfin⟩ := laid_two w g A cap l st' p 7 hlt w2 hw2.1 c0 c1 (gb_trans hgr hw2.2)
        refine ⟨.tuple #[.int .i64 p, .int .i64 7], ?_, ?_⟩
        · simp only [results, Tryd.results113]
          go_simp
        · rw [ReadsPost, show numRun l st = (st', some p) from (by rw [← HK.out]; exact HR.out)]
          exact ⟨rfl, hfin⟩
    · obtain ⟨⟨st', q⟩, hr⟩ : ∃ r, stepK 1 l sk = r := ⟨_, rfl⟩
      have hcon := fun w h => whole_any w g A cap l sk h hl hpk hsk
      rw [show wholeS l sk = (st', q) from hr] at hcon
      have hle := stepK_le hr hpk hsk
      unfold stepsV
      cases q with
      | none =>
        have HC := Lib.hid (show ∀ w, NB w g A cap l sk → Calls Tryd.prog 143 #[.pointer (some ⟨g, 0, none⟩)] w (fun e w' => e = .returned (.tuple #[]) ∧ NStep w g A cap l st' w') from fun w h => hcon w h)
        have HR := Lib.hid (runK_none (ks := [2, 3]) hr)
        clear hcon hr
        go_wp2_with (go_at_call 143; refine (HC.out _ hst).mono ?_; rintro e w2 ⟨rfl, hw2⟩)
        go_roundw
        case rel =>
          exact ⟨2, by omega, rfl, trivial, st', hle.1, hle.2, HK.out.symm ▸ HR.out.symm, hw2.1, b0.grown hw2.2 hg0, b1.grown hw2.2 hg1, gb_trans hgr hw2.2⟩
        case measure => simp [intOf]
      | some p =>
        have HC := Lib.hid (show ∀ w, NB w g A cap l sk → Calls Tryd.prog 143 #[.pointer (some ⟨g, 0, none⟩)] w (fun e w' => e = .panicked [{ v := .iface 165 (.int .i64 p), recovered := false }] ∧ NStep w g A cap l st' w') from fun w h => hcon w h)
        have HR := Lib.hid (runK_some (ks := [2, 3]) hr)
        clear hcon hr
        go_wp2_with (go_at_call 143; refine (HC.out _ hst).mono ?_; rintro e w2 ⟨rfl, hw2⟩)
        have c0 := b0.grown hw2.2 hg0
        have c1 := b1.grown hw2.2 hg1
        refine leaves_cons (f := 128) (args := #[.pointer (some ⟨w.heap.size, 0, none⟩), .pointer (some ⟨w.heap.size + 1, 0, none⟩)]) (by simp) (by simp [go_sem]) ?_
        refine (catch_wrong w.heap.size (w.heap.size + 1) p _ _ w2 (by omega) (c0.cell 0) (c0.frozen 0) (c1.cell 0) (c1.frozen 0)).mono ?_
        rintro e u' w3 ⟨rfl, rfl, rfl⟩
        obtain ⟨r0, r1, hfin⟩ := laid_two w g A cap l st' p 7 hlt w2 hw2.1 c0 c1 (gb_trans hgr hw2.2)
        refine ⟨.tuple #[.int .i64 p, .int .i64 7], ?_, ?_⟩
        · simp only [results, Tryd.results113]
          go_simp
        · rw [ReadsPost, show numRun l st = (st', some p) from (by rw [← HK.out]; exact HR.out)]
          exact ⟨rfl, hfin⟩
    · obtain ⟨⟨st', q⟩, hr⟩ : ∃ r, stepK 2 l sk = r := ⟨_, rfl⟩
      have hcon := fun w h => fraction_any w g A cap l sk h hl hpk hsk
      rw [show fracS l sk = (st', q) from hr] at hcon
      have hle := stepK_le hr hpk hsk
      unfold stepsV
      cases q with
      | none =>
        have HC := Lib.hid (show ∀ w, NB w g A cap l sk → Calls Tryd.prog 144 #[.pointer (some ⟨g, 0, none⟩)] w (fun e w' => e = .returned (.tuple #[]) ∧ NStep w g A cap l st' w') from fun w h => hcon w h)
        have HR := Lib.hid (runK_none (ks := [3]) hr)
        clear hcon hr
        go_wp2_with (go_at_call 144; refine (HC.out _ hst).mono ?_; rintro e w2 ⟨rfl, hw2⟩)
        go_roundw
        case rel =>
          exact ⟨3, by omega, rfl, trivial, st', hle.1, hle.2, HK.out.symm ▸ HR.out.symm, hw2.1, b0.grown hw2.2 hg0, b1.grown hw2.2 hg1, gb_trans hgr hw2.2⟩
        case measure => simp [intOf]
      | some p =>
        have HC := Lib.hid (show ∀ w, NB w g A cap l sk → Calls Tryd.prog 144 #[.pointer (some ⟨g, 0, none⟩)] w (fun e w' => e = .panicked [{ v := .iface 165 (.int .i64 p), recovered := false }] ∧ NStep w g A cap l st' w') from fun w h => hcon w h)
        have HR := Lib.hid (runK_some (ks := [3]) hr)
        clear hcon hr
        go_wp2_with (go_at_call 144; refine (HC.out _ hst).mono ?_; rintro e w2 ⟨rfl, hw2⟩)
        have c0 := b0.grown hw2.2 hg0
        have c1 := b1.grown hw2.2 hg1
        refine leaves_cons (f := 128) (args := #[.pointer (some ⟨w.heap.size, 0, none⟩), .pointer (some ⟨w.heap.size + 1, 0, none⟩)]) (by simp) (by simp [go_sem]) ?_
        refine (catch_wrong w.heap.size (w.heap.size + 1) p _ _ w2 (by omega) (c0.cell 0) (c0.frozen 0) (c1.cell 0) (c1.frozen 0)).mono ?_
        rintro e u' w3 ⟨rfl, rfl, rfl⟩
        obtain ⟨r0, r1, hfin⟩ := laid_two w g A cap l st' p 7 hlt w2 hw2.1 c0 c1 (gb_trans hgr hw2.2)
        refine ⟨.tuple #[.int .i64 p, .int .i64 7], ?_, ?_⟩
        · simp only [results, Tryd.results113]
          go_simp
        · rw [ReadsPost, show numRun l st = (st', some p) from (by rw [← HK.out]; exact HR.out)]
          exact ⟨rfl, hfin⟩
    · obtain ⟨⟨st', q⟩, hr⟩ : ∃ r, stepK 3 l sk = r := ⟨_, rfl⟩
      have hcon := fun w h => exponent_any w g A cap l sk h hl hpk hsk
      rw [show expS l sk = (st', q) from hr] at hcon
      have hle := stepK_le hr hpk hsk
      unfold stepsV
      cases q with
      | none =>
        have HC := Lib.hid (show ∀ w, NB w g A cap l sk → Calls Tryd.prog 145 #[.pointer (some ⟨g, 0, none⟩)] w (fun e w' => e = .returned (.tuple #[]) ∧ NStep w g A cap l st' w') from fun w h => hcon w h)
        have HR := Lib.hid (runK_none (ks := []) hr)
        clear hcon hr
        go_wp2_with (go_at_call 145; refine (HC.out _ hst).mono ?_; rintro e w2 ⟨rfl, hw2⟩)
        go_roundw
        case rel =>
          exact ⟨4, by omega, rfl, trivial, st', hle.1, hle.2, HK.out.symm ▸ HR.out.symm, hw2.1, b0.grown hw2.2 hg0, b1.grown hw2.2 hg1, gb_trans hgr hw2.2⟩
        case measure => simp [intOf]
      | some p =>
        have HC := Lib.hid (show ∀ w, NB w g A cap l sk → Calls Tryd.prog 145 #[.pointer (some ⟨g, 0, none⟩)] w (fun e w' => e = .panicked [{ v := .iface 165 (.int .i64 p), recovered := false }] ∧ NStep w g A cap l st' w') from fun w h => hcon w h)
        have HR := Lib.hid (runK_some (ks := []) hr)
        clear hcon hr
        go_wp2_with (go_at_call 145; refine (HC.out _ hst).mono ?_; rintro e w2 ⟨rfl, hw2⟩)
        have c0 := b0.grown hw2.2 hg0
        have c1 := b1.grown hw2.2 hg1
        refine leaves_cons (f := 128) (args := #[.pointer (some ⟨w.heap.size, 0, none⟩), .pointer (some ⟨w.heap.size + 1, 0, none⟩)]) (by simp) (by simp [go_sem]) ?_
        refine (catch_wrong w.heap.size (w.heap.size + 1) p _ _ w2 (by omega) (c0.cell 0) (c0.frozen 0) (c1.cell 0) (c1.frozen 0)).mono ?_
        rintro e u' w3 ⟨rfl, rfl, rfl⟩
        obtain ⟨r0, r1, hfin⟩ := laid_two w g A cap l st' p 7 hlt w2 hw2.1 c0 c1 (gb_trans hgr hw2.2)
        refine ⟨.tuple #[.int .i64 p, .int .i64 7], ?_, ?_⟩
        · simp only [results, Tryd.results113]
          go_simp
        · rw [ReadsPost, show numRun l st = (st', some p) from (by rw [← HK.out]; exact HR.out)]
          exact ⟨rfl, hfin⟩
    · have hNn := HK.out
      obtain ⟨hc2, hf2, _⟩ := hst.1.rules
      obtain ⟨d0, f0, _⟩ := b0.rules
      obtain ⟨d1, f1, _⟩ := b1.rules
      unfold numCells at hc2
      go_wp2
      obtain ⟨r0, r1, hfin⟩ := laid_two w g A cap l sk sk.pos 0 hlt wr hst b0 b1 hgr
      refine leaves_cons (f := 128) (args := #[.pointer (some ⟨w.heap.size, 0, none⟩), .pointer (some ⟨w.heap.size + 1, 0, none⟩)]) (by simp) (by simp [go_sem]) ?_
      refine (catch_idle ⟨w.heap.size, 0, none⟩ ⟨w.heap.size + 1, 0, none⟩ _).mono ?_
      rintro e u' w3 ⟨rfl, rfl, rfl⟩
      refine ⟨.tuple #[.int .i64 sk.pos, .int .i64 0], ?_, ?_⟩
      · simp only [results, Tryd.results113]
        go_simp
      · rw [ReadsPost, show numRun l st = (sk, none) from hNn.symm]
        exact ⟨rfl, hfin⟩
end Go.Proofs.YtalhoacancbldaaDoor

/- The walk of numeral.Read. -/
namespace Go.Proofs.YtalhoacancbldaaDoor
set_option linter.unusedVariables false
set_option linter.unusedSimpArgs false
open Go.RowKit
attribute [local go_sem] run_index_arr run_part_agg run_part_one run_field_agg

def numStart (a : Nat) : NSt := { pos := a, minus := false, size := 0, over := false, part := false }
/-- the greatest size that a numeral may have -/
def numBig (minus : Bool) : Nat := if minus then 9223372036854775808 else 9223372036854775807
def numEnd (st : NSt) (a : Int) : Int × Int × Int :=
  if (st.part || st.over || decide (numBig st.minus < st.size)) = true then (0, a, 130) else ((if st.minus then -(st.size : Int) else st.size), st.pos, 0)
/-- what numeral.Read answers: the number, the place, the error -/
def numRead (l : List UInt8) (a : Int) : Int × Int × Int :=
  if a < 0 ∨ (l.length : Int) < a then (0, 0, 2) else
  match numRun l (numStart a.toNat) with
  | (_, some p) => (0, p, 7)
  | (st, none) => numEnd st a

theorem runK_size {l : List UInt8} : ∀ {ks : List Nat} {st st' : NSt} {q : Option Nat}, runK l ks st = (st', q) → st.pos ≤ l.length → st.size < 18446744073709551616 → st'.size < 18446744073709551616
  | [], st, st', q, h, _, hs => by
    simp only [runK, Prod.mk.injEq] at h
    rw [← h.1]; exact hs
  | k :: ks, st, st', q, h, hp, hs => by
    obtain ⟨⟨s1, r⟩, hr⟩ : ∃ r, stepK k l st = r := ⟨_, rfl⟩
    have hle := stepK_le hr hp hs
    cases r with
    | none => rw [runK_none hr] at h; exact runK_size h hle.1 hle.2
    | some p =>
      rw [runK_some hr] at h
      simp only [Prod.mk.injEq] at h
      rw [← h.1]; exact hle.2
theorem neg_wrap {k : Nat} (h : k ≤ 9223372036854775808) : wrap64 (IntKind.u64.wrap (-(k : Int))) = -(k : Int) := by
  unfold wrap64; rw [IntKind.wrap_u64]; omega
theorem pos_wrap {k : Nat} (h : k ≤ 9223372036854775807) : wrap64 (k : Int) = (k : Int) := by
  unfold wrap64; omega
def NumPost (r : Int × Int × Int) (w : World) (e : Ending) (w' : World) : Prop :=
  e = .returned (.tuple #[.int .i64 r.1, .int .i64 r.2.1, .int .i64 r.2.2]) ∧ Below w.heap.size w w'

set_option maxRecDepth 100000 in
set_option maxHeartbeats 4000000 in
theorem numRead_any (w : World) (v : Value) (l : List UInt8) (a : Int) (hv : BS w v l) (hl : l.length ≤ 1048576) :
    Calls Tryd.prog 89 #[v, .int .i64 a] w (NumPost (numRead l a) w) := by
  obtain ⟨A, cap, rfl, hcap, hr⟩ := hv
  by_cases h0 : a < 0
  · unfold numRead
    rw [if_pos (.inl h0)]
    go_enter Tryd.func89, Tryd.ntmps89
    go_wp2
    go_returns
    exact ⟨rfl, by go_grown⟩
  · obtain ⟨n, rfl⟩ : ∃ n : Nat, a = n := ⟨a.toNat, by omega⟩
    by_cases h1 : (l.length : Int) < (n : Int)
    · unfold numRead
      rw [if_pos (.inr h1)]
      clear h0
      go_enter Tryd.func89, Tryd.ntmps89
      go_wp2
      go_returns
      exact ⟨rfl, by go_grown⟩
    · unfold numRead
      rw [if_neg (by omega), Int.toNat_natCast]
      clear h0
      have hreads := fun (w1 : World) h => reads_any w1 w.heap.size A cap l (numStart n) h hl (by show n ≤ _; omega) (by show 0 < _; omega)
      obtain ⟨⟨st, q⟩, hq⟩ : ∃ r, numRun l (numStart n) = r := ⟨_, rfl⟩
      rw [hq] at hreads ⊢
      have hNB : NB (w.alloc (.cells (numCells A l.length cap (numStart n)) 144)) w.heap.size A cap l (numStart n) := ⟨Blk.new _ _ _, hr.alloc _⟩
      unfold numCells numStart at hNB
      have HNB := Lib.hid hNB
      clear hNB
      cases q with
      | some p =>
        have HR := Lib.hid (show ∀ w1, NB w1 w.heap.size A cap l (numStart n) → Calls Tryd.prog 113 #[.pointer (some ⟨w.heap.size, 0, none⟩)] w1 (fun e w' => e = .returned (.tuple #[.int .i64 p, .int .i64 7]) ∧ NStep w1 w.heap.size A cap l st w') from hreads)
        clear hreads hq
        go_enter Tryd.func89, Tryd.ntmps89
        go_wp2_with (go_at_call 113; refine (HR.out _ HNB.out).mono ?_; rintro e w1 ⟨rfl, hw1⟩)
        go_returns
        exact ⟨rfl, ((Below.refl w.heap.size w).alloc (Nat.le_refl _) _).grown hw1.2 (by simp) (by simp)⟩
      | none =>
        have HR := Lib.hid (show ∀ w1, NB w1 w.heap.size A cap l (numStart n) → Calls Tryd.prog 113 #[.pointer (some ⟨w.heap.size, 0, none⟩)] w1 (fun e w' => e = .returned (.tuple #[.int .i64 st.pos, .int .i64 0]) ∧ NStep w1 w.heap.size A cap l st w') from hreads)
        clear hreads
        have hsz : st.size < 18446744073709551616 := runK_size hq (by show n ≤ _; omega) (by show 0 < _; omega)
        clear hq
        obtain ⟨pos, minus, size, over, part⟩ := st
        cases minus <;> cases part <;> cases over
        · by_cases hb : size ≤ 9223372036854775807
          · have hwr := pos_wrap hb
            go_enter Tryd.func89, Tryd.ntmps89
            go_wp2_with (go_at_call 113; refine (HR.out _ HNB.out).mono ?_; rintro e w1 ⟨rfl, hw1⟩; obtain ⟨hc, _, _⟩ := hw1.1.1.rules; unfold numCells at hc)
            go_returns
            refine ⟨?_, ((Below.refl w.heap.size w).alloc (Nat.le_refl _) _).grown hw1.2 (by simp) (by simp)⟩
            rw [show numEnd { pos := pos, minus := false, size := size, over := false, part := false } (n : Int) = ((size : Int), (pos : Int), 0) from by simp [numEnd, numBig]; omega]
            rfl
          · skip
            go_enter Tryd.func89, Tryd.ntmps89
            go_wp2_with (go_at_call 113; refine (HR.out _ HNB.out).mono ?_; rintro e w1 ⟨rfl, hw1⟩; obtain ⟨hc, _, _⟩ := hw1.1.1.rules; unfold numCells at hc)
            go_returns
            refine ⟨?_, ((Below.refl w.heap.size w).alloc (Nat.le_refl _) _).grown hw1.2 (by simp) (by simp)⟩
            rw [show numEnd { pos := pos, minus := false, size := size, over := false, part := false } (n : Int) = (0, (n : Int), 130) from by simp [numEnd, numBig]; omega]
            rfl
        · skip
          go_enter Tryd.func89, Tryd.ntmps89
          go_wp2_with (go_at_call 113; refine (HR.out _ HNB.out).mono ?_; rintro e w1 ⟨rfl, hw1⟩; obtain ⟨hc, _, _⟩ := hw1.1.1.rules; unfold numCells at hc)
          go_returns
          refine ⟨?_, ((Below.refl w.heap.size w).alloc (Nat.le_refl _) _).grown hw1.2 (by simp) (by simp)⟩
          rw [show numEnd { pos := pos, minus := false, size := size, over := true, part := false } (n : Int) = (0, (n : Int), 130) from by simp [numEnd, numBig]]
          rfl
        · skip
          go_enter Tryd.func89, Tryd.ntmps89
          go_wp2_with (go_at_call 113; refine (HR.out _ HNB.out).mono ?_; rintro e w1 ⟨rfl, hw1⟩; obtain ⟨hc, _, _⟩ := hw1.1.1.rules; unfold numCells at hc)
          go_returns
          refine ⟨?_, ((Below.refl w.heap.size w).alloc (Nat.le_refl _) _).grown hw1.2 (by simp) (by simp)⟩
          rw [show numEnd { pos := pos, minus := false, size := size, over := false, part := true } (n : Int) = (0, (n : Int), 130) from by simp [numEnd, numBig]]
          rfl
        · skip
          go_enter Tryd.func89, Tryd.ntmps89
          go_wp2_with (go_at_call 113; refine (HR.out _ HNB.out).mono ?_; rintro e w1 ⟨rfl, hw1⟩; obtain ⟨hc, _, _⟩ := hw1.1.1.rules; unfold numCells at hc)
          go_returns
          refine ⟨?_, ((Below.refl w.heap.size w).alloc (Nat.le_refl _) _).grown hw1.2 (by simp) (by simp)⟩
          rw [show numEnd { pos := pos, minus := false, size := size, over := true, part := true } (n : Int) = (0, (n : Int), 130) from by simp [numEnd, numBig]]
          rfl
        · by_cases hb : size ≤ 9223372036854775808
          · have hwr := neg_wrap hb
            go_enter Tryd.func89, Tryd.ntmps89
            go_wp2_with (go_at_call 113; refine (HR.out _ HNB.out).mono ?_; rintro e w1 ⟨rfl, hw1⟩; obtain ⟨hc, _, _⟩ := hw1.1.1.rules; unfold numCells at hc)
            go_returns
            refine ⟨?_, ((Below.refl w.heap.size w).alloc (Nat.le_refl _) _).grown hw1.2 (by simp) (by simp)⟩
            rw [show numEnd { pos := pos, minus := true, size := size, over := false, part := false } (n : Int) = (-(size : Int), (pos : Int), 0) from by simp [numEnd, numBig]; omega]
            show Ending.returned (.tuple #[.int .i64 (wrap64 (IntKind.u64.wrap (-(size : Int)))), _, _]) = _
            rw [hwr]
            rfl
          · skip
            go_enter Tryd.func89, Tryd.ntmps89
            go_wp2_with (go_at_call 113; refine (HR.out _ HNB.out).mono ?_; rintro e w1 ⟨rfl, hw1⟩; obtain ⟨hc, _, _⟩ := hw1.1.1.rules; unfold numCells at hc)
            go_returns
            refine ⟨?_, ((Below.refl w.heap.size w).alloc (Nat.le_refl _) _).grown hw1.2 (by simp) (by simp)⟩
            rw [show numEnd { pos := pos, minus := true, size := size, over := false, part := false } (n : Int) = (0, (n : Int), 130) from by simp [numEnd, numBig]; omega]
            rfl
        · skip
          go_enter Tryd.func89, Tryd.ntmps89
          go_wp2_with (go_at_call 113; refine (HR.out _ HNB.out).mono ?_; rintro e w1 ⟨rfl, hw1⟩; obtain ⟨hc, _, _⟩ := hw1.1.1.rules; unfold numCells at hc)
          go_returns
          refine ⟨?_, ((Below.refl w.heap.size w).alloc (Nat.le_refl _) _).grown hw1.2 (by simp) (by simp)⟩
          rw [show numEnd { pos := pos, minus := true, size := size, over := true, part := false } (n : Int) = (0, (n : Int), 130) from by simp [numEnd, numBig]]
          rfl
        · skip
          go_enter Tryd.func89, Tryd.ntmps89
          go_wp2_with (go_at_call 113; refine (HR.out _ HNB.out).mono ?_; rintro e w1 ⟨rfl, hw1⟩; obtain ⟨hc, _, _⟩ := hw1.1.1.rules; unfold numCells at hc)
          go_returns
          refine ⟨?_, ((Below.refl w.heap.size w).alloc (Nat.le_refl _) _).grown hw1.2 (by simp) (by simp)⟩
          rw [show numEnd { pos := pos, minus := true, size := size, over := false, part := true } (n : Int) = (0, (n : Int), 130) from by simp [numEnd, numBig]]
          rfl
        · skip
          go_enter Tryd.func89, Tryd.ntmps89
          go_wp2_with (go_at_call 113; refine (HR.out _ HNB.out).mono ?_; rintro e w1 ⟨rfl, hw1⟩; obtain ⟨hc, _, _⟩ := hw1.1.1.rules; unfold numCells at hc)
          go_returns
          refine ⟨?_, ((Below.refl w.heap.size w).alloc (Nat.le_refl _) _).grown hw1.2 (by simp) (by simp)⟩
          rw [show numEnd { pos := pos, minus := true, size := size, over := true, part := true } (n : Int) = (0, (n : Int), 130) from by simp [numEnd, numBig]]
          rfl
end Go.Proofs.YtalhoacancbldaaDoor
