/- The iterator quote.signs: its walk, and what it owes and gives. -/
import Derived.Test.YtalhoacancbldaaDoorQuote5
import Derived.Test.YtalhoacancbldaaDoorNum
import Derived.Sort.LoopGhostIn
namespace Go.Proofs.YtalhoacancbldaaDoor
set_option linter.unusedVariables false
set_option linter.unusedSimpArgs false
open Go.RowKit Go.Shelf
attribute [local go_sem] run_index_arr run_part_agg run_part_one run_field_agg Oper.semAt_some

theorem GOK.keepOn {S : Nat → Prop} {w W : World} (h : GOK w) (k : KeepOn S w W) (hS : ∀ i, i < w.heap.size → S i) : GOK W :=
  ⟨Nat.lt_of_lt_of_le h.lt k.1, by rw [← h.c0]; exact World.cell?_of_block (w := w) (k.2 _ (hS _ h.lt)), by rw [← h.c1]; exact World.cell?_of_block (w := w) (k.2 _ (hS _ h.lt))⟩
theorem Rd.keepOn {S : Nat → Prop} {w W : World} {A : Option Addr} {xs : List Value} (h : Rd w A xs) (k : KeepOn S w W) (hS : ∀ i, i < w.heap.size → S i) : Rd W A xs := fun hn => by
  obtain ⟨b, o, e, hb, hx⟩ := h hn
  exact ⟨b, o, e, Nat.lt_of_lt_of_le hb k.1, fun i hi => by rw [← hx i hi]; exact World.cell?_of_block (w := w) (k.2 _ (hS _ hb))⟩

/-- quote.signs(one, at, end): the three are boxed -/
theorem signs_any (fn : Fn) (first cap : Array Value) (at_ end_ : Int) (w : World) :
    Calls Tryd.prog 114 #[.func fn first cap, .int .i64 at_, .int .i64 end_] w fun e w' => e = .returned (.func (.func 130) #[] #[.pointer (some ⟨w.heap.size + 1, 0, none⟩), .pointer (some ⟨w.heap.size + 2, 0, none⟩), .pointer (some ⟨w.heap.size, 0, none⟩)]) ∧
      ((w.alloc (.cells #[.func fn first cap] 150)).alloc (.cells #[.int .i64 at_] 3)).alloc (.cells #[.int .i64 end_] 3) = w' := by
  have hmf : ∀ (fn : Fn) (first cap : Array Value) (w : World), (Instr.makeFunc fn first cap).run Tryd.prog w = .ok (.func fn first cap) w := fun _ _ _ _ => rfl
  go_enter Tryd.func114, Tryd.ntmps114
  go_wp2
  go_ret
  exact ⟨rfl, rfl⟩

def oneV (A : Option Addr) (n cap : Nat) : Value := .func (.func 115) #[.agg #[.slice A n cap]] #[]
/-- the iterator's own steps: its place turns; what is new -/
def StS (Ba : Nat) (A B : World) : Prop := World.grownBy A B (some Ba) ∧ ∀ q : Int, Blk A Ba 3 #[.int .i64 q] → ∃ q' : Int, Blk B Ba 3 #[.int .i64 q']
theorem StS.of_below {Ba : Nat} {A B : World} (h : Below A.heap.size A B) : StS Ba A B := ⟨⟨h.os, h.tape, h.output, h.size, fun i hi _ => h.block i hi⟩, fun q hb => ⟨q, hb.keep h⟩⟩
def KpS (B0 Ba Be Bo : Nat) : World → World → Prop := KeepOn fun k => k < B0 ∨ k = Ba ∨ k = Be ∨ k = Bo

set_option maxRecDepth 100000 in
set_option maxHeartbeats 4000000 in
theorem signs1_any (w0 : World) (Ba Be Bo : Nat) (A : Option Addr) (cap : Nat) (l : List UInt8) (a : Nat) (k : Nat) (J Jx : List (Int × Int) → World → Prop) (W : World) (hG : GOK w0) (hr : Rd w0 A (byteV l)) (hcap : l.length ≤ cap) (hlen : l.length ≤ 1048576)
    (ha0 : a ≤ l.length) (hae : Ba ≠ Be) (hao : Ba ≠ Bo) (hB : w0.heap.size ≤ Ba) (hW : KeepOn (· < w0.heap.size) w0 W)
    (hJ : ∀ s A B, StS Ba A B → J s A → J s B)
    (hY : ∀ pre x W1, J pre W1 → pre ++ [x] <+: signsL l a → YieldAt Fence.wide 1 Tryd.prog k #[.int .i64 x.1, .int .i64 x.2] W1 fun e W' =>
      (e = .returned (.bool true) ∧ J (pre ++ [x]) W' ∧ KpS w0.heap.size Ba Be Bo W1 W') ∨ (e = .returned (.bool false) ∧ Jx (pre ++ [x]) W' ∧ KpS w0.heap.size Ba Be Bo W1 W'))
    (hba : Blk W Ba 3 #[.int .i64 a]) (hbe : Blk W Be 3 #[.int .i64 l.length]) (hbo : Blk W Bo 150 #[oneV A l.length cap]) (h0 : J [] W) :
    CallsIn Fence.wide 2 Tryd.prog 130 #[.func (.yield k) #[] #[], .pointer (some ⟨Ba, 0, none⟩), .pointer (some ⟨Be, 0, none⟩), .pointer (some ⟨Bo, 0, none⟩)] W fun e W' => (∃ v, e = .returned v) ∧
      ((∃ xs, xs = signsL l a ∧ J xs W') ∨ (∃ pre, pre <+: signsL l a ∧ Jx pre W')) := by
  have HY := Lib.hid hY
  have HJ := Lib.hid hJ
  clear hY hJ
  refine callsIn_of_wp Tryd.func130 rfl trivial ?_ rfl
  simp only [Tryd.ntmps130, List.size_toArray, List.length_cons, List.length_nil, Nat.reduceAdd, Nat.reduceSub, Array.replicate_succ, Array.replicate_zero, List.push_toArray, List.append_toArray, List.nil_append, List.cons_append]
  gi_wp2
  gi_loopg [5] (l.length - a) (fun gk _ wr => ∃ (p : Nat) (pre : List (Int × Int)), p ≤ l.length ∧ gk = l.length - p ∧ signsL l a = pre ++ signsL l p ∧ J pre wr ∧ Blk wr Ba 3 #[.int .i64 p] ∧ Blk wr Be 3 #[.int .i64 l.length] ∧ Blk wr Bo 150 #[oneV A l.length cap] ∧
    KeepOn (· < w0.heap.size) w0 wr)
  case atStart => exact ⟨a, [], ha0, rfl, rfl, h0, hba, hbe, hbo, hW⟩
  case round =>
    obtain ⟨p, pre, hp, hgk, hpre, hJs, ba, be, bo, hK⟩ := hrel
    clear hba hbe hbo h0 hW
    obtain ⟨c1, f1, l1⟩ := ba.rules
    obtain ⟨c2, f2, l2⟩ := be.rules
    obtain ⟨c3, f3, l3⟩ := bo.rules
    by_cases hlt : p < l.length
    · have hs := qsign_any A cap l p wr (hG.keepOn hK (fun i h => h)) (hr.keepOn hK (fun i h => h)) hcap hlen hlt
      obtain ⟨⟨c, n, er⟩, hr⟩ : ∃ r, qsS l p = r := ⟨_, rfl⟩
      rw [hr] at hs
      have HS := Lib.hid hs
      have HR := Lib.hid hr
      have HP := Lib.hid hpre
      have HGK := Lib.hid hgk
      unfold oneV at c3
      clear hs hr hpre hgk
      by_cases he : er = 0
      · subst he
        obtain ⟨c', m, rfl, rfl, hpm, hml, hcl⟩ := qs_ok HR.out hlt
        have HC := Lib.hid (signsL_cons HR.out hlt)
        gi_wp2
        refine ⟨trivial, CallsIn.mono (callsIn_wide.2 HS.out) ?_⟩
        rintro e w1 ⟨rfl, hb1⟩
        have hgb : StS Ba wr w1 := StS.of_below hb1
        have ba1 := ba.keep hb1
        have be1 := be.keep hb1
        have bo1 := bo.keep hb1
        have hK1 := hK.trans (KeepOn.of_below (S := (· < w0.heap.size)) hb1 (fun k hk => Nat.lt_of_lt_of_le hk hK.1))
        obtain ⟨fn, tmps, assign, body, hy, hR⟩ := HY.out pre ((c' : Int), (m : Int)) w1 (HJ.out _ _ _ hgb hJs) (by rw [HP.out, HC.out]; exact ⟨signsL l m, by simp⟩)
        clear hgb hb1 c1 f1 l1 c2 f2 l2 c3 f3 l3
        gi_wp2
        refine hR.mono ?_
        rintro e W3 (⟨rfl, hJ3, hk3⟩ | ⟨rfl, hJx3, hk3⟩)
        · have ba3 := hk3.blk ba1 (.inr (.inl rfl))
          have be3 := hk3.blk be1 (.inr (.inr (.inl rfl)))
          have bo3 := hk3.blk bo1 (.inr (.inr (.inr rfl)))
          have hK3 : KeepOn (· < w0.heap.size) w0 W3 := hK1.trans ⟨hk3.1, fun i hi => hk3.2 i (.inl hi)⟩
          obtain ⟨c4, f4, l4⟩ := ba3.rules
          gi_wp2
          gi_roundg (l.length - m)
          case measure => rw [HGK.out]; omega
          case rel => exact ⟨m, pre ++ [((c' : Int), (m : Int))], hml, rfl, by rw [HP.out, HC.out]; simp, HJ.out _ _ _ ⟨gb_setCell (gb_refl _ _) _ _, fun q h => ⟨m, h.set_ 0 _⟩⟩ hJ3, ba3.set_ 0 _, be3.far (by simpa using hae.symm) _, bo3.far (by simpa using hao.symm) _,
            hK3.trans (KeepOn.of_below (B := w0.heap.size) (((Below.refl w0.heap.size W3).setCell (p := ⟨Ba, 0, none⟩) (by simpa using hB) _)) (fun k h => h))⟩
        · gi_wp2
          refine bodyPost_ret (results_none rfl _ _ _) rfl ?_
          exact ⟨⟨_, rfl⟩, .inr ⟨_, by rw [HP.out, HC.out]; exact ⟨signsL l m, by simp⟩, hJx3⟩⟩
      · have HN := Lib.hid (signsL_nil (l := l) (a := p) (fun _ => by rw [HR.out]; exact he))
        gi_wp2
        refine ⟨trivial, CallsIn.mono (callsIn_wide.2 HS.out) ?_⟩
        rintro e w1 ⟨rfl, hb1⟩
        have he' : (er != 0) = true := by simp; omega
        gi_wp2
        all_goals
          refine ⟨fun _ _ => trivial, ?_⟩
          gi_wp2
          refine bodyPost_ret (results_none rfl _ _ _) rfl ?_
          exact ⟨⟨_, rfl⟩, .inl ⟨_, rfl, by rw [HP.out, HN.out, List.append_nil]; exact HJ.out _ _ _ (StS.of_below hb1) hJs⟩⟩
    · have HN := Lib.hid (signsL_nil (l := l) (a := p) (fun h => absurd h hlt))
      have HP := Lib.hid hpre
      clear hpre hgk
      obtain rfl : p = l.length := by omega
      clear hlt
      gi_wp2
      go_end0
      exact ⟨⟨_, rfl⟩, .inl ⟨_, rfl, by rw [HP.out, HN.out, List.append_nil]; exact hJs⟩⟩

/-- the iterator's contract -/
theorem signs_seq (w0 : World) (Ba Be Bo : Nat) (A : Option Addr) (cap : Nat) (l : List UInt8) (a : Nat) (w : World) (hG : GOK w0) (hr : Rd w0 A (byteV l)) (hcap : l.length ≤ cap) (hlen : l.length ≤ 1048576)
    (ha0 : a ≤ l.length) (hae : Ba ≠ Be) (hao : Ba ≠ Bo) (hB : w0.heap.size ≤ Ba) (hW : KeepOn (· < w0.heap.size) w0 w)
    (hba : Blk w Ba 3 #[.int .i64 a]) (hbe : Blk w Be 3 #[.int .i64 l.length]) (hbo : Blk w Bo 150 #[oneV A l.length cap]) :
    SeqSt Fence.wide 2 Tryd.prog 130 #[.pointer (some ⟨Ba, 0, none⟩), .pointer (some ⟨Be, 0, none⟩), .pointer (some ⟨Bo, 0, none⟩)] (fun x : Int × Int => #[Value.int .i64 x.1, .int .i64 x.2])
      (StS Ba) (KpS w0.heap.size Ba Be Bo) (fun pre x => pre ++ [x] <+: signsL l a) (fun xs _ => xs = signsL l a) (fun pre _ => pre <+: signsL l a) w := by
  intro k J Jx W hW2 hJ _ hY h0
  exact signs1_any w0 Ba Be Bo A cap l a k J Jx W hG hr hcap hlen ha0 hae hao hB (hW.trans (KeepOn.of_below hW2 (fun i hi => Nat.lt_of_lt_of_le hi hW.1))) hJ hY (hba.keep hW2) (hbe.keep hW2) (hbo.keep hW2) h0
end Go.Proofs.YtalhoacancbldaaDoor
