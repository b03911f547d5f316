/- The walks of package parse: fails, next, begins. -/
import Derived.Test.YtalhoacancbldaaDoorVal
namespace Go.Proofs.YtalhoacancbldaaDoor
set_option linter.unusedVariables false
set_option linter.unusedSimpArgs false
open Go.RowKit
attribute [local go_sem] run_index_arr run_part_agg run_part_one run_field_agg

/-- the cells of a parser -/
def pCells (A : Option Addr) (n cap : Nat) (p many : Int) (ov t0 t1 t2 t3 t4 : Value) (why : Int) : Array Value := #[.int .i64 p, .slice A n cap, .int .i64 many, ov, t0, t1, t2, t3, t4, .int .i64 why]
/-- a parser stands at g, in a world w that but for the parser is left as it is -/
structure PB (w W : World) (g : Nat) (A : Option Addr) (cap : Nat) (l : List UInt8) (p many : Int) (ov t0 t1 t2 t3 t4 : Value) (why : Int) : Prop where
  bel : w.grownBy W (some g)
  hg : g < w.heap.size
  gne : (0 : Nat) ≠ g
  rd : RdF w (fun b => b ≠ g) A (byteV l)
  blk : Blk W g 82 (pCells A l.length cap p many ov t0 t1 t2 t3 t4 why)
theorem gb_own {w W W' : World} {row row' : Option Nat} (h : w.grownBy W row) (h' : W.grownBy W' row') (hr : ∀ k, row' = some k → w.heap.size ≤ k) : w.grownBy W' row :=
  ⟨h'.os.trans h.os, h'.tape.trans h.tape, h'.output.trans h.output, Nat.le_trans h.size h'.size, fun k hk hne =>
    (h'.block k (Nat.lt_of_lt_of_le hk h.size) (fun e => by have := hr k e.symm; omega)).trans (h.block k hk hne)⟩
section
variable {w W W' : World} {g cap : Nat} {A : Option Addr} {l : List UInt8} {p many why : Int} {ov t0 t1 t2 t3 t4 : Value}
theorem PB.drewN (h : PB w W g A cap l p many ov t0 t1 t2 t3 t4 why) (k : Nat) : PB w (W.drewN k) g A cap l p many ov t0 t1 t2 t3 t4 why := ⟨gb_drewN h.bel k, h.hg, h.gne, h.rd, h.blk.drewN k⟩
theorem PB.keep (h : PB w W g A cap l p many ov t0 t1 t2 t3 t4 why) (hb : Below W.heap.size W W') : PB w W' g A cap l p many ov t0 t1 t2 t3 t4 why := ⟨gb_trans h.bel (gbBel hb _), h.hg, h.gne, h.rd, h.blk.keep hb⟩
theorem PB.set0 (h : PB w W g A cap l p many ov t0 t1 t2 t3 t4 why) (q : Int) : PB w (W.setCell ⟨g, 0, none⟩ (.int .i64 q)) g A cap l q many ov t0 t1 t2 t3 t4 why := ⟨gb_setCell h.bel _ _, h.hg, h.gne, h.rd, h.blk.set_ 0 _⟩
theorem PB.set2 (h : PB w W g A cap l p many ov t0 t1 t2 t3 t4 why) (q : Int) : PB w (W.setCell ⟨g, 2, none⟩ (.int .i64 q)) g A cap l p q ov t0 t1 t2 t3 t4 why := ⟨gb_setCell h.bel _ _, h.hg, h.gne, h.rd, h.blk.set_ 2 _⟩
theorem PB.set3 (h : PB w W g A cap l p many ov t0 t1 t2 t3 t4 why) (u : Value) : PB w (W.setCell ⟨g, 3, none⟩ u) g A cap l p many u t0 t1 t2 t3 t4 why := ⟨gb_setCell h.bel _ _, h.hg, h.gne, h.rd, h.blk.set_ 3 _⟩
theorem PB.set9 (h : PB w W g A cap l p many ov t0 t1 t2 t3 t4 why) (q : Int) : PB w (W.setCell ⟨g, 9, none⟩ (.int .i64 q)) g A cap l p many ov t0 t1 t2 t3 t4 q := ⟨gb_setCell h.bel _ _, h.hg, h.gne, h.rd, h.blk.set_ 9 _⟩
theorem PB.row (h : PB w W g A cap l p many ov t0 t1 t2 t3 t4 why) : Rd W A (byteV l) := (h.rd.keep (KeepF.of_grown h.bel (fun b hf e => hf (by simpa using e)))).rd
theorem PB.bs (h : PB w W g A cap l p many ov t0 t1 t2 t3 t4 why) (hc : l.length ≤ cap) : BS W (.slice A l.length cap) l := ⟨A, cap, rfl, hc, h.row⟩
theorem PB.gok (h : PB w W g A cap l p many ov t0 t1 t2 t3 t4 why) (hG : GOK w) : GOK W := by
  have hb := h.bel.block 0 hG.lt (fun e => h.gne (by simpa using e))
  exact ⟨Nat.lt_of_lt_of_le hG.lt h.bel.size, (World.cell?_of_block (a := ⟨0, 0, none⟩) hb).trans hG.c0, (World.cell?_of_block (a := ⟨0, 1, none⟩) hb).trans hG.c1⟩
end
set_option maxRecDepth 100000 in
set_option maxHeartbeats 1000000 in
theorem pFails_any (w W : World) (g : Nat) (A : Option Addr) (cap : Nat) (l : List UInt8) (p many why q e : Int) (ov t0 t1 t2 t3 t4 : Value) (hV : PB w W g A cap l p many ov t0 t1 t2 t3 t4 why) :
    Calls Tryd.prog 53 #[.pointer (some ⟨g, 0, none⟩), .int .i64 q, .int .i64 e] W fun x W' => x = .returned (.int .i64 6) ∧ PB w W' g A cap l (failF l q e).1 many ov t0 t1 t2 t3 t4 (failF l q e).2 ∧ W.grownBy W' (some g) := by
  obtain ⟨hc, hf, hlt⟩ := hV.blk.rules
  have HV := Lib.hid hV
  clear hV
  unfold pCells at hc
  by_cases h7 : e = 7
  · subst h7
    by_cases hq : (l.length : Int) ≤ q
    · have HF := Lib.hid (show failF l q 7 = (q, 6) by unfold failF; rw [if_pos ⟨rfl, hq⟩])
      go_enter Tryd.func53, Tryd.ntmps53
      go_wp2
      go_ret
      rw [HF.out]
      exact ⟨rfl, (HV.out.set0 q).set9 6, gb_setCell (gb_setCell (gb_refl _ _) _ _) _ _⟩
    · have HF := Lib.hid (show failF l q 7 = (q, 7) by unfold failF; rw [if_neg (fun h => hq h.2)])
      go_enter Tryd.func53, Tryd.ntmps53
      go_wp2
      go_ret
      rw [HF.out]
      exact ⟨rfl, (HV.out.set0 q).set9 7, gb_setCell (gb_setCell (gb_refl _ _) _ _) _ _⟩
  · have HF := Lib.hid (show failF l q e = (q, e) by unfold failF; rw [if_neg (fun h => h7 h.1)])
    have h7' : (e == 7) = false := by simpa using h7
    go_enter Tryd.func53, Tryd.ntmps53
    go_wp2
    go_ret
    rw [HF.out]
    exact ⟨rfl, (HV.out.set0 q).set9 e, gb_setCell (gb_setCell (gb_refl _ _) _ _) _ _⟩

/-- the byte at a place; 0: there is none -/
def byteAt (l : List UInt8) (q : Nat) : Int := match l[q]? with | some c => c.toNat | none => 0
set_option maxRecDepth 100000 in
set_option maxHeartbeats 2000000 in
theorem pNext_any (w W : World) (g : Nat) (A : Option Addr) (cap : Nat) (l : List UInt8) (p : Nat) (many why : Int) (ov t0 t1 t2 t3 t4 : Value) (hV : PB w W g A cap l p many ov t0 t1 t2 t3 t4 why)
    (hp : p ≤ l.length) (hcap : l.length ≤ cap) (hlen : l.length ≤ 1048576) :
    Calls Tryd.prog 52 #[.pointer (some ⟨g, 0, none⟩)] W fun x W' => x = .returned (.int .u8 (byteAt l (skipB l p))) ∧ PB w W' g A cap l (skipB l p) many ov t0 t1 t2 t3 t4 why ∧ W.grownBy W' (some g) := by
  have HV := Lib.hid hV
  clear hV
  go_enter Tryd.func52, Tryd.ntmps52
  go_wp2
  go_loopg [2] (l.length - p) (fun gk _ wr => ∃ k : Nat, k ≤ l.length ∧ gk = l.length - k ∧ Hid (skipB l p = skipB l k) ∧ PB w wr g A cap l k many ov t0 t1 t2 t3 t4 why ∧ W.grownBy wr (some g))
  case atStart => exact ⟨p, hp, rfl, Lib.hid rfl, HV.out, gb_refl _ _⟩
  case round =>
    obtain ⟨k, hk, hgk, HS, hst, hgb⟩ := hrel
    obtain ⟨hc, hf, hlt⟩ := hst.blk.rules
    unfold pCells at hc
    have HG := Lib.hid hgk
    clear hgk
    by_cases hkl : k < l.length
    · obtain ⟨c, hcc⟩ : ∃ c, l[k]? = some c := ⟨_, List.getElem?_eq_getElem hkl⟩
      have hrow := hst.row
      obtain ⟨b, o, rfl, hb⟩ := hrow.some_ (by omega)
      have hx := BS.at_ (n := 0) (cap := 0) hrow hcc
      have HC := Lib.hid hcc
      clear hcc hrow
      cases hbk : isBlankB c with
      | true =>
        have HN := Lib.hid (skipB_step HC.out hbk)
        unfold isBlankB at hbk
        have hq : c.toNat = 9 ∨ c.toNat = 10 ∨ c.toNat = 13 ∨ c.toNat = 32 := by simpa using hbk
        clear hbk
        rcases hq with hq | hq | hq | hq
        all_goals
          rw [hq] at hx
          clear hq
          go_wp2
          go_quiet (fail)
          go_wp2
          go_quiet (fail)
          go_wp2
          go_roundg (l.length - (k + 1))
          case measure => rw [HG.out]; omega
          case rel => exact ⟨k + 1, hkl, rfl, Lib.hid (HS.out.trans HN.out), (hst.drewN _).set0 _, gb_setCell (gb_drewN hgb _) _ _⟩
      | false =>
        have HN := Lib.hid (skipB_stop HC.out hbk)
        unfold isBlankB at hbk
        have hq : ¬ (c.toNat = 9 ∨ c.toNat = 10 ∨ c.toNat = 13 ∨ c.toNat = 32) := by simpa using hbk
        clear hbk
        have q1 : ((c.toNat : Int) == 9) = false := by simp; omega
        have q2 : ((c.toNat : Int) == 10) = false := by simp; omega
        have q3 : ((c.toNat : Int) == 13) = false := by simp; omega
        have q4 : ((c.toNat : Int) == 32) = false := by simp; omega
        clear hq
        go_wp2
        go_quiet (fail)
        go_wp2
        go_quiet (fail)
        go_wp2
        go_ret
        refine ⟨?_, ?_, gb_drewN hgb _⟩
        · rw [HS.out, HN.out, byteAt, HC.out]; rfl
        · rw [HS.out, HN.out]; exact hst.drewN _
    · have HN := Lib.hid (skipB_end (l := l) (p := k) (by omega))
      obtain rfl : k = l.length := by omega
      clear hkl
      go_wp2
      go_quiet (fail)
      go_wp2
      go_ret
      refine ⟨?_, ?_, gb_drewN hgb _⟩
      · rw [HS.out, HN.out, byteAt, List.getElem?_eq_none (Nat.le_refl _)]; rfl
      · rw [HS.out, HN.out]; exact hst.drewN _

set_option maxRecDepth 100000 in
set_option maxHeartbeats 1000000 in
theorem pBegins_any (c : UInt8) (w : World) : Calls Tryd.prog 121 #[.int .u8 c.toNat] w fun e w' => e = .returned (.bool (beginsB c)) ∧ w = w' := by
  have hc := c.toNat_lt
  obtain ⟨n, hn⟩ : ∃ n, c.toNat = n := ⟨_, rfl⟩
  have HB := Lib.hid (show beginsB c = decide (n = 34 ∨ n = 91 ∨ n = 123 ∨ n = 45 ∨ n = 110 ∨ n = 116 ∨ n = 102 ∨ (48 ≤ n ∧ n ≤ 57)) by rw [beginsB, hn])
  rw [hn] at hc ⊢
  clear hn
  have hd : ∀ k : Int, ((n : Int) == k) = decide ((n : Int) = k) := fun k => by rfl
  by_cases h1 : n = 34 ∨ n = 91 ∨ n = 123 ∨ n = 45 ∨ n = 110 ∨ n = 116 ∨ n = 102
  · rcases h1 with rfl | rfl | rfl | rfl | rfl | rfl | rfl
    all_goals
      go_enter Tryd.func121, Tryd.ntmps121
      go_wp2
      go_ret
      exact ⟨ret_bool (by rw [HB.out]; decide), rfl⟩
  · have q1 : ((n : Int) == 34) = false := by simp; omega
    have q2 : ((n : Int) == 91) = false := by simp; omega
    have q3 : ((n : Int) == 123) = false := by simp; omega
    have q4 : ((n : Int) == 45) = false := by simp; omega
    have q5 : ((n : Int) == 110) = false := by simp; omega
    have q6 : ((n : Int) == 116) = false := by simp; omega
    have q7 : ((n : Int) == 102) = false := by simp; omega
    clear hd
    by_cases h2 : 48 ≤ n
    · by_cases h3 : n ≤ 57
      · have HT := Lib.hid (show beginsB c = true by rw [HB.out]; simp; omega)
        clear h1
        go_enter Tryd.func121, Tryd.ntmps121
        go_wp2
        go_ret
        exact ⟨ret_bool (by rw [HT.out]; try (simp; omega)), rfl⟩
      · have HT := Lib.hid (show beginsB c = false by rw [HB.out]; simp; omega)
        clear h1
        go_enter Tryd.func121, Tryd.ntmps121
        go_wp2
        go_ret
        exact ⟨ret_bool (by rw [HT.out]; try (simp; omega)), rfl⟩
    · have HT := Lib.hid (show beginsB c = false by rw [HB.out]; simp; omega)
      clear h1
      go_enter Tryd.func121, Tryd.ntmps121
      go_wp2
      go_ret
      exact ⟨ret_bool (by rw [HT.out]; try (simp; omega)), rfl⟩
end Go.Proofs.YtalhoacancbldaaDoor
