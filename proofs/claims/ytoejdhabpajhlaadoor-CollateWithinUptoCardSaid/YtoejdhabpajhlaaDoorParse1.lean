import Derived.Test.YtoejdhabpajhlaaDoorVal
import Derived.Deep.RegionLawGrows
/- The walks of package parse: fails, next, begins. -/
namespace Go.Proofs.YtoejdhabpajhlaaDoor
set_option linter.unusedVariables false
set_option linter.unusedSimpArgs false
open Go.RowKit
attribute [local go_sem] run_index_arr run_part_agg run_part_one run_field_agg

/-- the cells of a parser -/
def pCells (A : Option Addr) (n cap : Nat) (p many : Int) (ov t0 t1 t2 t3 t4 : Value) (why : Int) : Array Value := #[.int .i64 p, .slice A n cap, .int .i64 many, ov, t0, t1, t2, t3, t4, .int .i64 why]
/-- a parser stands at g, in a world w that but for the parser is left as it is -/
structure PB (w W : World) (g : Nat) (A : Option Addr) (cap : Nat) (l : List UInt8) (p many : Int) (ov t0 t1 t2 t3 t4 : Value) (why : Int) : Prop where
  bel : w.grownBy W (some g)
  hg : g < w.heap.size
  gne : (1 : Nat) ≠ g
  rd : RdF w (fun b => b ≠ g) A (byteV l)
  blk : Blk W g 50 (pCells A l.length cap p many ov t0 t1 t2 t3 t4 why)
theorem gb_own {w W W' : World} {row row' : Option Nat} (h : w.grownBy W row) (h' : W.grownBy W' row') (hr : ∀ k, row' = some k → w.heap.size ≤ k) : w.grownBy W' row :=
  ⟨h'.os.trans h.os, h'.tape.trans h.tape, h'.output.trans h.output, Nat.le_trans h.size h'.size, fun k hk hne =>
    (h'.block k (Nat.lt_of_lt_of_le hk h.size) (fun e => by have := hr k e.symm; omega)).trans (h.block k hk hne)⟩
section
variable {w W W' : World} {g cap : Nat} {A : Option Addr} {l : List UInt8} {p many why : Int} {ov t0 t1 t2 t3 t4 : Value}
theorem PB.drewN (h : PB w W g A cap l p many ov t0 t1 t2 t3 t4 why) (k : Nat) : PB w (W.drewN k) g A cap l p many ov t0 t1 t2 t3 t4 why := ⟨gb_drewN h.bel k, h.hg, h.gne, h.rd, h.blk.drewN k⟩
theorem PB.keep (h : PB w W g A cap l p many ov t0 t1 t2 t3 t4 why) (hb : Below W.heap.size W W') : PB w W' g A cap l p many ov t0 t1 t2 t3 t4 why := ⟨gb_trans h.bel (gbBel hb _), h.hg, h.gne, h.rd, h.blk.keep hb⟩
theorem PB.set0 (h : PB w W g A cap l p many ov t0 t1 t2 t3 t4 why) (q : Int) : PB w (W.setCell ⟨g, 0, none⟩ (.int .i64 q)) g A cap l q many ov t0 t1 t2 t3 t4 why := ⟨gb_setCell h.bel _ _, h.hg, h.gne, h.rd, h.blk.set_ 0 _⟩
theorem PB.set2 (h : PB w W g A cap l p many ov t0 t1 t2 t3 t4 why) (q : Int) : PB w (W.setCell ⟨g, 2, none⟩ (.int .i64 q)) g A cap l p q ov t0 t1 t2 t3 t4 why := ⟨gb_setCell h.bel _ _, h.hg, h.gne, h.rd, h.blk.set_ 2 _⟩
theorem PB.set3 (h : PB w W g A cap l p many ov t0 t1 t2 t3 t4 why) (u : Value) : PB w (W.setCell ⟨g, 3, none⟩ u) g A cap l p many u t0 t1 t2 t3 t4 why := ⟨gb_setCell h.bel _ _, h.hg, h.gne, h.rd, h.blk.set_ 3 _⟩
theorem PB.set9 (h : PB w W g A cap l p many ov t0 t1 t2 t3 t4 why) (q : Int) : PB w (W.setCell ⟨g, 9, none⟩ (.int .i64 q)) g A cap l p many ov t0 t1 t2 t3 t4 q := ⟨gb_setCell h.bel _ _, h.hg, h.gne, h.rd, h.blk.set_ 9 _⟩
theorem PB.row (h : PB w W g A cap l p many ov t0 t1 t2 t3 t4 why) : Rd W A (byteV l) := (h.rd.keep (KeepF.of_grown h.bel (fun b hf e => hf (by simpa using e)))).rd
theorem PB.bs (h : PB w W g A cap l p many ov t0 t1 t2 t3 t4 why) (hc : l.length ≤ cap) : BS W (.slice A l.length cap) l := ⟨A, cap, rfl, hc, h.row⟩
theorem PB.gok (h : PB w W g A cap l p many ov t0 t1 t2 t3 t4 why) (hG : GOK w) : GOK W := by
  have hb := h.bel.block 1 hG.lt (fun e => h.gne (by simpa using e))
  exact ⟨Nat.lt_of_lt_of_le hG.lt h.bel.size, (World.cell?_of_block (a := ⟨1, 0, none⟩) hb).trans hG.c0, (World.cell?_of_block (a := ⟨1, 1, none⟩) hb).trans hG.c1⟩
end
set_option maxRecDepth 100000 in
set_option maxHeartbeats 1000000 in
theorem pFails_any (w W : World) (g : Nat) (A : Option Addr) (cap : Nat) (l : List UInt8) (p many why q e : Int) (ov t0 t1 t2 t3 t4 : Value) (hV : PB w W g A cap l p many ov t0 t1 t2 t3 t4 why) :
    Calls Tryd.prog 23 #[.pointer (some ⟨g, 0, none⟩), .int .i64 q, .int .i64 e] W fun x W' => x = .returned (.int .i64 6) ∧ PB w W' g A cap l (failF l q e).1 many ov t0 t1 t2 t3 t4 (failF l q e).2 ∧ W.grownBy W' (some g) := by
  obtain ⟨hc, hf, hlt⟩ := hV.blk.rules
  have HV := Lib.hid hV
  clear hV
  unfold pCells at hc
  by_cases h7 : e = 7
  · subst h7
    by_cases hq : (l.length : Int) ≤ q
    · have HF := Lib.hid (show failF l q 7 = (q, 6) by unfold failF; rw [if_pos ⟨rfl, hq⟩])
      go_enter Tryd.func23, Tryd.ntmps23
      go_wp2
      go_ret
      rw [HF.out]
      exact ⟨rfl, (HV.out.set0 q).set9 6, gb_setCell (gb_setCell (gb_refl _ _) _ _) _ _⟩
    · have HF := Lib.hid (show failF l q 7 = (q, 7) by unfold failF; rw [if_neg (fun h => hq h.2)])
      go_enter Tryd.func23, Tryd.ntmps23
      go_wp2
      go_ret
      rw [HF.out]
      exact ⟨rfl, (HV.out.set0 q).set9 7, gb_setCell (gb_setCell (gb_refl _ _) _ _) _ _⟩
  · have HF := Lib.hid (show failF l q e = (q, e) by unfold failF; rw [if_neg (fun h => h7 h.1)])
    have h7' : (e == 7) = false := by simpa using h7
    go_enter Tryd.func23, Tryd.ntmps23
    go_wp2
    go_ret
    rw [HF.out]
    exact ⟨rfl, (HV.out.set0 q).set9 e, gb_setCell (gb_setCell (gb_refl _ _) _ _) _ _⟩

/-- the byte at a place; 0: there is none -/
def byteAt (l : List UInt8) (q : Nat) : Int := match l[q]? with | some c => c.toNat | none => 0
set_option maxRecDepth 100000 in
set_option maxHeartbeats 2000000 in
theorem pNext_any (w W : World) (g : Nat) (A : Option Addr) (cap : Nat) (l : List UInt8) (p : Nat) (many why : Int) (ov t0 t1 t2 t3 t4 : Value) (hV : PB w W g A cap l p many ov t0 t1 t2 t3 t4 why)
    (hp : p ≤ l.length) (hcap : l.length ≤ cap) (hlen : l.length ≤ 4194304) :
    Calls Tryd.prog 22 #[.pointer (some ⟨g, 0, none⟩)] W fun x W' => x = .returned (.int .u8 (byteAt l (skipB l p))) ∧ PB w W' g A cap l (skipB l p) many ov t0 t1 t2 t3 t4 why ∧ W.grownBy W' (some g) := by
  have HV := Lib.hid hV
  clear hV
  go_enter Tryd.func22, Tryd.ntmps22
  go_wp2
  go_loopg [2] (l.length - p) (fun gk _ wr => ∃ k : Nat, k ≤ l.length ∧ gk = l.length - k ∧ Hid (skipB l p = skipB l k) ∧ PB w wr g A cap l k many ov t0 t1 t2 t3 t4 why ∧ W.grownBy wr (some g))
  case atStart => exact ⟨p, hp, rfl, Lib.hid rfl, HV.out, gb_refl _ _⟩
  case round =>
    obtain ⟨k, hk, hgk, HS, hst, hgb⟩ := hrel
    obtain ⟨hc, hf, hlt⟩ := hst.blk.rules
    unfold pCells at hc
    have HG := Lib.hid hgk
    clear hgk
    by_cases hkl : k < l.length
    · obtain ⟨c, hcc⟩ : ∃ c, l[k]? = some c := ⟨_, List.getElem?_eq_getElem hkl⟩
      have hrow := hst.row
      obtain ⟨b, o, rfl, hb⟩ := hrow.some_ (by omega)
      have hx := BS.at_ (n := 0) (cap := 0) hrow hcc
      have HC := Lib.hid hcc
      clear hcc hrow
      cases hbk : isBlankB c with
      | true =>
        have HN := Lib.hid (skipB_step HC.out hbk)
        unfold isBlankB at hbk
        have hq : c.toNat = 9 ∨ c.toNat = 10 ∨ c.toNat = 13 ∨ c.toNat = 32 := by simpa using hbk
        clear hbk
        rcases hq with hq | hq | hq | hq
        all_goals
          rw [hq] at hx
          clear hq
          go_wp2
          go_quiet (fail)
          go_wp2
          go_quiet (fail)
          go_wp2
          go_roundg (l.length - (k + 1))
          case measure => rw [HG.out]; omega
          case rel => exact ⟨k + 1, hkl, rfl, Lib.hid (HS.out.trans HN.out), (hst.drewN _).set0 _, gb_setCell (gb_drewN hgb _) _ _⟩
      | false =>
        have HN := Lib.hid (skipB_stop HC.out hbk)
        unfold isBlankB at hbk
        have hq : ¬ (c.toNat = 9 ∨ c.toNat = 10 ∨ c.toNat = 13 ∨ c.toNat = 32) := by simpa using hbk
        clear hbk
        have q1 : ((c.toNat : Int) == 9) = false := by simp; omega
        have q2 : ((c.toNat : Int) == 10) = false := by simp; omega
        have q3 : ((c.toNat : Int) == 13) = false := by simp; omega
        have q4 : ((c.toNat : Int) == 32) = false := by simp; omega
        clear hq
        go_wp2
        go_quiet (fail)
        go_wp2
        go_quiet (fail)
        go_wp2
        go_ret
        refine ⟨?_, ?_, gb_drewN hgb _⟩
        · rw [HS.out, HN.out, byteAt, HC.out]; rfl
        · rw [HS.out, HN.out]; exact hst.drewN _
    · have HN := Lib.hid (skipB_end (l := l) (p := k) (by omega))
      obtain rfl : k = l.length := by omega
      clear hkl
      go_wp2
      go_quiet (fail)
      go_wp2
      go_ret
      refine ⟨?_, ?_, gb_drewN hgb _⟩
      · rw [HS.out, HN.out, byteAt, List.getElem?_eq_none (Nat.le_refl _)]; rfl
      · rw [HS.out, HN.out]; exact hst.drewN _

set_option maxRecDepth 100000 in
set_option maxHeartbeats 1000000 in
theorem pBegins_any (c : UInt8) (w : World) : Calls Tryd.prog 80 #[.int .u8 c.toNat] w fun e w' => e = .returned (.bool (beginsB c)) ∧ w = w' := by
  have hc := c.toNat_lt
  obtain ⟨n, hn⟩ : ∃ n, c.toNat = n := ⟨_, rfl⟩
  have HB := Lib.hid (show beginsB c = decide (n = 34 ∨ n = 91 ∨ n = 123 ∨ n = 45 ∨ n = 110 ∨ n = 116 ∨ n = 102 ∨ (48 ≤ n ∧ n ≤ 57)) by rw [beginsB, hn])
  rw [hn] at hc ⊢
  clear hn
  have hd : ∀ k : Int, ((n : Int) == k) = decide ((n : Int) = k) := fun k => by rfl
  by_cases h1 : n = 34 ∨ n = 91 ∨ n = 123 ∨ n = 45 ∨ n = 110 ∨ n = 116 ∨ n = 102
  · rcases h1 with rfl | rfl | rfl | rfl | rfl | rfl | rfl
    all_goals
      go_enter Tryd.func80, Tryd.ntmps80
      go_wp2
      go_ret
      exact ⟨ret_bool (by rw [HB.out]; decide), rfl⟩
  · have q1 : ((n : Int) == 34) = false := by simp; omega
    have q2 : ((n : Int) == 91) = false := by simp; omega
    have q3 : ((n : Int) == 123) = false := by simp; omega
    have q4 : ((n : Int) == 45) = false := by simp; omega
    have q5 : ((n : Int) == 110) = false := by simp; omega
    have q6 : ((n : Int) == 116) = false := by simp; omega
    have q7 : ((n : Int) == 102) = false := by simp; omega
    clear hd
    by_cases h2 : 48 ≤ n
    · by_cases h3 : n ≤ 57
      · have HT := Lib.hid (show beginsB c = true by rw [HB.out]; simp; omega)
        clear h1
        go_enter Tryd.func80, Tryd.ntmps80
        go_wp2
        go_ret
        exact ⟨ret_bool (by rw [HT.out]; try (simp; omega)), rfl⟩
      · have HT := Lib.hid (show beginsB c = false by rw [HB.out]; simp; omega)
        clear h1
        go_enter Tryd.func80, Tryd.ntmps80
        go_wp2
        go_ret
        exact ⟨ret_bool (by rw [HT.out]; try (simp; omega)), rfl⟩
    · have HT := Lib.hid (show beginsB c = false by rw [HB.out]; simp; omega)
      clear h1
      go_enter Tryd.func80, Tryd.ntmps80
      go_wp2
      go_ret
      exact ⟨ret_bool (by rw [HT.out]; try (simp; omega)), rfl⟩
end Go.Proofs.YtoejdhabpajhlaaDoor

/- The walks of package parse: insert, at texts and at values. -/
namespace Go.Proofs.YtoejdhabpajhlaaDoor
set_option linter.unusedVariables false
set_option linter.unusedSimpArgs false
open Go.RowKit
attribute [local go_sem] run_index_arr run_part_agg run_part_one run_field_agg

theorem infoVal : (Tryd.prog.info? 28).map (fun i => (i.zero, i.size, i.bytes)) = some (some (.agg #[.int .i64 0, .int .i64 0, .string ⟨#[]⟩, .slice none 0 0, .slice none 0 0]), 5, 80) := by kernel_rfl
theorem infoStr : (Tryd.prog.info? 9).map (fun i => (i.zero, i.size, i.bytes)) = some (some (.string ⟨#[]⟩), 1, 16) := by kernel_rfl
theorem cells_new (w : World) (t : TypeId) (cs : List Value) : ∀ (j : Nat) (u : Value), cs[j]? = some u → (w.alloc (.cells cs.toArray t)).cell? ((⟨w.heap.size, 0, none⟩ : Addr).add j) = some u := fun j u hu => by
  have hadd : (⟨w.heap.size, 0, none⟩ : Addr).add j = ⟨w.heap.size, j, none⟩ := by unfold Addr.add; split <;> simp_all
  rw [hadd, (Blk.new w t cs.toArray).cell]; simpa using hu
theorem flat5_take {css : List (List Value)} (h : ∀ c ∈ css, c.length = 5) : ∀ k, css.flatten.take (k * 5) = (css.take k).flatten := by
  induction css with
  | nil => intro k; simp
  | cons c r ih =>
    intro k
    match k with
    | 0 => simp
    | k + 1 =>
      have hc := h c List.mem_cons_self
      rw [List.flatten_cons, List.take_succ_cons, List.flatten_cons, List.take_append, hc, List.take_of_length_le (by omega), show (k + 1) * 5 - 5 = k * 5 from by omega, ih (fun c hc => h c (List.mem_cons_of_mem _ hc))]
theorem flat5_drop {css : List (List Value)} (h : ∀ c ∈ css, c.length = 5) : ∀ k, css.flatten.drop (k * 5) = (css.drop k).flatten := by
  induction css with
  | nil => intro k; simp
  | cons c r ih =>
    intro k
    match k with
    | 0 => simp
    | k + 1 =>
      have hc := h c List.mem_cons_self
      rw [List.flatten_cons, List.drop_succ_cons, List.drop_append, hc, List.drop_of_length_le (by omega), List.nil_append, show (k + 1) * 5 - 5 = k * 5 from by omega, ih (fun c hc => h c (List.mem_cons_of_mem _ hc))]
section
variable {W W' : World} {F : Nat → Prop} {A : Option Addr} {xs : List Value}
theorem RdF.take (h : RdF W F A xs) (k : Nat) : RdF W F A (xs.take k) := fun hn => by
  have hne : xs ≠ [] := fun e => hn (by simp [e])
  obtain ⟨b, o, rfl, hb, hf, hx⟩ := h hne
  exact ⟨b, o, rfl, hb, hf, fun i hi => by simp at hi; have := hx i (by omega); rw [this]; simp⟩
theorem RdF.cells {a : Addr} (h : RdF W F (some a) xs) : ∀ (j : Nat) (u : Value), xs[j]? = some u → W.cell? (a.add j) = some u := fun j u hu => by
  obtain ⟨ad, e, hc⟩ := h.rd.at_ (by intro e; rw [e] at hu; simp at hu)
  obtain rfl : a = ad := by simpa using e
  exact hc j u hu
/-- what a slice owns, over a base -/
theorem RdF.of_own {B : Nat} {e : TypeId} {size n : Nat} {v : Value} (h : W.ownsRow B e size v n xs) (hF : ∀ b, B ≤ b → F b) : ∃ A cap, v = .slice A n cap ∧ n ≤ cap ∧ (A = none → cap = 0) ∧ RdF W F A xs := by
  rcases h.2 with ⟨rfl, h0⟩ | ⟨g, cap, cur, rfl, hB, hg, hnc, _, _, _⟩
  · subst h0
    have : xs = [] := List.eq_nil_of_length_eq_zero (by simpa using h.1)
    subst this
    exact ⟨none, 0, rfl, Nat.le_refl _, fun _ => rfl, RdF.nil⟩
  · refine ⟨_, cap, rfl, hnc, (fun h => by cases h), fun _ => ⟨g, 0, rfl, (Array.getElem?_eq_some_iff.1 hg).1, hF g hB, fun i hi => ?_⟩⟩
    have := h.cells (g := g) rfl i xs[i] (List.getElem?_eq_getElem hi)
    rw [Nat.zero_add, ← this]; unfold Addr.add
    split
    · rename_i h0; subst h0; rfl
    · simp
end
def InsPost (F : Nat → Prop) (n : Nat) (xs : List Value) (W : World) (e : Ending) (W' : World) : Prop :=
  ∃ A' cap', e = .returned (.slice A' (n + 1) cap') ∧ n + 1 ≤ cap' ∧ (A' = none → cap' = 0) ∧ RdF W' F A' xs ∧ Below W.heap.size W W'
theorem RdF.dropA {W : World} {F : Nat → Prop} {a : Addr} {xs : List Value} (h : RdF W F (some a) xs) (k : Nat) : RdF W F (some (a.add k)) (xs.drop k) := fun hn => by
  have hne : xs ≠ [] := fun e => hn (by simp [e])
  obtain ⟨b, o, e, hb, hf, hx⟩ := h hne
  obtain rfl : a = ⟨b, o, none⟩ := by simpa using e
  refine ⟨b, o + k, by simp [Addr.add], hb, hf, fun i hi => ?_⟩
  have hi' : k + i < xs.length := by simp at hi; omega
  rw [show o + k + i = o + (k + i) from by omega, hx (k + i) hi']; simp
/-- the end of an insert -/
theorem ins_fin {W w2 : World} {F : Nat → Prop} {B size n : Nat} {e : TypeId} {v : Value} {xs : List Value} (h : w2.ownsRow B e size v n xs) (hB : W.heap.size ≤ B) (hF : ∀ b, W.heap.size ≤ b → F b) (hb : Below W.heap.size W w2) {m : Nat} (hn : n = m + 1) : InsPost F m xs W (.returned v) w2 := by
  subst hn
  obtain ⟨A, cap, rfl, h1, h2, h3⟩ := RdF.of_own h (F := F) (fun b hb => hF b (Nat.le_trans hB hb))
  exact ⟨A, cap, rfl, h1, h2, h3, hb⟩
theorem insAt_flat (css : List (List Value)) (k : Nat) (c : List Value) : (css.take k).flatten ++ c ++ (css.drop k).flatten = (insAt css k c).flatten := by simp [insAt]
set_option maxRecDepth 100000 in
set_option maxHeartbeats 4000000 in
theorem insV_any (W : World) (F : Nat → Prop) (A : Option Addr) (n cap : Nat) (css : List (List Value)) (kids : List JV) (c : List Value) (x : JV) (k : Nat) (hA : A = none → cap = 0) (hn : n = kids.length) (hk : k ≤ n) (hcap : n ≤ cap)
    (hr : RdF W F A css.flatten) (hv : VRs W F css kids) (hx : VR W F c x) (hF : ∀ b, W.heap.size ≤ b → F b) (hlen : n ≤ 65535) :
    Calls Tryd.prog 117 #[.slice A n cap, .int .i64 k, .agg c.toArray] W (InsPost F n (insAt css k c).flatten W) := by
  obtain ⟨i0, hi, hz0, hz1, hz2⟩ := info_parts infoVal
  have h5 := hv.five
  have hc1 := hx.one
  have hlc := hx.len
  obtain ⟨c0, c1, c2, c3, c4, rfl⟩ : ∃ c0 c1 c2 c3 c4, c = [c0, c1, c2, c3, c4] := by
    match c, hlc with
    | [c0, c1, c2, c3, c4], _ => exact ⟨c0, c1, c2, c3, c4, rfl⟩
  have htl : (css.take k).flatten.length = k * 5 := by rw [flat5_len (fun c hc => h5 c (List.mem_of_mem_take hc)), List.length_take, hv.1]; omega
  have hold : RdF W F A (css.take k).flatten := by rw [← flat5_take h5]; exact hr.take _
  have HH := Lib.hid hold
  have HT := Lib.hid htl
  have H1 := Lib.hid hc1
  clear hold htl hc1 hlc
  go_enter Tryd.func117, Tryd.ntmps117
  go_wp2
  obtain ⟨W1, hW1⟩ : ∃ W1, W.alloc (.cells #[c0, c1, c2, c3, c4] 28) = W1 := ⟨_, rfl⟩
  have hb1 : Blk W1 W.heap.size 28 #[c0, c1, c2, c3, c4] := by rw [← hW1]; exact Blk.new _ _ _
  have hbl : Below W.heap.size W W1 := by rw [← hW1]; exact (Below.refl _ W).alloc (Nat.le_refl _) _
  have HB := Lib.hid hb1
  have HL := Lib.hid hbl
  obtain ⟨hcc, hff, hll⟩ := hb1.rules
  rw [hW1]
  clear hW1 hb1 hbl
  have HN := Lib.hid hn
  have hkc : k ≤ cap := by omega
  rcases A with _ | a
  · obtain rfl := hA rfl
    obtain rfl : n = 0 := by omega
    obtain rfl : k = 0 := by omega
    clear hA hn
    go_region_law (refine step_append_grows rfl (.tmp 11) (.tmp 13) 25 rfl 28 i0 _ 5 80 Tryd.underlying25 hi hz0 hz1 hz2 rfl (by decide) none 0 0 [] (by simp [Act.eval, Act.put]) (fun _ => ⟨rfl, rfl⟩) rfl (fun b hb => by cases hb) ⟨W1.heap.size, 0, none⟩ 1 1 [c0, c1, c2, c3, c4] (by simp [Act.eval, Act.put]) rfl (cells_new _ _ _) H1.out (by omega) (by unfold maxLen; omega) (by omega) ?_; intro v' w' hown hgr)
    obtain ⟨B, hBe⟩ : ∃ B, (W1.alloc (.cells #[c0, c1, c2, c3, c4] 28)).drew.heap.size = B := ⟨_, rfl⟩
    have hB1 : W.heap.size ≤ B := by rw [← hBe]; have := HL.out.size; simp; omega
    have hB2 : B ≤ w'.heap.size := by rw [← hBe]; exact hgr.size
    have hbw : Below W.heap.size W w' := (bel_drewN (HL.out.alloc HL.out.size _) 1).grown hgr (by have := HL.out.size; simp; omega) (fun k e => by cases e)
    rw [hBe] at hown
    have HBW := Lib.hid hbw
    have HR := Lib.hid hr
    rw [List.nil_append, Nat.zero_add] at hown
    have HO := Lib.hid hown
    clear hown hgr hbw hcc hff hll hr hk hkc hcap hlen hBe
    go_wp2_with (at_builtin; refine wpList_append_rd _ rfl _ _ 25 rfl B 28 i0 _ 5 80 Tryd.underlying25 hi hz0 hz1 hz2 rfl (by decide) v' 1 _ rfl HO.out none 0 0 (fun _ => rfl) [] rfl rfl Rd.nil (fun u hu => by cases hu) (by unfold maxLen; omega) (by omega) hB2 ?_; intro v2 w2 hown2 hgr2 _)
    go_ret
    have hcs : css = [] := List.eq_nil_of_length_eq_zero (by rw [hv.1]; exact HN.out.symm)
    subst hcs
    exact ins_fin (by simpa [insAt] using hown2) hB1 hF (HBW.out.grown hgr2 HBW.out.size (fun k e => Nat.le_trans hB1 (HO.out.lt k e).1)) rfl
  · clear hA hn
    go_region_law (refine step_append_grows rfl (.tmp 11) (.tmp 13) 25 rfl 28 i0 _ 5 80 Tryd.underlying25 hi hz0 hz1 hz2 rfl (by decide) (some a) k k (css.take k).flatten (by simp [Act.eval, Act.put]) (by intro h; cases h) HT.out (fun b hb => by cases hb; exact ((HH.out.keep (KeepF.of_below HL.out)).keep (KeepF.of_below ((Below.refl _ W1).alloc (Nat.le_refl _) _))).cells) ⟨W1.heap.size, 0, none⟩ 1 1 [c0, c1, c2, c3, c4] (by simp [Act.eval, Act.put]) rfl (cells_new _ _ _) H1.out (by omega) (by unfold maxLen; omega) (by omega) ?_; intro v' w' hown hgr)
    obtain ⟨B, hBe⟩ : ∃ B, (W1.alloc (.cells #[c0, c1, c2, c3, c4] 28)).drew.heap.size = B := ⟨_, rfl⟩
    have hB1 : W.heap.size ≤ B := by rw [← hBe]; have := HL.out.size; simp; omega
    have hB2 : B ≤ w'.heap.size := by rw [← hBe]; exact hgr.size
    have hbw : Below W.heap.size W w' := (bel_drewN (HL.out.alloc HL.out.size _) 1).grown hgr (by have := HL.out.size; simp; omega) (fun k e => by cases e)
    rw [hBe] at hown
    have HBW := Lib.hid hbw
    have HR := Lib.hid hr
    have hlt2 : (css.drop k).flatten.length = (n - k) * 5 := by rw [flat5_len (fun c hc => h5 c (List.mem_of_mem_drop hc)), List.length_drop, hv.1, HN.out]
    have hone2 : ∀ u ∈ (css.drop k).flatten, u.oneCell' = true := (hv.drop k).one
    have hk2 : k + 1 + (n - k) = n + 1 := by omega
    have HK2 := Lib.hid hk2
    have HT2 := Lib.hid hlt2
    have HO2 := Lib.hid hone2
    have HO := Lib.hid hown
    clear hown hgr hbw hcc hff hll hr hBe hk2 hlt2 hone2
    by_cases hck : cap = k
    · subst hck
      go_wp2_with (at_builtin; refine wpList_append_rd _ rfl _ _ 25 rfl B 28 i0 _ 5 80 Tryd.underlying25 hi hz0 hz1 hz2 rfl (by decide) v' (cap + 1) _ rfl HO.out (some a) 0 0 (by intro h; cases h) [] rfl rfl Rd.nil (fun u hu => by cases hu) (by unfold maxLen; omega) (by omega) hB2 ?_; intro v2 w2 hown2 hgr2 _)
      go_ret
      have hd : (css.drop cap).flatten = [] := by rw [List.drop_of_length_le (by rw [hv.1, ← HN.out]; omega)]; rfl
      have hnc : n = cap := by omega
      exact ins_fin (by rw [← insAt_flat, hd]; exact hown2) hB1 hF (HBW.out.grown hgr2 HBW.out.size (fun k e => Nat.le_trans hB1 (HO.out.lt k e).1)) (by omega)
    · have hrd : Rd w' (some (a.add (k * 5))) (css.drop k).flatten := by rw [← flat5_drop h5]; exact ((HR.out.keep (KeepF.of_below HBW.out)).dropA (k * 5)).rd
      go_wp2_with (at_builtin; refine wpList_append_rd _ rfl _ _ 25 rfl B 28 i0 _ 5 80 Tryd.underlying25 hi hz0 hz1 hz2 rfl (by decide) v' (k + 1) _ rfl HO.out (some (a.add (k * 5))) (n - k) (cap - k) (by intro h; cases h) (css.drop k).flatten rfl HT2.out hrd HO2.out (by unfold maxLen; omega) (by omega) hB2 ?_; intro v2 w2 hown2 hgr2 _)
      go_ret
      rw [HK2.out] at hown2
      exact ins_fin (by rw [← insAt_flat]; exact hown2) hB1 hF (HBW.out.grown hgr2 HBW.out.size (fun k e => Nat.le_trans hB1 (HO.out.lt k e).1)) rfl

theorem wpList_append_grows2 {P : Program} {w : World} {ops : Array Oper} {rest : List Oper} {o : Oper} {a : Act} {Q : Exit → Act → World → Prop} (hgd : o.guard = none) (s x : Operand) (t : TypeId)
    (hop : o.op = Op.call { callee := Callee.builtin Builtin.append, args := #[s, x], argTypes := #[t, t] })
    (e : TypeId) (i : TypeInfo) (z : Value) (size bytes : Nat) (h1 : P.underlying t = some (.slice e)) (h2 : P.info? e = some i) (h3 : i.zero = some z) (h4 : i.size = size) (h5 : i.bytes = bytes) (h6 : z.cells.size = size) (h7 : 0 < size)
    (ao : Option Addr) (n cap : Nat) (olds : List Value) (hs : a.eval s = .slice ao n cap) (hnone : ao = none → n = 0 ∧ cap = 0) (hlo : olds.length = n * size) (holds : ∀ b, ao = some b → ∀ (j : Nat) (u : Value), olds[j]? = some u → w.cell? (b.add j) = some u)
    (ad : Addr) (m c : Nat) (news : List Value) (hx : a.eval x = .slice (some ad) m c) (hn : news.length = m * size) (hc : ∀ (j : Nat) (u : Value), news[j]? = some u → w.cell? (ad.add j) = some u) (h1c : ∀ u ∈ news, u.oneCell' = true)
    (hfull : cap < n + m) (b1 : n + m ≤ maxLen) (b2 : (n + m) * bytes ≤ 140737488355328)
    (h : ∀ v' w', w'.ownsRow w.heap.size e size v' (n + m) (olds ++ news) → w.grownBy w' none → wpList P ops Q rest (a.put o.dst v') w') : wpList P ops Q (o :: rest) a w := by
  refine wpList_plain hgd fun K hK => ?_
  have hst := step_append_grows (P := P) (ops := ops) (o := o) (a := a) (w := w) (K := K) (Q := Q) (E := False) hgd s x t hop e i z size bytes h1 h2 h3 h4 h5 h6 h7 ao n cap olds hs hnone hlo holds ad m c news hx hn hc h1c hfull b1 b2
    (fun v' w' h8 h9 => hK _ _ (h v' w' h8 h9))
  rwa [if_pos (by simp [Region.wanted, hgd])] at hst
theorem strV_one (ks : List (List UInt8)) : ∀ u ∈ strV ks, u.oneCell' = true := fun u hu => by
  obtain ⟨s, _, rfl⟩ := List.mem_map.1 hu
  rfl
theorem strV_take (ks : List (List UInt8)) (k : Nat) : (strV ks).take k = strV (ks.take k) := by simp [strV]
theorem strV_drop (ks : List (List UInt8)) (k : Nat) : (strV ks).drop k = strV (ks.drop k) := by simp [strV]
theorem strV_ins (ks : List (List UInt8)) (k : Nat) (x : List UInt8) : strV (ks.take k) ++ [.string ⟨x.toArray⟩] ++ strV (ks.drop k) = strV (insAt ks k x) := by simp [strV, insAt]
set_option maxRecDepth 100000 in
set_option maxHeartbeats 4000000 in
theorem insS_any (W : World) (F : Nat → Prop) (A : Option Addr) (n cap : Nat) (keys : List (List UInt8)) (x : List UInt8) (k : Nat) (hA : A = none → cap = 0) (hn : n = keys.length) (hk : k ≤ n) (hcap : n ≤ cap)
    (hr : RdF W F A (strV keys)) (hF : ∀ b, W.heap.size ≤ b → F b) (hlen : n ≤ 65535) :
    Calls Tryd.prog 116 #[.slice A n cap, .int .i64 k, .string ⟨x.toArray⟩] W (InsPost F n (strV (insAt keys k x)) W) := by
  obtain ⟨i0, hi, hz0, hz1, hz2⟩ := info_parts infoStr
  have htl : (strV (keys.take k)).length = k * 1 := by rw [strV_len, List.length_take]; omega
  have hold : RdF W F A (strV (keys.take k)) := by rw [← strV_take]; exact hr.take _
  have hlt2 : (strV (keys.drop k)).length = (n - k) * 1 := by rw [strV_len, List.length_drop]; omega
  have hkc : k ≤ cap := by omega
  have HH := Lib.hid hold
  have HT := Lib.hid htl
  have HT2 := Lib.hid hlt2
  have HN := Lib.hid hn
  have HR := Lib.hid hr
  have HK2 := Lib.hid (show k + 1 + (n - k) = n + 1 by omega)
  clear hold htl hlt2 hr
  have HX := Lib.hid ((Below.refl _ W).alloc (Nat.le_refl _) (.cells #[.string ⟨x.toArray⟩] 9))
  rcases A with _ | a
  · obtain rfl := hA rfl
    obtain rfl : n = 0 := by omega
    obtain rfl : k = 0 := by omega
    clear hA hn
    go_enter Tryd.func116, Tryd.ntmps116
    go_wp2_with (first | (at_builtin; refine wpList_append_grows2 rfl (.tmp 11) (.tmp 13) 26 rfl 9 i0 _ 1 16 Tryd.underlying26 hi hz0 hz1 hz2 rfl (by decide) none 0 0 [] rfl (fun _ => ⟨rfl, rfl⟩) rfl (fun b hb => by cases hb) ⟨W.heap.size, 0, none⟩ 1 1 [.string ⟨x.toArray⟩] rfl rfl (cells_new _ _ _) (strV_one [x]) (by omega) (by unfold maxLen; omega) (by omega) ?_; intro v' w' hown hgr) | (at_builtin; refine wpList_append_rd _ rfl (.tmp 15) (.tmp 18) 26 rfl (W.alloc (.cells #[.string ⟨x.toArray⟩] 9)).heap.size 9 i0 _ 1 16 Tryd.underlying26 hi hz0 hz1 hz2 rfl (by decide) v' 1 [.string ⟨x.toArray⟩] rfl hown none 0 0 (fun _ => rfl) [] rfl rfl Rd.nil (fun u hu => by cases hu) (by unfold maxLen; omega) (by omega) hgr.size ?_; intro v2 w2 hown2 hgr2 _))
    go_ret
    have hkeys : keys = [] := List.eq_nil_of_length_eq_zero HN.out.symm
    subst hkeys
    refine ins_fin (by simpa [insAt, strV] using hown2) HX.out.size hF ?_ rfl
    exact ((HX.out.grown hgr HX.out.size (fun k e => by cases e)).grown hgr2 (Nat.le_trans HX.out.size hgr.size) (fun k e => Nat.le_trans HX.out.size (hown.lt k e).1))
  · clear hA hn
    by_cases hck : cap = k
    · subst hck
      go_enter Tryd.func116, Tryd.ntmps116
      go_wp2_with (first | (at_builtin; refine wpList_append_grows2 rfl (.tmp 11) (.tmp 13) 26 rfl 9 i0 _ 1 16 Tryd.underlying26 hi hz0 hz1 hz2 rfl (by decide) (some a) cap cap (strV (keys.take cap)) rfl (by intro h; cases h) HT.out (fun b hb => by cases hb; exact (HH.out.keep (KeepF.of_below HX.out)).cells) ⟨W.heap.size, 0, none⟩ 1 1 [.string ⟨x.toArray⟩] rfl rfl (cells_new _ _ _) (strV_one [x]) (by omega) (by unfold maxLen; omega) (by omega) ?_; intro v' w' hown hgr) | (at_builtin; refine wpList_append_rd _ rfl (.tmp 15) (.tmp 18) 26 rfl (W.alloc (.cells #[.string ⟨x.toArray⟩] 9)).heap.size 9 i0 _ 1 16 Tryd.underlying26 hi hz0 hz1 hz2 rfl (by decide) v' (cap + 1) _ rfl hown (some a) 0 0 (by intro h; cases h) [] rfl rfl Rd.nil (fun u hu => by cases hu) (by unfold maxLen; omega) (by omega) hgr.size ?_; intro v2 w2 hown2 hgr2 _))
      go_ret
      have hd : strV (keys.drop cap) = [] := by rw [List.drop_of_length_le (by rw [← HN.out]; exact hcap)]; rfl
      refine ins_fin (by rw [← strV_ins, hd]; exact hown2) HX.out.size hF ?_ (by omega)
      exact ((HX.out.grown hgr HX.out.size (fun k e => by cases e)).grown hgr2 (Nat.le_trans HX.out.size hgr.size) (fun k e => Nat.le_trans HX.out.size (hown.lt k e).1))
    · have HRD := Lib.hid (show ∀ w', (W.alloc (.cells #[.string ⟨x.toArray⟩] 9)).grownBy w' none → Rd w' (some (a.add k)) (strV (keys.drop k)) from fun w' hgr => by
        rw [← strV_drop]
        exact ((HR.out.keep (KeepF.of_below (HX.out.grown hgr HX.out.size (fun k e => by cases e)))).dropA k).rd)
      go_enter Tryd.func116, Tryd.ntmps116
      go_wp2_with (first | (at_builtin; refine wpList_append_grows2 rfl (.tmp 11) (.tmp 13) 26 rfl 9 i0 _ 1 16 Tryd.underlying26 hi hz0 hz1 hz2 rfl (by decide) (some a) k k (strV (keys.take k)) rfl (by intro h; cases h) HT.out (fun b hb => by cases hb; exact (HH.out.keep (KeepF.of_below HX.out)).cells) ⟨W.heap.size, 0, none⟩ 1 1 [.string ⟨x.toArray⟩] rfl rfl (cells_new _ _ _) (strV_one [x]) (by omega) (by unfold maxLen; omega) (by omega) ?_; intro v' w' hown hgr) | (at_builtin; refine wpList_append_rd _ rfl (.tmp 15) (.tmp 18) 26 rfl (W.alloc (.cells #[.string ⟨x.toArray⟩] 9)).heap.size 9 i0 _ 1 16 Tryd.underlying26 hi hz0 hz1 hz2 rfl (by decide) v' (k + 1) _ rfl hown (some (a.add k)) (n - k) (cap - k) (by intro h; cases h) (strV (keys.drop k)) rfl HT2.out (HRD.out _ hgr) (strV_one _) (by unfold maxLen; omega) (by omega) hgr.size ?_; intro v2 w2 hown2 hgr2 _))
      go_ret
      rw [HK2.out] at hown2
      refine ins_fin (by rw [← strV_ins]; exact hown2) HX.out.size hF ?_ rfl
      exact ((HX.out.grown hgr HX.out.size (fun k e => by cases e)).grown hgr2 (Nat.le_trans HX.out.size hgr.size) (fun k e => Nat.le_trans HX.out.size (hown.lt k e).1))
end Go.Proofs.YtoejdhabpajhlaaDoor
