import Derived.Test.YtalhoacancbldaaDoorVal
import Derived.Test.YtalhoacancbldaaDoorNumR
import Derived.Test.YtalhoacancbldaaDoorRef2d
import Derived.Test.YtalhoacancbldaaDoorCut
import Derived.Test.YtalhoacancbldaaDoorRightP
import Derived.Deep.RegionHeld3
/- The walks of the reference davenportref05: pass, sees, fail, has. -/
namespace Go.Proofs.YtalhoacancbldaaDoor
set_option linter.unusedVariables false
set_option linter.unusedSimpArgs false
open Go.RowKit
attribute [local go_sem] run_index_arr run_part_agg run_part_one run_field_agg
theorem bel_put4 {B : Nat} {w W : World} (h : Below B w W) {g : Nat} (hg : B ≤ g) (a b c d : Value) :
    Below B w ((((W.setCell ⟨g, 0, none⟩ a).setCell ⟨g, 1, none⟩ b).setCell ⟨g, 2, none⟩ c).setCell ⟨g, 3, none⟩ d) :=
  (((h.setCell (p := ⟨g, 0, none⟩) hg a).setCell (p := ⟨g, 1, none⟩) hg b).setCell (p := ⟨g, 2, none⟩) hg c).setCell (p := ⟨g, 3, none⟩) hg d
/-- a text that is gone through -/
abbrev txC (A : Option Addr) (n cap : Nat) (p m e : Int) : Array Value := #[.slice A n cap, .int .i64 p, .int .i64 m, .int .i64 e]
abbrev zTx : Array Value := #[.slice none 0 0, .int .i64 0, .int .i64 0, .int .i64 0]
set_option maxRecDepth 100000 in
set_option maxHeartbeats 4000000 in
theorem t5pass_any (A : Option Addr) (l : List UInt8) (cap p : Nat) (m : Int) (w : World) (hr : Rd w A (byteV l)) (hp : p ≤ l.length) (hcap : l.length ≤ cap) (hlen : l.length ≤ 1048576) :
    Calls Tryd.prog 54 #[.agg (txC A l.length cap p m 0)] w fun e w' => e = .returned (.agg (txC A l.length cap (skipB l p) m 0)) ∧ Below w.heap.size w w' := by
  have HR := Lib.hid hr
  clear hr
  go_enter Tryd.func54, Tryd.ntmps54
  go_wp2
  go_loopg [3] (l.length - p) (fun gk _ wr => ∃ k : Nat, k ≤ l.length ∧ gk = l.length - k ∧ Hid (skipB l p = skipB l k) ∧ Blk wr w.heap.size 49 (txC A l.length cap k m 0) ∧ Blk wr (w.heap.size + 1) 49 zTx ∧ Below w.heap.size w wr)
  case atStart =>
    refine ⟨p, hp, rfl, Lib.hid rfl, (Blk.new w _ _).alloc _, ?_, ((Below.refl _ w).alloc (Nat.le_refl _) _).alloc (by simp) _⟩
    have := Blk.new (w.alloc (.cells (txC A l.length cap p m 0) 49)) 49 zTx
    simpa using this
  case round =>
    obtain ⟨k, hk, hgk, HS, hb1, hb2, hbw⟩ := hrel
    obtain ⟨c1, f1, l1⟩ := hb1.rules
    obtain ⟨c2, f2, l2⟩ := hb2.rules
    have HG := Lib.hid hgk
    clear hgk
    by_cases hkl : k < l.length
    · obtain ⟨c, hcc⟩ : ∃ c, l[k]? = some c := ⟨_, List.getElem?_eq_getElem hkl⟩
      obtain ⟨b, o, cp, e, _, hb, hx⟩ := BS.some_ (w := wr) (v := .slice A l.length cap) ⟨A, cap, rfl, hcap, HR.out.below hbw⟩ (by intro e; rw [e] at hkl; simp at hkl)
      injection e with e1 _ e2
      subst e1
      subst e2
      have hx0 := hx k c hcc
      clear hx
      have hx := hx0
      clear hx0
      have HC := Lib.hid hcc
      clear hcc
      cases hbk : isBlankB c with
      | true =>
        have HN := Lib.hid (skipB_step HC.out hbk)
        unfold isBlankB at hbk
        have hq : c.toNat = 9 ∨ c.toNat = 10 ∨ c.toNat = 13 ∨ c.toNat = 32 := by simpa using hbk
        clear hbk
        rcases hq with hq | hq | hq | hq
        all_goals
          rw [hq] at hx
          clear hq
          go_wp2
          go_roundg (l.length - (k + 1))
          case measure => rw [HG.out]; omega
          case rel => exact ⟨k + 1, hkl, rfl, Lib.hid (HS.out.trans HN.out), hb1.set_ 1 _, hb2.far (by simp) _, hbw.setCell (p := ⟨w.heap.size, 1, none⟩) (Nat.le_refl _) _⟩
      | false =>
        have HN := Lib.hid (skipB_stop HC.out hbk)
        unfold isBlankB at hbk
        have hq : ¬ (c.toNat = 9 ∨ c.toNat = 10 ∨ c.toNat = 13 ∨ c.toNat = 32) := by simpa using hbk
        clear hbk
        have q1 : ((c.toNat : Int) == 9) = false := by simp; omega
        have q2 : ((c.toNat : Int) == 10) = false := by simp; omega
        have q3 : ((c.toNat : Int) == 13) = false := by simp; omega
        have q4 : ((c.toNat : Int) == 32) = false := by simp; omega
        clear hq
        go_wp2
        refine bodyPost_ret (v := .agg (txC (some ⟨b, o, none⟩) l.length cap k m 0)) (by simp only [results, Tryd.results54]; go_simp) rfl ?_
        rw [HS.out, HN.out]
        exact ⟨rfl, bel_put4 hbw (by omega) _ _ _ _⟩
    · have HN := Lib.hid (skipB_end (l := l) (p := k) (by omega))
      obtain rfl : k = l.length := by omega
      clear hkl
      go_wp2
      refine bodyPost_ret (v := .agg (txC A l.length cap l.length m 0)) (by simp only [results, Tryd.results54]; go_simp) rfl ?_
      rw [HS.out, HN.out]
      exact ⟨rfl, bel_put4 hbw (by omega) _ _ _ _⟩
set_option maxRecDepth 100000 in
set_option maxHeartbeats 4000000 in
theorem t5sees_any (A : Option Addr) (l : List UInt8) (cap p : Nat) (m er : Int) (c : UInt8) (w : World) (hr : Rd w A (byteV l)) (hp : p ≤ l.length) (hcap : l.length ≤ cap) (hlen : l.length ≤ 1048576) :
    Calls Tryd.prog 81 #[.agg (txC A l.length cap p m er), .int .u8 c.toNat] w fun e w' => e = .returned (.bool (decide (l[p]? = some c))) ∧ Below w.heap.size w w' := by
  have HR := Lib.hid hr
  clear hr
  have hb : Below w.heap.size w (w.alloc (.cells (txC A l.length cap p m er) 49)) := (Below.refl _ w).alloc (Nat.le_refl _) _
  by_cases hkl : p < l.length
  · obtain ⟨d, hd⟩ : ∃ d, l[p]? = some d := ⟨_, List.getElem?_eq_getElem hkl⟩
    obtain ⟨b, o, cp, e, _, hlt, hx⟩ := BS.some_ (w := w) (v := .slice A l.length cap) ⟨A, cap, rfl, hcap, HR.out⟩ (by intro e; rw [e] at hkl; simp at hkl)
    injection e with e1 _ e2
    subst e1
    subst e2
    have hx0 := hx p d hd
    clear hx
    have hx := hx0
    clear hx0
    have HD := Lib.hid hd
    have HB := Lib.hid hb
    clear hd hb
    go_enter Tryd.func81, Tryd.ntmps81
    go_wp2
    go_ret
    refine ⟨ret_bool ?_, HB.out⟩
    have hD := HD.out
    rw [List.getElem?_eq_getElem hkl] at hD
    rw [show l[p] = d from Option.some.inj hD]
    by_cases hdc : d = c
    · subst hdc; simp
    · have h1 : d.toNat ≠ c.toNat := fun e => hdc (UInt8.toNat_inj.1 e)
      rw [decide_eq_false hdc]
      simp; omega
  · obtain rfl : p = l.length := by omega
    have HB := Lib.hid hb
    clear hb
    go_enter Tryd.func81, Tryd.ntmps81
    go_wp2
    go_ret
    refine ⟨ret_bool ?_, HB.out⟩
    simp
set_option maxRecDepth 100000 in
set_option maxHeartbeats 4000000 in
theorem t5fail_any (A : Option Addr) (l : List UInt8) (cap : Nat) (p m er e : Int) (q : Nat) (w : World) (hq : q ≤ l.length) (hlen : l.length ≤ 1048576) :
    Calls Tryd.prog 56 #[.agg (txC A l.length cap p m er), .int .i64 q, .int .i64 e] w fun x w' => x = .returned (.agg (txC A l.length cap (failF l q e).1 m (failF l q e).2)) ∧ Below w.heap.size w w' := by
  have hf : failF l q e = ((q : Int), if e = 7 ∧ q = l.length then 6 else e) := by
    unfold failF
    have : (e = 7 ∧ (l.length : Int) ≤ (q : Int)) ↔ (e = 7 ∧ q = l.length) := by constructor <;> rintro ⟨h1, h2⟩ <;> exact ⟨h1, by omega⟩
    simp only [this]
  rw [hf]
  clear hf
  by_cases h7 : e = 7
  · subst h7
    by_cases hql : q = l.length
    · rw [if_pos ⟨rfl, hql⟩]
      have hqi : (q : Int) = (l.length : Int) := by omega
      go_enter Tryd.func56, Tryd.ntmps56
      go_wp2
      refine bodyPost_ret (v := .agg (txC A l.length cap q m 6)) (by simp only [results, Tryd.results56]; go_simp) rfl ?_
      exact ⟨rfl, ((Below.refl _ w).alloc (Nat.le_refl _) _).alloc (by simp) _⟩
    · rw [if_neg (fun h => hql h.2)]
      have hqi : ((q : Int) == (l.length : Int)) = false := by simp; omega
      go_enter Tryd.func56, Tryd.ntmps56
      go_wp2
      refine bodyPost_ret (v := .agg (txC A l.length cap q m 7)) (by simp only [results, Tryd.results56]; go_simp) rfl ?_
      exact ⟨rfl, ((Below.refl _ w).alloc (Nat.le_refl _) _).alloc (by simp) _⟩
  · rw [if_neg (fun h => h7 h.1)]
    have h7b : (e == 7) = false := by simpa using h7
    go_enter Tryd.func56, Tryd.ntmps56
    go_wp2
    refine bodyPost_ret (v := .agg (txC A l.length cap q m e)) (by simp only [results, Tryd.results56]; go_simp) rfl ?_
    exact ⟨rfl, ((Below.refl _ w).alloc (Nat.le_refl _) _).alloc (by simp) _⟩
end Go.Proofs.YtalhoacancbldaaDoor

/- The walks of the reference davenportref05: word, quoted, numeral. -/
namespace Go.Proofs.YtalhoacancbldaaDoor
set_option linter.unusedVariables false
set_option linter.unusedSimpArgs false
open Go.RowKit
attribute [local go_sem] run_index_arr run_part_agg run_part_one run_field_agg

abbrev zVal : Array Value := #[.int .i64 0, .int .i64 0, .string ⟨#[]⟩, .slice none 0 0, .slice none 0 0]
/-- a value's five cells of one's own, with nothing within -/
abbrev atC (k n : Int) (s : List UInt8) : Array Value := #[.int .i64 k, .int .i64 n, .string ⟨s.toArray⟩, .slice none 0 0, .slice none 0 0]
/-- an answer of a reader of one's own kind: the value and the text behind it, or an error -/
def At5 (A : Option Addr) (n cap : Nat) (m : Int) (r : Sum (JV × Nat) (Int × Int)) (e : Ending) : Prop :=
  match r with
  | .inl (v, q) => ∃ k n' s, v = .mk k n' s [] [] ∧ e = .returned (.tuple #[.agg (atC k n' s), .agg (txC A n cap q m 0)])
  | .inr (q, x) => x ≠ 0 ∧ e = .returned (.tuple #[.agg zVal, .agg (txC A n cap q m x)])
theorem bel_put5a {B : Nat} {w W : World} (h : Below B w W) {g : Nat} (hg : B ≤ g) (a b c d e : Value) :
    Below B w (((((W.setCell ⟨g, 0, none⟩ a).setCell ⟨g, 1, none⟩ b).setCell ⟨g, 2, none⟩ c).setCell ⟨g, 3, none⟩ d).setCell ⟨g, 4, none⟩ e) :=
  (bel_put4 h hg a b c d).setCell (p := ⟨g, 4, none⟩) hg e
/-- what a walk wants of a text's block and of a value's -/
abbrev TB (w : World) (g : Nat) (A : Option Addr) (n cap : Nat) (p m e : Int) : Prop := Blk w g 49 (txC A n cap p m e)
theorem TB.cells {w : World} {g : Nat} {A : Option Addr} {n cap : Nat} {p m e : Int} (h : TB w g A n cap p m e) :
    w.cell? ⟨g, 0, none⟩ = some (.slice A n cap) ∧ w.cell? ⟨g, 1, none⟩ = some (.int .i64 p) ∧ w.cell? ⟨g, 2, none⟩ = some (.int .i64 m) ∧ w.cell? ⟨g, 3, none⟩ = some (.int .i64 e) :=
  ⟨h.cell 0, h.cell 1, h.cell 2, h.cell 3⟩
theorem neqs (g : Nat) : g ≠ g + 1 ∧ g ≠ g + 1 + 1 ∧ g ≠ g + 1 + 1 + 1 ∧ g + 1 ≠ g ∧ g + 1 + 1 ≠ g ∧ g + 1 + 1 + 1 ≠ g ∧ g + 1 ≠ g + 1 + 1 ∧ g + 1 ≠ g + 1 + 1 + 1 ∧ g + 1 + 1 ≠ g + 1 ∧ g + 1 + 1 + 1 ≠ g + 1 ∧ g + 1 + 1 ≠ g + 1 + 1 + 1 ∧ g + 1 + 1 + 1 ≠ g + 1 + 1 := by
  refine ⟨?_, ?_, ?_, ?_, ?_, ?_, ?_, ?_, ?_, ?_, ?_, ?_⟩ <;> omega
/-- four blocks of one's own: a text, a value, and two for what is answered -/
def WB (w : World) (g : Nat) (A : Option Addr) (n cap : Nat) (p m : Int) (cs : Array Value) (wr : World) : Prop :=
  TB wr g A n cap p m 0 ∧ Blk wr (g + 1) 40 cs ∧ Blk wr (g + 2) 40 zVal ∧ Blk wr (g + 3) 49 zTx ∧ Below w.heap.size w wr
theorem WB.new (w : World) (A : Option Addr) (n cap : Nat) (p m : Int) (cs : Array Value) :
    WB w w.heap.size A n cap p m cs ((((w.alloc (.cells (txC A n cap p m 0) 49)).alloc (.cells cs 40)).alloc (.cells zVal 40)).alloc (.cells zTx 49)) := by
  refine ⟨(((Blk.new w _ _).alloc _).alloc _).alloc _, ?_, ?_, ?_, ((((Below.refl _ w).alloc (Nat.le_refl _) _).alloc (by simp) _).alloc (by simp; omega) _).alloc (by simp; omega) _⟩
  · have := ((Blk.new (w.alloc (.cells (txC A n cap p m 0) 49)) 40 cs).alloc (.cells zVal 40)).alloc (.cells zTx 49)
    rw [World.size_alloc] at this; exact this
  · have := (Blk.new ((w.alloc (.cells (txC A n cap p m 0) 49)).alloc (.cells cs 40)) 40 zVal).alloc (.cells zTx 49)
    rw [World.size_alloc, World.size_alloc] at this; exact this
  · have := Blk.new (((w.alloc (.cells (txC A n cap p m 0) 49)).alloc (.cells cs 40)).alloc (.cells zVal 40)) 49 zTx
    rw [World.size_alloc, World.size_alloc, World.size_alloc] at this; exact this
theorem WB.keep {w wr wx : World} {g : Nat} {A : Option Addr} {n cap : Nat} {p m : Int} {cs : Array Value} (h : WB w g A n cap p m cs wr) (hb : Below wr.heap.size wr wx) : WB w g A n cap p m cs wx :=
  ⟨h.1.keep hb, h.2.1.keep hb, h.2.2.1.keep hb, h.2.2.2.1.keep hb, h.2.2.2.2.trans (hb.mono h.2.2.2.2.size)⟩
theorem WB.drew {w wr : World} {g : Nat} {A : Option Addr} {n cap : Nat} {p m : Int} {cs : Array Value} (h : WB w g A n cap p m cs wr) : WB w g A n cap p m cs wr.drew :=
  ⟨h.1.drew, h.2.1.drew, h.2.2.1.drew, h.2.2.2.1.drew, h.2.2.2.2.drew⟩
theorem WB.set1 {w wr : World} {A : Option Addr} {n cap : Nat} {p m : Int} {cs : Array Value} (h : WB w w.heap.size A n cap p m cs wr) (q : Int) : WB w w.heap.size A n cap q m cs (wr.setCell ⟨w.heap.size, 1, none⟩ (.int .i64 q)) :=
  ⟨h.1.set_ 1 _, h.2.1.far (by simp) _, h.2.2.1.far (by simp) _, h.2.2.2.1.far (by simp) _, h.2.2.2.2.setCell (p := ⟨w.heap.size, 1, none⟩) (Nat.le_refl _) _⟩
set_option maxRecDepth 100000 in
set_option maxHeartbeats 4000000 in
theorem t5word_any (A : Option Addr) (l : List UInt8) (cap p : Nat) (m : Int) (s : ByteArray) (k n : Int) (w : World) (hr : Rd w A (byteV l)) (hp : p ≤ l.length) (hcap : l.length ≤ cap) (hlen : l.length ≤ 1048576) (hu : s.size ≤ 100) :
    Calls Tryd.prog 58 #[.agg (txC A l.length cap p m 0), .string s, .agg (atC k n [])] w fun e w' => At5 A l.length cap m (wordJ l p (sl s) (.mk k n [] [] [])) e ∧ Below w.heap.size w w' := by
  obtain ⟨r, hr0⟩ : ∃ r, wordJ l p (sl s) (.mk k n [] [] []) = r := ⟨_, rfl⟩
  rw [hr0]
  have HR0 := Lib.hid hr0
  have HR := Lib.hid hr
  have HX := Lib.hid (WB.new w A l.length cap p m (atC k n []))
  clear hr hr0
  go_enter Tryd.func58, Tryd.ntmps58
  go_wp2
  go_loopg [8] s.size (fun gk s8 wr => ∃ i : Nat, i ≤ s.size ∧ gk = s.size - i ∧ s8 = .int .i64 i ∧ p + i ≤ l.length ∧ Hid (wordMis l p (sl s) = wordMis l (p + i) ((sl s).drop i)) ∧ Hid (WB w w.heap.size A l.length cap (p + i : Nat) m (atC k n []) wr))
  case atStart => exact ⟨0, Nat.zero_le _, rfl, rfl, hp, Lib.hid rfl, HX⟩
  case round =>
    obtain ⟨i, hi, hgk, rfl, hpi, HM, HB⟩ := hrel
    have HG := Lib.hid hgk
    clear hgk HX
    obtain ⟨q, hq⟩ : ∃ q : Nat, p + i = q := ⟨_, rfl⟩
    rw [hq] at HB HM
    obtain ⟨_, f1, l1⟩ := HB.out.1.rules
    obtain ⟨h10, h11, h12, h13⟩ := HB.out.1.cells
    by_cases hlt : i < s.size
    · have hd : (sl s).drop i = s[i] :: (sl s).drop (i + 1) := List.drop_eq_getElem_cons (by rw [sl_len]; exact hlt)
      obtain ⟨c, hx2⟩ : ∃ c, s[i] = c := ⟨_, rfl⟩
      rw [hx2] at hd
      have hmm : wordMis l p (sl s) = if l[q]? = some c then wordMis l (q + 1) ((sl s).drop (i + 1)) else some q := by
        have h := HM.out
        rw [hd] at h
        exact h
      by_cases hc : l[q]? = some c
      · rw [if_pos hc] at hmm
        have hql := get_lt hc
        have hs := t5sees_any A l cap q m 0 c wr.drew (HR.out.below HB.out.drew.2.2.2.2) (by omega) hcap hlen
        rw [decide_eq_true hc] at hs
        have HS := Lib.hid hs
        have HMM := Lib.hid hmm
        clear hs hmm hc hd
        go_wp2
        go_region_held3 (fun w' => w'.cell? ⟨w.heap.size, 0, none⟩ = some (.slice A l.length cap) ∧ w'.cell? ⟨w.heap.size, 1, none⟩ = some (.int .i64 q) ∧ w'.cell? ⟨w.heap.size, 2, none⟩ = some (.int .i64 m) ∧ w'.cell? ⟨w.heap.size, 3, none⟩ = some (.int .i64 0)) (go_keep)
          ((go_at_call 81; refine HS.out.mono ?_; rintro e w2 ⟨rfl, hb2⟩; have hB2 := HB.out.drew.keep hb2; obtain ⟨j0, j1, j2, j3⟩ := hB2.1.cells; obtain ⟨_, f2, l2⟩ := hB2.1.rules))
        have HB2 := Lib.hid hB2
        clear hB2 hb2
        go_wp2
        go_roundg (s.size - (i + 1))
        case measure => rw [HG.out]; omega
        case rel => exact ⟨i + 1, hlt, rfl, by go_num, by omega, Lib.hid (by rw [HMM.out]; congr 1; omega), Lib.hid (by rw [show p + (i + 1) = q + 1 by omega]; exact HB2.out.set1 _)⟩
      · rw [if_neg hc] at hmm
        have hs := t5sees_any A l cap q m 0 c wr.drew (HR.out.below HB.out.drew.2.2.2.2) (by omega) hcap hlen
        rw [decide_eq_false hc] at hs
        have HS := Lib.hid hs
        have HMM := Lib.hid hmm
        have HF := Lib.hid (fun W => t5fail_any A l cap q m 0 7 q W (by omega) hlen)
        clear hs hmm hc hd
        go_wp2
        go_region_held3 (fun w' => w'.cell? ⟨w.heap.size, 0, none⟩ = some (.slice A l.length cap) ∧ w'.cell? ⟨w.heap.size, 1, none⟩ = some (.int .i64 q) ∧ w'.cell? ⟨w.heap.size, 2, none⟩ = some (.int .i64 m) ∧ w'.cell? ⟨w.heap.size, 3, none⟩ = some (.int .i64 0)) (go_keep)
          ((go_at_call 81; refine HS.out.mono ?_; rintro e w2 ⟨rfl, hb2⟩; have hB2 := HB.out.drew.keep hb2; obtain ⟨j0, j1, j2, j3⟩ := hB2.1.cells; obtain ⟨_, f2, l2⟩ := hB2.1.rules))
        have HB2 := Lib.hid hB2
        clear hB2 hb2
        go_wp2_with fail
        refine (HF.out _).mono ?_
        rintro e w3 ⟨rfl, hb3⟩
        have hB3 := HB2.out.keep hb3
        obtain ⟨a1, a2, a3⟩ := hB3.2.2.1.rules
        obtain ⟨d1, d2, d3⟩ := hB3.2.2.2.1.rules
        obtain ⟨fp, fe, hf⟩ : ∃ fp fe, failF l q 7 = (fp, fe) := ⟨_, _, rfl⟩
        rw [hf]
        have HFE := Lib.hid hf
        have HB3 := Lib.hid hB3
        clear hf hB3 hb3
        go_wp2
        refine bodyPost_ret (v := .tuple #[.agg zVal, .agg (txC A l.length cap fp m fe)]) (by simp only [results, Tryd.results58]; go_simp) rfl ?_
        rw [← HR0.out]
        refine ⟨?_, ?_⟩
        · unfold wordJ
          rw [HMM.out]
          show At5 A l.length cap m (.inr (failF l q 7)) _
          rw [HFE.out]
          exact ⟨by have := failF_ne (l := l) (p := (q : Int)) (e := 7) (by decide); rw [HFE.out] at this; exact this, rfl⟩
        · exact bel_put4 (bel_put5a HB3.out.2.2.2.2 (by omega) _ _ _ _ _) (by omega) _ _ _ _
    · obtain rfl : i = s.size := by omega
      have hmm := HM.out
      rw [List.drop_of_length_le (by rw [sl_len]; exact Nat.le_refl _)] at hmm
      have HMM := Lib.hid hmm
      clear hmm
      obtain ⟨e0, f2, l2⟩ := HB.out.2.1.rules
      obtain ⟨a1, a2, a3⟩ := HB.out.2.2.1.rules
      obtain ⟨d1, d2, d3⟩ := HB.out.2.2.2.1.rules
      have k0 := e0 0
      have k1 := e0 1
      have k2 := e0 2
      have k3 := e0 3
      have k4 := e0 4
      simp at k0 k1 k2 k3 k4
      obtain ⟨y1, y2, y3, y4, y5, y6, y7, y8, y9, y10, y11, y12⟩ := neqs w.heap.size
      go_wp2
      go_region_held3 (fun w' => w'.cell? ⟨w.heap.size, 0, none⟩ = some (.slice A l.length cap) ∧ w'.cell? ⟨w.heap.size, 1, none⟩ = some (.int .i64 q) ∧ w'.cell? ⟨w.heap.size, 2, none⟩ = some (.int .i64 m) ∧ w'.cell? ⟨w.heap.size, 3, none⟩ = some (.int .i64 0) ∧
        w'.cell? ⟨w.heap.size + 1, 0, none⟩ = some (.int .i64 k) ∧ w'.cell? ⟨w.heap.size + 1, 1, none⟩ = some (.int .i64 n) ∧ w'.cell? ⟨w.heap.size + 1, 2, none⟩ = some (.string ⟨#[]⟩) ∧ w'.cell? ⟨w.heap.size + 1, 3, none⟩ = some (.slice none 0 0) ∧ w'.cell? ⟨w.heap.size + 1, 4, none⟩ = some (.slice none 0 0)) (go_keep) (fail)
      all_goals
        go_wp2
        refine bodyPost_ret (v := .tuple #[.agg (atC k n []), .agg (txC A l.length cap q m 0)]) (by simp only [results, Tryd.results58]; go_simp) rfl ?_
        rw [← HR0.out]
        refine ⟨?_, ?_⟩
        · unfold wordJ
          rw [HMM.out]
          exact ⟨k, n, [], rfl, by rw [sl_len, hq]⟩
        · exact (bel_put4 (bel_put5a HB.out.2.2.2.2 (by omega) _ _ _ _ _) (by omega) _ _ _ _).drew
end Go.Proofs.YtalhoacancbldaaDoor

/- The walks of the reference davenportref05: quoted, numeral. -/
namespace Go.Proofs.YtalhoacancbldaaDoor
set_option linter.unusedVariables false
set_option linter.unusedSimpArgs false
open Go.RowKit
attribute [local go_sem] run_index_arr run_part_agg run_part_one run_field_agg

section
variable {l : List UInt8}
theorem cpsI {xs : List (Int × Int)} (h : ∀ x ∈ xs, ∃ p m : Nat, x = ((p : Int), (m : Int)) ∧ cpLen p ≠ 0) :
    ∃ cs : List Nat, xs.map Prod.fst = (cs.map fun n : Nat => (n : Int)) ∧ (∀ c ∈ cs, isCp (c : Int) = true) ∧ qBytes xs = cs.flatMap cpBytes := by
  induction xs with
  | nil => exact ⟨[], rfl, by simp, rfl⟩
  | cons x r ih =>
    obtain ⟨p, m, rfl, hp⟩ := h x List.mem_cons_self
    obtain ⟨cs, h1, h2, h3⟩ := ih (fun y hy => h y (List.mem_cons_of_mem _ hy))
    refine ⟨p :: cs, by simp [h1], ?_, ?_⟩
    · intro c hc
      rcases List.mem_cons.1 hc with rfl | hc
      · rw [isCp_iff]
        have : ¬ (1114111 < c ∨ (55296 ≤ c ∧ c ≤ 57343)) := fun e => hp ((cpLen_iff c 0).2 (.inl ⟨rfl, e⟩))
        omega
      · exact h2 c hc
    · rw [List.flatMap_cons, ← h3]; simp [qBytes]
theorem signsF_len5 (l : List UInt8) : ∀ (k a : Nat), (signsF l k a).length ≤ k
  | 0, _ => by simp [signsF]
  | k + 1, a => by
    unfold signsF
    split
    · have := signsF_len5 l k (qsS l a).2.1.toNat
      simp; omega
    · simp
theorem qRead_by {p : Nat} (h34 : l[p]? = some 34) (h0 : (qRead l p).2.2 = 0) : (qRead l p).1 = qBytes (signsL l (p + 1)) := by
  have hp := get_lt h34
  rw [qRead_in hp, if_neg (by rw [h34]; simp)] at h0 ⊢
  split at h0
  · rename_i hq; rw [if_pos hq]
  · rename_i hq
    exfalso
    have hin := (ce_in (l := l) (a := p + 1) (by omega)).2
    have hst := signs_stop (l := l) (a := p + 1) (by omega)
    generalize qEnd (p + 1) (signsL l (p + 1)) = E at h0 hin hst
    have h0 : (qSign l (E : Int)).2.2 = 0 := h0
    unfold qSign at h0
    rw [if_neg (by omega)] at h0
    by_cases he : E = l.length
    · rw [if_pos (by omega)] at h0; exact absurd h0 (by decide)
    · rw [if_neg (by omega), Int.toNat_natCast] at h0
      exact qsS_more hst (by omega) h0
theorem qRead_place {p : Nat} (h34 : l[p]? = some 34) (h : (qRead l p).2.2 ≠ 0) : ∃ q : Nat, (qRead l p).2.1 = q ∧ q ≤ l.length := by
  have hp := get_lt h34
  have hin := (ce_in (l := l) (a := p + 1) (by omega)).2
  rw [qRead_in hp, if_neg (by rw [h34]; simp)] at h ⊢
  split at h
  · exact absurd rfl h
  · rename_i hq
    rw [if_neg hq]
    exact ⟨_, rfl, hin⟩
end
/-- what the reference answers of a quoted text -/
def Qt5 (A : Option Addr) (l : List UInt8) (cap : Nat) (m : Int) (p : Nat) (e : Ending) : Prop :=
  if (qRead l p).2.2 = 0 then e = .returned (.tuple #[.string ⟨(qRead l p).1.toArray⟩, .agg (txC A l.length cap (qRead l p).2.1 m 0)])
  else e = .returned (.tuple #[.string ⟨#[]⟩, .agg (txC A l.length cap (failF l (qRead l p).2.1 (qRead l p).2.2).1 m (failF l (qRead l p).2.1 (qRead l p).2.2).2)])
set_option maxRecDepth 100000 in
set_option maxHeartbeats 4000000 in
theorem t5quoted_any (A : Option Addr) (l : List UInt8) (cap p : Nat) (m : Int) (w : World) (hr : Rd w A (byteV l)) (hc : l[p]? = some 34) (hcap : l.length ≤ cap) (hlen : l.length ≤ 1048576) :
    Calls Tryd.prog 57 #[.agg (txC A l.length cap p m 0)] w fun e w' => Qt5 A l cap m p e ∧ Below w.heap.size w w' := by
  have hp := get_lt hc
  obtain ⟨W1, hW1⟩ : ∃ W1, (w.alloc (.cells (txC A l.length cap p m 0) 49)).alloc (.cells zTx 49) = W1 := ⟨_, rfl⟩
  have HW1 := Lib.hid hW1
  have hb1 : TB W1 w.heap.size A l.length cap p m 0 := by rw [← hW1]; exact (Blk.new w _ _).alloc _
  have hb2 : Blk W1 (w.heap.size + 1) 49 zTx := by
    rw [← hW1]
    have := Blk.new (w.alloc (.cells (txC A l.length cap p m 0) 49)) 49 zTx
    rw [World.size_alloc] at this; exact this
  have hbw : Below w.heap.size w W1 := by rw [← hW1]; exact ((Below.refl _ w).alloc (Nat.le_refl _) _).alloc (by simp) _
  have hR0 := rRead_go (.slice A l.length cap) l p W1 ⟨_, _, rfl, hcap, hr.below hbw⟩ hlen hc
  have hsp := signs_pre (l := l) (l.length - (p + 1)) (p + 1) (signsL l (p + 1)) (Nat.le_refl _) (List.prefix_refl _) hp
  obtain ⟨cs, hcs1, hcs2, hcs3⟩ : ∃ cs : List Nat, (signsL l (p + 1)).map Prod.fst = (cs.map fun n : Nat => (n : Int)) ∧ (∀ c ∈ cs, isCp (c : Int) = true) ∧ qBytes (signsL l (p + 1)) = cs.flatMap cpBytes := cpsI hsp.1
  have hfew : cs.length ≤ 1048576 := by
    have h1 := signsF_len5 l (l.length - (p + 1)) (p + 1)
    have h2 := congrArg List.length hcs1
    rw [List.length_map, List.length_map] at h2
    unfold signsL at h2
    omega
  have hby : (qRead l p).2.2 = 0 → (qRead l p).1 = cs.flatMap cpBytes ∧ ∃ q : Nat, (qRead l p).2.1 = q ∧ q ≤ l.length := fun h => by
    obtain ⟨q, hq, h1, h2⟩ := qRead_ok h
    exact ⟨by rw [qRead_by hc h, hcs3], q, hq, h2⟩
  have her : (qRead l p).2.2 ≠ 0 → ∃ q : Nat, (qRead l p).2.1 = q ∧ q ≤ l.length := fun h => qRead_place hc h
  obtain ⟨r, hr1⟩ : ∃ r, qRead l p = r := ⟨_, rfl⟩
  unfold RReadPost at hR0
  unfold Qt5
  rw [hr1] at hR0 hby her ⊢
  rw [hcs1] at hR0
  obtain ⟨by_, pl, er⟩ := r
  simp only at hR0 hby her ⊢
  have HR0 := Lib.hid hR0
  have HBY := Lib.hid hby
  have HER := Lib.hid her
  have HCP := Lib.hid hcs2
  have HX := Lib.hid (And.intro hb1 (And.intro hb2 hbw))
  obtain ⟨_, f1, l1⟩ := hb1.rules
  obtain ⟨h10, h11, h12, h13⟩ := TB.cells hb1
  clear hR0 hby her hcs2 hcs1 hcs3 hsp hr1 hb1 hb2 hbw hr hc
  go_enter Tryd.func57, Tryd.ntmps57
  go_wp2_with fail
  clear hW1
  refine HR0.out.mono ?_
  rintro e1 w1 ⟨⟨v1, rfl, hv1⟩, hb⟩
  have hb1 := HX.out.1.keep hb
  have hb2 := HX.out.2.1.keep hb
  have hbw := HX.out.2.2.trans (hb.mono HX.out.2.2.size)
  have HY := Lib.hid (And.intro hb1 (And.intro hb2 hbw))
  have HV := Lib.hid hv1
  clear h10 h11 h12 h13 f1 l1 hb hv1 HX
  obtain ⟨c2, f2, l2⟩ := hb2.rules
  obtain ⟨_, f1, l1⟩ := hb1.rules
  obtain ⟨h10, h11, h12, h13⟩ := TB.cells hb1
  clear hb1 hb2 hbw
  by_cases h0 : er = 0
  · subst h0
    obtain ⟨hby, q, rfl, hq⟩ := HBY.out rfl
    have hown := HV.out rfl
    have hsz1 : W1.heap.size = w.heap.size + 2 := by rw [← HW1.out]; simp
    rw [hsz1] at hown
    obtain ⟨W2, hW2⟩ : ∃ W2, w1.setCell ⟨w.heap.size, 1, none⟩ (.int .i64 q) = W2 := ⟨_, rfl⟩
    have hown2 : W2.ownsRow (w.heap.size + 2) 3 1 v1 (cs.map fun n : Nat => (n : Int)).length (intV (cs.map fun n : Nat => (n : Int))) := by
      rw [← hW2]
      exact hown.kept (gb_setCell (gb_refl w1 (some w.heap.size)) _ _) (.inr (fun e => by have := (hown.lt _ e).1; omega))
    have hT := rText_any v1 cs W2 (IS.of_own rfl hown2) hfew HCP.out
    rw [← hby] at hT
    have HT := Lib.hid hT
    have hbx : Below w.heap.size w W2 := by rw [← hW2]; exact HY.out.2.2.setCell (p := ⟨w.heap.size, 1, none⟩) (Nat.le_refl _) _
    have hx1 : TB W2 w.heap.size A l.length cap q m 0 := by rw [← hW2]; exact HY.out.1.set_ 1 _
    have hx2 : Blk W2 (w.heap.size + 1) 49 zTx := by rw [← hW2]; exact HY.out.2.1.far (by simp) _
    have HZ := Lib.hid (And.intro hx1 (And.intro hx2 hbx))
    clear hT hby hown hown2 hx1 hx2 hbx
    go_wp2_with fail
    clear hW2 h10 h11 h12 h13 c2 f2 l2 f1 l1
    refine HT.out.mono ?_
    rintro e w3 ⟨rfl, hb3⟩
    obtain ⟨c2, f2, l2⟩ := (HZ.out.2.1.keep hb3).rules
    obtain ⟨_, f1, l1⟩ := (HZ.out.1.keep hb3).rules
    obtain ⟨h10, h11, h12, h13⟩ := TB.cells (HZ.out.1.keep hb3)
    obtain ⟨y1, y2, y3, y4, y5, y6, y7, y8, y9, y10, y11, y12⟩ := neqs w.heap.size
    have HB3 := Lib.hid (HZ.out.2.2.trans (hb3.mono HZ.out.2.2.size))
    clear hb3
    go_wp2
    go_region_held3 (fun w' => w'.cell? ⟨w.heap.size, 0, none⟩ = some (.slice A l.length cap) ∧ w'.cell? ⟨w.heap.size, 1, none⟩ = some (.int .i64 q) ∧ w'.cell? ⟨w.heap.size, 2, none⟩ = some (.int .i64 m) ∧ w'.cell? ⟨w.heap.size, 3, none⟩ = some (.int .i64 0)) (go_keep) (fail)
    all_goals
      go_wp2
      refine bodyPost_ret (v := .tuple #[.string ⟨by_.toArray⟩, .agg (txC A l.length cap q m 0)]) (by simp only [results, Tryd.results57]; go_simp) rfl ?_
      exact ⟨rfl, (bel_put4 HB3.out (by omega) _ _ _ _).drew⟩
  · have h0b : (er != 0) = true := by simpa using h0
    obtain ⟨q, rfl, hq⟩ := HER.out h0
    have HF := Lib.hid (fun W => t5fail_any A l cap p m 0 er q W hq hlen)
    go_wp2_with fail
    refine (HF.out _).mono ?_
    rintro e w3 ⟨rfl, hb3⟩
    obtain ⟨d1, d2, d3⟩ := (HY.out.2.1.keep hb3).rules
    obtain ⟨fp, fe, hf⟩ : ∃ fp fe, failF l q er = (fp, fe) := ⟨_, _, rfl⟩
    rw [hf]
    go_wp2
    refine bodyPost_ret (v := .tuple #[.string ⟨#[]⟩, .agg (txC A l.length cap fp m fe)]) (by simp only [results, Tryd.results57]; go_simp) rfl ?_
    exact ⟨rfl, bel_put4 (HY.out.2.2.trans (hb3.mono HY.out.2.2.size)) (by omega) _ _ _ _⟩
end Go.Proofs.YtalhoacancbldaaDoor

/- The walk of the reference davenportref05: numeral. -/
namespace Go.Proofs.YtalhoacancbldaaDoor
set_option linter.unusedVariables false
set_option linter.unusedSimpArgs false
open Go.RowKit
attribute [local go_sem] run_index_arr run_part_agg run_part_one run_field_agg

/-- three blocks of one's own: a text, and two for what is answered -/
def XB (w : World) (A : Option Addr) (n cap : Nat) (p m : Int) (wr : World) : Prop :=
  TB wr w.heap.size A n cap p m 0 ∧ Blk wr (w.heap.size + 1) 40 zVal ∧ Blk wr (w.heap.size + 1 + 1) 49 zTx ∧ Below w.heap.size w wr
section
variable {w wr wx : World} {A : Option Addr} {n cap : Nat} {p m : Int}
theorem XB.new (w : World) (A : Option Addr) (n cap : Nat) (p m : Int) :
    XB w A n cap p m (((w.alloc (.cells (txC A n cap p m 0) 49)).alloc (.cells zVal 40)).alloc (.cells zTx 49)) := by
  refine ⟨((Blk.new w _ _).alloc _).alloc _, ?_, ?_, (((Below.refl _ w).alloc (Nat.le_refl _) _).alloc (by simp) _).alloc (by simp; omega) _⟩
  · have := (Blk.new (w.alloc (.cells (txC A n cap p m 0) 49)) 40 zVal).alloc (.cells zTx 49)
    rw [World.size_alloc] at this; exact this
  · have := Blk.new ((w.alloc (.cells (txC A n cap p m 0) 49)).alloc (.cells zVal 40)) 49 zTx
    rw [World.size_alloc, World.size_alloc] at this; exact this
theorem XB.keep (h : XB w A n cap p m wr) (hb : Below wr.heap.size wr wx) : XB w A n cap p m wx := ⟨h.1.keep hb, h.2.1.keep hb, h.2.2.1.keep hb, h.2.2.2.trans (hb.mono h.2.2.2.size)⟩
theorem XB.drew (h : XB w A n cap p m wr) : XB w A n cap p m wr.drew := ⟨h.1.drew, h.2.1.drew, h.2.2.1.drew, h.2.2.2.drew⟩
theorem XB.drewN (h : XB w A n cap p m wr) (k : Nat) : XB w A n cap p m (wr.drewN k) := ⟨h.1.drewN k, h.2.1.drewN k, h.2.2.1.drewN k, bel_drewN h.2.2.2 k⟩
theorem XB.set1 (h : XB w A n cap p m wr) (q : Int) : XB w A n cap q m (wr.setCell ⟨w.heap.size, 1, none⟩ (.int .i64 q)) :=
  ⟨h.1.set_ 1 _, h.2.1.far (by simp) _, h.2.2.1.far (by simp; omega) _, h.2.2.2.setCell (p := ⟨w.heap.size, 1, none⟩) (Nat.le_refl _) _⟩
theorem XB.set2 (h : XB w A n cap p m wr) (q : Int) : XB w A n cap p q (wr.setCell ⟨w.heap.size, 2, none⟩ (.int .i64 q)) :=
  ⟨h.1.set_ 2 _, h.2.1.far (by simp) _, h.2.2.1.far (by simp; omega) _, h.2.2.2.setCell (p := ⟨w.heap.size, 2, none⟩) (Nat.le_refl _) _⟩
/-- all that a walk wants of them -/
theorem XB.facts (h : XB w A n cap p m wr) :
    (wr.cell? ⟨w.heap.size, 0, none⟩ = some (.slice A n cap) ∧ wr.cell? ⟨w.heap.size, 1, none⟩ = some (.int .i64 p) ∧ wr.cell? ⟨w.heap.size, 2, none⟩ = some (.int .i64 m) ∧ wr.cell? ⟨w.heap.size, 3, none⟩ = some (.int .i64 0)) ∧
    ((∀ i, wr.frozen? ⟨w.heap.size, i, none⟩ = false) ∧ w.heap.size < wr.heap.size) ∧
    ((∀ i, wr.cell? ⟨w.heap.size + 1, i, none⟩ = zVal[i]?) ∧ (∀ i, wr.frozen? ⟨w.heap.size + 1, i, none⟩ = false) ∧ w.heap.size + 1 < wr.heap.size) ∧
    ((∀ i, wr.cell? ⟨w.heap.size + 1 + 1, i, none⟩ = zTx[i]?) ∧ (∀ i, wr.frozen? ⟨w.heap.size + 1 + 1, i, none⟩ = false) ∧ w.heap.size + 1 + 1 < wr.heap.size) :=
  ⟨TB.cells h.1, ⟨h.1.frozen, h.1.lt⟩, h.2.1.rules, h.2.2.1.rules⟩
/-- what is answered is stored -/
theorem XB.out (h : XB w A n cap p m wr) (a b c d e a' b' c' d' : Value) :
    Below w.heap.size w (((((((((wr.setCell ⟨w.heap.size + 1, 0, none⟩ a).setCell ⟨w.heap.size + 1, 1, none⟩ b).setCell ⟨w.heap.size + 1, 2, none⟩ c).setCell ⟨w.heap.size + 1, 3, none⟩ d).setCell ⟨w.heap.size + 1, 4, none⟩ e).setCell
      ⟨w.heap.size + 1 + 1, 0, none⟩ a').setCell ⟨w.heap.size + 1 + 1, 1, none⟩ b').setCell ⟨w.heap.size + 1 + 1, 2, none⟩ c').setCell ⟨w.heap.size + 1 + 1, 3, none⟩ d') :=
  bel_put4 (bel_put5a h.2.2.2 (by omega) _ _ _ _ _) (by omega) _ _ _ _
end
theorem Rd.sub5 {W : World} {b o : Nat} {l : List UInt8} (h : Rd W (some ⟨b, o, none⟩) (byteV l)) (p k : Nat) : Rd W (some ⟨b, o + p, none⟩) (byteV ((l.drop p).take k)) := by
  have h1 := (h.drop p).take k
  have e : ((some (⟨b, o, none⟩ : Addr)).map fun a => a.add p) = some ⟨b, o + p, none⟩ := by simp [Addr.add]
  rw [e] at h1
  simpa [byteV, List.map_drop, List.map_take] using h1
set_option maxRecDepth 100000 in
set_option maxHeartbeats 4000000 in
theorem t5numeral_any (A : Option Addr) (l : List UInt8) (cap p : Nat) (m : Int) (c : UInt8) (w : World) (hr : Rd w A (byteV l)) (hc : l[p]? = some c) (hcc : c.toNat = 45 ∨ isDig c = true) (hcap : l.length ≤ cap) (hlen : l.length ≤ 1048576) :
    Calls Tryd.prog 61 #[.agg (txC A l.length cap p m 0)] w fun e w' => At5 A l.length cap m (numJ l p) e ∧ Below w.heap.size w w' := by
  have hp := get_lt hc
  obtain ⟨b, o, rfl, hb⟩ := hr.some_ (show 0 < l.length by omega)
  obtain ⟨e, pl, rt, he, h1, h2, h3⟩ := num_ref hc hcc hlen
  obtain ⟨r, hr0⟩ : ∃ r, numJ l p = r := ⟨_, rfl⟩
  rw [hr0] at h1 h2 h3 ⊢
  have HX := Lib.hid (XB.new w (some ⟨b, o, none⟩) l.length cap p m)
  have HR := Lib.hid hr
  have HE := Lib.hid (fun W (h : Below w.heap.size w W) => rEnd_any (.slice (some ⟨b, o, none⟩) l.length cap) l p W ⟨_, _, rfl, hcap, HR.out.below h⟩ hlen (by omega))
  rw [he] at HE
  have H1 := Lib.hid h1
  have H2 := Lib.hid h2
  have H3 := Lib.hid h3
  clear h1 h2 h3 he hr hr0 hc hcc
  go_enter Tryd.func61, Tryd.ntmps61
  go_wp2_with fail
  refine (HE.out _ HX.out.2.2.2).mono ?_
  rintro e1 w1 ⟨rfl, q, rfl⟩
  have hx := HX.out.drewN q
  obtain ⟨W2, hW2⟩ : ∃ W2, World.drewN (((w.alloc (.cells (txC (some ⟨b, o, none⟩) l.length cap p m 0) 49)).alloc (.cells zVal 40)).alloc (.cells zTx 49)) q = W2 := ⟨_, rfl⟩
  rw [hW2] at hx ⊢
  have HX2 := Lib.hid hx
  clear hW2 HX
  obtain ⟨⟨h10, h11, h12, h13⟩, ⟨f1, l1⟩, ⟨c2, f2, l2⟩, c3, f3, l3⟩ := hx.facts
  clear hx
  obtain ⟨y1, y2, y3, y4, y5, y6, y7, y8, y9, y10, y11, y12⟩ := neqs w.heap.size
  cases rt with
  | false =>
    obtain ⟨hel, hrr⟩ := H1.out rfl
    have HF := Lib.hid (fun W => t5fail_any (some ⟨b, o, none⟩) l cap p m 0 7 e W hel hlen)
    obtain ⟨fp, fe, hf⟩ : ∃ fp fe, failF l e 7 = (fp, fe) := ⟨_, _, rfl⟩
    rw [hf] at HF hrr
    have hfe : fe ≠ 0 := by have := failF_ne (l := l) (p := (e : Int)) (e := 7) (by decide); rw [hf] at this; exact this
    have HRR := Lib.hid (And.intro hrr hfe)
    clear hrr hf hfe
    go_wp2_with fail
    refine (HF.out _).mono ?_
    rintro e1 w3 ⟨rfl, hb3⟩
    have HX3 := Lib.hid (HX2.out.keep hb3)
    clear h10 h11 h12 h13 f1 l1 c2 f2 l2 c3 f3 l3 hb3
    obtain ⟨⟨h10, h11, h12, h13⟩, ⟨f1, l1⟩, ⟨c2, f2, l2⟩, c3, f3, l3⟩ := HX3.out.facts
    go_wp2
    refine bodyPost_ret (v := .tuple #[.agg zVal, .agg (txC (some ⟨b, o, none⟩) l.length cap fp m fe)]) (by simp only [results, Tryd.results61]; go_simp) rfl ?_
    rw [HRR.out.1]
    exact ⟨⟨HRR.out.2, rfl⟩, HX3.out.out _ _ _ _ _ _ _ _ _⟩
  | true =>
    have HF := Lib.hid (fun W => t5fail_any (some ⟨b, o, none⟩) l cap p m 0 130 p W (by omega) hlen)
    obtain ⟨fp, fe, hf⟩ : ∃ fp fe, failF l p 130 = (fp, fe) := ⟨_, _, rfl⟩
    rw [hf] at HF
    have hfe : fe ≠ 0 := by have := failF_ne (l := l) (p := (p : Int)) (e := 130) (by decide); rw [hf] at this; exact this
    have HFE := Lib.hid (And.intro hf hfe)
    clear hf hfe
    cases pl with
    | false =>
      have hrr := H2.out rfl rfl
      rw [HFE.out.1] at hrr
      have HRR := Lib.hid hrr
      clear hrr
      go_wp2_with fail
      refine (HF.out _).mono ?_
      rintro e1 w3 ⟨rfl, hb3⟩
      have HX3 := Lib.hid (HX2.out.keep hb3)
      clear h10 h11 h12 h13 f1 l1 c2 f2 l2 c3 f3 l3 hb3
      obtain ⟨⟨h10, h11, h12, h13⟩, ⟨f1, l1⟩, ⟨c2, f2, l2⟩, c3, f3, l3⟩ := HX3.out.facts
      go_wp2
      refine bodyPost_ret (v := .tuple #[.agg zVal, .agg (txC (some ⟨b, o, none⟩) l.length cap fp m fe)]) (by simp only [results, Tryd.results61]; go_simp) rfl ?_
      rw [HRR.out]
      exact ⟨⟨HFE.out.2, rfl⟩, HX3.out.out _ _ _ _ _ _ _ _ _⟩
    | true =>
      obtain ⟨hpe, hel, r2, hN, hrr⟩ := H3.out rfl rfl
      have hec : e ≤ cap := by omega
      have hln : ((l.drop p).take (e - p)).length = e - p := by rw [List.length_take, List.length_drop]; omega
      have hbs : BS W2 (.slice (some ⟨b, o + p, none⟩) (e - p) (cap - p)) ((l.drop p).take (e - p)) := ⟨_, _, by rw [hln], by rw [hln]; omega, Rd.sub5 (HR.out.below HX2.out.2.2.2) _ _⟩
      have HN := Lib.hid (hN W2 _ hbs)
      have hpc : ¬ cap = p := by omega
      clear hN hbs hln
      cases r2 with
      | none =>
        simp only at hrr
        rw [HFE.out.1] at hrr
        have HRR := Lib.hid hrr
        clear hrr
        go_wp2_with fail
        refine HN.out.mono ?_
        rintro e1 w1 ⟨rfl, rfl⟩
        go_wp2_with fail
        refine (HF.out _).mono ?_
        rintro e1 w3 ⟨rfl, hb3⟩
        have HX3 := Lib.hid (HX2.out.keep hb3)
        clear h10 h11 h12 h13 f1 l1 c2 f2 l2 c3 f3 l3 hb3
        obtain ⟨⟨h10, h11, h12, h13⟩, ⟨f1, l1⟩, ⟨c2, f2, l2⟩, c3, f3, l3⟩ := HX3.out.facts
        go_wp2
        refine bodyPost_ret (v := .tuple #[.agg zVal, .agg (txC (some ⟨b, o, none⟩) l.length cap fp m fe)]) (by simp only [results, Tryd.results61]; go_simp) rfl ?_
        rw [HRR.out]
        exact ⟨⟨HFE.out.2, rfl⟩, HX3.out.out _ _ _ _ _ _ _ _ _⟩
      | some n =>
        simp only at hrr
        have HRR := Lib.hid hrr
        clear hrr
        go_wp2_with fail
        refine HN.out.mono ?_
        rintro e1 w1 ⟨rfl, rfl⟩
        go_wp2
        have hx := HX2.out.set1 (e : Int)
        obtain ⟨W3, hW3⟩ : ∃ W3, W2.setCell ⟨w.heap.size, 1, none⟩ (.int .i64 e) = W3 := ⟨_, rfl⟩
        rw [hW3] at hx ⊢
        have HX3 := Lib.hid hx
        clear hW3 h10 h11 h12 h13 f1 l1 c2 f2 l2 c3 f3 l3 hx
        obtain ⟨⟨h10, h11, h12, h13⟩, ⟨f1, l1⟩, ⟨c2, f2, l2⟩, c3, f3, l3⟩ := HX3.out.facts
        go_region_held3 (fun w' => w'.cell? ⟨w.heap.size, 0, none⟩ = some (.slice (some ⟨b, o, none⟩) l.length cap) ∧ w'.cell? ⟨w.heap.size, 1, none⟩ = some (.int .i64 e) ∧ w'.cell? ⟨w.heap.size, 2, none⟩ = some (.int .i64 m) ∧ w'.cell? ⟨w.heap.size, 3, none⟩ = some (.int .i64 0)) (go_keep) (fail)
        all_goals
          go_wp2
          refine bodyPost_ret (v := .tuple #[.agg (atC 3 n []), .agg (txC (some ⟨b, o, none⟩) l.length cap e m 0)]) (by simp only [results, Tryd.results61]; go_simp) rfl ?_
          rw [HRR.out]
          exact ⟨⟨3, n, [], rfl, rfl⟩, (HX3.out.out _ _ _ _ _ _ _ _ _).drew⟩
end Go.Proofs.YtalhoacancbldaaDoor
