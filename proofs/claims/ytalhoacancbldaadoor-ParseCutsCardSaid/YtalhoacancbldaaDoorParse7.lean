/- The walks of package parse: close, colon, first, firstKey, more. -/
import Derived.Test.YtalhoacancbldaaDoorParse6
namespace Go.Proofs.YtalhoacancbldaaDoor
set_option linter.unusedVariables false
set_option linter.unusedSimpArgs false
open Go.RowKit
attribute [local go_sem] run_index_arr run_part_agg run_part_one run_field_agg

/-- what is open, less the last one -/
theorem own_pop {W : World} {B ob d capo : Nat} {E : List (List Value × List UInt8)} {ce : List Value} {key : List UInt8} (h : W.ownsRow B 160 6 (.slice (some ⟨ob, 0, none⟩) (d + 1) capo) (d + 1) (opC (((ce, key) :: E).reverse)))
    (hE : E.length = d) (h5 : ∀ e ∈ E, e.1.length = 5) : W.ownsRow B 160 6 (.slice (some ⟨ob, 0, none⟩) d capo) d (opC E.reverse) := by
  have hl : (opC E.reverse).length = d * 6 := by rw [opC_len (fun e he => h5 e (List.mem_reverse.1 he)), List.length_reverse, hE]
  refine ⟨hl, .inr ?_⟩
  rcases h.2 with ⟨h', _⟩ | ⟨g', cap', cur, h', hb, hg, hnc, hcm, hcs, htake⟩
  · cases h'
  · obtain ⟨rfl, rfl⟩ : ob = g' ∧ capo = cap' := by simpa using h'
    refine ⟨ob, capo, cur, rfl, hb, hg, by omega, hcm, hcs, ?_⟩
    have h1 := congrArg (List.take (d * 6)) htake
    rw [List.take_take, Nat.min_eq_left (by omega)] at h1
    rw [h1, List.reverse_cons, opC_app, List.take_append, List.take_of_length_le (by omega), hl, Nat.sub_self, List.take_zero, List.append_nil]
set_option maxRecDepth 100000 in
set_option maxHeartbeats 4000000 in
theorem pClose_any (w W : World) (g : Nat) (A : Option Addr) (cap : Nat) (l : List UInt8) (p many m : Nat) (ov : Value) (E : List (List Value × List UInt8)) (v : JV) (key : List UInt8) (r : JStk)
    (h : PGo w W g A cap l p many ov E ((v, key) :: r)) (hs : stkOk m ((v, key) :: r)) (hm : m ≤ 256) (hp : p ≤ 1048576) :
    Calls Tryd.prog 124 #[.pointer (some ⟨g, 0, none⟩)] W (PPost w g A cap l (pClose l p many ((v, key) :: r))) := by
  match E, h with
  | [], h => exact h.est.elim
  | (ce, key') :: Er, h =>
    obtain rfl : key' = key := h.est.2.1
    have hown := h.own
    obtain ⟨ob, capo, rfl, hob, hobl⟩ := hown.form (by simp)
    have hcapo := ownCap hown
    obtain ⟨hE1, hE5⟩ := ESt.len h.est.2.2
    obtain ⟨k0, n0, s0, A0, na0, ca0, B0, nb0, cb0, rfl⟩ := h.est.1.form
    have hgne : g ≠ ob := fun e => h.gne (by rw [e]; rfl)
    have hgl : g < W.heap.size := h.pb.blk.lt
    obtain ⟨d, hdd⟩ : ∃ d, r.length = d := ⟨_, rfl⟩
    obtain ⟨hcc, hf, _⟩ := h.pb.blk.rules
    unfold pCells at hcc
    simp only [List.length_cons, hdd] at hown hcapo h hcc
    rw [hdd] at hE1
    have hd8 : d + 1 ≤ 8 := by have := hs.1; simp only [List.length_cons, hdd] at this; exact this
    have hcell := own_cells hown hE1 hE5
    have q0 := hcell 0 (by omega)
    have q1 := hcell 1 (by omega)
    have q2 := hcell 2 (by omega)
    have q3 := hcell 3 (by omega)
    have q4 := hcell 4 (by omega)
    simp only [List.cons_append, List.nil_append, List.getElem?_cons_zero, List.getElem?_cons_succ, Nat.add_zero] at q0 q1 q2 q3 q4
    have hsr : stkOk m r := ⟨by have := hs.1; simp at this; omega, fun x hx => hs.2 x (List.mem_cons_of_mem _ hx)⟩
    have hdc : d ≤ capo := by omega
    have hadd : IntKind.i64.wrap ((p : Int) + 1) = (p : Int) + 1 := by rw [IntWalk.i64_in _ (by omega)]
    have HH := Lib.hid h
    have HO := Lib.hid (own_pop hown hE1 hE5)
    have HD := Lib.hid hdd
    have HSR := Lib.hid hsr
    clear h hown hcapo hE1 hE5 hdd hs hcell hsr
    go_enter Tryd.func124, Tryd.ntmps124
    go_wp2_with fail
    have hgb : W.grownBy ((W.setCell ⟨g, 3, none⟩ (.slice (some ⟨ob, 0, none⟩) d capo)).setCell ⟨g, 0, none⟩ (.int .i64 ((p : Int) + 1))) (some g) := gb_setCell (gb_setCell (gb_refl _ _) _ _) _ _
    have hpb := (HH.out.pb.set3 (.slice (some ⟨ob, 0, none⟩) d capo)).set0 ((p : Int) + 1)
    have hkf : KeepF (FO w.heap.size g (.slice (some ⟨ob, 0, none⟩) (d + 1) capo)) W ((W.setCell ⟨g, 3, none⟩ (.slice (some ⟨ob, 0, none⟩) d capo)).setCell ⟨g, 0, none⟩ (.int .i64 ((p : Int) + 1))) := KeepF.of_grown hgb (fun b hf e => hf.2.1 (by simpa using e))
    have hown2 := HO.out.kept hgb (.inr (fun e => hgne (by simpa [Value.ownBlock] using e.symm)))
    rw [← HD.out] at hown2
    have hpg : PGo w ((W.setCell ⟨g, 3, none⟩ (.slice (some ⟨ob, 0, none⟩) d capo)).setCell ⟨g, 0, none⟩ (.int .i64 ((p : Int) + 1))) g A cap l (p + 1) many (.slice (some ⟨ob, 0, none⟩) d capo) Er r :=
      ⟨hpb, by rw [HD.out] at hown2 ⊢; exact hown2, (HH.out.est.2.2.keep hkf).mono (fun b _ h => h)⟩
    have hvr : VR _ (FO w.heap.size g (.slice (some ⟨ob, 0, none⟩) d capo)) _ v := (HH.out.est.1.keep hkf).mono (fun b _ h => h)
    have hal := (Below.refl _ ((W.setCell ⟨g, 3, none⟩ (.slice (some ⟨ob, 0, none⟩) d capo)).setCell ⟨g, 0, none⟩ (.int .i64 ((p : Int) + 1)))).alloc (Nat.le_refl _) (.cells #[.int .i64 k0, .int .i64 n0, .string s0, .slice A0 na0 ca0, .slice B0 nb0 cb0] 40)
    refine (pPut_any w _ g A cap l (p + 1) many m _ Er r _ v (hpg.keep hal) (hvr.bel hal) HSR.out hm).mono ?_
    rintro e W2 ⟨rfl, hps⟩
    go_wp2
    go_ret
    exact ⟨rfl, hps⟩
set_option maxRecDepth 100000 in
set_option maxHeartbeats 4000000 in
theorem pColon_any (w W : World) (g : Nat) (A : Option Addr) (cap : Nat) (l : List UInt8) (p many : Nat) (ov : Value) (E : List (List Value × List UInt8)) (stk : JStk)
    (h : PGo w W g A cap l p many ov E stk) (hp : p ≤ l.length) (hcap : l.length ≤ cap) (hlen : l.length ≤ 1048576) :
    Calls Tryd.prog 102 #[.pointer (some ⟨g, 0, none⟩)] W (PPost w g A cap l (pColon l p many stk)) := by
  have hnx := pNext_any w W g A cap l p many 0 ov zI zI zS zN zN h.pb hp hcap hlen
  have hsk := skipB_le hp
  obtain ⟨q, hq⟩ : ∃ q, skipB l p = q := ⟨_, rfl⟩
  have hspec : pColon l p many stk = if l[q]? = some 58 then .go 0 (q + 1) many stk else pFail l q 7 := by unfold pColon; rw [hq]
  rw [hq] at hnx hsk
  have HNX := Lib.hid hnx
  have HSP := Lib.hid hspec
  have HH := Lib.hid h
  have hadd : IntKind.i64.wrap ((q : Int) + 1) = (q : Int) + 1 := by rw [IntWalk.i64_in _ (by omega)]
  clear hnx hspec hq h
  by_cases h58 : l[q]? = some 58
  · have hb : byteAt l q = 58 := by rw [byteAt, h58]; rfl
    rw [if_pos h58] at HSP
    rw [hb] at HNX
    clear h58 hb
    go_enter Tryd.func102, Tryd.ntmps102
    go_wp2_with (go_at_call 52; refine HNX.out.mono ?_; rintro e W1 ⟨rfl, hb1, hg1⟩; obtain ⟨hcc, hf, hlt⟩ := hb1.blk.rules; unfold pCells at hcc)
    go_ret
    rw [HSP.out]
    exact ⟨rfl, ov, E, (HH.out.grown hb1 hg1).grown (hb1.set0 _) (gb_setCell (gb_refl _ _) _ _)⟩
  · have hb : (byteAt l q != 58) = true := by
      unfold byteAt
      cases hx : l[q]? with
      | none => simp
      | some c =>
        have : c ≠ 58 := fun e => h58 (by rw [hx, e])
        have : c.toNat ≠ 58 := fun e => this (UInt8.toNat_inj.1 (by simpa using e))
        simp; omega
    rw [if_neg h58] at HSP
    obtain ⟨bb, hbb⟩ : ∃ bb, byteAt l q = bb := ⟨_, rfl⟩
    rw [hbb] at HNX hb
    clear h58 hbb
    go_enter Tryd.func102, Tryd.ntmps102
    go_wp2_with (first | (go_at_call 52; refine HNX.out.mono ?_; rintro e W1 ⟨rfl, hb1, hg1⟩; obtain ⟨hcc, hf, hlt⟩ := hb1.blk.rules; unfold pCells at hcc) | (go_at_call 53; refine (pFails_any w _ g _ cap l q many 0 q 7 ov zI zI zS zN zN hb1).mono ?_; rintro e W2 ⟨rfl, hp2, hg2⟩))
    go_ret
    rw [HSP.out]
    exact ⟨rfl, ov, many, _, _, _, _, _, hp2⟩
end Go.Proofs.YtalhoacancbldaaDoor
