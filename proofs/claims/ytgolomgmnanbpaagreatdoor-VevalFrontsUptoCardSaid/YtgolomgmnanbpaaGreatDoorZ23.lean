import Derived.Test.YtgolomgmnanbpaaGreatDoorZ14
import Derived.Test.YtgolomgmnanbpaaGreatDoorZ22
import Derived.Deep.RegionHeld3
namespace Go.Proofs.YtgolomgmnanbpaaGreatDoor
set_option linter.unusedVariables false
set_option linter.unusedSimpArgs false
open Go.RowKit
attribute [local go_sem] run_index_arr run_part_agg run_part_one run_field_agg
def cutS1 (g : List SJ → List SJ) : SJ → SJ | .mk k s a b body els => .mk k s (cutE 14 a) (cutE 14 b) (g body) (g els)
def cutS : Nat → List SJ → List SJ
  | 0, _ => []
  | r + 1, l => (l.take 5).map (cutS1 (cutS r))
def CusP (l : List SJ) (F : Nat → Prop) (w : World) (e : Ending) (w' : World) : Prop := ∃ (A : Option Addr) (n ca : Nat) (css : List (List Value)), e = .returned (.slice A n ca) ∧ n = l.length ∧ n ≤ ca ∧ (A = none → ca = 0) ∧ SRs w' (FN F w) css l ∧ RdF w' (FN F w) A css.flatten ∧ Below w.heap.size w w'
theorem srs_growG {w w2 : World} {G : Nat → Prop} {row row2 : Value} {css : List (List Value)} {kids : List SJ} (h : SRs w (FO G row) css kids) (hg : w.grownBy w2 row.ownBlock) (ho : row2.ownBlock = row.ownBlock ∨ row2.ownBlock = some w.heap.size) :
    SRs w2 (FO G row2) css kids := by
  refine RR.imp h fun c x hc => ?_
  have h1 : SR w (fun b => FO G row b ∧ b < w.heap.size) c x := hc.mono fun b hb hF => ⟨hF, hb⟩
  have h2 : SR w2 (fun b => FO G row b ∧ b < w.heap.size) c x := h1.keep (KeepF.of_grown hg fun b hb => hb.1.2)
  refine h2.mono fun b _ hF => ⟨hF.1.1, fun e => ?_⟩
  rcases ho with ho | ho
  · exact hF.1.2 (by rw [e, ho])
  · rw [ho] at e
    have : b = w.heap.size := by injection e
    omega
theorem gb_setC {a : World} {b : Nat} : ∀ (l : List Value) (o : Nat) {W : World}, a.grownBy W (some b) → a.grownBy (W.setCells b o l) (some b)
  | [], _, _, h => h
  | v :: r, o, W, h => gb_setC r (o + 1) (h.trans ⟨rfl, rfl, rfl, by simp, fun k hk hne => Below.heap_setCell W ⟨b, o, none⟩ v k (fun e => hne (by rw [e]))⟩)
theorem Blk.thereAt {w : World} {g : Nat} {t : TypeId} {cs : Array Value} {o n : Nat} (h : Blk w g t cs) (ho : o + n ≤ cs.size) : World.there w g o n :=
  fun j hj => ⟨by rw [h.cell]; simp; omega, h.frozen _⟩
set_option maxHeartbeats 8000000 in
theorem Blk.setSA {w : World} {g : Nat} {t : TypeId} {c0 c1 c2 c3 c4 c5 c6 c7 c8 c9 c10 c11 c12 c13 c14 c15 c16 c17 c18 c19 : Value} (h : Blk w g t #[c0, c1, c2, c3, c4, c5, c6, c7, c8, c9, c10, c11, c12, c13, c14, c15, c16, c17, c18, c19]) (x0 x1 x2 x3 x4 x5 x6 x7 : Value) : Blk (w.setCells g 2 [x0, x1, x2, x3, x4, x5, x6, x7]) g t #[c0, c1, x0, x1, x2, x3, x4, x5, x6, x7, c10, c11, c12, c13, c14, c15, c16, c17, c18, c19] := by
  replace h := h.set_ 2 x0
  simp only [List.setIfInBounds_toArray, List.set_cons_succ, List.set_cons_zero] at h
  replace h := h.set_ 3 x1
  simp only [List.setIfInBounds_toArray, List.set_cons_succ, List.set_cons_zero] at h
  replace h := h.set_ 4 x2
  simp only [List.setIfInBounds_toArray, List.set_cons_succ, List.set_cons_zero] at h
  replace h := h.set_ 5 x3
  simp only [List.setIfInBounds_toArray, List.set_cons_succ, List.set_cons_zero] at h
  replace h := h.set_ 6 x4
  simp only [List.setIfInBounds_toArray, List.set_cons_succ, List.set_cons_zero] at h
  replace h := h.set_ 7 x5
  simp only [List.setIfInBounds_toArray, List.set_cons_succ, List.set_cons_zero] at h
  replace h := h.set_ 8 x6
  simp only [List.setIfInBounds_toArray, List.set_cons_succ, List.set_cons_zero] at h
  replace h := h.set_ 9 x7
  simp only [List.setIfInBounds_toArray, List.set_cons_succ, List.set_cons_zero] at h
  exact h
set_option maxHeartbeats 8000000 in
theorem Blk.setSB {w : World} {g : Nat} {t : TypeId} {c0 c1 c2 c3 c4 c5 c6 c7 c8 c9 c10 c11 c12 c13 c14 c15 c16 c17 c18 c19 : Value} (h : Blk w g t #[c0, c1, c2, c3, c4, c5, c6, c7, c8, c9, c10, c11, c12, c13, c14, c15, c16, c17, c18, c19]) (x0 x1 x2 x3 x4 x5 x6 x7 : Value) : Blk (w.setCells g 10 [x0, x1, x2, x3, x4, x5, x6, x7]) g t #[c0, c1, c2, c3, c4, c5, c6, c7, c8, c9, x0, x1, x2, x3, x4, x5, x6, x7, c18, c19] := by
  replace h := h.set_ 10 x0
  simp only [List.setIfInBounds_toArray, List.set_cons_succ, List.set_cons_zero] at h
  replace h := h.set_ 11 x1
  simp only [List.setIfInBounds_toArray, List.set_cons_succ, List.set_cons_zero] at h
  replace h := h.set_ 12 x2
  simp only [List.setIfInBounds_toArray, List.set_cons_succ, List.set_cons_zero] at h
  replace h := h.set_ 13 x3
  simp only [List.setIfInBounds_toArray, List.set_cons_succ, List.set_cons_zero] at h
  replace h := h.set_ 14 x4
  simp only [List.setIfInBounds_toArray, List.set_cons_succ, List.set_cons_zero] at h
  replace h := h.set_ 15 x5
  simp only [List.setIfInBounds_toArray, List.set_cons_succ, List.set_cons_zero] at h
  replace h := h.set_ 16 x6
  simp only [List.setIfInBounds_toArray, List.set_cons_succ, List.set_cons_zero] at h
  replace h := h.set_ 17 x7
  simp only [List.setIfInBounds_toArray, List.set_cons_succ, List.set_cons_zero] at h
  exact h
theorem infoStm9 : (Tryz.prog.info? 69).map (fun i => (i.zero, i.size, i.bytes)) = some (some (.agg #[.int .i64 0, .string ⟨#[]⟩, .int .i64 0, .int .i64 0, .int .i64 0, .string ⟨#[]⟩, .slice none 0 0, .slice none 0 0, .string ⟨#[]⟩, .slice none 0 0, .int .i64 0, .int .i64 0, .int .i64 0, .string ⟨#[]⟩, .slice none 0 0, .slice none 0 0, .string ⟨#[]⟩, .slice none 0 0, .slice none 0 0, .slice none 0 0]), 20, 328) := by kernel_rfl
set_option maxRecDepth 100000 in
set_option maxHeartbeats 32000000 in
theorem lStmtsC (F : Nat → Prop) : ∀ (room : Nat) (l : List SJ) (A : Option Addr) (n ca : Nat) (css : List (List Value)) (q : Int) (w : World), q = room → (∀ b, F b → b < w.heap.size) → SRs w F css l → RdF w F A css.flatten → l.length = n → n ≤ ca → camSL l → n ≤ 4194304 → room ≤ 6 →
    Calls Tryz.prog 57 #[.slice A n ca, .int .i64 q] w (CusP (cutS room l) F w) := by
  intro room
  induction room with
  | zero =>
    rintro l A n ca css q w rfl hF hS hR hln hnc hC hn hroom
    clear hS hR hln hC
    go_enter Tryz.func57, Tryz.ntmps57
    go_wp2
    refine bodyPost_ret (v := .slice none 0 0) (by simp only [results, Tryz.results57]; go_simp) rfl ?_
    exact ⟨none, 0, 0, [], rfl, rfl, Nat.le_refl _, fun _ => rfl, RR.nil, RdF.nil, by go_grown⟩
  | succ r ih =>
    rintro l A n ca css q w hq hF hS hR hln hnc hC hn hroom
    have HKD := Lib.hid (And.intro hS hR)
    have HFF := Lib.hid hF
    have HNK := Lib.hid hln
    have HCL := Lib.hid (camSL_iff.1 hC)
    have HIH := Lib.hid (show ∀ (l : List SJ) (A : Option Addr) (n ca : Nat) (css : List (List Value)) (w : World), (∀ b, F b → b < w.heap.size) → SRs w F css l → RdF w F A css.flatten → l.length = n → n ≤ ca → camSL l → n ≤ 4194304 → Calls Tryz.prog 57 #[.slice A n ca, .int .i64 (q - 1)] w (CusP (cutS r l) F w) from
      fun l A n ca css w h1 h2 h3 h4 h5 h6 h7 => ih l A n ca css (q - 1) w (by omega) h1 h2 h3 h4 h5 h6 h7 (by omega))
    have hq1 : 1 ≤ q := by omega
    have hq6 : q ≤ 6 := by omega
    have hq0 : (q == 0) = false := by simp; omega
    have hq0' : ¬ q = 0 := by omega
    have hqw : IntKind.i64.wrap (q - 1) = q - 1 := by rw [IntKind.wrap_i64]; omega
    obtain ⟨i0, hi, hz0, hz1, hz2⟩ := info_parts infoStm9
    have HI := Lib.hid hi
    obtain ⟨m, hm⟩ : ∃ m, min n 5 = m := ⟨_, rfl⟩
    have hm5 : m ≤ 5 := by omega
    have hmn : m ≤ n := by omega
    have HM := Lib.hid hm
    have HHE := Lib.hid (show min (n : Int) 5 = (m : Int) by omega)
    have hif : (if (5 : Int) < (n : Int) then (5 : Int) else (n : Int)) = (m : Int) := by split <;> omega
    have HW := Lib.hid (Below.refl w.heap.size w)
    clear hF hS hR hln hC hi hq hroom ih hm
    go_enter Tryz.func57, Tryz.ntmps57
    go_upto_region 4 with fail
    go_wp2
    try rw [HHE.out]
    try rw [Int.toNat_natCast]
    try rw [show max (m : Int) 0 = (m : Int) by omega]
    clear hif
    go_loopg [5, 17] m (fun gk s5 s17 wr => ∃ (i : Nat) (row : Value) (ocs : List (List Value)), row = s5 ∧ i ≤ m ∧ gk = m - i ∧ s17 = .int .i64 (i : Int) ∧
      Hid (Below w.heap.size w wr) ∧ Hid (wr.ownsRow w.heap.size 69 20 row i ocs.flatten) ∧ Hid (SRs wr (FO (fun b => F b ∨ w.heap.size ≤ b) row) ocs ((l.take i).map (cutS1 (cutS r)))))
    case atStart => exact ⟨0, _, [], rfl, Nat.zero_le _, by go_num, rfl, HW, Lib.hid (World.ownsRow_nil _ _ _ _), Lib.hid (by rw [List.take_zero]; exact RR.nil)⟩
    case round =>
      obtain ⟨i, row, ocs, rfl, him, hgk, rfl, HWB, HO, HV⟩ := hrel
      have HGK := Lib.hid hgk
      clear hgk
      by_cases hlt : i < m
      · obtain ⟨x, hx⟩ : ∃ x, l[i]? = some x := ⟨_, List.getElem?_eq_getElem (by rw [HNK.out]; omega)⟩
        have hxm := List.mem_of_getElem? hx
        have hcx := HCL.out x hxm
        have HTK := Lib.hid (show (l.take (i + 1)).map (cutS1 (cutS r)) = (l.take i).map (cutS1 (cutS r)) ++ [cutS1 (cutS r) x] by rw [List.take_add_one, hx, List.map_append]; rfl)
        have hS1 : SRs wr F css l := RR.imp HKD.out.1 fun c y hc => hc.bel HWB.out
        have hR1 : RdF wr F A css.flatten := HKD.out.2.keep (KeepF.of_below HWB.out)
        have hFr : ∀ b, F b → b < wr.heap.size := fun b hb => Nat.lt_of_lt_of_le (HFF.out b hb) HWB.out.size
        obtain ⟨k, s, a, b, body, els⟩ := x
        obtain ⟨bl, o, ka, kva, nva, sva, Ava, nka, cka, Bva, nya, cya, sa, Ca, nxa, cxa, kb, kvb, nvb, svb, Avb, nkb, ckb, Bvb, nyb, cyb, sb, Cb, nxb, cxb, BA, LA, cb, cl, bss, lss, rfl, hbl, _, hEA, hEB, ⟨hb1, hb2_, hb3⟩, ⟨he1, he2, he3⟩, hSR, hz⟩ := kid_cellsS hS1 hR1 hx
        unfold camS at hcx
        obtain ⟨hik, hsl, hca, hcb, hbl4, hel4, hcbo, hcel⟩ := hcx
        obtain ⟨nb, hnb⟩ : ∃ q, body.length = q := ⟨_, rfl⟩
        obtain ⟨nl, hnl⟩ : ∃ q, els.length = q := ⟨_, rfl⟩
        rw [hnb] at hb2_ hbl4 hz hSR
        rw [hnl] at he2 hel4 hz hSR
        have HRG := Lib.hid (show wr.rangeAt bl (o + i * 20) [.int .i64 k, .string ⟨s.toArray⟩, .int .i64 ka, .int .i64 kva, .int .i64 nva, .string sva, .slice Ava nka cka, .slice Bva nya cya, .string sa, .slice Ca nxa cxa, .int .i64 kb, .int .i64 kvb, .int .i64 nvb, .string svb, .slice Avb nkb ckb, .slice Bvb nyb cyb, .string sb, .slice Cb nxb cxb, .slice BA nb cb, .slice LA nl cl] from fun j v hv => by rw [Nat.add_assoc]; exact hz j v hv)
        have hlb : bl < wr.heap.size := hbl
        obtain ⟨W1, hW1⟩ : ∃ W1, wr.alloc (.cells #[.int .i64 k, .string ⟨s.toArray⟩, .int .i64 ka, .int .i64 kva, .int .i64 nva, .string sva, .slice Ava nka cka, .slice Bva nya cya, .string sa, .slice Ca nxa cxa, .int .i64 kb, .int .i64 kvb, .int .i64 nvb, .string svb, .slice Avb nkb ckb, .slice Bvb nyb cyb, .string sb, .slice Cb nxb cxb, .slice BA nb cb, .slice LA nl cl] 69) = W1 := ⟨_, rfl⟩
        have hbA : Below wr.heap.size wr W1 := by rw [← hW1]; exact (Below.refl _ _).alloc (Nat.le_refl _) _
        have HB1 := Lib.hid (show Blk W1 wr.heap.size 69 #[.int .i64 k, .string ⟨s.toArray⟩, .int .i64 ka, .int .i64 kva, .int .i64 nva, .string sva, .slice Ava nka cka, .slice Bva nya cya, .string sa, .slice Ca nxa cxa, .int .i64 kb, .int .i64 kvb, .int .i64 nvb, .string svb, .slice Avb nkb ckb, .slice Bvb nyb cyb, .string sb, .slice Cb nxb cxb, .slice BA nb cb, .slice LA nl cl] by rw [← hW1]; exact Blk.new _ _ _)
        have hs1 : W1.heap.size = wr.heap.size + 1 := by rw [← hW1]; simp
        have HS1 := Lib.hid hs1
        have HXA := Lib.hid (fun (W : World) (h : Below W1.heap.size W1 W) => lExprC F 14 a [.int .i64 ka, .int .i64 kva, .int .i64 nva, .string sva, .slice Ava nka cka, .slice Bva nya cya, .string sa, .slice Ca nxa cxa] 14 W rfl (fun b hb => by have := hFr b hb; have := h.size; omega) ((hEA.bel hbA).bel h) hca (Nat.le_refl _))
        have HXB := Lib.hid (fun (W : World) (h : Below W1.heap.size W1 W) => lExprC F 14 b [.int .i64 kb, .int .i64 kvb, .int .i64 nvb, .string svb, .slice Avb nkb ckb, .slice Bvb nyb cyb, .string sb, .slice Cb nxb cxb] 14 W rfl (fun b hb => by have := hFr b hb; have := h.size; omega) ((hEB.bel hbA).bel h) hcb (Nat.le_refl _))
        have HXCr := Lib.hid (And.intro (And.intro (fun (W : World) (h : KeepF F W1 W) => RR.imp hb1 fun c y (hc : SR _ _ c y) => (hc.bel hbA).keep h) (fun (W : World) (h : KeepF F W1 W) => (hb3.keep (KeepF.of_below hbA)).keep h)) (And.intro hb2_ (And.intro hcbo hbl4)))
        have HXDr := Lib.hid (And.intro (And.intro (fun (W : World) (h : KeepF F W1 W) => RR.imp he1 fun c y (hc : SR _ _ c y) => (hc.bel hbA).keep h) (fun (W : World) (h : KeepF F W1 W) => (he3.keep (KeepF.of_below hbA)).keep h)) (And.intro he2 (And.intro hcel hel4)))
        have HNB := Lib.hid (And.intro hnb hnl)
        have HFR := Lib.hid hFr
        have HO1 := Lib.hid (ownBel HO.out hbA)
        have HV1 := Lib.hid (RR.imp HV.out fun c y (hc : SR _ _ c y) => (hc.mono (F' := fun b => (FO (fun b => F b ∨ w.heap.size ≤ b) row) b ∧ b < wr.heap.size) fun b hb hF => ⟨hF, hb⟩).bel hbA)
        have HRW := Lib.hid (fun (j : Nat) (e : row.ownBlock = some j) => HO.out.lt j e)
        have HA1 := Lib.hid hbA
        have HWZ := Lib.hid HWB.out.size
        have HW1 := Lib.hid hW1
        have hnG : ∀ b, F b ∨ wr.heap.size < b → b ≠ wr.heap.size := fun b hb => by rcases hb with hb | hb; exact Nat.ne_of_lt (hFr b hb); omega
        clear hz hSR hEA hEB hb1 hb2_ hb3 he1 he2 he3 hca hcb hbl4 hel4 hcbo hcel hnb hnl hx hxm hbl hS1 hR1 hW1 hbA hFr hs1 hik hsl HO HV
        go_upto_region 6 with fail
        go_step
        go_step
        go_step
        go_step
        refine wpList_load_mid rfl 69 (.tmp 19) rfl bl (o + i * 20) rfl [.int .i64 k, .string ⟨s.toArray⟩, .int .i64 ka, .int .i64 kva, .int .i64 nva, .string sva, .slice Ava nka cka, .slice Bva nya cya, .string sa, .slice Ca nxa cxa, .int .i64 kb, .int .i64 kvb, .int .i64 nvb, .string svb, .slice Avb nkb ckb, .slice Bvb nyb cyb, .string sb, .slice Cb nxb cxb, .slice BA nb cb, .slice LA nl cl] _ HRG.out Tryz.underlying69 rfl (by kernel_rfl) ?_
        go_step
        go_step
        go_step
        refine wpList_store_new rfl 69 (.tmp 7) (.tmp 20) rfl _ _ rfl rfl (by kernel_rfl) (by kernel_rfl) (by first | kernel_rfl | simp [Value.oneCell']) ?_
        rw [HW1.out]
        clear HW1 HRG hlb
        go_upto_region 7 with fail
        try dsimp only [Act.put]
        go_cut [] (fun wx => ∃ (acs bcs : List Value) (W : World), W = wx ∧ Hid (Blk W wr.heap.size 69 (([.int .i64 k, .string ⟨s.toArray⟩] : List Value) ++ acs ++ bcs ++ ([.slice BA nb cb, .slice LA nl cl] : List Value)).toArray) ∧ Hid (ER W (fun b => F b ∨ wr.heap.size < b) acs (cutE 14 a)) ∧ Hid (ER W (fun b => F b ∨ wr.heap.size < b) bcs (cutE 14 b)) ∧ Hid (W1.grownBy W (some wr.heap.size)))
        case first =>
          refine wp_region_held_drew (S := fun _ => True) (by kernel_rfl) trivial (fun hHeld => ?_)
          refine wpAnyH_worldM (fun Z0 hw0 => ?_)
          have HZ := Lib.hid (show Below W1.heap.size W1 Z0 by rw [hw0]; exact (Below.refl _ _).drew)
          have HBK := Lib.hid (show Blk Z0 wr.heap.size 69 #[.int .i64 k, .string ⟨s.toArray⟩, .int .i64 ka, .int .i64 kva, .int .i64 nva, .string sva, .slice Ava nka cka, .slice Bva nya cya, .string sa, .slice Ca nxa cxa, .int .i64 kb, .int .i64 kvb, .int .i64 nvb, .string svb, .slice Avb nkb ckb, .slice Bvb nyb cyb, .string sb, .slice Cb nxb cxb, .slice BA nb cb, .slice LA nl cl] by rw [hw0]; exact HB1.out.drew)
          clear hw0
          refine wpAnyH_take (i := 0) (oi := ⟨some 21, _, _, _, _, _⟩) (v := .pointer (some ⟨wr.heap.size, 2, none⟩)) rfl (by kernel_rfl) (by kernel_rfl) (by kernel_rfl) (fun _ _ _ h => h) (Or.inl ⟨by kernel_rfl, ?_⟩) (by assumption) ?_
          · intro W hSw; go_simp
          try simp only [Act.put, List.setIfInBounds_toArray, List.set_cons_zero, List.set_cons_succ]
          refine wpAnyH_take (i := 3) (oi := ⟨some 24, _, _, _, _, _⟩) (v := .pointer (some ⟨wr.heap.size, 10, none⟩)) rfl (by kernel_rfl) (by kernel_rfl) (by kernel_rfl) (fun _ _ _ h => h) (Or.inl ⟨by kernel_rfl, ?_⟩) (by assumption) ?_
          · intro W hSw; go_simp
          try simp only [Act.put, List.setIfInBounds_toArray, List.set_cons_zero, List.set_cons_succ]
          refine wpAnyH_ready (rs := [1, 4]) (by kernel_rfl) (by simp) ?_
          refine AllReadyH.cons (o := ⟨some 22, _, _, _, _, _⟩) rfl (fun K hK => ?_) (AllReadyH.cons (o := ⟨some 25, _, _, _, _, _⟩) rfl (fun K hK => ?_) AllReadyH.nil)
          · obtain ⟨c8, f8, l8⟩ := HBK.out.rules
            go_simp
            refine hK.out _ _ trivial (fun hHeld2 => ?_)
            clear hK K c8 f8 l8 hHeld
            have hHeld := hHeld2
            clear hHeld2
            try simp only [Act.put, List.setIfInBounds_toArray, List.set_cons_zero, List.set_cons_succ]
            refine wpAnyH_ready (rs := [2, 4]) (by kernel_rfl) (by simp) ?_
            refine AllReadyH.cons (o := ⟨some 23, _, _, _, _, _⟩) rfl (fun K hK => ?_) (AllReadyH.cons (o := ⟨some 25, _, _, _, _, _⟩) rfl (fun K hK => ?_) AllReadyH.nil)
            · go_simp
              refine (HXA.out _ HZ.out).mono ?_
              rintro e Z1 ⟨cs8, rfl, hv, hb⟩
              have hsz := HZ.out.size
              have hs1w := HS1.out
              have HE8 := Lib.hid (hv.mono (F' := (fun b => F b ∨ wr.heap.size < b)) fun b _ h => h.imp id fun h => by omega)
              obtain ⟨k8, k18, n18, s18, A18, na18, ca18, B18, nb18, cb18, s8, A28, n28, ca28, rfl⟩ := hv.form
              clear hv hsz hs1w
              have HBK2 := Lib.hid (HBK.out.keep hb)
              have HZ2 := Lib.hid (HZ.out.trans (hb.mono HZ.out.size))
              refine hK.out _ _ trivial (fun hHeld2 => ?_)
              clear hK K hb hHeld HBK HZ
              have hHeld := hHeld2
              have HBK := HBK2
              have HZ := HZ2
              clear hHeld2 HBK2 HZ2
              try simp only [Act.put, List.setIfInBounds_toArray, List.set_cons_zero, List.set_cons_succ]
              refine wpAnyH_ready (rs := [4]) (by kernel_rfl) (by simp) ?_
              refine AllReadyH.cons (o := ⟨some 25, _, _, _, _, _⟩) rfl (fun K hK => ?_) AllReadyH.nil
              obtain ⟨c8, f8, l8⟩ := HBK.out.rules
              go_simp
              refine hK.out _ _ trivial (fun hHeld2 => ?_)
              clear hK K c8 f8 l8 hHeld
              have hHeld := hHeld2
              clear hHeld2
              try simp only [Act.put, List.setIfInBounds_toArray, List.set_cons_zero, List.set_cons_succ]
              refine wpAnyH_take (i := 6) (oi := ⟨some 27, _, _, _, _, _⟩) (v := .pointer (some ⟨wr.heap.size, 2, none⟩)) rfl (by kernel_rfl) (by kernel_rfl) (by kernel_rfl) (fun _ _ _ h => h) (Or.inl ⟨by kernel_rfl, ?_⟩) (by assumption) ?_
              · intro W hSw; go_simp
              try simp only [Act.put, List.setIfInBounds_toArray, List.set_cons_zero, List.set_cons_succ]
              refine wpAnyH_ready (rs := [5]) (by kernel_rfl) (by simp) ?_
              refine AllReadyH.cons (o := ⟨some 26, _, _, _, _, _⟩) rfl (fun K hK => ?_) AllReadyH.nil
              go_simp
              refine (HXB.out _ HZ.out).mono ?_
              rintro e Z2 ⟨cs9, rfl, hv, hb⟩
              have hsz := HZ.out.size
              have hs1w := HS1.out
              have HE9 := Lib.hid (hv.mono (F' := (fun b => F b ∨ wr.heap.size < b)) fun b _ h => h.imp id fun h => by omega)
              obtain ⟨k9, k19, n19, s19, A19, na19, ca19, B19, nb19, cb19, s9, A29, n29, ca29, rfl⟩ := hv.form
              clear hv hsz hs1w
              have HE8b := Lib.hid (HE8.out.bel hb)
              clear HE8
              have HE8 := HE8b
              clear HE8b
              have HBK2 := Lib.hid (HBK.out.keep hb)
              have HZ2 := Lib.hid (HZ.out.trans (hb.mono HZ.out.size))
              refine hK.out _ _ trivial (fun hHeld2 => ?_)
              clear hK K hb hHeld HBK HZ
              have hHeld := hHeld2
              have HBK := HBK2
              have HZ := HZ2
              clear hHeld2 HBK2 HZ2
              try simp only [Act.put, List.setIfInBounds_toArray, List.set_cons_zero, List.set_cons_succ]
              have HK := Lib.hid (KeepF.refl (F := (fun b => F b ∨ wr.heap.size < b)) (W := Z2))
              have HGB := Lib.hid (gbBel HZ.out (some wr.heap.size))
              refine wpAnyH_ready (rs := [7]) (by kernel_rfl) (by simp) ?_
              refine AllReadyH.cons (o := ⟨none, _, _, _, _, _⟩) rfl (fun K hK => ?_) AllReadyH.nil
              rw [if_pos (by kernel_rfl)]
              refine wp_store_mid 28 (.tmp 27) (.tmp 23) rfl wr.heap.size 2 #[.int .i64 k8, .int .i64 k18, .int .i64 n18, .string s18, .slice A18 na18 ca18, .slice B18 nb18 cb18, .string s8, .slice A28 n28 ca28] rfl rfl (HBK.out.thereAt (o := 2) (n := 8) (by simp)) (by kernel_rfl) (by first | kernel_rfl | simp [Value.oneCell']) ?_
              have HBK2 := Lib.hid (HBK.out.setSA (.int .i64 k8) (.int .i64 k18) (.int .i64 n18) (.string s18) (.slice A18 na18 ca18) (.slice B18 nb18 cb18) (.string s8) (.slice A28 n28 ca28))
              have HK2 := Lib.hid (KeepF.setC (F := (fun b => F b ∨ wr.heap.size < b)) hnG [.int .i64 k8, .int .i64 k18, .int .i64 n18, .string s18, .slice A18 na18 ca18, .slice B18 nb18 cb18, .string s8, .slice A28 n28 ca28] 2 HK.out)
              have HGB2 := Lib.hid (gb_setC [.int .i64 k8, .int .i64 k18, .int .i64 n18, .string s18, .slice A18 na18 ca18, .slice B18 nb18 cb18, .string s8, .slice A28 n28 ca28] 2 HGB.out)
              refine hK.out _ _ trivial (fun hHeld2 => ?_)
              clear hK K hHeld HBK HK HGB
              have hHeld := hHeld2
              have HBK := HBK2
              have HK := HK2
              have HGB := HGB2
              clear hHeld2 HBK2 HK2 HGB2
              try simp only [Act.put, List.setIfInBounds_toArray, List.set_cons_zero, List.set_cons_succ]
              refine wpAnyH_worldM (fun Y hY => ?_)
              rw [← hY] at HBK HK HGB
              clear hY
              refine wpAnyH_take (i := 8) (oi := ⟨some 28, _, _, _, _, _⟩) (v := .pointer (some ⟨wr.heap.size, 10, none⟩)) rfl (by kernel_rfl) (by kernel_rfl) (by kernel_rfl) (fun _ _ _ h => h) (Or.inl ⟨by kernel_rfl, ?_⟩) (by assumption) ?_
              · intro W hSw; go_simp
              try simp only [Act.put, List.setIfInBounds_toArray, List.set_cons_zero, List.set_cons_succ]
              refine wpAnyH_ready (rs := [9]) (by kernel_rfl) (by simp) ?_
              refine AllReadyH.cons (o := ⟨none, _, _, _, _, _⟩) rfl (fun K hK => ?_) AllReadyH.nil
              rw [if_pos (by kernel_rfl)]
              refine wp_store_mid 28 (.tmp 28) (.tmp 26) rfl wr.heap.size 10 #[.int .i64 k9, .int .i64 k19, .int .i64 n19, .string s19, .slice A19 na19 ca19, .slice B19 nb19 cb19, .string s9, .slice A29 n29 ca29] rfl rfl (HBK.out.thereAt (o := 10) (n := 8) (by simp)) (by kernel_rfl) (by first | kernel_rfl | simp [Value.oneCell']) ?_
              have HBK2 := Lib.hid (HBK.out.setSB (.int .i64 k9) (.int .i64 k19) (.int .i64 n19) (.string s19) (.slice A19 na19 ca19) (.slice B19 nb19 cb19) (.string s9) (.slice A29 n29 ca29))
              have HK2 := Lib.hid (KeepF.setC (F := (fun b => F b ∨ wr.heap.size < b)) hnG [.int .i64 k9, .int .i64 k19, .int .i64 n19, .string s19, .slice A19 na19 ca19, .slice B19 nb19 cb19, .string s9, .slice A29 n29 ca29] 10 HK.out)
              have HGB2 := Lib.hid (gb_setC [.int .i64 k9, .int .i64 k19, .int .i64 n19, .string s19, .slice A19 na19 ca19, .slice B19 nb19 cb19, .string s9, .slice A29 n29 ca29] 10 HGB.out)
              refine hK.out _ _ trivial (fun hHeld2 => ?_)
              clear hK K hHeld HBK HK HGB
              have hHeld := hHeld2
              have HBK := HBK2
              have HK := HK2
              have HGB := HGB2
              clear hHeld2 HBK2 HK2 HGB2
              try simp only [Act.put, List.setIfInBounds_toArray, List.set_cons_zero, List.set_cons_succ]
              refine wpAnyH_worldM (fun Y hY => ?_)
              rw [← hY] at HBK HK HGB
              clear hY
              refine wpAnyH_done (by kernel_rfl) ?_ _
              have HF8 := Lib.hid (HE8.out.keep HK.out)
              have HF9 := Lib.hid (HE9.out.keep HK.out)
              go_wp2
              go_meet
              case rel => exact ⟨[.int .i64 k8, .int .i64 k18, .int .i64 n18, .string s18, .slice A18 na18 ca18, .slice B18 nb18 cb18, .string s8, .slice A28 n28 ca28], [.int .i64 k9, .int .i64 k19, .int .i64 n19, .string s19, .slice A19 na19 ca19, .slice B19 nb19 cb19, .string s9, .slice A29 n29 ca29], _, rfl, HBK, HF8, HF9, HGB⟩
            · obtain ⟨c8, f8, l8⟩ := HBK.out.rules
              go_simp
              refine hK.out _ _ trivial (fun hHeld2 => ?_)
              clear hK K c8 f8 l8 hHeld
              have hHeld := hHeld2
              clear hHeld2
              try simp only [Act.put, List.setIfInBounds_toArray, List.set_cons_zero, List.set_cons_succ]
              refine wpAnyH_ready (rs := [2]) (by kernel_rfl) (by simp) ?_
              refine AllReadyH.cons (o := ⟨some 23, _, _, _, _, _⟩) rfl (fun K hK => ?_) AllReadyH.nil
              go_simp
              refine (HXA.out _ HZ.out).mono ?_
              rintro e Z3 ⟨cs8, rfl, hv, hb⟩
              have hsz := HZ.out.size
              have hs1w := HS1.out
              have HE8 := Lib.hid (hv.mono (F' := (fun b => F b ∨ wr.heap.size < b)) fun b _ h => h.imp id fun h => by omega)
              obtain ⟨k8, k18, n18, s18, A18, na18, ca18, B18, nb18, cb18, s8, A28, n28, ca28, rfl⟩ := hv.form
              clear hv hsz hs1w
              have HBK2 := Lib.hid (HBK.out.keep hb)
              have HZ2 := Lib.hid (HZ.out.trans (hb.mono HZ.out.size))
              refine hK.out _ _ trivial (fun hHeld2 => ?_)
              clear hK K hb hHeld HBK HZ
              have hHeld := hHeld2
              have HBK := HBK2
              have HZ := HZ2
              clear hHeld2 HBK2 HZ2
              try simp only [Act.put, List.setIfInBounds_toArray, List.set_cons_zero, List.set_cons_succ]
              refine wpAnyH_take (i := 6) (oi := ⟨some 27, _, _, _, _, _⟩) (v := .pointer (some ⟨wr.heap.size, 2, none⟩)) rfl (by kernel_rfl) (by kernel_rfl) (by kernel_rfl) (fun _ _ _ h => h) (Or.inl ⟨by kernel_rfl, ?_⟩) (by assumption) ?_
              · intro W hSw; go_simp
              try simp only [Act.put, List.setIfInBounds_toArray, List.set_cons_zero, List.set_cons_succ]
              refine wpAnyH_ready (rs := [5]) (by kernel_rfl) (by simp) ?_
              refine AllReadyH.cons (o := ⟨some 26, _, _, _, _, _⟩) rfl (fun K hK => ?_) AllReadyH.nil
              go_simp
              refine (HXB.out _ HZ.out).mono ?_
              rintro e Z4 ⟨cs9, rfl, hv, hb⟩
              have hsz := HZ.out.size
              have hs1w := HS1.out
              have HE9 := Lib.hid (hv.mono (F' := (fun b => F b ∨ wr.heap.size < b)) fun b _ h => h.imp id fun h => by omega)
              obtain ⟨k9, k19, n19, s19, A19, na19, ca19, B19, nb19, cb19, s9, A29, n29, ca29, rfl⟩ := hv.form
              clear hv hsz hs1w
              have HE8b := Lib.hid (HE8.out.bel hb)
              clear HE8
              have HE8 := HE8b
              clear HE8b
              have HBK2 := Lib.hid (HBK.out.keep hb)
              have HZ2 := Lib.hid (HZ.out.trans (hb.mono HZ.out.size))
              refine hK.out _ _ trivial (fun hHeld2 => ?_)
              clear hK K hb hHeld HBK HZ
              have hHeld := hHeld2
              have HBK := HBK2
              have HZ := HZ2
              clear hHeld2 HBK2 HZ2
              try simp only [Act.put, List.setIfInBounds_toArray, List.set_cons_zero, List.set_cons_succ]
              have HK := Lib.hid (KeepF.refl (F := (fun b => F b ∨ wr.heap.size < b)) (W := Z4))
              have HGB := Lib.hid (gbBel HZ.out (some wr.heap.size))
              refine wpAnyH_ready (rs := [7]) (by kernel_rfl) (by simp) ?_
              refine AllReadyH.cons (o := ⟨none, _, _, _, _, _⟩) rfl (fun K hK => ?_) AllReadyH.nil
              rw [if_pos (by kernel_rfl)]
              refine wp_store_mid 28 (.tmp 27) (.tmp 23) rfl wr.heap.size 2 #[.int .i64 k8, .int .i64 k18, .int .i64 n18, .string s18, .slice A18 na18 ca18, .slice B18 nb18 cb18, .string s8, .slice A28 n28 ca28] rfl rfl (HBK.out.thereAt (o := 2) (n := 8) (by simp)) (by kernel_rfl) (by first | kernel_rfl | simp [Value.oneCell']) ?_
              have HBK2 := Lib.hid (HBK.out.setSA (.int .i64 k8) (.int .i64 k18) (.int .i64 n18) (.string s18) (.slice A18 na18 ca18) (.slice B18 nb18 cb18) (.string s8) (.slice A28 n28 ca28))
              have HK2 := Lib.hid (KeepF.setC (F := (fun b => F b ∨ wr.heap.size < b)) hnG [.int .i64 k8, .int .i64 k18, .int .i64 n18, .string s18, .slice A18 na18 ca18, .slice B18 nb18 cb18, .string s8, .slice A28 n28 ca28] 2 HK.out)
              have HGB2 := Lib.hid (gb_setC [.int .i64 k8, .int .i64 k18, .int .i64 n18, .string s18, .slice A18 na18 ca18, .slice B18 nb18 cb18, .string s8, .slice A28 n28 ca28] 2 HGB.out)
              refine hK.out _ _ trivial (fun hHeld2 => ?_)
              clear hK K hHeld HBK HK HGB
              have hHeld := hHeld2
              have HBK := HBK2
              have HK := HK2
              have HGB := HGB2
              clear hHeld2 HBK2 HK2 HGB2
              try simp only [Act.put, List.setIfInBounds_toArray, List.set_cons_zero, List.set_cons_succ]
              refine wpAnyH_worldM (fun Y hY => ?_)
              rw [← hY] at HBK HK HGB
              clear hY
              refine wpAnyH_take (i := 8) (oi := ⟨some 28, _, _, _, _, _⟩) (v := .pointer (some ⟨wr.heap.size, 10, none⟩)) rfl (by kernel_rfl) (by kernel_rfl) (by kernel_rfl) (fun _ _ _ h => h) (Or.inl ⟨by kernel_rfl, ?_⟩) (by assumption) ?_
              · intro W hSw; go_simp
              try simp only [Act.put, List.setIfInBounds_toArray, List.set_cons_zero, List.set_cons_succ]
              refine wpAnyH_ready (rs := [9]) (by kernel_rfl) (by simp) ?_
              refine AllReadyH.cons (o := ⟨none, _, _, _, _, _⟩) rfl (fun K hK => ?_) AllReadyH.nil
              rw [if_pos (by kernel_rfl)]
              refine wp_store_mid 28 (.tmp 28) (.tmp 26) rfl wr.heap.size 10 #[.int .i64 k9, .int .i64 k19, .int .i64 n19, .string s19, .slice A19 na19 ca19, .slice B19 nb19 cb19, .string s9, .slice A29 n29 ca29] rfl rfl (HBK.out.thereAt (o := 10) (n := 8) (by simp)) (by kernel_rfl) (by first | kernel_rfl | simp [Value.oneCell']) ?_
              have HBK2 := Lib.hid (HBK.out.setSB (.int .i64 k9) (.int .i64 k19) (.int .i64 n19) (.string s19) (.slice A19 na19 ca19) (.slice B19 nb19 cb19) (.string s9) (.slice A29 n29 ca29))
              have HK2 := Lib.hid (KeepF.setC (F := (fun b => F b ∨ wr.heap.size < b)) hnG [.int .i64 k9, .int .i64 k19, .int .i64 n19, .string s19, .slice A19 na19 ca19, .slice B19 nb19 cb19, .string s9, .slice A29 n29 ca29] 10 HK.out)
              have HGB2 := Lib.hid (gb_setC [.int .i64 k9, .int .i64 k19, .int .i64 n19, .string s19, .slice A19 na19 ca19, .slice B19 nb19 cb19, .string s9, .slice A29 n29 ca29] 10 HGB.out)
              refine hK.out _ _ trivial (fun hHeld2 => ?_)
              clear hK K hHeld HBK HK HGB
              have hHeld := hHeld2
              have HBK := HBK2
              have HK := HK2
              have HGB := HGB2
              clear hHeld2 HBK2 HK2 HGB2
              try simp only [Act.put, List.setIfInBounds_toArray, List.set_cons_zero, List.set_cons_succ]
              refine wpAnyH_worldM (fun Y hY => ?_)
              rw [← hY] at HBK HK HGB
              clear hY
              refine wpAnyH_done (by kernel_rfl) ?_ _
              have HF8 := Lib.hid (HE8.out.keep HK.out)
              have HF9 := Lib.hid (HE9.out.keep HK.out)
              go_wp2
              go_meet
              case rel => exact ⟨[.int .i64 k8, .int .i64 k18, .int .i64 n18, .string s18, .slice A18 na18 ca18, .slice B18 nb18 cb18, .string s8, .slice A28 n28 ca28], [.int .i64 k9, .int .i64 k19, .int .i64 n19, .string s19, .slice A19 na19 ca19, .slice B19 nb19 cb19, .string s9, .slice A29 n29 ca29], _, rfl, HBK, HF8, HF9, HGB⟩
          · obtain ⟨c8, f8, l8⟩ := HBK.out.rules
            go_simp
            refine hK.out _ _ trivial (fun hHeld2 => ?_)
            clear hK K c8 f8 l8 hHeld
            have hHeld := hHeld2
            clear hHeld2
            try simp only [Act.put, List.setIfInBounds_toArray, List.set_cons_zero, List.set_cons_succ]
            refine wpAnyH_ready (rs := [1]) (by kernel_rfl) (by simp) ?_
            refine AllReadyH.cons (o := ⟨some 22, _, _, _, _, _⟩) rfl (fun K hK => ?_) AllReadyH.nil
            obtain ⟨c8, f8, l8⟩ := HBK.out.rules
            go_simp
            refine hK.out _ _ trivial (fun hHeld2 => ?_)
            clear hK K c8 f8 l8 hHeld
            have hHeld := hHeld2
            clear hHeld2
            try simp only [Act.put, List.setIfInBounds_toArray, List.set_cons_zero, List.set_cons_succ]
            refine wpAnyH_ready (rs := [2]) (by kernel_rfl) (by simp) ?_
            refine AllReadyH.cons (o := ⟨some 23, _, _, _, _, _⟩) rfl (fun K hK => ?_) AllReadyH.nil
            go_simp
            refine (HXA.out _ HZ.out).mono ?_
            rintro e Z5 ⟨cs8, rfl, hv, hb⟩
            have hsz := HZ.out.size
            have hs1w := HS1.out
            have HE8 := Lib.hid (hv.mono (F' := (fun b => F b ∨ wr.heap.size < b)) fun b _ h => h.imp id fun h => by omega)
            obtain ⟨k8, k18, n18, s18, A18, na18, ca18, B18, nb18, cb18, s8, A28, n28, ca28, rfl⟩ := hv.form
            clear hv hsz hs1w
            have HBK2 := Lib.hid (HBK.out.keep hb)
            have HZ2 := Lib.hid (HZ.out.trans (hb.mono HZ.out.size))
            refine hK.out _ _ trivial (fun hHeld2 => ?_)
            clear hK K hb hHeld HBK HZ
            have hHeld := hHeld2
            have HBK := HBK2
            have HZ := HZ2
            clear hHeld2 HBK2 HZ2
            try simp only [Act.put, List.setIfInBounds_toArray, List.set_cons_zero, List.set_cons_succ]
            refine wpAnyH_take (i := 6) (oi := ⟨some 27, _, _, _, _, _⟩) (v := .pointer (some ⟨wr.heap.size, 2, none⟩)) rfl (by kernel_rfl) (by kernel_rfl) (by kernel_rfl) (fun _ _ _ h => h) (Or.inl ⟨by kernel_rfl, ?_⟩) (by assumption) ?_
            · intro W hSw; go_simp
            try simp only [Act.put, List.setIfInBounds_toArray, List.set_cons_zero, List.set_cons_succ]
            refine wpAnyH_ready (rs := [5]) (by kernel_rfl) (by simp) ?_
            refine AllReadyH.cons (o := ⟨some 26, _, _, _, _, _⟩) rfl (fun K hK => ?_) AllReadyH.nil
            go_simp
            refine (HXB.out _ HZ.out).mono ?_
            rintro e Z6 ⟨cs9, rfl, hv, hb⟩
            have hsz := HZ.out.size
            have hs1w := HS1.out
            have HE9 := Lib.hid (hv.mono (F' := (fun b => F b ∨ wr.heap.size < b)) fun b _ h => h.imp id fun h => by omega)
            obtain ⟨k9, k19, n19, s19, A19, na19, ca19, B19, nb19, cb19, s9, A29, n29, ca29, rfl⟩ := hv.form
            clear hv hsz hs1w
            have HE8b := Lib.hid (HE8.out.bel hb)
            clear HE8
            have HE8 := HE8b
            clear HE8b
            have HBK2 := Lib.hid (HBK.out.keep hb)
            have HZ2 := Lib.hid (HZ.out.trans (hb.mono HZ.out.size))
            refine hK.out _ _ trivial (fun hHeld2 => ?_)
            clear hK K hb hHeld HBK HZ
            have hHeld := hHeld2
            have HBK := HBK2
            have HZ := HZ2
            clear hHeld2 HBK2 HZ2
            try simp only [Act.put, List.setIfInBounds_toArray, List.set_cons_zero, List.set_cons_succ]
            have HK := Lib.hid (KeepF.refl (F := (fun b => F b ∨ wr.heap.size < b)) (W := Z6))
            have HGB := Lib.hid (gbBel HZ.out (some wr.heap.size))
            refine wpAnyH_ready (rs := [7]) (by kernel_rfl) (by simp) ?_
            refine AllReadyH.cons (o := ⟨none, _, _, _, _, _⟩) rfl (fun K hK => ?_) AllReadyH.nil
            rw [if_pos (by kernel_rfl)]
            refine wp_store_mid 28 (.tmp 27) (.tmp 23) rfl wr.heap.size 2 #[.int .i64 k8, .int .i64 k18, .int .i64 n18, .string s18, .slice A18 na18 ca18, .slice B18 nb18 cb18, .string s8, .slice A28 n28 ca28] rfl rfl (HBK.out.thereAt (o := 2) (n := 8) (by simp)) (by kernel_rfl) (by first | kernel_rfl | simp [Value.oneCell']) ?_
            have HBK2 := Lib.hid (HBK.out.setSA (.int .i64 k8) (.int .i64 k18) (.int .i64 n18) (.string s18) (.slice A18 na18 ca18) (.slice B18 nb18 cb18) (.string s8) (.slice A28 n28 ca28))
            have HK2 := Lib.hid (KeepF.setC (F := (fun b => F b ∨ wr.heap.size < b)) hnG [.int .i64 k8, .int .i64 k18, .int .i64 n18, .string s18, .slice A18 na18 ca18, .slice B18 nb18 cb18, .string s8, .slice A28 n28 ca28] 2 HK.out)
            have HGB2 := Lib.hid (gb_setC [.int .i64 k8, .int .i64 k18, .int .i64 n18, .string s18, .slice A18 na18 ca18, .slice B18 nb18 cb18, .string s8, .slice A28 n28 ca28] 2 HGB.out)
            refine hK.out _ _ trivial (fun hHeld2 => ?_)
            clear hK K hHeld HBK HK HGB
            have hHeld := hHeld2
            have HBK := HBK2
            have HK := HK2
            have HGB := HGB2
            clear hHeld2 HBK2 HK2 HGB2
            try simp only [Act.put, List.setIfInBounds_toArray, List.set_cons_zero, List.set_cons_succ]
            refine wpAnyH_worldM (fun Y hY => ?_)
            rw [← hY] at HBK HK HGB
            clear hY
            refine wpAnyH_take (i := 8) (oi := ⟨some 28, _, _, _, _, _⟩) (v := .pointer (some ⟨wr.heap.size, 10, none⟩)) rfl (by kernel_rfl) (by kernel_rfl) (by kernel_rfl) (fun _ _ _ h => h) (Or.inl ⟨by kernel_rfl, ?_⟩) (by assumption) ?_
            · intro W hSw; go_simp
            try simp only [Act.put, List.setIfInBounds_toArray, List.set_cons_zero, List.set_cons_succ]
            refine wpAnyH_ready (rs := [9]) (by kernel_rfl) (by simp) ?_
            refine AllReadyH.cons (o := ⟨none, _, _, _, _, _⟩) rfl (fun K hK => ?_) AllReadyH.nil
            rw [if_pos (by kernel_rfl)]
            refine wp_store_mid 28 (.tmp 28) (.tmp 26) rfl wr.heap.size 10 #[.int .i64 k9, .int .i64 k19, .int .i64 n19, .string s19, .slice A19 na19 ca19, .slice B19 nb19 cb19, .string s9, .slice A29 n29 ca29] rfl rfl (HBK.out.thereAt (o := 10) (n := 8) (by simp)) (by kernel_rfl) (by first | kernel_rfl | simp [Value.oneCell']) ?_
            have HBK2 := Lib.hid (HBK.out.setSB (.int .i64 k9) (.int .i64 k19) (.int .i64 n19) (.string s19) (.slice A19 na19 ca19) (.slice B19 nb19 cb19) (.string s9) (.slice A29 n29 ca29))
            have HK2 := Lib.hid (KeepF.setC (F := (fun b => F b ∨ wr.heap.size < b)) hnG [.int .i64 k9, .int .i64 k19, .int .i64 n19, .string s19, .slice A19 na19 ca19, .slice B19 nb19 cb19, .string s9, .slice A29 n29 ca29] 10 HK.out)
            have HGB2 := Lib.hid (gb_setC [.int .i64 k9, .int .i64 k19, .int .i64 n19, .string s19, .slice A19 na19 ca19, .slice B19 nb19 cb19, .string s9, .slice A29 n29 ca29] 10 HGB.out)
            refine hK.out _ _ trivial (fun hHeld2 => ?_)
            clear hK K hHeld HBK HK HGB
            have hHeld := hHeld2
            have HBK := HBK2
            have HK := HK2
            have HGB := HGB2
            clear hHeld2 HBK2 HK2 HGB2
            try simp only [Act.put, List.setIfInBounds_toArray, List.set_cons_zero, List.set_cons_succ]
            refine wpAnyH_worldM (fun Y hY => ?_)
            rw [← hY] at HBK HK HGB
            clear hY
            refine wpAnyH_done (by kernel_rfl) ?_ _
            have HF8 := Lib.hid (HE8.out.keep HK.out)
            have HF9 := Lib.hid (HE9.out.keep HK.out)
            go_wp2
            go_meet
            case rel => exact ⟨[.int .i64 k8, .int .i64 k18, .int .i64 n18, .string s18, .slice A18 na18 ca18, .slice B18 nb18 cb18, .string s8, .slice A28 n28 ca28], [.int .i64 k9, .int .i64 k19, .int .i64 n19, .string s19, .slice A19 na19 ca19, .slice B19 nb19 cb19, .string s9, .slice A29 n29 ca29], _, rfl, HBK, HF8, HF9, HGB⟩
        case rest =>
          obtain ⟨acs, bcs, wq7, rfl, HBK, HE8, HE9, HG7⟩ := hcut
          obtain ⟨k8, k18, n18, s18, A18, na18, ca18, B18, nb18, cb18, s8, A28, n28, ca28, rfl⟩ := HE8.out.form
          obtain ⟨k9, k19, n19, s19, A19, na19, ca19, B19, nb19, cb19, s9, A29, n29, ca29, rfl⟩ := HE9.out.form
          clear HB1 HXA HXB
          have HB1 := Lib.hid (show Blk wq7 wr.heap.size 69 #[.int .i64 k, .string ⟨s.toArray⟩, .int .i64 k8, .int .i64 k18, .int .i64 n18, .string s18, .slice A18 na18 ca18, .slice B18 nb18 cb18, .string s8, .slice A28 n28 ca28, .int .i64 k9, .int .i64 k19, .int .i64 n19, .string s19, .slice A19 na19 ca19, .slice B19 nb19 cb19, .string s9, .slice A29 n29 ca29, .slice BA nb cb, .slice LA nl cl] by simpa using HBK.out)
          have hk7 : KeepF F W1 wq7 := KeepF.of_grown HG7.out fun b hb e => by have := HFR.out b hb; injection e; omega
          have hs7 : wr.heap.size < wq7.heap.size := by have := HG7.out.size; have := HS1.out; omega
          have HXC := Lib.hid (fun (W : World) (h : Below wq7.heap.size wq7 W) => HIH.out body BA nb cb bss W (fun b hb => by have := HFR.out b hb; have := h.size; omega) (HXCr.out.1.1 W (hk7.bel h)) (HXCr.out.1.2 W (hk7.bel h)) HNB.out.1 HXCr.out.2.1 HXCr.out.2.2.1 HXCr.out.2.2.2)
          have HXD := Lib.hid (fun (W : World) (h : Below wq7.heap.size wq7 W) => HIH.out els LA nl cl lss W (fun b hb => by have := HFR.out b hb; have := h.size; omega) (HXDr.out.1.1 W (hk7.bel h)) (HXDr.out.1.2 W (hk7.bel h)) HNB.out.2 HXDr.out.2.1 HXDr.out.2.2.1 HXDr.out.2.2.2)
          clear HBK hk7
          go_upto_region 8 with fail
          go_cut [] (fun wx => ∃ (BA2 LA2 : Option Addr) (nb2 cb2 nl2 cl2 : Nat) (bs2 ls2 : List (List Value)) (W : World), W = wx ∧ Hid (Blk W wr.heap.size 69 #[.int .i64 k, .string ⟨s.toArray⟩, .int .i64 k8, .int .i64 k18, .int .i64 n18, .string s18, .slice A18 na18 ca18, .slice B18 nb18 cb18, .string s8, .slice A28 n28 ca28, .int .i64 k9, .int .i64 k19, .int .i64 n19, .string s19, .slice A19 na19 ca19, .slice B19 nb19 cb19, .string s9, .slice A29 n29 ca29, .slice BA2 nb2 cb2, .slice LA2 nl2 cl2]) ∧ Hid (ER W (fun b => F b ∨ wr.heap.size < b) [.int .i64 k8, .int .i64 k18, .int .i64 n18, .string s18, .slice A18 na18 ca18, .slice B18 nb18 cb18, .string s8, .slice A28 n28 ca28] (cutE 14 a)) ∧ Hid (ER W (fun b => F b ∨ wr.heap.size < b) [.int .i64 k9, .int .i64 k19, .int .i64 n19, .string s19, .slice A19 na19 ca19, .slice B19 nb19 cb19, .string s9, .slice A29 n29 ca29] (cutE 14 b)) ∧
            Hid ((nb2 = (cutS r body).length ∧ nb2 ≤ cb2 ∧ (BA2 = none → cb2 = 0)) ∧ SRs W (fun b => F b ∨ wr.heap.size < b) bs2 (cutS r body) ∧ RdF W (fun b => F b ∨ wr.heap.size < b) BA2 bs2.flatten) ∧ Hid ((nl2 = (cutS r els).length ∧ nl2 ≤ cl2 ∧ (LA2 = none → cl2 = 0)) ∧ SRs W (fun b => F b ∨ wr.heap.size < b) ls2 (cutS r els) ∧ RdF W (fun b => F b ∨ wr.heap.size < b) LA2 ls2.flatten) ∧ Hid (wq7.grownBy W (some wr.heap.size)))
          case first =>
            refine wp_region_held_drew (S := fun _ => True) (by kernel_rfl) trivial (fun hHeld => ?_)
            refine wpAnyH_worldM (fun Z0 hw0 => ?_)
            have HZ := Lib.hid (show Below wq7.heap.size wq7 Z0 by rw [hw0]; exact (Below.refl _ _).drew)
            have HBK := Lib.hid (show Blk Z0 wr.heap.size 69 #[.int .i64 k, .string ⟨s.toArray⟩, .int .i64 k8, .int .i64 k18, .int .i64 n18, .string s18, .slice A18 na18 ca18, .slice B18 nb18 cb18, .string s8, .slice A28 n28 ca28, .int .i64 k9, .int .i64 k19, .int .i64 n19, .string s19, .slice A19 na19 ca19, .slice B19 nb19 cb19, .string s9, .slice A29 n29 ca29, .slice BA nb cb, .slice LA nl cl] by rw [hw0]; exact HB1.out.drew)
            clear hw0
            refine wpAnyH_take (i := 0) (oi := ⟨some 29, _, _, _, _, _⟩) (v := .pointer (some ⟨wr.heap.size, 18, none⟩)) rfl (by kernel_rfl) (by kernel_rfl) (by kernel_rfl) (fun _ _ _ h => h) (Or.inl ⟨by kernel_rfl, ?_⟩) (by assumption) ?_
            · intro W hSw; go_simp
            try simp only [Act.put, List.setIfInBounds_toArray, List.set_cons_zero, List.set_cons_succ]
            refine wpAnyH_take (i := 2) (oi := ⟨some 31, _, _, _, _, _⟩) (v := .int .i64 q) rfl (by kernel_rfl) (by kernel_rfl) (by kernel_rfl) (fun _ _ _ h => h) (Or.inl ⟨by kernel_rfl, ?_⟩) (by assumption) ?_
            · intro W hSw; go_simp
            try simp only [Act.put, List.setIfInBounds_toArray, List.set_cons_zero, List.set_cons_succ]
            refine wpAnyH_take (i := 3) (oi := ⟨some 32, _, _, _, _, _⟩) (v := .int .i64 (q - 1)) rfl (by kernel_rfl) (by kernel_rfl) (by kernel_rfl) (fun _ _ _ h => h) (Or.inl ⟨by kernel_rfl, ?_⟩) (by assumption) ?_
            · intro W hSw; go_simp
            try simp only [Act.put, List.setIfInBounds_toArray, List.set_cons_zero, List.set_cons_succ]
            refine wpAnyH_take (i := 5) (oi := ⟨some 34, _, _, _, _, _⟩) (v := .pointer (some ⟨wr.heap.size, 19, none⟩)) rfl (by kernel_rfl) (by kernel_rfl) (by kernel_rfl) (fun _ _ _ h => h) (Or.inl ⟨by kernel_rfl, ?_⟩) (by assumption) ?_
            · intro W hSw; go_simp
            try simp only [Act.put, List.setIfInBounds_toArray, List.set_cons_zero, List.set_cons_succ]
            refine wpAnyH_take (i := 7) (oi := ⟨some 36, _, _, _, _, _⟩) (v := .int .i64 q) rfl (by kernel_rfl) (by kernel_rfl) (by kernel_rfl) (fun _ _ _ h => h) (Or.inl ⟨by kernel_rfl, ?_⟩) (by assumption) ?_
            · intro W hSw; go_simp
            try simp only [Act.put, List.setIfInBounds_toArray, List.set_cons_zero, List.set_cons_succ]
            refine wpAnyH_take (i := 8) (oi := ⟨some 37, _, _, _, _, _⟩) (v := .int .i64 (q - 1)) rfl (by kernel_rfl) (by kernel_rfl) (by kernel_rfl) (fun _ _ _ h => h) (Or.inl ⟨by kernel_rfl, ?_⟩) (by assumption) ?_
            · intro W hSw; go_simp
            try simp only [Act.put, List.setIfInBounds_toArray, List.set_cons_zero, List.set_cons_succ]
            refine wpAnyH_ready (rs := [1, 6]) (by kernel_rfl) (by simp) ?_
            refine AllReadyH.cons (o := ⟨some 30, _, _, _, _, _⟩) rfl (fun K hK => ?_) (AllReadyH.cons (o := ⟨some 35, _, _, _, _, _⟩) rfl (fun K hK => ?_) AllReadyH.nil)
            · obtain ⟨c8, f8, l8⟩ := HBK.out.rules
              go_simp
              refine hK.out _ _ trivial (fun hHeld2 => ?_)
              clear hK K c8 f8 l8 hHeld
              have hHeld := hHeld2
              clear hHeld2
              try simp only [Act.put, List.setIfInBounds_toArray, List.set_cons_zero, List.set_cons_succ]
              refine wpAnyH_ready (rs := [4, 6]) (by kernel_rfl) (by simp) ?_
              refine AllReadyH.cons (o := ⟨some 33, _, _, _, _, _⟩) rfl (fun K hK => ?_) (AllReadyH.cons (o := ⟨some 35, _, _, _, _, _⟩) rfl (fun K hK => ?_) AllReadyH.nil)
              · go_simp
                refine (HXC.out _ HZ.out).mono ?_
                rintro e Z7 ⟨BA2, nb2, cb2, bs2, rfl, hn1, hn2, hn3, hs1, hs2, hb⟩
                have hsz := HZ.out.size
                have HEC := Lib.hid (And.intro (And.intro hn1 (And.intro hn2 hn3)) (And.intro (RR.imp hs1 fun c y (hc : SR _ _ c y) => hc.mono (F' := (fun b => F b ∨ wr.heap.size < b)) fun b _ h => h.imp id fun h => by omega) (hs2.mono (F' := (fun b => F b ∨ wr.heap.size < b)) fun b _ h => h.imp id fun h => by omega)))
                clear hn1 hn2 hn3 hs1 hs2 hsz
                have HBK2 := Lib.hid (HBK.out.keep hb)
                have HZ2 := Lib.hid (HZ.out.trans (hb.mono HZ.out.size))
                refine hK.out _ _ trivial (fun hHeld2 => ?_)
                clear hK K hb hHeld HBK HZ
                have hHeld := hHeld2
                have HBK := HBK2
                have HZ := HZ2
                clear hHeld2 HBK2 HZ2
                try simp only [Act.put, List.setIfInBounds_toArray, List.set_cons_zero, List.set_cons_succ]
                refine wpAnyH_ready (rs := [6]) (by kernel_rfl) (by simp) ?_
                refine AllReadyH.cons (o := ⟨some 35, _, _, _, _, _⟩) rfl (fun K hK => ?_) AllReadyH.nil
                obtain ⟨c8, f8, l8⟩ := HBK.out.rules
                go_simp
                refine hK.out _ _ trivial (fun hHeld2 => ?_)
                clear hK K c8 f8 l8 hHeld
                have hHeld := hHeld2
                clear hHeld2
                try simp only [Act.put, List.setIfInBounds_toArray, List.set_cons_zero, List.set_cons_succ]
                refine wpAnyH_take (i := 10) (oi := ⟨some 39, _, _, _, _, _⟩) (v := .pointer (some ⟨wr.heap.size, 18, none⟩)) rfl (by kernel_rfl) (by kernel_rfl) (by kernel_rfl) (fun _ _ _ h => h) (Or.inl ⟨by kernel_rfl, ?_⟩) (by assumption) ?_
                · intro W hSw; go_simp
                try simp only [Act.put, List.setIfInBounds_toArray, List.set_cons_zero, List.set_cons_succ]
                refine wpAnyH_ready (rs := [9]) (by kernel_rfl) (by simp) ?_
                refine AllReadyH.cons (o := ⟨some 38, _, _, _, _, _⟩) rfl (fun K hK => ?_) AllReadyH.nil
                go_simp
                refine (HXD.out _ HZ.out).mono ?_
                rintro e Z8 ⟨LA2, nl2, cl2, ls2, rfl, hn1, hn2, hn3, hs1, hs2, hb⟩
                have hsz := HZ.out.size
                have HED := Lib.hid (And.intro (And.intro hn1 (And.intro hn2 hn3)) (And.intro (RR.imp hs1 fun c y (hc : SR _ _ c y) => hc.mono (F' := (fun b => F b ∨ wr.heap.size < b)) fun b _ h => h.imp id fun h => by omega) (hs2.mono (F' := (fun b => F b ∨ wr.heap.size < b)) fun b _ h => h.imp id fun h => by omega)))
                clear hn1 hn2 hn3 hs1 hs2 hsz
                have HECb := Lib.hid (And.intro HEC.out.1 (And.intro (RR.imp HEC.out.2.1 fun c y hc => hc.bel hb) (HEC.out.2.2.keep (KeepF.of_below hb))))
                clear HEC
                have HEC := HECb
                clear HECb
                have HBK2 := Lib.hid (HBK.out.keep hb)
                have HZ2 := Lib.hid (HZ.out.trans (hb.mono HZ.out.size))
                refine hK.out _ _ trivial (fun hHeld2 => ?_)
                clear hK K hb hHeld HBK HZ
                have hHeld := hHeld2
                have HBK := HBK2
                have HZ := HZ2
                clear hHeld2 HBK2 HZ2
                try simp only [Act.put, List.setIfInBounds_toArray, List.set_cons_zero, List.set_cons_succ]
                have HK := Lib.hid (KeepF.refl (F := (fun b => F b ∨ wr.heap.size < b)) (W := Z8))
                have HGB := Lib.hid (gbBel HZ.out (some wr.heap.size))
                have HK0 := Lib.hid (KeepF.of_below (F := (fun b => F b ∨ wr.heap.size < b)) HZ.out)
                refine wpAnyH_ready (rs := [11]) (by kernel_rfl) (by simp) ?_
                refine AllReadyH.cons (o := ⟨none, _, _, _, _, _⟩) rfl (fun K hK => ?_) AllReadyH.nil
                obtain ⟨c8, f8, l8⟩ := HBK.out.rules
                go_simp
                have HBK2 := Lib.hid (HBK.out.set_ 18 (.slice BA2 nb2 cb2))
                have HK2 := Lib.hid (KeepF.setC (F := (fun b => F b ∨ wr.heap.size < b)) hnG [.slice BA2 nb2 cb2] 18 HK.out)
                have HGB2 := Lib.hid (gb_setC [.slice BA2 nb2 cb2] 18 HGB.out)
                refine hK.out _ _ trivial (fun hHeld2 => ?_)
                clear hK K hHeld HBK HK HGB c8 f8 l8
                have hHeld := hHeld2
                have HBK := HBK2
                have HK := HK2
                have HGB := HGB2
                clear hHeld2 HBK2 HK2 HGB2
                try simp only [Act.put, List.setIfInBounds_toArray, List.set_cons_zero, List.set_cons_succ]
                refine wpAnyH_take (i := 12) (oi := ⟨some 40, _, _, _, _, _⟩) (v := .pointer (some ⟨wr.heap.size, 19, none⟩)) rfl (by kernel_rfl) (by kernel_rfl) (by kernel_rfl) (fun _ _ _ h => h) (Or.inl ⟨by kernel_rfl, ?_⟩) (by assumption) ?_
                · intro W hSw; go_simp
                try simp only [Act.put, List.setIfInBounds_toArray, List.set_cons_zero, List.set_cons_succ]
                refine wpAnyH_ready (rs := [13]) (by kernel_rfl) (by simp) ?_
                refine AllReadyH.cons (o := ⟨none, _, _, _, _, _⟩) rfl (fun K hK => ?_) AllReadyH.nil
                obtain ⟨c8, f8, l8⟩ := HBK.out.rules
                go_simp
                have HBK2 := Lib.hid (HBK.out.set_ 19 (.slice LA2 nl2 cl2))
                have HK2 := Lib.hid (KeepF.setC (F := (fun b => F b ∨ wr.heap.size < b)) hnG [.slice LA2 nl2 cl2] 19 HK.out)
                have HGB2 := Lib.hid (gb_setC [.slice LA2 nl2 cl2] 19 HGB.out)
                refine hK.out _ _ trivial (fun hHeld2 => ?_)
                clear hK K hHeld HBK HK HGB c8 f8 l8
                have hHeld := hHeld2
                have HBK := HBK2
                have HK := HK2
                have HGB := HGB2
                clear hHeld2 HBK2 HK2 HGB2
                try simp only [Act.put, List.setIfInBounds_toArray, List.set_cons_zero, List.set_cons_succ]
                refine wpAnyH_done (by kernel_rfl) ?_ _
                have HF8 := Lib.hid ((HE8.out.keep HK0.out).keep HK.out)
                have HF9 := Lib.hid ((HE9.out.keep HK0.out).keep HK.out)
                have HFC := Lib.hid (And.intro HEC.out.1 (And.intro (RR.imp HEC.out.2.1 fun c y (hc : SR _ _ c y) => hc.keep HK.out) (HEC.out.2.2.keep HK.out)))
                have HFD := Lib.hid (And.intro HED.out.1 (And.intro (RR.imp HED.out.2.1 fun c y (hc : SR _ _ c y) => hc.keep HK.out) (HED.out.2.2.keep HK.out)))
                go_wp2
                go_meet
                case rel => exact ⟨BA2, LA2, nb2, cb2, nl2, cl2, bs2, ls2, _, rfl, HBK, HF8, HF9, HFC, HFD, HGB⟩
              · obtain ⟨c8, f8, l8⟩ := HBK.out.rules
                go_simp
                refine hK.out _ _ trivial (fun hHeld2 => ?_)
                clear hK K c8 f8 l8 hHeld
                have hHeld := hHeld2
                clear hHeld2
                try simp only [Act.put, List.setIfInBounds_toArray, List.set_cons_zero, List.set_cons_succ]
                refine wpAnyH_ready (rs := [4]) (by kernel_rfl) (by simp) ?_
                refine AllReadyH.cons (o := ⟨some 33, _, _, _, _, _⟩) rfl (fun K hK => ?_) AllReadyH.nil
                go_simp
                refine (HXC.out _ HZ.out).mono ?_
                rintro e Z9 ⟨BA2, nb2, cb2, bs2, rfl, hn1, hn2, hn3, hs1, hs2, hb⟩
                have hsz := HZ.out.size
                have HEC := Lib.hid (And.intro (And.intro hn1 (And.intro hn2 hn3)) (And.intro (RR.imp hs1 fun c y (hc : SR _ _ c y) => hc.mono (F' := (fun b => F b ∨ wr.heap.size < b)) fun b _ h => h.imp id fun h => by omega) (hs2.mono (F' := (fun b => F b ∨ wr.heap.size < b)) fun b _ h => h.imp id fun h => by omega)))
                clear hn1 hn2 hn3 hs1 hs2 hsz
                have HBK2 := Lib.hid (HBK.out.keep hb)
                have HZ2 := Lib.hid (HZ.out.trans (hb.mono HZ.out.size))
                refine hK.out _ _ trivial (fun hHeld2 => ?_)
                clear hK K hb hHeld HBK HZ
                have hHeld := hHeld2
                have HBK := HBK2
                have HZ := HZ2
                clear hHeld2 HBK2 HZ2
                try simp only [Act.put, List.setIfInBounds_toArray, List.set_cons_zero, List.set_cons_succ]
                refine wpAnyH_take (i := 10) (oi := ⟨some 39, _, _, _, _, _⟩) (v := .pointer (some ⟨wr.heap.size, 18, none⟩)) rfl (by kernel_rfl) (by kernel_rfl) (by kernel_rfl) (fun _ _ _ h => h) (Or.inl ⟨by kernel_rfl, ?_⟩) (by assumption) ?_
                · intro W hSw; go_simp
                try simp only [Act.put, List.setIfInBounds_toArray, List.set_cons_zero, List.set_cons_succ]
                refine wpAnyH_ready (rs := [9]) (by kernel_rfl) (by simp) ?_
                refine AllReadyH.cons (o := ⟨some 38, _, _, _, _, _⟩) rfl (fun K hK => ?_) AllReadyH.nil
                go_simp
                refine (HXD.out _ HZ.out).mono ?_
                rintro e Z10 ⟨LA2, nl2, cl2, ls2, rfl, hn1, hn2, hn3, hs1, hs2, hb⟩
                have hsz := HZ.out.size
                have HED := Lib.hid (And.intro (And.intro hn1 (And.intro hn2 hn3)) (And.intro (RR.imp hs1 fun c y (hc : SR _ _ c y) => hc.mono (F' := (fun b => F b ∨ wr.heap.size < b)) fun b _ h => h.imp id fun h => by omega) (hs2.mono (F' := (fun b => F b ∨ wr.heap.size < b)) fun b _ h => h.imp id fun h => by omega)))
                clear hn1 hn2 hn3 hs1 hs2 hsz
                have HECb := Lib.hid (And.intro HEC.out.1 (And.intro (RR.imp HEC.out.2.1 fun c y hc => hc.bel hb) (HEC.out.2.2.keep (KeepF.of_below hb))))
                clear HEC
                have HEC := HECb
                clear HECb
                have HBK2 := Lib.hid (HBK.out.keep hb)
                have HZ2 := Lib.hid (HZ.out.trans (hb.mono HZ.out.size))
                refine hK.out _ _ trivial (fun hHeld2 => ?_)
                clear hK K hb hHeld HBK HZ
                have hHeld := hHeld2
                have HBK := HBK2
                have HZ := HZ2
                clear hHeld2 HBK2 HZ2
                try simp only [Act.put, List.setIfInBounds_toArray, List.set_cons_zero, List.set_cons_succ]
                have HK := Lib.hid (KeepF.refl (F := (fun b => F b ∨ wr.heap.size < b)) (W := Z10))
                have HGB := Lib.hid (gbBel HZ.out (some wr.heap.size))
                have HK0 := Lib.hid (KeepF.of_below (F := (fun b => F b ∨ wr.heap.size < b)) HZ.out)
                refine wpAnyH_ready (rs := [11]) (by kernel_rfl) (by simp) ?_
                refine AllReadyH.cons (o := ⟨none, _, _, _, _, _⟩) rfl (fun K hK => ?_) AllReadyH.nil
                obtain ⟨c8, f8, l8⟩ := HBK.out.rules
                go_simp
                have HBK2 := Lib.hid (HBK.out.set_ 18 (.slice BA2 nb2 cb2))
                have HK2 := Lib.hid (KeepF.setC (F := (fun b => F b ∨ wr.heap.size < b)) hnG [.slice BA2 nb2 cb2] 18 HK.out)
                have HGB2 := Lib.hid (gb_setC [.slice BA2 nb2 cb2] 18 HGB.out)
                refine hK.out _ _ trivial (fun hHeld2 => ?_)
                clear hK K hHeld HBK HK HGB c8 f8 l8
                have hHeld := hHeld2
                have HBK := HBK2
                have HK := HK2
                have HGB := HGB2
                clear hHeld2 HBK2 HK2 HGB2
                try simp only [Act.put, List.setIfInBounds_toArray, List.set_cons_zero, List.set_cons_succ]
                refine wpAnyH_take (i := 12) (oi := ⟨some 40, _, _, _, _, _⟩) (v := .pointer (some ⟨wr.heap.size, 19, none⟩)) rfl (by kernel_rfl) (by kernel_rfl) (by kernel_rfl) (fun _ _ _ h => h) (Or.inl ⟨by kernel_rfl, ?_⟩) (by assumption) ?_
                · intro W hSw; go_simp
                try simp only [Act.put, List.setIfInBounds_toArray, List.set_cons_zero, List.set_cons_succ]
                refine wpAnyH_ready (rs := [13]) (by kernel_rfl) (by simp) ?_
                refine AllReadyH.cons (o := ⟨none, _, _, _, _, _⟩) rfl (fun K hK => ?_) AllReadyH.nil
                obtain ⟨c8, f8, l8⟩ := HBK.out.rules
                go_simp
                have HBK2 := Lib.hid (HBK.out.set_ 19 (.slice LA2 nl2 cl2))
                have HK2 := Lib.hid (KeepF.setC (F := (fun b => F b ∨ wr.heap.size < b)) hnG [.slice LA2 nl2 cl2] 19 HK.out)
                have HGB2 := Lib.hid (gb_setC [.slice LA2 nl2 cl2] 19 HGB.out)
                refine hK.out _ _ trivial (fun hHeld2 => ?_)
                clear hK K hHeld HBK HK HGB c8 f8 l8
                have hHeld := hHeld2
                have HBK := HBK2
                have HK := HK2
                have HGB := HGB2
                clear hHeld2 HBK2 HK2 HGB2
                try simp only [Act.put, List.setIfInBounds_toArray, List.set_cons_zero, List.set_cons_succ]
                refine wpAnyH_done (by kernel_rfl) ?_ _
                have HF8 := Lib.hid ((HE8.out.keep HK0.out).keep HK.out)
                have HF9 := Lib.hid ((HE9.out.keep HK0.out).keep HK.out)
                have HFC := Lib.hid (And.intro HEC.out.1 (And.intro (RR.imp HEC.out.2.1 fun c y (hc : SR _ _ c y) => hc.keep HK.out) (HEC.out.2.2.keep HK.out)))
                have HFD := Lib.hid (And.intro HED.out.1 (And.intro (RR.imp HED.out.2.1 fun c y (hc : SR _ _ c y) => hc.keep HK.out) (HED.out.2.2.keep HK.out)))
                go_wp2
                go_meet
                case rel => exact ⟨BA2, LA2, nb2, cb2, nl2, cl2, bs2, ls2, _, rfl, HBK, HF8, HF9, HFC, HFD, HGB⟩
            · obtain ⟨c8, f8, l8⟩ := HBK.out.rules
              go_simp
              refine hK.out _ _ trivial (fun hHeld2 => ?_)
              clear hK K c8 f8 l8 hHeld
              have hHeld := hHeld2
              clear hHeld2
              try simp only [Act.put, List.setIfInBounds_toArray, List.set_cons_zero, List.set_cons_succ]
              refine wpAnyH_ready (rs := [1]) (by kernel_rfl) (by simp) ?_
              refine AllReadyH.cons (o := ⟨some 30, _, _, _, _, _⟩) rfl (fun K hK => ?_) AllReadyH.nil
              obtain ⟨c8, f8, l8⟩ := HBK.out.rules
              go_simp
              refine hK.out _ _ trivial (fun hHeld2 => ?_)
              clear hK K c8 f8 l8 hHeld
              have hHeld := hHeld2
              clear hHeld2
              try simp only [Act.put, List.setIfInBounds_toArray, List.set_cons_zero, List.set_cons_succ]
              refine wpAnyH_ready (rs := [4]) (by kernel_rfl) (by simp) ?_
              refine AllReadyH.cons (o := ⟨some 33, _, _, _, _, _⟩) rfl (fun K hK => ?_) AllReadyH.nil
              go_simp
              refine (HXC.out _ HZ.out).mono ?_
              rintro e Z11 ⟨BA2, nb2, cb2, bs2, rfl, hn1, hn2, hn3, hs1, hs2, hb⟩
              have hsz := HZ.out.size
              have HEC := Lib.hid (And.intro (And.intro hn1 (And.intro hn2 hn3)) (And.intro (RR.imp hs1 fun c y (hc : SR _ _ c y) => hc.mono (F' := (fun b => F b ∨ wr.heap.size < b)) fun b _ h => h.imp id fun h => by omega) (hs2.mono (F' := (fun b => F b ∨ wr.heap.size < b)) fun b _ h => h.imp id fun h => by omega)))
              clear hn1 hn2 hn3 hs1 hs2 hsz
              have HBK2 := Lib.hid (HBK.out.keep hb)
              have HZ2 := Lib.hid (HZ.out.trans (hb.mono HZ.out.size))
              refine hK.out _ _ trivial (fun hHeld2 => ?_)
              clear hK K hb hHeld HBK HZ
              have hHeld := hHeld2
              have HBK := HBK2
              have HZ := HZ2
              clear hHeld2 HBK2 HZ2
              try simp only [Act.put, List.setIfInBounds_toArray, List.set_cons_zero, List.set_cons_succ]
              refine wpAnyH_take (i := 10) (oi := ⟨some 39, _, _, _, _, _⟩) (v := .pointer (some ⟨wr.heap.size, 18, none⟩)) rfl (by kernel_rfl) (by kernel_rfl) (by kernel_rfl) (fun _ _ _ h => h) (Or.inl ⟨by kernel_rfl, ?_⟩) (by assumption) ?_
              · intro W hSw; go_simp
              try simp only [Act.put, List.setIfInBounds_toArray, List.set_cons_zero, List.set_cons_succ]
              refine wpAnyH_ready (rs := [9]) (by kernel_rfl) (by simp) ?_
              refine AllReadyH.cons (o := ⟨some 38, _, _, _, _, _⟩) rfl (fun K hK => ?_) AllReadyH.nil
              go_simp
              refine (HXD.out _ HZ.out).mono ?_
              rintro e Z12 ⟨LA2, nl2, cl2, ls2, rfl, hn1, hn2, hn3, hs1, hs2, hb⟩
              have hsz := HZ.out.size
              have HED := Lib.hid (And.intro (And.intro hn1 (And.intro hn2 hn3)) (And.intro (RR.imp hs1 fun c y (hc : SR _ _ c y) => hc.mono (F' := (fun b => F b ∨ wr.heap.size < b)) fun b _ h => h.imp id fun h => by omega) (hs2.mono (F' := (fun b => F b ∨ wr.heap.size < b)) fun b _ h => h.imp id fun h => by omega)))
              clear hn1 hn2 hn3 hs1 hs2 hsz
              have HECb := Lib.hid (And.intro HEC.out.1 (And.intro (RR.imp HEC.out.2.1 fun c y hc => hc.bel hb) (HEC.out.2.2.keep (KeepF.of_below hb))))
              clear HEC
              have HEC := HECb
              clear HECb
              have HBK2 := Lib.hid (HBK.out.keep hb)
              have HZ2 := Lib.hid (HZ.out.trans (hb.mono HZ.out.size))
              refine hK.out _ _ trivial (fun hHeld2 => ?_)
              clear hK K hb hHeld HBK HZ
              have hHeld := hHeld2
              have HBK := HBK2
              have HZ := HZ2
              clear hHeld2 HBK2 HZ2
              try simp only [Act.put, List.setIfInBounds_toArray, List.set_cons_zero, List.set_cons_succ]
              have HK := Lib.hid (KeepF.refl (F := (fun b => F b ∨ wr.heap.size < b)) (W := Z12))
              have HGB := Lib.hid (gbBel HZ.out (some wr.heap.size))
              have HK0 := Lib.hid (KeepF.of_below (F := (fun b => F b ∨ wr.heap.size < b)) HZ.out)
              refine wpAnyH_ready (rs := [11]) (by kernel_rfl) (by simp) ?_
              refine AllReadyH.cons (o := ⟨none, _, _, _, _, _⟩) rfl (fun K hK => ?_) AllReadyH.nil
              obtain ⟨c8, f8, l8⟩ := HBK.out.rules
              go_simp
              have HBK2 := Lib.hid (HBK.out.set_ 18 (.slice BA2 nb2 cb2))
              have HK2 := Lib.hid (KeepF.setC (F := (fun b => F b ∨ wr.heap.size < b)) hnG [.slice BA2 nb2 cb2] 18 HK.out)
              have HGB2 := Lib.hid (gb_setC [.slice BA2 nb2 cb2] 18 HGB.out)
              refine hK.out _ _ trivial (fun hHeld2 => ?_)
              clear hK K hHeld HBK HK HGB c8 f8 l8
              have hHeld := hHeld2
              have HBK := HBK2
              have HK := HK2
              have HGB := HGB2
              clear hHeld2 HBK2 HK2 HGB2
              try simp only [Act.put, List.setIfInBounds_toArray, List.set_cons_zero, List.set_cons_succ]
              refine wpAnyH_take (i := 12) (oi := ⟨some 40, _, _, _, _, _⟩) (v := .pointer (some ⟨wr.heap.size, 19, none⟩)) rfl (by kernel_rfl) (by kernel_rfl) (by kernel_rfl) (fun _ _ _ h => h) (Or.inl ⟨by kernel_rfl, ?_⟩) (by assumption) ?_
              · intro W hSw; go_simp
              try simp only [Act.put, List.setIfInBounds_toArray, List.set_cons_zero, List.set_cons_succ]
              refine wpAnyH_ready (rs := [13]) (by kernel_rfl) (by simp) ?_
              refine AllReadyH.cons (o := ⟨none, _, _, _, _, _⟩) rfl (fun K hK => ?_) AllReadyH.nil
              obtain ⟨c8, f8, l8⟩ := HBK.out.rules
              go_simp
              have HBK2 := Lib.hid (HBK.out.set_ 19 (.slice LA2 nl2 cl2))
              have HK2 := Lib.hid (KeepF.setC (F := (fun b => F b ∨ wr.heap.size < b)) hnG [.slice LA2 nl2 cl2] 19 HK.out)
              have HGB2 := Lib.hid (gb_setC [.slice LA2 nl2 cl2] 19 HGB.out)
              refine hK.out _ _ trivial (fun hHeld2 => ?_)
              clear hK K hHeld HBK HK HGB c8 f8 l8
              have hHeld := hHeld2
              have HBK := HBK2
              have HK := HK2
              have HGB := HGB2
              clear hHeld2 HBK2 HK2 HGB2
              try simp only [Act.put, List.setIfInBounds_toArray, List.set_cons_zero, List.set_cons_succ]
              refine wpAnyH_done (by kernel_rfl) ?_ _
              have HF8 := Lib.hid ((HE8.out.keep HK0.out).keep HK.out)
              have HF9 := Lib.hid ((HE9.out.keep HK0.out).keep HK.out)
              have HFC := Lib.hid (And.intro HEC.out.1 (And.intro (RR.imp HEC.out.2.1 fun c y (hc : SR _ _ c y) => hc.keep HK.out) (HEC.out.2.2.keep HK.out)))
              have HFD := Lib.hid (And.intro HED.out.1 (And.intro (RR.imp HED.out.2.1 fun c y (hc : SR _ _ c y) => hc.keep HK.out) (HED.out.2.2.keep HK.out)))
              go_wp2
              go_meet
              case rel => exact ⟨BA2, LA2, nb2, cb2, nl2, cl2, bs2, ls2, _, rfl, HBK, HF8, HF9, HFC, HFD, HGB⟩
          case rest =>
            obtain ⟨BA2, LA2, nb2, cb2, nl2, cl2, bs2, ls2, wq8, rfl, HBK, HF8, HF9, HFC, HFD, HG8⟩ := hcut
            have hs8 : wr.heap.size < wq8.heap.size := Nat.lt_of_lt_of_le hs7 HG8.out.size
            have HGG := Lib.hid (HG7.out.trans HG8.out)
            have hrwne : row.ownBlock = none ∨ row.ownBlock ≠ some wr.heap.size := by
              rcases hro : row.ownBlock with _ | j
              · exact .inl rfl
              · refine .inr fun e => ?_
                have := (HRW.out j hro).2
                injection e with e
                omega
            have HO8 := Lib.hid (HO1.out.kept HGG.out hrwne)
            have HV8 := Lib.hid (RR.imp HV1.out fun c y (hc : SR _ _ c y) => (hc.keep (KeepF.of_grown HGG.out fun b hb e => by injection e with e; have := hb.2; omega)).mono (F' := (FO (fun b => F b ∨ w.heap.size ≤ b) row)) fun b _ hb => hb.1)
            have hFG : ∀ b, F b ∨ wr.heap.size < b → (FO (fun b => F b ∨ w.heap.size ≤ b) row) b := fun b hb => by
              rcases hb with hb | hb
              · exact ⟨.inl hb, fun e => by have := HRW.out _ e.symm; have := HFF.out b hb; omega⟩
              · exact ⟨.inr (by have := HWZ.out; omega), fun e => by have := HRW.out _ e.symm; omega⟩
            have HSN := Lib.hid (show SR wq8 (FO (fun b => F b ∨ w.heap.size ≤ b) row) [.int .i64 k, .string ⟨s.toArray⟩, .int .i64 k8, .int .i64 k18, .int .i64 n18, .string s18, .slice A18 na18 ca18, .slice B18 nb18 cb18, .string s8, .slice A28 n28 ca28, .int .i64 k9, .int .i64 k19, .int .i64 n19, .string s19, .slice A19 na19 ca19, .slice B19 nb19 cb19, .string s9, .slice A29 n29 ca29, .slice BA2 nb2 cb2, .slice LA2 nl2 cl2] (cutS1 (cutS r) (.mk k s a b body els)) from
              SR.into (HF8.out.mono fun b _ hb => hFG b hb) (HF9.out.mono fun b _ hb => hFG b hb) (RR.imp HFC.out.2.1 fun c y (hc : SR _ _ c y) => hc.mono fun b _ hb => hFG b hb) HFC.out.1.1 (by rw [← HFC.out.1.1]; exact HFC.out.1.2.1) HFC.out.1.2.2 (HFC.out.2.2.mono fun b _ hb => hFG b hb)
                (RR.imp HFD.out.2.1 fun c y (hc : SR _ _ c y) => hc.mono fun b _ hb => hFG b hb) HFD.out.1.1 (by rw [← HFD.out.1.1]; exact HFD.out.1.2.1) HFD.out.1.2.2 (HFD.out.2.2.mono fun b _ hb => hFG b hb))
            have HRS := Lib.hid (show wq8.rangeAt wr.heap.size 0 [.int .i64 k, .string ⟨s.toArray⟩, .int .i64 k8, .int .i64 k18, .int .i64 n18, .string s18, .slice A18 na18 ca18, .slice B18 nb18 cb18, .string s8, .slice A28 n28 ca28, .int .i64 k9, .int .i64 k19, .int .i64 n19, .string s19, .slice A19 na19 ca19, .slice B19 nb19 cb19, .string s9, .slice A29 n29 ca29, .slice BA2 nb2 cb2, .slice LA2 nl2 cl2] from fun j v hv => by rw [Nat.zero_add]; exact (HBK.out.cell j).trans (List.getElem?_toArray.trans hv))
            have hwq : Below w.heap.size w wq8 := HWB.out.grown ((gbBel HA1.out (some wr.heap.size)).trans HGG.out) HWB.out.size (fun j e => by injection e with e; have := HWZ.out; omega)
            have HWQ := Lib.hid hwq
            have hO6 := Lib.hid (HO8.out.alloc (.cells #[.int .i64 k, .string ⟨s.toArray⟩, .int .i64 k8, .int .i64 k18, .int .i64 n18, .string s18, .slice A18 na18 ca18, .slice B18 nb18 cb18, .string s8, .slice A28 n28 ca28, .int .i64 k9, .int .i64 k19, .int .i64 n19, .string s19, .slice A19 na19 ca19, .slice B19 nb19 cb19, .string s9, .slice A29 n29 ca29, .slice BA2 nb2 cb2, .slice LA2 nl2 cl2] 69))
            have hR6 := Lib.hid (Rd.of_blk (Blk.new wq8 69 #[.int .i64 k, .string ⟨s.toArray⟩, .int .i64 k8, .int .i64 k18, .int .i64 n18, .string s18, .slice A18 na18 ca18, .slice B18 nb18 cb18, .string s8, .slice A28 n28 ca28, .int .i64 k9, .int .i64 k19, .int .i64 n19, .string s19, .slice A19 na19 ca19, .slice B19 nb19 cb19, .string s9, .slice A29 n29 ca29, .slice BA2 nb2 cb2, .slice LA2 nl2 cl2]))
            have H1C := Lib.hid (show ∀ u ∈ ([.int .i64 k, .string ⟨s.toArray⟩, .int .i64 k8, .int .i64 k18, .int .i64 n18, .string s18, .slice A18 na18 ca18, .slice B18 nb18 cb18, .string s8, .slice A28 n28 ca28, .int .i64 k9, .int .i64 k19, .int .i64 n19, .string s19, .slice A19 na19 ca19, .slice B19 nb19 cb19, .string s9, .slice A29 n29 ca29, .slice BA2 nb2 cb2, .slice LA2 nl2 cl2] : List Value), u.oneCell' = true from HSN.out.one)
            have HBS := Lib.hid (show w.heap.size ≤ (wq8.alloc (.cells #[.int .i64 k, .string ⟨s.toArray⟩, .int .i64 k8, .int .i64 k18, .int .i64 n18, .string s18, .slice A18 na18 ca18, .slice B18 nb18 cb18, .string s8, .slice A28 n28 ca28, .int .i64 k9, .int .i64 k19, .int .i64 n19, .string s19, .slice A19 na19 ca19, .slice B19 nb19 cb19, .string s9, .slice A29 n29 ca29, .slice BA2 nb2 cb2, .slice LA2 nl2 cl2] 69)).heap.size by rw [World.size_alloc]; have := HWZ.out; omega)
            have HRW8 := Lib.hid (fun (j : Nat) (e : row.ownBlock = some j) => And.intro (HRW.out j e).1 (Nat.lt_trans (HRW.out j e).2 hs8))
            clear HBK HF8 HF9 HFC HFD hwq hFG hrwne HXC HXD HXCr HXDr HB1
            go_upto_region 9 with fail
            first | (go_step; refine wpList_load_mid rfl 69 (.tmp 7) rfl wr.heap.size 0 rfl [.int .i64 k, .string ⟨s.toArray⟩, .int .i64 k8, .int .i64 k18, .int .i64 n18, .string s18, .slice A18 na18 ca18, .slice B18 nb18 cb18, .string s8, .slice A28 n28 ca28, .int .i64 k9, .int .i64 k19, .int .i64 n19, .string s19, .slice A19 na19 ca19, .slice B19 nb19 cb19, .string s9, .slice A29 n29 ca29, .slice BA2 nb2 cb2, .slice LA2 nl2 cl2] _ HRS.out Tryz.underlying69 rfl (by kernel_rfl) ?_) | (go_step; go_step; refine wpList_load_mid rfl 69 (.tmp 7) rfl wr.heap.size 0 rfl [.int .i64 k, .string ⟨s.toArray⟩, .int .i64 k8, .int .i64 k18, .int .i64 n18, .string s18, .slice A18 na18 ca18, .slice B18 nb18 cb18, .string s8, .slice A28 n28 ca28, .int .i64 k9, .int .i64 k19, .int .i64 n19, .string s19, .slice A19 na19 ca19, .slice B19 nb19 cb19, .string s9, .slice A29 n29 ca29, .slice BA2 nb2 cb2, .slice LA2 nl2 cl2] _ HRS.out Tryz.underlying69 rfl (by kernel_rfl) ?_) | (go_step; go_step; go_step; refine wpList_load_mid rfl 69 (.tmp 7) rfl wr.heap.size 0 rfl [.int .i64 k, .string ⟨s.toArray⟩, .int .i64 k8, .int .i64 k18, .int .i64 n18, .string s18, .slice A18 na18 ca18, .slice B18 nb18 cb18, .string s8, .slice A28 n28 ca28, .int .i64 k9, .int .i64 k19, .int .i64 n19, .string s19, .slice A19 na19 ca19, .slice B19 nb19 cb19, .string s9, .slice A29 n29 ca29, .slice BA2 nb2 cb2, .slice LA2 nl2 cl2] _ HRS.out Tryz.underlying69 rfl (by kernel_rfl) ?_) | (go_step; go_step; go_step; go_step; refine wpList_load_mid rfl 69 (.tmp 7) rfl wr.heap.size 0 rfl [.int .i64 k, .string ⟨s.toArray⟩, .int .i64 k8, .int .i64 k18, .int .i64 n18, .string s18, .slice A18 na18 ca18, .slice B18 nb18 cb18, .string s8, .slice A28 n28 ca28, .int .i64 k9, .int .i64 k19, .int .i64 n19, .string s19, .slice A19 na19 ca19, .slice B19 nb19 cb19, .string s9, .slice A29 n29 ca29, .slice BA2 nb2 cb2, .slice LA2 nl2 cl2] _ HRS.out Tryz.underlying69 rfl (by kernel_rfl) ?_) | (go_step; go_step; go_step; go_step; go_step; go_step; refine wpList_load_mid rfl 69 (.tmp 7) rfl wr.heap.size 0 rfl [.int .i64 k, .string ⟨s.toArray⟩, .int .i64 k8, .int .i64 k18, .int .i64 n18, .string s18, .slice A18 na18 ca18, .slice B18 nb18 cb18, .string s8, .slice A28 n28 ca28, .int .i64 k9, .int .i64 k19, .int .i64 n19, .string s19, .slice A19 na19 ca19, .slice B19 nb19 cb19, .string s9, .slice A29 n29 ca29, .slice BA2 nb2 cb2, .slice LA2 nl2 cl2] _ HRS.out Tryz.underlying69 rfl (by kernel_rfl) ?_) | (go_step; go_step; go_step; go_step; go_step; go_step; go_step; refine wpList_load_mid rfl 69 (.tmp 7) rfl wr.heap.size 0 rfl [.int .i64 k, .string ⟨s.toArray⟩, .int .i64 k8, .int .i64 k18, .int .i64 n18, .string s18, .slice A18 na18 ca18, .slice B18 nb18 cb18, .string s8, .slice A28 n28 ca28, .int .i64 k9, .int .i64 k19, .int .i64 n19, .string s19, .slice A19 na19 ca19, .slice B19 nb19 cb19, .string s9, .slice A29 n29 ca29, .slice BA2 nb2 cb2, .slice LA2 nl2 cl2] _ HRS.out Tryz.underlying69 rfl (by kernel_rfl) ?_) | (go_step; go_step; go_step; go_step; go_step; go_step; go_step; go_step; refine wpList_load_mid rfl 69 (.tmp 7) rfl wr.heap.size 0 rfl [.int .i64 k, .string ⟨s.toArray⟩, .int .i64 k8, .int .i64 k18, .int .i64 n18, .string s18, .slice A18 na18 ca18, .slice B18 nb18 cb18, .string s8, .slice A28 n28 ca28, .int .i64 k9, .int .i64 k19, .int .i64 n19, .string s19, .slice A19 na19 ca19, .slice B19 nb19 cb19, .string s9, .slice A29 n29 ca29, .slice BA2 nb2 cb2, .slice LA2 nl2 cl2] _ HRS.out Tryz.underlying69 rfl (by kernel_rfl) ?_)
            go_wp2_with (at_builtin; refine wpList_append_rd _ rfl _ _ 44 rfl w.heap.size 69 i0 _ 20 328 Tryz.underlying44 HI.out hz0 hz1 hz2 rfl (by decide) row i ocs.flatten rfl hO6.out (some ⟨wq8.heap.size, 0, none⟩) 1 1 (fun h => by cases h) [.int .i64 k, .string ⟨s.toArray⟩, .int .i64 k8, .int .i64 k18, .int .i64 n18, .string s18, .slice A18 na18 ca18, .slice B18 nb18 cb18, .string s8, .slice A28 n28 ca28, .int .i64 k9, .int .i64 k19, .int .i64 n19, .string s19, .slice A19 na19 ca19, .slice B19 nb19 cb19, .string s9, .slice A29 n29 ca29, .slice BA2 nb2 cb2, .slice LA2 nl2 cl2] rfl rfl hR6.out H1C.out (by unfold maxLen; omega) (by omega) HBS.out ?_; intro row2 w6 hown6 hgr6 hob6)
            have hHH : Below w.heap.size w w6 := (HWQ.out.alloc HWQ.out.size _).grown hgr6 (HWQ.out.alloc HWQ.out.size _).size (fun j e => (HRW.out j e).1)
            have hVV : SRs w6 (FO (fun b => F b ∨ w.heap.size ≤ b) row2) (ocs ++ [([.int .i64 k, .string ⟨s.toArray⟩, .int .i64 k8, .int .i64 k18, .int .i64 n18, .string s18, .slice A18 na18 ca18, .slice B18 nb18 cb18, .string s8, .slice A28 n28 ca28, .int .i64 k9, .int .i64 k19, .int .i64 n19, .string s19, .slice A19 na19 ca19, .slice B19 nb19 cb19, .string s9, .slice A29 n29 ca29, .slice BA2 nb2 cb2, .slice LA2 nl2 cl2] : List Value)]) ((l.take (i + 1)).map (cutS1 (cutS r))) := by
              rw [HTK.out]
              refine srs_growG ?_ hgr6 hob6
              exact (RR.imp HV8.out fun c y (hc : SR _ _ c y) => hc.bel ((Below.refl _ _).alloc (Nat.le_refl _) _)).snoc (HSN.out.bel ((Below.refl _ _).alloc (Nat.le_refl _) _))
            have hOO : w6.ownsRow w.heap.size 69 20 row2 (i + 1) (ocs ++ [([.int .i64 k, .string ⟨s.toArray⟩, .int .i64 k8, .int .i64 k18, .int .i64 n18, .string s18, .slice A18 na18 ca18, .slice B18 nb18 cb18, .string s8, .slice A28 n28 ca28, .int .i64 k9, .int .i64 k19, .int .i64 n19, .string s19, .slice A19 na19 ca19, .slice B19 nb19 cb19, .string s9, .slice A29 n29 ca29, .slice BA2 nb2 cb2, .slice LA2 nl2 cl2] : List Value)]).flatten := by
              rw [List.flatten_append]; simpa using hown6
            have H9 := Lib.hid (And.intro hHH (And.intro hOO hVV))
            clear hHH hOO hVV hown6 hgr6 hob6
            go_wp2
            go_roundg (m - (i + 1))
            case measure => have := HGK.out; omega
            case rel => exact ⟨i + 1, row2, _, rfl, by omega, rfl, by go_num, Lib.hid H9.out.1, Lib.hid H9.out.2.1, Lib.hid H9.out.2.2⟩
      · obtain rfl : i = m := by omega
        obtain ⟨RA, rc, rfl, hrc, hrn, hrr⟩ := own_parts HO.out
        have hl : i = ((l.take 5).map (cutS1 (cutS r))).length := by rw [List.length_map, List.length_take, HNK.out]; have := HM.out; omega
        have he : (l.take i).map (cutS1 (cutS r)) = (l.take 5).map (cutS1 (cutS r)) := by rw [← HM.out, ← HNK.out, Nat.min_comm, ← List.take_take, List.take_length]
        have hss : SRs wr (FO (fun b => F b ∨ w.heap.size ≤ b) (.slice RA i rc)) ocs ((l.take 5).map (cutS1 (cutS r))) := by rw [← he]; exact HV.out
        have HX := Lib.hid (show CusP (cutS (r + 1) l) F w (.returned (.slice RA i rc)) wr from ⟨RA, i, rc, ocs, rfl, hl, hrc, hrn, RR.imp hss fun c y (hc : SR _ _ c y) => hc.mono fun b _ h => h.1, hrr.mono fun b _ h => .inr h, HWB.out⟩)
        clear hl he hss hrc hrn hrr
        go_wp2
        refine bodyPost_ret (v := .slice RA i rc) (by simp only [results, Tryz.results57]; go_simp) rfl ?_
        exact HX.out
end Go.Proofs.YtgolomgmnanbpaaGreatDoor
