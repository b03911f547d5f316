import Derived.Test.YtoejdhabpajhlaaGreatDoorParse13
import Derived.KernelRfl
/- The walks of package parse: Parse and Value. -/
namespace Go.Proofs.YtoejdhabpajhlaaGreatDoor
set_option linter.unusedVariables false
set_option linter.unusedSimpArgs false
open Go.RowKit
attribute [local go_sem] run_index_arr run_part_agg run_part_one run_field_agg

/-- what Parse makes of how a parser ended -/
def parseOut (l : List UInt8) : PRes → JV × Int × Int
  | .fail p e => (jZero, p, e)
  | .done q v => if skipB l q < l.length then (jZero, skipB l q, 7) else (v, 0, 0)
  | .go _ _ _ _ => (jZero, 0, 0)
def valueOut : PRes → JV × Int × Int
  | .fail p e => (jZero, p, e)
  | .done q v => (v, q, 0)
  | .go _ _ _ _ => (jZero, 0, 0)
/-- what Parse answers -/
def ParseR (l : List UInt8) (o : JV × Int × Int) : Prop :=
  if 2048 < l.length then o = (jZero, 0, 3) else ∃ r, Reach l (.go 0 0 0 []) r ∧ isEnd r ∧ okP l r ∧ o = parseOut l r
def ValPost (o : JV × Int × Int) (W : World) (e : Ending) (W' : World) : Prop :=
  ∃ cs, e = .returned (.tuple #[.agg cs.toArray, .int .i64 o.2.1, .int .i64 o.2.2]) ∧ VR W' (fun b => W.heap.size ≤ b) cs o.1 ∧ Below W.heap.size W W'
def ParsePost (l : List UInt8) (W : World) (e : Ending) (W' : World) : Prop := ∃ o, ParseR l o ∧ ValPost o W e W'
abbrev zC : List Value := [zI, zI, zS, zN, zN]
theorem byteAt_none {l : List UInt8} {q : Nat} (h : l.length ≤ q) : byteAt l q = 0 := by rw [byteAt, List.getElem?_eq_none h]
theorem Blk.put5 {W : World} {g : Nat} {t : TypeId} {c0 c1 c2 c3 c4 : Value} (h : Blk W g t #[c0, c1, c2, c3, c4]) (a b c d e : Value) :
    Blk (((((W.setCell ⟨g, 0, none⟩ a).setCell ⟨g, 1, none⟩ b).setCell ⟨g, 2, none⟩ c).setCell ⟨g, 3, none⟩ d).setCell ⟨g, 4, none⟩ e) g t #[a, b, c, d, e] :=
  ((((h.set_ 0 a).set_ 1 b).set_ 2 c).set_ 3 d).set_ 4 e
theorem bel_put5 {B : Nat} {w W : World} (h : Below B w W) {g : Nat} (hg : B ≤ g) (a b c d e : Value) :
    Below B w (((((W.setCell ⟨g, 0, none⟩ a).setCell ⟨g, 1, none⟩ b).setCell ⟨g, 2, none⟩ c).setCell ⟨g, 3, none⟩ d).setCell ⟨g, 4, none⟩ e) :=
  ((((h.setCell (p := ⟨g, 0, none⟩) hg a).setCell (p := ⟨g, 1, none⟩) hg b).setCell (p := ⟨g, 2, none⟩) hg c).setCell (p := ⟨g, 3, none⟩) hg d).setCell (p := ⟨g, 4, none⟩) hg e
theorem keep_put5 {F : Nat → Prop} {W : World} {g : Nat} (hg : ∀ b, F b → b ≠ g) (a b c d e : Value) :
    KeepF F W (((((W.setCell ⟨g, 0, none⟩ a).setCell ⟨g, 1, none⟩ b).setCell ⟨g, 2, none⟩ c).setCell ⟨g, 3, none⟩ d).setCell ⟨g, 4, none⟩ e) :=
  ((((KeepF.refl.set hg 0 a).set hg 1 b).set hg 2 c).set hg 3 d).set hg 4 e
set_option maxRecDepth 100000 in
set_option maxHeartbeats 4000000 in
theorem parseParse_any (v : Value) (l : List UInt8) (W : World) (hG : GOK W) (hv : BS W v l) (hlen : l.length ≤ 4194304) : Calls Tryz.prog 14 #[v] W (ParsePost l W) := by
  obtain ⟨A, cap, rfl, hcap, hr⟩ := hv
  by_cases hl : 2048 < l.length
  · have hl' : (2048 : Int) < (l.length : Int) := by omega
    go_enter Tryz.func14, Tryz.ntmps14
    go_wp2
    refine bodyPost_ret (v := .tuple #[.agg #[zI, zI, zS, zN, zN], .int .i64 0, .int .i64 3]) (by simp only [results, Tryz.results14]; go_simp) rfl ?_
    exact ⟨(jZero, 0, 3), by unfold ParseR; rw [if_pos hl], zC, rfl, VR.zero, (Below.refl _ W).alloc (Nat.le_refl _) _⟩
  · have hl' : ¬ (2048 : Int) < (l.length : Int) := by omega
    have hpr : ∀ o, (∃ r, Reach l (.go 0 0 0 []) r ∧ isEnd r ∧ okP l r ∧ o = parseOut l r) → ParseR l o := fun o h => by unfold ParseR; rw [if_neg hl]; exact h
    have HPR := Lib.hid hpr
    have HR := Lib.hid hr
    have HG := Lib.hid hG
    have hgG := hG.lt
    clear hpr hr hG
    go_enter Tryz.func14, Tryz.ntmps14
    go_wp2_with fail
    obtain ⟨W1, hW1⟩ : ∃ W1, (W.alloc (.cells #[zI, zI, zS, zN, zN] 25)).alloc (.cells (pCells A l.length cap 0 0 zN zI zI zS zN zN 0) 68) = W1 := ⟨_, rfl⟩
    have hb1 : Below W.heap.size W W1 := by rw [← hW1]; exact ((Below.refl _ W).alloc (Nat.le_refl _) _).alloc (by simp) _
    have hres : Blk W1 W.heap.size 25 #[zI, zI, zS, zN, zN] := by rw [← hW1]; exact (Blk.new W _ _).alloc _
    have hpar : Blk W1 (W.heap.size + 1) 68 (pCells A l.length cap 0 0 zN zI zI zS zN zN 0) := by
      rw [← hW1]
      have := Blk.new (W.alloc (.cells #[zI, zI, zS, zN, zN] 25)) 68 (pCells A l.length cap 0 0 zN zI zI zS zN zN 0)
      simpa using this
    unfold pCells at hW1
    rw [hW1]
    obtain ⟨g, hg⟩ : ∃ g, W.heap.size + 1 = g := ⟨_, rfl⟩
    rw [hg] at hpar ⊢
    obtain ⟨R, hR⟩ : ∃ R, W.heap.size = R := ⟨_, rfl⟩
    have hRg : R ≠ g := by omega
    have hrf : RdF W1 (fun b => b ≠ g) A (byteV l) := fun hn => by
      obtain ⟨b, o, e, hlt, hx⟩ := (HR.out.below hb1) hn
      obtain ⟨b', o', e', hlt', _⟩ := HR.out hn
      have : b = b' := by rw [e] at e'; simpa using (congrArg (Option.map Addr.block) e')
      exact ⟨b, o, e, hlt, by omega, hx⟩
    have HGO := Lib.hid (pGoes_any W1 g A cap l 0 (HG.out.keep hb1) (by omega) hpar hrf (Nat.zero_le _) hcap hlen)
    have HB1 := Lib.hid hb1
    have HRES := Lib.hid hres
    have HWR := Lib.hid hR
    have HGE := Lib.hid (show W.heap.size ≤ g by omega)
    rw [hR]
    clear hW1 hb1 hres hpar hg hR hrf
    refine HGO.out.mono ?_
    rintro e W2 ⟨rfl, w2, r, hbw, hst, hre, hend, hok⟩
    have hgb := hst.gb
    have hres2 := (HRES.out.keep hbw).grown hgb (by rw [HWR.out]; simpa using hRg)
    rw [HWR.out] at hres2
    have hbel : Below W.heap.size W W2 := (HB1.out.trans (hbw.mono HB1.out.size)).grown hgb (Nat.le_trans HB1.out.size hbw.size) (fun k e => by have := HGE.out; injection e with e; omega)
    have HBE := Lib.hid hbel
    have HSZ := Lib.hid (show W.heap.size ≤ w2.heap.size ∧ R < w2.heap.size from ⟨Nat.le_trans HB1.out.size hbw.size, by have h1 := (HRES.out.keep hbw).lt; rw [HWR.out] at h1; exact h1⟩)
    have HSPEC := Lib.hid (HPR.out _ ⟨r, hre, hend, hok, rfl⟩)
    clear hbel hgb hbw hre
    cases r with
    | go s p m stk => exact hend.elim
    | fail p e =>
      obtain ⟨ov, m, c0, c1, c2, c3, c4, hpb⟩ := hst
      have hok : e ≠ 0 := hok
      have he1 : (e == 0) = false := by simpa using hok
      have he2 : (e != 0) = true := by simpa using hok
      obtain ⟨x0, x1, x2⟩ := hpb.blk.rules
      unfold pCells at x0
      obtain ⟨y0, y1, y2⟩ := hres2.rules
      have HRB := Lib.hid hres2
      clear hpb hok hend hres2
      go_wp2
      have g0 := x0 0
      have g9 := x0 9
      simp at g0 g9
      go_region_held3 (fun w' => w'.cell? ⟨g, 0, none⟩ = some (.int .i64 p) ∧ w'.cell? ⟨g, 9, none⟩ = some (.int .i64 e)) (go_keep) ((fail))
      all_goals
        obtain ⟨r0, r1, r2⟩ := ((HRB.out.put5 zI zI zS zN zN).drewN 1).rules
        go_wp2
        refine bodyPost_ret (v := .tuple #[.agg #[zI, zI, zS, zN, zN], .int .i64 p, .int .i64 e]) (by simp only [results, Tryz.results14]; go_simp) rfl ?_
        exact ⟨_, HSPEC.out, zC, rfl, VR.zero, bel_drewN (bel_put5 HBE.out (by rw [HWR.out]; exact Nat.le_refl _) zI zI zS zN zN) 1⟩
    | done q v =>
      obtain ⟨ov, m, c0, c1, c2, c3, c4, hpb, hvr⟩ := hst
      have hq : q ≤ l.length := hok
      have hnx := pNext_any w2 W2 g A cap l q m 0 ov c0 c1 c2 c3 c4 hpb hq hcap hlen
      have hsk := skipB_le hq
      have HRB := Lib.hid hres2
      have HVR := Lib.hid (hvr.mono (F' := fun b => W.heap.size ≤ b ∧ b ≠ g ∧ b ≠ R) (fun b hb hf => ⟨Nat.le_trans HSZ.out.1 hf, by have h1 := hpb.hg; omega, by have h1 := HSZ.out.2; omega⟩))
      have HSPEC := Lib.hid (show ParseR l (if skipB l q < l.length then (jZero, (skipB l q : Int), 7) else (v, 0, 0)) from HSPEC.out)
      obtain ⟨q', hq'⟩ : ∃ q', skipB l q = q' := ⟨_, rfl⟩
      rw [hq'] at hnx hsk HSPEC
      obtain ⟨bb, hbb⟩ : ∃ bb, byteAt l q' = bb := ⟨_, rfl⟩
      rw [hbb] at hnx
      obtain ⟨x0, x1, x2⟩ := hpb.blk.rules
      unfold pCells at x0
      by_cases hlt : q' < l.length
      · have HSQ := Lib.hid (show ParseR l (jZero, (q' : Int), 7) by have h := HSPEC.out; rw [if_pos hlt] at h; exact h)
        have HNX := Lib.hid hnx
        have hltI : (q' : Int) < (l.length : Int) := by omega
        have hff : failF l q' 7 = ((q' : Int), (7 : Int)) := by unfold failF; rw [if_neg (by omega)]
        have HFF := Lib.hid hff
        clear hnx hff HSPEC hq hok hq' hbb hpb hvr hres2 hend
        by_cases hb0 : bb = 0
        · subst hb0
          go_wp2_with (first | (go_at_call 31; refine HNX.out.mono ?_; rintro e W3 ⟨rfl, hb3, hg3⟩; obtain ⟨y0, y1, y2⟩ := hb3.blk.rules; unfold pCells at y0) | (go_at_call 32; refine (pFails_any w2 _ g _ cap l q' m 0 q' 7 ov c0 c1 c2 c3 c4 hb3).mono ?_; rintro e W4 ⟨rfl, hp4, hg4⟩; rw [HFF.out] at hp4; obtain ⟨z0, z1, z2⟩ := hp4.blk.rules; unfold pCells at z0))
          have hr4 := (HRB.out.grown hg3 (by simpa using hRg)).grown hg4 (by simpa using hRg)
          have hb4 := (HBE.out.grown hg3 HBE.out.size (fun k e => by have := HGE.out; injection e with e; omega)).grown hg4 (Nat.le_trans HBE.out.size hg3.size) (fun k e => by have := HGE.out; injection e with e; omega)
          have HR4 := Lib.hid hr4
          have HB4 := Lib.hid hb4
          obtain ⟨y0, y1, y2⟩ := hr4.rules
          have g0 := z0 0
          have g9 := z0 9
          simp at g0 g9
          clear x0 x1 hr4 hb4 hb3 hp4
          go_region_held3 (fun w' => w'.cell? ⟨g, 0, none⟩ = some (.int .i64 (q' : Int)) ∧ w'.cell? ⟨g, 9, none⟩ = some (.int .i64 7)) (go_keep) ((fail))
          all_goals
            obtain ⟨r0, r1, r2⟩ := ((HR4.out.put5 zI zI zS zN zN).drewN 1).rules
            go_wp2
            refine bodyPost_ret (v := .tuple #[.agg #[zI, zI, zS, zN, zN], .int .i64 q', .int .i64 7]) (by simp only [results, Tryz.results14]; go_simp) rfl ?_
            exact ⟨_, HSQ.out, zC, rfl, VR.zero, bel_drewN (bel_put5 HB4.out (by rw [HWR.out]; exact Nat.le_refl _) zI zI zS zN zN) 1⟩
        · have hbn : (bb != 0) = true := by simpa using hb0
          go_wp2_with (first | (go_at_call 31; refine HNX.out.mono ?_; rintro e W3 ⟨rfl, hb3, hg3⟩; obtain ⟨y0, y1, y2⟩ := hb3.blk.rules; unfold pCells at y0) | (go_at_call 32; refine (pFails_any w2 _ g _ cap l q' m 0 q' 7 ov c0 c1 c2 c3 c4 hb3).mono ?_; rintro e W4 ⟨rfl, hp4, hg4⟩; rw [HFF.out] at hp4; obtain ⟨z0, z1, z2⟩ := hp4.blk.rules; unfold pCells at z0))
          have hr4 := (HRB.out.grown hg3 (by simpa using hRg)).grown hg4 (by simpa using hRg)
          have hb4 := (HBE.out.grown hg3 HBE.out.size (fun k e => by have := HGE.out; injection e with e; omega)).grown hg4 (Nat.le_trans HBE.out.size hg3.size) (fun k e => by have := HGE.out; injection e with e; omega)
          have HR4 := Lib.hid hr4
          have HB4 := Lib.hid hb4
          obtain ⟨y0, y1, y2⟩ := hr4.rules
          have g0 := z0 0
          have g9 := z0 9
          simp at g0 g9
          clear x0 x1 hr4 hb4 hb3 hp4
          go_region_held3 (fun w' => w'.cell? ⟨g, 0, none⟩ = some (.int .i64 (q' : Int)) ∧ w'.cell? ⟨g, 9, none⟩ = some (.int .i64 7)) (go_keep) ((fail))
          all_goals
            obtain ⟨r0, r1, r2⟩ := ((HR4.out.put5 zI zI zS zN zN).drewN 1).rules
            go_wp2
            refine bodyPost_ret (v := .tuple #[.agg #[zI, zI, zS, zN, zN], .int .i64 q', .int .i64 7]) (by simp only [results, Tryz.results14]; go_simp) rfl ?_
            exact ⟨_, HSQ.out, zC, rfl, VR.zero, bel_drewN (bel_put5 HB4.out (by rw [HWR.out]; exact Nat.le_refl _) zI zI zS zN zN) 1⟩
      · have HSQ := Lib.hid (show ParseR l (v, 0, 0) by have h := HSPEC.out; rw [if_neg hlt] at h; exact h)
        have hql : q' = l.length := by omega
        have hb0 : bb = 0 := by rw [← hbb]; exact byteAt_none (by omega)
        obtain ⟨k0, n0, s0, A0, na0, ca0, B0, nb0, cb0, hform⟩ := hvr.form
        obtain ⟨rfl, rfl, rfl, rfl, rfl⟩ : c0 = .int .i64 k0 ∧ c1 = .int .i64 n0 ∧ c2 = .string s0 ∧ c3 = .slice A0 na0 ca0 ∧ c4 = .slice B0 nb0 cb0 := by simpa using hform
        rw [hb0, hql] at hnx
        have HNX := Lib.hid hnx
        clear hnx HSPEC hq hok hq' hbb hpb hvr hres2 hend hform hb0 hql hlt
        go_wp2_with (go_at_call 31; refine HNX.out.mono ?_; rintro e W3 ⟨rfl, hb3, hg3⟩; obtain ⟨y0, y1, y2⟩ := hb3.blk.rules; unfold pCells at y0; have hr3 := HRB.out.grown hg3 (by simpa using hRg); obtain ⟨z0, z1, z2⟩ := hr3.rules)
        obtain ⟨r0, r1, r2⟩ := (hr3.put5 (.int .i64 k0) (.int .i64 n0) (.string s0) (.slice A0 na0 ca0) (.slice B0 nb0 cb0)).rules
        refine bodyPost_ret (v := .tuple #[.agg #[.int .i64 k0, .int .i64 n0, .string s0, .slice A0 na0 ca0, .slice B0 nb0 cb0], .int .i64 0, .int .i64 0]) (by simp only [results, Tryz.results14]; go_simp) rfl ?_
        have hb4 := HBE.out.grown hg3 HBE.out.size (fun k e => by have := HGE.out; injection e with e; omega)
        refine ⟨_, HSQ.out, [_, _, _, _, _], rfl, ?_, bel_put5 hb4 (by rw [HWR.out]; exact Nat.le_refl _) _ _ _ _ _⟩
        exact ((HVR.out.keep (KeepF.of_grown hg3 (fun b hf e => hf.2.1 (by simpa using e)))).keep (keep_put5 (fun b hf => hf.2.2) _ _ _ _ _)).mono (fun b _ hf => hf.1)
end Go.Proofs.YtoejdhabpajhlaaGreatDoor

/- The walks of package parse: Value. -/
namespace Go.Proofs.YtoejdhabpajhlaaGreatDoor
set_option linter.unusedVariables false
set_option linter.unusedSimpArgs false
open Go.RowKit
attribute [local go_sem] run_index_arr run_part_agg run_part_one run_field_agg

/-- what Value answers -/
def ValueR (l : List UInt8) (a : Int) (o : JV × Int × Int) : Prop :=
  if a < 0 ∨ (l.length : Int) < a then o = (jZero, 0, 2) else if 2048 < l.length then o = (jZero, 0, 3) else ∃ r, Reach l (.go 0 a.toNat 0 []) r ∧ isEnd r ∧ okP l r ∧ o = valueOut r
def ValuePost (l : List UInt8) (a : Int) (W : World) (e : Ending) (W' : World) : Prop := ∃ o, ValueR l a o ∧ ValPost o W e W'
end Go.Proofs.YtoejdhabpajhlaaGreatDoor

/- Plain: what Parse makes of the rows that wakes asks. -/
namespace Go.Proofs.YtoejdhabpajhlaaGreatDoor
set_option linter.unusedVariables false
set_option linter.unusedSimpArgs false

theorem end_stays {l : List UInt8} {r : PRes} (h : isEnd r) (k : Nat) : pRun l k r = r := by
  cases r with
  | go s p m stk => exact h.elim
  | fail p e => exact pRun_fail p e k
  | done p v => exact pRun_done p v k
theorem reach_det {l : List UInt8} {a r r0 : PRes} (h : Reach l a r) (he : isEnd r) (h0 : Reach l a r0) (he0 : isEnd r0) : r = r0 := by
  obtain ⟨k, h⟩ := h
  obtain ⟨k0, h0⟩ := h0
  rcases Nat.le_total k k0 with hk | hk
  · obtain ⟨d, rfl⟩ := Nat.exists_eq_add_of_le hk
    rw [pRun_add, h, end_stays he] at h0; exact h0
  · obtain ⟨d, rfl⟩ := Nat.exists_eq_add_of_le hk
    rw [pRun_add, h0, end_stays he0] at h; exact h.symm
theorem ParseR_det {l : List UInt8} {o : JV × Int × Int} {r0 : PRes} (hl : l.length ≤ 2048) (h0 : Reach l (.go 0 0 0 []) r0) (he0 : isEnd r0) (h : ParseR l o) : o = parseOut l r0 := by
  unfold ParseR at h
  rw [if_neg (by omega)] at h
  obtain ⟨r, h1, h2, _, rfl⟩ := h
  rw [reach_det h1 h2 h0 he0]
theorem ValueR_det {l : List UInt8} {a : Nat} {o : JV × Int × Int} {r0 : PRes} (hl : l.length ≤ 2048) (ha : a ≤ l.length) (h0 : Reach l (.go 0 a 0 []) r0) (he0 : isEnd r0) (h : ValueR l a o) : o = valueOut r0 := by
  unfold ValueR at h
  rw [if_neg (by omega), if_neg (by omega)] at h
  obtain ⟨r, h1, h2, _, rfl⟩ := h
  rw [reach_det h1 h2 h0 he0]
def wk1 : List UInt8 := [91, 49, 44, 32, 123, 34, 98, 34, 58, 32, 110, 117, 108, 108, 44, 32, 34, 97, 34, 58, 32, 34, 120, 34, 125, 93, 32]
def wk2 : List UInt8 := [91, 49, 44]
def wk3 : List UInt8 := [123, 34, 97, 34, 58, 49, 44, 34, 97, 34, 58, 50, 125]
def wk4 : List UInt8 := [91, 91, 91, 91, 91, 91, 91, 91, 91]
def wk5 : List UInt8 := [91, 49, 44, 93]
def wk6 : List UInt8 := [120, 32, 55, 32, 56]
def wkV : JV := .mk 5 0 [] [.mk 3 1 [] [] [], .mk 6 0 [] [.mk 4 0 [120] [] [], .mk 1 0 [] [] []] [[97], [98]]] []
theorem wk1_run : Reach wk1 (.go 0 0 0 []) (.done 26 wkV) := ⟨14, by kernel_rfl⟩
theorem wk2_run : Reach wk2 (.go 0 0 0 []) (.fail 3 6) := ⟨5, by kernel_rfl⟩
theorem wk3_run : Reach wk3 (.go 0 0 0 []) (.fail 7 141) := ⟨8, by kernel_rfl⟩
theorem wk4_run : Reach wk4 (.go 0 0 0 []) (.fail 8 150) := ⟨10, by kernel_rfl⟩
theorem wk5_run : Reach wk5 (.go 0 0 0 []) (.fail 3 7) := ⟨5, by kernel_rfl⟩
theorem wk6_run : Reach wk6 (.go 0 1 0 []) (.done 3 (.mk 3 7 [] [] [])) := ⟨3, by kernel_rfl⟩
theorem wk1_out {o : JV × Int × Int} (h : ParseR wk1 o) : o = (wkV, 0, 0) := ParseR_det (by decide) wk1_run trivial h
theorem wk2_out {o : JV × Int × Int} (h : ParseR wk2 o) : o = (jZero, 3, 6) := ParseR_det (by decide) wk2_run trivial h
theorem wk3_out {o : JV × Int × Int} (h : ParseR wk3 o) : o = (jZero, 7, 141) := ParseR_det (by decide) wk3_run trivial h
theorem wk4_out {o : JV × Int × Int} (h : ParseR wk4 o) : o = (jZero, 8, 150) := ParseR_det (by decide) wk4_run trivial h
theorem wk5_out {o : JV × Int × Int} (h : ParseR wk5 o) : o = (jZero, 3, 7) := ParseR_det (by decide) wk5_run trivial h
theorem wk6_out {o : JV × Int × Int} (h : ValueR wk6 (1 : Nat) o) : o = (.mk 3 7 [] [] [], 3, 0) := ValueR_det (by decide) (by decide) wk6_run trivial h
end Go.Proofs.YtoejdhabpajhlaaGreatDoor
