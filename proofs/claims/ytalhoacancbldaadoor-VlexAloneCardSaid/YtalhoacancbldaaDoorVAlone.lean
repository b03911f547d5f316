/- The walk of VlexAlone. UNDER WAY. -/
import Derived.Test.YtalhoacancbldaaDoorAloneP
import Derived.Test.YtalhoacancbldaaDoorWakes
import Derived.Deep.RegionLawGrows
import Derived.Deep.DeepCutAuto
import Derived.Deep.CutBlock
namespace Go.Proofs.YtalhoacancbldaaDoor
set_option linter.unusedVariables false
set_option linter.unusedSimpArgs false
open Go.RowKit
attribute [local go_sem] run_index_arr run_part_agg run_part_one run_field_agg

def TrueA (w : World) (e : Ending) (w' : World) : Prop := e = .returned (.bool true) ∧ Below w.heap.size w w'
theorem fewA (s : ByteArray) : (fewS s).size ≤ 513 := by rw [← sl_len, fewS, sl_mk, List.length_take]; omega
theorem ext_sl (x : ByteArray) (p q : Nat) : sl (x.extract p q) = ((sl x).take q).drop p := by
  show (x.extract p q).data.toList = _
  rw [Lib.extract_data]
  rw [List.drop_take]
theorem ext_len (x : ByteArray) (p q : Nat) (h : q ≤ x.size) : (x.extract p q).size ≤ x.size := by
  rw [← sl_len, ext_sl, List.length_drop, List.length_take, sl_len]; omega
theorem TS.two {w : World} {v : Value} {ts : List VTok} (h : TS w v ts) (n : Nat) (hn : ts.length = n) : ∃ A cap, v = .slice A n cap ∧ n ≤ cap := by
  subst hn
  obtain ⟨A, cap, e, hc, _⟩ := h
  exact ⟨A, cap, e, hc⟩
theorem TS.one_of_own {w : World} {base g n cap : Nat} {e : TypeId} {x : VTok} {r : List VTok} (h : w.ownsRow base e 4 (.slice (some ⟨g, 0, none⟩) n cap) n (tokCells (x :: r))) (hc : 1 ≤ cap) : TS w (.slice (some ⟨g, 0, none⟩) 1 cap) [x] := by
  obtain ⟨A, c, e1, h1, h2⟩ := Rd.of_own h
  injection e1 with e1 e2 e3
  subst e1 e3
  refine ⟨_, _, rfl, hc, ?_⟩
  have := h2.take 4
  rwa [tokCells_cons, List.take_append, List.take_of_length_le (by simp [tokL]), show 4 - (tokL x).length = 0 from by simp [tokL], List.take_zero] at this
theorem TS.one_new (w : World) (x : VTok) : TS (w.alloc (.cells (tokL x).toArray 30)) (.slice (some ⟨w.heap.size, 0, none⟩) 1 1) [x] := by
  refine ⟨_, _, rfl, Nat.le_refl _, ?_⟩
  have := Rd.of_blk (Blk.new w 30 (tokL x).toArray)
  rwa [List.toList_toArray, show tokL x = tokCells [x] from by rw [tokCells_cons, tokCells_nil, List.append_nil]] at this
/-- the cells of a token at a block -/
def TokAt (T : Nat) (kd p : Int) (tx : ByteArray) (num : Int) (W : World) : Prop :=
  W.cell? ⟨T, 0, none⟩ = some (.int .i64 kd) ∧ W.cell? ⟨T, 1, none⟩ = some (.int .i64 p) ∧ W.cell? ⟨T, 2, none⟩ = some (.string tx) ∧ W.cell? ⟨T, 3, none⟩ = some (.int .i64 num)
theorem TokAt.of_blk {T : Nat} {kd p : Int} {tx : ByteArray} {num : Int} {W : World} (h : Blk W T 30 #[.int .i64 kd, .int .i64 p, .string tx, .int .i64 num]) : TokAt T kd p tx num W := ⟨h.cell 0, h.cell 1, h.cell 2, h.cell 3⟩
theorem TokAt.below {T : Nat} {kd p : Int} {tx : ByteArray} {num : Int} {W W' : World} (h : TokAt T kd p tx num W) (hb : Below W.heap.size W W') (hT : T < W.heap.size) : TokAt T kd p tx num W' :=
  ⟨(hb.cell (p := ⟨T, 0, none⟩) hT).trans h.1, (hb.cell (p := ⟨T, 1, none⟩) hT).trans h.2.1, (hb.cell (p := ⟨T, 2, none⟩) hT).trans h.2.2.1, (hb.cell (p := ⟨T, 3, none⟩) hT).trans h.2.2.2⟩
theorem TokAt.alloc {T : Nat} {kd p : Int} {tx : ByteArray} {num : Int} {W : World} (h : TokAt T kd p tx num W) (hT : T < W.heap.size) (o : Obj) : TokAt T kd p tx num (W.alloc o) := h.below ((Below.refl _ W).alloc (Nat.le_refl _) o) hT
theorem own_cap {w : World} {base g n cap : Nat} {e : TypeId} {size : Nat} {xs : List Value} (h : w.ownsRow base e size (.slice (some ⟨g, 0, none⟩) n cap) n xs) : n ≤ cap := by
  obtain ⟨A, c, e1, h1, _⟩ := Rd.of_own h
  injection e1 with e1 e2 e3
  omega
theorem aloneFin {w w3 w4 w5 : World} (h : Below w.heap.size w w3) (h4 : Below w3.heap.size w3 w4) (n : Nat) : Below w.heap.size w (w4.drewN n) := bel_drewN (h.trans (h4.mono h.size)) n
set_option maxRecDepth 100000 in
set_option maxHeartbeats 4000000 in
theorem vlexAlone_any (s : ByteArray) (w : World) (hG : GOK w) (hs : s.size ≤ maxLen) : Calls Tryd.prog 7 #[.string s] w (TrueA w) := by
  have HW := Lib.hid (wakes_any w hG)
  have HG := Lib.hid hG
  have HF := Lib.hid (few_any s)
  have hx0 := fewA s
  obtain ⟨x, hx⟩ : ∃ x, fewS s = x := ⟨_, rfl⟩
  rw [hx] at HF hx0
  have h1 := fun w hG => lex_any x w hG (by omega)
  have g1 := vLex_place (sl x)
  rw [sl_len] at g1
  obtain ⟨⟨ts, q, er⟩, hr⟩ : ∃ r, vLex (sl x) = r := ⟨_, rfl⟩
  rw [hr] at h1 g1
  have H1 := Lib.hid h1
  have HR := Lib.hid hr
  have HS := Lib.hid hs
  clear h1 hr hx hG hs
  go_enter Tryd.func7, Tryd.ntmps7
  go_wp2_with fail
  refine HW.out.mono ?_
  rintro e w1 ⟨rfl, hb1⟩
  go_wp2_with fail
  refine (HF.out w1 HS.out).mono ?_
  rintro e w1' ⟨rfl, rfl⟩
  go_wp2_with fail
  refine (H1.out w1 (HG.out.keep hb1)).mono ?_
  rintro e w2 ⟨v1, rfl, hv1, hb2⟩
  by_cases her : er = 0
  · subst her
    have hxl : (sl x).length ≤ 512 ∧ (vToks (sl x) 0).2 = none ∧ (vToks (sl x) 0).1 = ts := by
      have h := HR.out
      unfold vLex at h
      split at h
      · simp at h
      · rename_i hn
        cases ho : (vToks (sl x) 0).2 with
        | none => rw [ho] at h; simp only [Prod.mk.injEq] at h; exact ⟨by omega, rfl, h.1⟩
        | some e => rw [ho] at h; simp only [Prod.mk.injEq] at h; exact absurd h.2.2 (vRun_err2 ho)
    obtain ⟨hl, hno, hts⟩ := hxl
    obtain ⟨pre, hpre⟩ := vToks_last (l := sl x) (Nat.zero_le _) hno
    rw [hts, sl_len] at hpre
    obtain ⟨m, hm⟩ : ∃ m, pre.length = m := ⟨_, rfl⟩
    obtain ⟨A, c, rfl, hc, hr⟩ := hv1
    have hn : ts.length = m + 1 := by rw [hpre, List.length_append, hm]; rfl
    have hlast : ts[m]? = some (6, x.size, [], 0) := by rw [hpre, List.getElem?_append_right (by omega), hm]; simp
    obtain ⟨b, o, rfl, hlt, c0, c1, c2, c3⟩ := hr.tok hlast
    simp only at hn hc
    have hm513 : m ≤ 512 := by
      have h := vLex_lenS (sl x)
      rw [HR.out] at h
      simp only at h
      omega
    rw [hn] at hc ⊢
    have HRD := Lib.hid hr
    have HP := Lib.hid hpre
    clear hpre hlast hr
    have HB := Lib.hid (hb1.trans (hb2.mono hb1.size))
    have HN := Lib.hid hn
    go_wp2
    clear c0 c1 c2 c3
    go_loopg [59] (m + 1) (fun gk i wr => ∃ k : Nat, k ≤ m ∧ gk = m + 1 - k ∧ i = .int .i64 k ∧ Below w.heap.size w wr ∧ Below w2.heap.size w2 wr)
    case atStart => exact ⟨0, Nat.zero_le _, rfl, rfl, HB.out, Below.refl _ _⟩
    case round =>
      obtain ⟨k, hk, hgk, rfl, hbw, hbw2⟩ := hrel
      have HGK := Lib.hid hgk
      clear hgk
      by_cases hlt' : k < m
      · obtain ⟨⟨kd, p, tx, num⟩, hxk⟩ : ∃ z, ts[k]? = some z := ⟨_, List.getElem?_eq_getElem (by rw [HN.out]; omega)⟩
        obtain ⟨⟨kd2, nx, tx2, num2⟩, hyk⟩ : ∃ z, ts[k + 1]? = some z := ⟨_, List.getElem?_eq_getElem (by rw [HN.out]; omega)⟩
        obtain ⟨mm, hp, hbl, htk, hnx⟩ := vToks_chain (l := sl x) _ 0 (Nat.le_refl _) (Nat.zero_le _) hno k _ _ (by rw [hts]; exact hxk) (by rw [hts]; exact hyk)
        simp only at hp hbl htk hnx
        have hmm := vTake_ok hp htk
        have hge := skipB_ge (sl x) mm
        have hle := skipB_le hmm.2
        have hpart := vLex_part hl hp hbl htk
        have hwhat := vTake_what htk
        rw [← hnx] at hpart hge hle
        rw [sl_len] at hp hle
        have hrd2 : Rd wr (some ⟨b, o, none⟩) (tokCells ts) := HRD.out.below hbw2
        obtain ⟨b', o', e', hlt', c0, c1, c2, c3⟩ := hrd2.tok hxk
        obtain ⟨rfl, rfl⟩ : b = b' ∧ o = o' := by simpa using e'
        obtain ⟨b', o', e', _, d0, d1, d2, d3⟩ := hrd2.tok hyk
        obtain ⟨rfl, rfl⟩ : b = b' ∧ o = o' := by simpa using e'
        have HPART := Lib.hid hpart
        have HWHAT := Lib.hid hwhat
        have HTK := Lib.hid htk
        have HXK := Lib.hid hxk
        have HYK := Lib.hid hyk
        have hk1 : kd < 1 → False := fun h => by rcases HWHAT.out with ⟨e, _⟩ | ⟨e, _⟩ | e | e | e <;> omega
        have hk6 : 6 ≤ kd → False := fun h => by rcases HWHAT.out with ⟨e, _⟩ | ⟨e, _⟩ | e | e | e <;> omega
        have hd1 : decide (kd < 1) = false := by simpa using fun h => hk1 h
        have hd2 : decide (6 ≤ kd) = false := by simpa using fun h => hk6 h
        have hd3 : decide ((p : Int) < 0) = false := by simp
        have hd4 : decide ((nx : Int) ≤ (p : Int)) = false := by simp; omega
        have hd5 : decide ((x.size : Int) < (nx : Int)) = false := by simp; omega
        have hpn : p < nx := by omega
        have hwr : IntKind.i64.wrap ((k : Int) + 1) = (k : Int) + 1 := by rw [IntWalk.i64_in _ (by omega)]
        have hnn : (0 : Int) ≤ (k : Int) + 1 := by omega
        have htn : ((k : Int) + 1).toNat = k + 1 := by omega
        have hd4' : decide (nx ≤ p) = false := by simp; omega
        have hd5' : decide (x.size < nx) = false := by simp; omega
        have HNX := Lib.hid hnx
        clear hpart hwhat htk hxk hyk hbl hno hts hm hn hmm hnx
        have hsl : sl (x.extract p nx) = ((sl x).take nx).drop p := ext_sl x p nx
        have hlex := fun W hG => lex_any (x.extract p nx) W hG (by have := ext_len x p nx hle; omega)
        rw [hsl, HPART.out] at hlex
        have HLEX := Lib.hid hlex
        clear hsl hlex
        go_wp2
        obtain ⟨wa, hwa⟩ : ∃ wa, wr.alloc (.cells #[.int .i64 kd, .int .i64 p, .string ⟨tx.toArray⟩, .int .i64 num] 30) = wa := ⟨_, rfl⟩
        have hT : Blk wa wr.heap.size 30 #[.int .i64 kd, .int .i64 p, .string ⟨tx.toArray⟩, .int .i64 num] := by rw [← hwa]; exact Blk.new _ _ _
        have hba : Below wr.heap.size wr wa := by rw [← hwa]; exact (Below.refl _ _).alloc (Nat.le_refl _) _
        have e1 := ((bcell hba).1 b (o + (k + 1) * 4 + 1) hlt').trans d1
        obtain ⟨T, hTe⟩ : ∃ T, wr.heap.size = T := ⟨_, rfl⟩
        rw [hwa, hTe]
        rw [hTe] at hT
        have HBA := Lib.hid (hbw.trans (hba.mono hbw.size))
        have HBA2 := Lib.hid (hbw2.trans (hba.mono hbw2.size))
        have hTlt := hT.lt
        have HT := Lib.hid hT
        obtain ⟨tc, tf, _⟩ := hT.rules
        clear hwa hT hba hTe c0 c1 c2 c3 d0 d1 d2 d3 hbw hbw2 hrd2
        go_quiet (fail)
        go_wp2
        go_quiet (fail)
        go_wp2_with fail
        refine (HLEX.out _ (by exact (HG.out.keep HBA.out).drewN _)).mono ?_
        rintro e w3 ⟨v3, rfl, hv3, hb3⟩
        obtain ⟨A3, cap3, rfl, hcap3⟩ := hv3.two 2 rfl
        have hb3' : Below wa.heap.size wa w3 := (bel_drewN (Below.refl _ wa) _).trans hb3
        have HB3 := Lib.hid hb3'
        have HV3 := Lib.hid hv3
        have hTA : TokAt T kd p ⟨tx.toArray⟩ num w3 := TokAt.of_blk (HT.out.keep hb3')
        clear tc tf hb3 hb3' hv3 e1
        simp only
        go_wp2
        have hTlt3 : T < w3.heap.size := Nat.lt_of_lt_of_le hTlt HB3.out.size
        have hmv := fun W hT => moved_any (.slice A3 2 cap3) [(kd, 0, tx, num), (6, nx - p, [], 0)] p W hT (by simp) (by omega) (fun z hz => by simp at hz; rcases hz with rfl | rfl <;> simp; omega)
        rw [show ([(kd, 0, tx, num), (6, nx - p, [], 0)] : List VTok).map (movT p) = [(kd, p, tx, num), (6, nx - p + p, [], 0)] by simp [movT]] at hmv
        unfold OwnTok at hmv
        simp only [List.length_cons, List.length_nil, Nat.zero_add, Nat.reduceAdd] at hmv
        have HMV := Lib.hid hmv
        have heq := fun W v v' h h' => tokEqual_any v v' [(kd, p, tx, num)] [(kd, p, tx, num)] W h h' (by simp) (by simp)
        rw [decide_eq_true (show [(kd, p, tx, num)] = [(kd, p, tx, num)] from rfl)] at heq
        have HEQ := Lib.hid heq
        clear hmv heq
        refine wp_region_held_drew (S := TokAt T kd p ⟨tx.toArray⟩ num) (by kernel_rfl) hTA ?_
        intro hS
        refine wpAnyH_take (i := 0) (v := .int .i64 0) rfl (by kernel_rfl) (by kernel_rfl) (by kernel_rfl) (fun _ _ _ h => h) (Or.inl ⟨by kernel_rfl, ?_⟩) hS ?_
        · intro w _; go_simp
        refine wpAnyH_take (i := 1) (v := .bool false) rfl (by kernel_rfl) (by kernel_rfl) (by kernel_rfl) (fun _ _ _ h => h) (Or.inl ⟨by kernel_rfl, ?_⟩) hS ?_
        · intro w _; go_simp
        refine wpAnyH_take (i := 2) (v := .bool false) rfl (by kernel_rfl) (by kernel_rfl) (by kernel_rfl) (fun _ _ _ h => h) (Or.inl ⟨by kernel_rfl, ?_⟩) hS ?_
        · intro w _; go_simp
        refine wpAnyH_take (i := 3) (v := .slice A3 2 cap3) rfl (by kernel_rfl) (by kernel_rfl) (by kernel_rfl) (fun _ _ _ h => h) (Or.inl ⟨by kernel_rfl, ?_⟩) hS ?_
        · intro w _; go_simp
        refine wpAnyH_take (i := 4) (v := .int .i64 2) rfl (by kernel_rfl) (by kernel_rfl) (by kernel_rfl) (fun _ _ _ h => h) (Or.inl ⟨by kernel_rfl, ?_⟩) hS ?_
        · intro w _; go_simp
        refine wpAnyH_take (i := 5) (v := .bool false) rfl (by kernel_rfl) (by kernel_rfl) (by kernel_rfl) (fun _ _ _ h => h) (Or.inl ⟨by kernel_rfl, ?_⟩) hS ?_
        · intro w _; go_simp
        refine wpAnyH_take (i := 6) (v := .bool false) rfl (by kernel_rfl) (by kernel_rfl) (by kernel_rfl) (fun _ _ _ h => h) (Or.inl ⟨by kernel_rfl, ?_⟩) hS ?_
        · intro w _; go_simp
        refine wpAnyH_take (i := 7) (v := .bool false) rfl (by kernel_rfl) (by kernel_rfl) (by kernel_rfl) (fun _ _ _ h => h) (Or.inl ⟨by kernel_rfl, ?_⟩) hS ?_
        · intro w _; go_simp
        refine wpAnyH_take (i := 8) (v := .slice A3 2 cap3) rfl (by kernel_rfl) (by kernel_rfl) (by kernel_rfl) (fun _ _ _ h => h) (Or.inl ⟨by kernel_rfl, ?_⟩) hS ?_
        · intro w _; go_simp
        refine wpAnyH_take (i := 9) (v := .pointer (some ⟨T, 1, none⟩)) rfl (by kernel_rfl) (by kernel_rfl) (by kernel_rfl) (fun _ _ _ h => h) (Or.inl ⟨by kernel_rfl, ?_⟩) hS ?_
        · intro w _; go_simp
        refine wpAnyH_take (i := 10) (v := .int .i64 p) rfl (by kernel_rfl) (by kernel_rfl) (by kernel_rfl) (fun _ _ _ h => h) (Or.inl ⟨by kernel_rfl, ?_⟩) hS ?_
        · intro w hs; obtain ⟨q0, q1, q2, q3⟩ := hs; go_simp
        refine wpAnyH_take (i := 13) (v := .agg #[.int .i64 kd, .int .i64 p, .string ⟨tx.toArray⟩, .int .i64 num]) rfl (by kernel_rfl) (by kernel_rfl) (by kernel_rfl) (fun _ _ _ h => h) (Or.inl ⟨by kernel_rfl, ?_⟩) hS ?_
        · intro w hs; obtain ⟨q0, q1, q2, q3⟩ := hs; go_simp
        refine wpAnyH_ready (rs := [11, 14]) (by kernel_rfl) (by simp) ?_
        refine AllReadyH.cons rfl (fun K hK => ?_) ?_
        · go_simp
          refine (HMV.out w3.drew (HV3.out.drewN 1)).mono ?_
          rintro e w4 ⟨v4, rfl, hown4, hb4⟩
          obtain ⟨g4, cap4, rfl, hg41, hg42⟩ := hown4.form (by decide)
          have hcap4 := own_cap hown4
          have hcap4' : 1 ≤ cap4 := by omega
          have hT4 : T < w4.heap.size := Nat.lt_of_lt_of_le hTlt3 hb4.size
          refine hK.out _ _ (hS.below hb4 hTlt3) (fun hS4 => ?_)
          clear hK K
          refine wpAnyH_take (i := 12) (v := .slice (some ⟨g4, 0, none⟩) 1 cap4) rfl (by kernel_rfl) (by kernel_rfl) (by kernel_rfl) (fun _ _ _ h => h) (Or.inl ⟨by kernel_rfl, ?_⟩) hS4 ?_
          · intro w _; go_simp; (intro hc; omega)
          refine wpAnyH_ready (rs := [14]) (by kernel_rfl) (by simp) ?_
          refine AllReadyH.cons rfl (fun K hK => ?_) AllReadyH.nil
          go_simp
          refine hK.out _ _ (hS4.alloc hT4 _) (fun hS5 => ?_)
          clear hK K
          refine wpAnyH_ready (rs := [15]) (by kernel_rfl) (by simp) ?_
          refine AllReadyH.cons rfl (fun K hK => ?_) AllReadyH.nil
          go_simp
          refine (HEQ.out _ _ _ ((TS.one_of_own hown4 (by omega)).alloc _) (TS.one_new w4 (kd, p, tx, num))).mono ?_
          rintro e w5 ⟨rfl, n5, rfl⟩
          refine hK.out _ _ hS5 (fun hS6 => ?_)
          clear hK K
          refine wpAnyH_take (i := 16) (v := .bool false) rfl (by kernel_rfl) (by kernel_rfl) (by kernel_rfl) (fun _ _ _ h => h) (Or.inl ⟨by kernel_rfl, ?_⟩) hS6 ?_
          · intro w _; go_simp
          refine wpAnyH_take (i := 17) (v := .bool false) rfl (by kernel_rfl) (by kernel_rfl) (by kernel_rfl) (fun _ _ _ h => h) (Or.inl ⟨by kernel_rfl, ?_⟩) hS6 ?_
          · intro w _; go_simp
          refine wpAnyH_done (by kernel_rfl) ?_ _
          obtain ⟨wz, hwz⟩ : ∃ wz, (w4.alloc (.cells (tokL (kd, p, tx, num)).toArray 30)).drewN n5 = wz := ⟨_, rfl⟩
          have hbz : Below w3.heap.size w3 wz := by rw [← hwz]; exact bel_drewN (((bel_drewN (Below.refl _ w3) 1).trans hb4).alloc hb4.size _) n5
          rw [hwz] at hS6 ⊢
          have HZ1 := Lib.hid ((HBA.out.trans (HB3.out.mono HBA.out.size)).trans (hbz.mono (Nat.le_trans HBA.out.size HB3.out.size)))
          have HZ2 := Lib.hid ((HBA2.out.trans (HB3.out.mono HBA2.out.size)).trans (hbz.mono (Nat.le_trans HBA2.out.size HB3.out.size)))
          have hTz : T < wz.heap.size := Nat.lt_of_lt_of_le hTlt3 hbz.size
          have HSZ := Lib.hid hS6
          obtain ⟨a0, a1, a2, a3⟩ := hS6
          clear hwz hbz hown4 hb4 hg41 hg42 hcap4 hcap4' hS5 hS4
          have hnm := fun W => Name_any ⟨tx.toArray⟩ W
          have hwd := fun W => Word_any ⟨tx.toArray⟩ W
          rw [sl_mk] at hwd
          rcases HWHAT.out with ⟨rfl, h⟩ | ⟨rfl, h⟩ | h
          · rw [h] at hnm
            have HNM := Lib.hid hnm
            clear hnm hwd h hd1 hd2 hk1 hk6
            go_wp2_with (go_at_call 20; refine (HNM.out _).mono ?_; rintro e w6 ⟨rfl, hb6⟩; obtain ⟨b0, b1, b2, b3⟩ := HSZ.out.below hb6 hTz)
            go_roundg (m + 1 - (k + 1))
            case measure => rw [HGK.out]; omega
            case rel => exact ⟨k + 1, by omega, rfl, by go_num, HZ1.out.trans (hb6.mono HZ1.out.size), HZ2.out.trans (hb6.mono HZ2.out.size)⟩
          · have hnf : isName ⟨tx.toArray⟩ = false := by unfold isName; rw [sl_mk, h]; simp
            rw [hnf] at hnm
            rw [h] at hwd
            have HNM := Lib.hid hnm
            have HWD := Lib.hid hwd
            clear hnm hwd h hd1 hd2 hk1 hk6 hnf
            go_wp2_with (first | (go_at_call 20; refine (HNM.out _).mono ?_; rintro e w6 ⟨rfl, hb6⟩; obtain ⟨b0, b1, b2, b3⟩ := HSZ.out.below hb6 hTz) | (go_at_call 22; refine (HWD.out _).mono ?_; rintro e w7 ⟨rfl, hb7⟩))
            go_roundg (m + 1 - (k + 1))
            case measure => rw [HGK.out]; omega
            case rel =>
              have z1 := HZ1.out.trans (hb6.mono HZ1.out.size)
              have z2 := HZ2.out.trans (hb6.mono HZ2.out.size)
              exact ⟨k + 1, by omega, rfl, by go_num, z1.trans (hb7.mono z1.size), z2.trans (hb7.mono z2.size)⟩
          · have hk1' : (kd == 1) = false := by simp; omega
            have hk2' : (kd == 2) = false := by simp; omega
            obtain ⟨bn, hbn⟩ : ∃ bn, isName ⟨tx.toArray⟩ = bn := ⟨_, rfl⟩
            rw [hbn] at hnm
            have HNM := Lib.hid hnm
            clear hnm hwd h hd1 hd2 hk1 hk6 hbn
            go_wp2_with (go_at_call 20; refine (HNM.out _).mono ?_; rintro e w6 ⟨rfl, hb6⟩; obtain ⟨b0, b1, b2, b3⟩ := HSZ.out.below hb6 hTz)
            go_roundg (m + 1 - (k + 1))
            case measure => rw [HGK.out]; omega
            case rel => exact ⟨k + 1, by omega, rfl, by go_num, HZ1.out.trans (hb6.mono HZ1.out.size), HZ2.out.trans (hb6.mono HZ2.out.size)⟩
        · refine AllReadyH.cons rfl (fun K hK => ?_) AllReadyH.nil
          go_simp
          refine hK.out _ _ (hS.alloc hTlt3 _) (fun hS4 => ?_)
          clear hK K
          refine wpAnyH_ready (rs := [11]) (by kernel_rfl) (by simp) ?_
          refine AllReadyH.cons rfl (fun K hK => ?_) AllReadyH.nil
          go_simp
          refine (HMV.out (w3.drew.alloc _) ((TS.drewN HV3.out 1).alloc _)).mono ?_
          rintro e w4 ⟨v4, rfl, hown4, hb4⟩
          obtain ⟨g4, cap4, rfl, hg41, hg42⟩ := hown4.form (by decide)
          have hcap4 := own_cap hown4
          have hcap4' : 1 ≤ cap4 := by omega
          refine hK.out _ _ (hS4.below hb4 (by simp; omega)) (fun hS5 => ?_)
          clear hK K
          refine wpAnyH_take (i := 12) (v := .slice (some ⟨g4, 0, none⟩) 1 cap4) rfl (by kernel_rfl) (by kernel_rfl) (by kernel_rfl) (fun _ _ _ h => h) (Or.inl ⟨by kernel_rfl, ?_⟩) hS5 ?_
          · intro w _; go_simp; (intro hc; omega)
          refine wpAnyH_ready (rs := [15]) (by kernel_rfl) (by simp) ?_
          refine AllReadyH.cons rfl (fun K hK => ?_) AllReadyH.nil
          go_simp
          refine (HEQ.out _ _ _ (TS.one_of_own hown4 (by omega)) (TS.below (TS.one_new w3.drew (kd, p, tx, num)) hb4)).mono ?_
          rintro e w5 ⟨rfl, n5, rfl⟩
          refine hK.out _ _ hS5 (fun hS6 => ?_)
          clear hK K
          refine wpAnyH_take (i := 16) (v := .bool false) rfl (by kernel_rfl) (by kernel_rfl) (by kernel_rfl) (fun _ _ _ h => h) (Or.inl ⟨by kernel_rfl, ?_⟩) hS6 ?_
          · intro w _; go_simp
          refine wpAnyH_take (i := 17) (v := .bool false) rfl (by kernel_rfl) (by kernel_rfl) (by kernel_rfl) (fun _ _ _ h => h) (Or.inl ⟨by kernel_rfl, ?_⟩) hS6 ?_
          · intro w _; go_simp
          refine wpAnyH_done (by kernel_rfl) ?_ _
          obtain ⟨wz, hwz⟩ : ∃ wz, w4.drewN n5 = wz := ⟨_, rfl⟩
          have hbz : Below w3.heap.size w3 wz := by rw [← hwz]; exact bel_drewN (((bel_drewN (Below.refl _ w3) 1).alloc (Nat.le_refl _) (.cells #[.int .i64 kd, .int .i64 p, .string ⟨tx.toArray⟩, .int .i64 num] 30)).trans (hb4.mono (by simp))) n5
          rw [hwz] at hS6 ⊢
          have HZ1 := Lib.hid ((HBA.out.trans (HB3.out.mono HBA.out.size)).trans (hbz.mono (Nat.le_trans HBA.out.size HB3.out.size)))
          have HZ2 := Lib.hid ((HBA2.out.trans (HB3.out.mono HBA2.out.size)).trans (hbz.mono (Nat.le_trans HBA2.out.size HB3.out.size)))
          have hTz : T < wz.heap.size := Nat.lt_of_lt_of_le hTlt3 hbz.size
          have HSZ := Lib.hid hS6
          obtain ⟨a0, a1, a2, a3⟩ := hS6
          clear hwz hbz hown4 hb4 hg41 hg42 hcap4 hcap4' hS5
          have hnm := fun W => Name_any ⟨tx.toArray⟩ W
          have hwd := fun W => Word_any ⟨tx.toArray⟩ W
          rw [sl_mk] at hwd
          rcases HWHAT.out with ⟨rfl, h⟩ | ⟨rfl, h⟩ | h
          · rw [h] at hnm
            have HNM := Lib.hid hnm
            clear hnm hwd h hd1 hd2 hk1 hk6
            go_wp2_with (go_at_call 20; refine (HNM.out _).mono ?_; rintro e w6 ⟨rfl, hb6⟩; obtain ⟨b0, b1, b2, b3⟩ := HSZ.out.below hb6 hTz)
            go_roundg (m + 1 - (k + 1))
            case measure => rw [HGK.out]; omega
            case rel => exact ⟨k + 1, by omega, rfl, by go_num, HZ1.out.trans (hb6.mono HZ1.out.size), HZ2.out.trans (hb6.mono HZ2.out.size)⟩
          · have hnf : isName ⟨tx.toArray⟩ = false := by unfold isName; rw [sl_mk, h]; simp
            rw [hnf] at hnm
            rw [h] at hwd
            have HNM := Lib.hid hnm
            have HWD := Lib.hid hwd
            clear hnm hwd h hd1 hd2 hk1 hk6 hnf
            go_wp2_with (first | (go_at_call 20; refine (HNM.out _).mono ?_; rintro e w6 ⟨rfl, hb6⟩; obtain ⟨b0, b1, b2, b3⟩ := HSZ.out.below hb6 hTz) | (go_at_call 22; refine (HWD.out _).mono ?_; rintro e w7 ⟨rfl, hb7⟩))
            go_roundg (m + 1 - (k + 1))
            case measure => rw [HGK.out]; omega
            case rel =>
              have z1 := HZ1.out.trans (hb6.mono HZ1.out.size)
              have z2 := HZ2.out.trans (hb6.mono HZ2.out.size)
              exact ⟨k + 1, by omega, rfl, by go_num, z1.trans (hb7.mono z1.size), z2.trans (hb7.mono z2.size)⟩
          · have hk1' : (kd == 1) = false := by simp; omega
            have hk2' : (kd == 2) = false := by simp; omega
            obtain ⟨bn, hbn⟩ : ∃ bn, isName ⟨tx.toArray⟩ = bn := ⟨_, rfl⟩
            rw [hbn] at hnm
            have HNM := Lib.hid hnm
            clear hnm hwd h hd1 hd2 hk1 hk6 hbn
            go_wp2_with (go_at_call 20; refine (HNM.out _).mono ?_; rintro e w6 ⟨rfl, hb6⟩; obtain ⟨b0, b1, b2, b3⟩ := HSZ.out.below hb6 hTz)
            go_roundg (m + 1 - (k + 1))
            case measure => rw [HGK.out]; omega
            case rel => exact ⟨k + 1, by omega, rfl, by go_num, HZ1.out.trans (hb6.mono HZ1.out.size), HZ2.out.trans (hb6.mono HZ2.out.size)⟩
      · obtain rfl : k = m := by omega
        go_wp2
        go_ret
        exact ⟨rfl, hbw⟩
  · have hts : ts = [] := by
      have h := HR.out
      unfold vLex at h
      split at h
      · simp only [Prod.mk.injEq] at h; exact h.1.symm
      · cases ho : (vToks (sl x) 0).2 with
        | none => rw [ho] at h; simp only [Prod.mk.injEq] at h; exact absurd h.2.2.symm her
        | some e => rw [ho] at h; simp only [Prod.mk.injEq] at h; exact h.1.symm
    subst hts
    obtain ⟨A, c, rfl, hc, _⟩ := hv1
    have her' : (er != 0) = true := by simpa using her
    obtain ⟨u1, u2⟩ := g1
    go_wp2
    go_ret
    exact ⟨rfl, hb1.trans (hb2.mono hb1.size)⟩
end Go.Proofs.YtalhoacancbldaaDoor
