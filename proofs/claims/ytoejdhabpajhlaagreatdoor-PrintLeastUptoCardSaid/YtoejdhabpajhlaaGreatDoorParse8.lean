import Derived.Test.YtoejdhabpajhlaaGreatDoorParse5
import Derived.Test.YtoejdhabpajhlaaGreatDoorJsonP
import Derived.Deep.RegionHeld3
/- The walk of package parse: key. -/
namespace Go.Proofs.YtoejdhabpajhlaaGreatDoor
set_option linter.unusedVariables false
set_option linter.unusedSimpArgs false
open Go.RowKit
attribute [local go_sem] run_index_arr run_part_agg run_part_one run_field_agg

theorem str_beq (a b : List UInt8) : (a == b) = decide (a = b) := by rw [Bool.eq_iff_iff]; simp
theorem not_byte {l : List UInt8} {q : Nat} {c : UInt8} (h : l[q]? ≠ some c) (hc : c.toNat ≠ 0) : (byteAt l q == (c.toNat : Int)) = false ∧ (byteAt l q != (c.toNat : Int)) = true := by
  have : byteAt l q ≠ (c.toNat : Int) := by
    unfold byteAt
    cases hx : l[q]? with
    | none => simp; omega
    | some x =>
      have : x ≠ c := fun e => h (by rw [hx, e])
      have : x.toNat ≠ c.toNat := fun e => this (UInt8.toNat_inj.1 e)
      simp; omega
  exact ⟨by simpa using this, by simpa using this⟩
theorem own_key {W : World} {B ob d capo : Nat} {E : List (List Value × List UInt8)} {ce : List Value} {key : List UInt8} (h : W.ownsRow B 139 6 (.slice (some ⟨ob, 0, none⟩) (d + 1) capo) (d + 1) (opC (((ce, key) :: E).reverse)))
    (hE : E.length = d) (h5 : ∀ e ∈ E, e.1.length = 5) (hce : ce.length = 5) (k' : List UInt8) :
    (W.setCell ⟨ob, d * 6 + 5, none⟩ (.string ⟨k'.toArray⟩)).ownsRow B 139 6 (.slice (some ⟨ob, 0, none⟩) (d + 1) capo) (d + 1) (opC (((ce, k') :: E).reverse)) := by
  have h1 := h.stored (d * 6 + 5) (.string ⟨k'.toArray⟩)
  have h2 := opC_setKey (ce := ce) (key := key) h5 hce k'
  rw [hE] at h2
  rw [h2] at h1
  exact h1.1
set_option maxRecDepth 100000 in
set_option maxHeartbeats 4000000 in
theorem pKey_any (w W : World) (g : Nat) (A : Option Addr) (cap : Nat) (l : List UInt8) (p many m : Nat) (ov : Value) (E : List (List Value × List UInt8)) (v : JV) (key : List UInt8) (r : JStk)
    (hG : GOK w) (h : PGo w W g A cap l p many ov E ((v, key) :: r)) (hs : stkOk m ((v, key) :: r)) (hkn : v.keys.length ≤ 65535) (hp : p ≤ l.length) (hcap : l.length ≤ cap) (hlen : l.length ≤ 4194304) :
    Calls Tryz.prog 85 #[.pointer (some ⟨g, 0, none⟩)] W (PPost w g A cap l (pKey l p many ((v, key) :: r))) := by
  have hnx := pNext_any w W g A cap l p many 0 ov zI zI zS zN zN h.pb hp hcap hlen
  have hsk := skipB_le hp
  obtain ⟨q, hq⟩ : ∃ q, skipB l p = q := ⟨_, rfl⟩
  have hspec : pKey l p many ((v, key) :: r) = if l[q]? = some 34 then
      if (qRead l q).2.2 = 0 then
        if (qRead l q).1 ∈ v.keys then .fail q 141 else .go 4 (qRead l q).2.1.toNat many ((v, (qRead l q).1) :: r)
      else pFail l (qRead l q).2.1 (qRead l q).2.2
    else pFail l q 7 := by simp only [pKey]; rw [hq]
  rw [hq] at hnx hsk
  by_cases h34 : l[q]? = some 34
  · have hb : byteAt l q = 34 := by rw [byteAt, h34]; rfl
    rw [if_pos h34] at hspec
    rw [hb] at hnx
    have hqr := fun W (hr : BS W (.slice A l.length cap) l) hg => qRead_any (.slice A l.length cap) l q W hg hr hlen
    obtain ⟨⟨s, e0, er⟩, hrr⟩ : ∃ r, qRead l (q : Int) = r := ⟨_, rfl⟩
    have hok := qRead_ok (l := l) (a := q)
    rw [hrr] at hspec hqr hok
    simp only at hspec hqr hok
    have HNX := Lib.hid hnx
    have HSP := Lib.hid hspec
    have HQR := Lib.hid hqr
    have HOK := Lib.hid hok
    have HH := Lib.hid h
    have HG := Lib.hid hG
    have HS := Lib.hid hs
    clear hnx hspec hq h hqr hok h34 hb hrr hG hs
    go_enter Tryz.func85, Tryz.ntmps85
    go_wp2_with (go_at_call 31; refine HNX.out.mono ?_; rintro e W1 ⟨rfl, hb1, hg1⟩; obtain ⟨hcc, hf, hlt⟩ := hb1.blk.rules; unfold pCells at hcc)
    have hpg1 := HH.out.grown hb1 hg1
    have HP1 := Lib.hid hpg1
    have h10 := hcc 0
    have h11 := hcc 1
    simp at h10 h11
    have hq1 := HQR.out W1.drew ((hb1.bs hcap).drewN 1) ((hb1.gok HG.out).drewN 1)
    have HQ1 := Lib.hid hq1
    clear hq1 hpg1 hcc hf hb1 hg1
    go_region_held3 (fun w' => w'.cell? ⟨g, 0, none⟩ = some (.int .i64 (q : Int)) ∧ w'.cell? ⟨g, 1, none⟩ = some (.slice A l.length cap)) (go_keep) ((go_at_call 105; refine HQ1.out.mono ?_; rintro e W2 ⟨rfl, hb2⟩; have hpb2 := ((HP1.out.drewN 1).keep hb2).pb; have h20 := hpb2.blk.cell 0; have h21 := hpb2.blk.cell 1; unfold pCells at h20 h21; simp at h20 h21))
    have hpg2 := (HP1.out.drewN 1).keep hb2
    obtain ⟨hcc, hf, hlt⟩ := hpg2.pb.blk.rules
    unfold pCells at hcc
    clear HQ1 hb2 hpb2 h20 h21 h10 h11
    by_cases her : er = 0
    · subst her
      obtain ⟨n, rfl, hn1, hn2⟩ := HOK.out rfl
      match E, hpg2, HP1, HH with
      | [], hpg2, HP1, HH => exact hpg2.est.elim
      | (ce, key') :: Er, hpg2, HP1, HH =>
        obtain rfl : key' = key := hpg2.est.2.1
        have hown := hpg2.own
        obtain ⟨ob, capo, rfl, hob, hobl⟩ := hown.form (by simp)
        have hcapo := ownCap hown
        obtain ⟨hE1, hE5⟩ := ESt.len hpg2.est.2.2
        obtain ⟨kk, nn, ss, kids, keys⟩ := v
        obtain ⟨A1, B1, ca, cb, css, rfl, hvs, hca, hcb, hA1, hB1, hr1, hr2⟩ := hpg2.est.1.out
        have hgne : g ≠ ob := fun e => hpg2.gne (by rw [e]; rfl)
        have hgl : g < W2.heap.size := hpg2.pb.blk.lt
        obtain ⟨d, hdd⟩ : ∃ d, r.length = d := ⟨_, rfl⟩
        simp only [List.length_cons, hdd] at hown hcapo hpg2 hcc
        rw [hdd] at hE1
        have hcell := own_cells hown hE1 hE5
        have q4 := hcell 4 (by omega)
        have q5 := hcell 5 (by omega)
        have f5 := hown.frozenAt (d * 6 + 5)
        simp only [List.cons_append, List.nil_append, List.getElem?_cons_zero, List.getElem?_cons_succ, Nat.add_zero] at q4 q5
        have hd8 : d + 1 ≤ 8 := by have := HS.out.1; simp only [List.length_cons, hdd] at this; exact this
        have hkn' : keys.length ≤ 65535 := hkn
        obtain ⟨nk, hnk⟩ : ∃ nk, keys.length = nk := ⟨_, rfl⟩
        rw [hnk] at q4 hkn' hcb
        have HNK := Lib.hid hnk
        have HD := Lib.hid hdd
        have HPG := Lib.hid hpg2
        have HO := Lib.hid hown
        have HE := Lib.hid (And.intro hE1 hE5)
        have HR := Lib.hid hr2
        have HV := Lib.hid (And.intro hvs hr1)
        clear hkn hnk hdd hpg2 hown hE1 hE5 hr1 hr2 hvs hcell hcapo HP1 HH HOK
        go_wp2
        go_quiet (fail)
        go_wp2
        obtain ⟨W3, hW3⟩ : ∃ W3, W2.drewN nq = W3 := ⟨_, rfl⟩
        have hpg3 := HPG.out.drewN nq
        have hown3 := ownBel HO.out (bel_drewN (Below.refl _ W2) nq)
        have hr3 := HR.out.keep (KeepF.of_below (bel_drewN (Below.refl _ W2) nq))
        rw [hW3] at hpg3 hown3 hr3 ⊢
        have HPG3 := Lib.hid hpg3
        have HO3 := Lib.hid hown3
        have f5' := hown3.frozenAt (d * 6 + 5)
        have q5' := own_cells hown3 HE.out.1 HE.out.2 5 (by omega)
        simp only [List.cons_append, List.nil_append, List.getElem?_cons_zero, List.getElem?_cons_succ, Nat.add_zero] at q5'
        obtain ⟨hcc3, hf3, hlt3⟩ := hpg3.pb.blk.rules
        unfold pCells at hcc3
        clear hW3 hpg3 hown3 hcc hf hlt q4 q5 f5 hgl
        go_loopg [56] nk (fun gk i wr => ∃ j : Nat, j ≤ nk ∧ gk = nk - j ∧ i = .int .i64 j ∧ wr = W3 ∧ Hid (∀ x ∈ keys.take j, x ≠ s))
        case atStart => exact ⟨0, Nat.zero_le _, rfl, rfl, rfl, Lib.hid (by simp)⟩
        case round =>
          obtain ⟨j, hj, hgk, rfl, rfl, HN⟩ := hrel
          have HGK := Lib.hid hgk
          clear hgk
          by_cases hlt : j < nk
          · obtain ⟨kj, hkj⟩ : ∃ kj, keys[j]? = some kj := ⟨_, List.getElem?_eq_getElem (by rw [HNK.out]; omega)⟩
            obtain ⟨bk, ok, rfl, hbk, _, hx⟩ := hr3 (by intro e; have h1 := strV_len keys; rw [e, HNK.out] at h1; simp at h1; omega)
            have hxj := hx j (by rw [strV_len, HNK.out]; omega)
            have hxj' : (strV keys)[j]'(by rw [strV_len, HNK.out]; omega) = .string ⟨kj.toArray⟩ := by
              obtain ⟨h1, h2⟩ := List.getElem?_eq_some_iff.1 hkj
              simp [strV, h2]
            rw [hxj'] at hxj
            have HKJ := Lib.hid hkj
            clear hx hxj' hkj
            by_cases hks : kj = s
            · subst hks
              have hmem : kj ∈ keys := List.mem_of_getElem? HKJ.out
              have HM := Lib.hid hmem
              clear hmem
              go_wp2_with (go_at_call 32; refine (pFails_any w _ g _ cap l q many 0 q 141 _ zI zI zS zN zN HPG3.out.pb).mono ?_; rintro e W4 ⟨rfl, hp4, hg4⟩)
              go_ret
              rw [HSP.out, if_pos trivial, if_pos (show kj ∈ (JV.mk kk nn ss kids keys).keys from HM.out)]
              exact ⟨rfl, _, many, _, _, _, _, _, hp4⟩
            · have hkb : (kj == s) = false := by simpa using hks
              have HN2 := Lib.hid (show ∀ x ∈ keys.take (j + 1), x ≠ s from fun x hx => by
                rw [List.take_add_one, HKJ.out] at hx
                rcases List.mem_append.1 hx with h | h
                · exact HN.out x h
                · have : x = kj := by simpa using h
                  rw [this]; exact hks)
              clear hks
              go_wp2
              go_roundg (nk - (j + 1))
              case measure => rw [HGK.out]; omega
              case rel => exact ⟨j + 1, hlt, rfl, by go_num, rfl, HN2⟩
          · have hnm : s ∉ keys := fun h => by
              have h1 := HN.out s (by rw [List.take_of_length_le (by rw [HNK.out]; omega)]; exact h)
              exact h1 rfl
            have HM := Lib.hid hnm
            obtain rfl : j = nk := by omega
            clear hnm hlt
            go_wp2
            go_ret
            rw [HSP.out, if_pos trivial, if_neg (show ¬ s ∈ (JV.mk kk nn ss kids keys).keys from HM.out), Int.toNat_natCast]
            have hgb := gb_setCell (gb_refl wr (some g)) 0 (.int .i64 n)
            have hFo : ∀ b, FO w.heap.size g (.slice (some ⟨ob, 0, none⟩) (d + 1) capo) b → b ≠ ob := fun b hb e => hb.2.2 (by rw [e]; rfl)
            have hKF := (KeepF.of_grown (F := FO w.heap.size g (.slice (some ⟨ob, 0, none⟩) (d + 1) capo)) hgb (fun b hf e => hf.2.1 (by simpa using e))).set hFo (d * 6 + 5) (.string ⟨s.toArray⟩)
            have hown4 := own_key (HO3.out.kept hgb (.inr (fun e => hgne (by simpa [Value.ownBlock] using e.symm)))) HE.out.1 HE.out.2 rfl s
            refine ⟨rfl, .slice (some ⟨ob, 0, none⟩) (d + 1) capo, (_, s) :: Er, (HPG3.out.pb.set0 n).far hgne hob _ _, ?_, HPG3.out.est.1.keep hKF, rfl, HPG3.out.est.2.2.keep hKF⟩
            simp only [List.length_cons, HD.out]
            exact hown4
    · have her' : (er != 0) = true := by simpa using her
      go_wp2_with (go_at_call 32; refine (pFails_any w _ g _ cap l q many 0 e0 er ov zI zI zS zN zN hpg2.pb).mono ?_; rintro e W3 ⟨rfl, hp3, hg3⟩)
      go_ret
      rw [HSP.out, if_neg her]
      exact ⟨rfl, ov, many, _, _, _, _, _, hp3⟩
  · have hb := (not_byte h34 (by decide)).2
    rw [if_neg h34] at hspec
    obtain ⟨bb, hbb⟩ : ∃ bb, byteAt l q = bb := ⟨_, rfl⟩
    have hb' : (bb != 34) = true := by rw [← hbb]; exact hb
    rw [hbb] at hnx
    have HNX := Lib.hid hnx
    have HSP := Lib.hid hspec
    have HH := Lib.hid h
    clear hnx hspec hq h h34 hb hbb hG hs
    go_enter Tryz.func85, Tryz.ntmps85
    go_wp2_with (first | (go_at_call 31; refine HNX.out.mono ?_; rintro e W1 ⟨rfl, hb1, hg1⟩; obtain ⟨hcc, hf, hlt⟩ := hb1.blk.rules; unfold pCells at hcc) | (go_at_call 32; refine (pFails_any w _ g _ cap l q many 0 q 7 ov zI zI zS zN zN hb1).mono ?_; rintro e W2 ⟨rfl, hp2, hg2⟩))
    go_ret
    rw [HSP.out]
    exact ⟨rfl, ov, many, _, _, _, _, _, hp2⟩
end Go.Proofs.YtoejdhabpajhlaaGreatDoor

/- The walk of package parse: value; errors, and a bracket. -/
namespace Go.Proofs.YtoejdhabpajhlaaGreatDoor
set_option linter.unusedVariables false
set_option linter.unusedSimpArgs false
open Go.RowKit
attribute [local go_sem] run_index_arr run_part_agg run_part_one run_field_agg

theorem infoOpen : (Tryz.prog.info? 139).map (fun i => (i.zero, i.size, i.bytes)) = some (some (.agg #[.int .i64 0, .int .i64 0, .string ⟨#[]⟩, .slice none 0 0, .slice none 0 0, .string ⟨#[]⟩]), 6, 96) := by kernel_rfl
theorem beginsB_no {l : List UInt8} {q : Nat} (h : ∀ c, l[q]? = some c → beginsB c = false) : ∃ c : UInt8, byteAt l q = (c.toNat : Int) ∧ beginsB c = false := by
  unfold byteAt
  cases hx : l[q]? with
  | none => exact ⟨0, rfl, by decide⟩
  | some c => exact ⟨c, rfl, h c hx⟩
set_option maxRecDepth 100000 in
set_option maxHeartbeats 4000000 in
/-- no value begins there -/
theorem pValueNo_any (w W : World) (g : Nat) (A : Option Addr) (cap : Nat) (l : List UInt8) (p many : Nat) (ov : Value) (E : List (List Value × List UInt8)) (stk : JStk)
    (h : PGo w W g A cap l p many ov E stk) (hno : ∀ c, l[skipB l p]? = some c → beginsB c = false) (hp : p ≤ l.length) (hcap : l.length ≤ cap) (hlen : l.length ≤ 4194304) :
    Calls Tryz.prog 82 #[.pointer (some ⟨g, 0, none⟩)] W (PPost w g A cap l (pValue l p many stk)) := by
  have hnx := pNext_any w W g A cap l p many 0 ov zI zI zS zN zN h.pb hp hcap hlen
  obtain ⟨c, hc, hb⟩ := beginsB_no hno
  have hbg := fun w => pBegins_any c w
  rw [hb] at hbg
  rw [hc] at hnx
  have hspec : pValue l p many stk = .fail (failF l (skipB l p) 7).1 (failF l (skipB l p) 7).2 := by
    unfold pValue beginJ
    cases hx : l[skipB l p]? with
    | none => rfl
    | some c => simp only; rw [if_pos (hno c hx)]
  obtain ⟨q, hq⟩ : ∃ q, skipB l p = q := ⟨_, rfl⟩
  rw [hq] at hnx hspec
  have HNX := Lib.hid hnx
  have HSP := Lib.hid hspec
  have HBG := Lib.hid hbg
  clear hnx hspec hq h hno hc hb hbg
  go_enter Tryz.func82, Tryz.ntmps82
  go_wp2_with (first | (go_at_call 31; refine HNX.out.mono ?_; rintro e W1 ⟨rfl, hb1, hg1⟩; obtain ⟨hcc, hf, hlt⟩ := hb1.blk.rules; unfold pCells at hcc) | (go_at_call 104; refine (HBG.out _).mono ?_; rintro e w2 ⟨rfl, rfl⟩) | (go_at_call 32; refine (pFails_any w _ g _ cap l q many 0 q 7 ov zI zI zS zN zN hb1).mono ?_; rintro e W2 ⟨rfl, hp2, hg2⟩))
  go_ret
  rw [HSP.out]
  exact ⟨rfl, ov, many, _, _, _, _, _, hp2⟩
theorem failF_no (l : List UInt8) (p e : Int) (h : e ≠ 7) : failF l p e = (p, e) := by unfold failF; rw [if_neg (fun h' => h h'.1)]
theorem begin_many {l : List UInt8} {p many deep : Nat} {c : UInt8} (hc : l[skipB l p]? = some c) (hb : beginsB c = true) (hm : many = 256) : beginJ l p many deep = .err (skipB l p) 151 := by
  unfold beginJ
  rw [hc]; simp only; rw [if_neg (by rw [hb]; decide), if_pos hm]
set_option maxRecDepth 100000 in
set_option maxHeartbeats 4000000 in
/-- too many values -/
theorem pValueMany_any (w W : World) (g : Nat) (A : Option Addr) (cap : Nat) (l : List UInt8) (p : Nat) (ov : Value) (E : List (List Value × List UInt8)) (stk : JStk) (c : UInt8)
    (h : PGo w W g A cap l p 256 ov E stk) (hc : l[skipB l p]? = some c) (hb : beginsB c = true) (hp : p ≤ l.length) (hcap : l.length ≤ cap) (hlen : l.length ≤ 4194304) :
    Calls Tryz.prog 82 #[.pointer (some ⟨g, 0, none⟩)] W (PPost w g A cap l (pValue l p 256 stk)) := by
  have hnx := pNext_any w W g A cap l p 256 0 ov zI zI zS zN zN h.pb hp hcap hlen
  have hbg := fun w => pBegins_any c w
  rw [hb] at hbg
  have hspec : pValue l p 256 stk = .fail (skipB l p) 151 := by
    unfold pValue
    rw [begin_many hc hb rfl]
  obtain ⟨q, hq⟩ : ∃ q, skipB l p = q := ⟨_, rfl⟩
  rw [hq] at hnx hspec hc
  have hby : byteAt l q = c.toNat := by rw [byteAt, hc]
  rw [hby] at hnx
  have HNX := Lib.hid hnx
  have HSP := Lib.hid hspec
  have HBG := Lib.hid hbg
  clear hnx hspec hq h hc hb hbg hby
  go_enter Tryz.func82, Tryz.ntmps82
  go_wp2_with (first | (go_at_call 31; refine HNX.out.mono ?_; rintro e W1 ⟨rfl, hb1, hg1⟩; obtain ⟨hcc, hf, hlt⟩ := hb1.blk.rules; unfold pCells at hcc) | (go_at_call 104; refine (HBG.out _).mono ?_; rintro e w2 ⟨rfl, rfl⟩) | (go_at_call 32; refine (pFails_any w _ g _ cap l q 257 0 q 151 ov zI zI zS zN zN (hb1.set2 257)).mono ?_; rintro e W2 ⟨rfl, hp2, hg2⟩))
  go_ret
  rw [HSP.out]
  rw [failF_no l q 151 (by decide)] at hp2
  exact ⟨rfl, ov, 257, _, _, _, _, _, hp2⟩
theorem begin_open {l : List UInt8} {p many deep : Nat} {c : UInt8} (hc : l[skipB l p]? = some c) (ho : c.toNat = 91 ∨ c.toNat = 123) (hm : many ≠ 256) :
    beginJ l p many deep = if deep = 8 then .err (skipB l p) 150 else .opens (skipB l p) (decide (c.toNat = 123)) := by
  unfold beginJ
  have hb : beginsB c = true := by unfold beginsB; rw [decide_eq_true_eq]; omega
  rw [hc]; simp only; rw [if_neg (by rw [hb]; decide), if_neg hm, if_pos ho]
set_option maxRecDepth 100000 in
set_option maxHeartbeats 4000000 in
/-- too deep -/
theorem pValueDeep_any (w W : World) (g : Nat) (A : Option Addr) (cap : Nat) (l : List UInt8) (p many : Nat) (ov : Value) (E : List (List Value × List UInt8)) (stk : JStk) (c : UInt8)
    (h : PGo w W g A cap l p many ov E stk) (hc : l[skipB l p]? = some c) (ho : c = 91 ∨ c = 123) (hm : many < 256) (hd : stk.length = 8) (hp : p ≤ l.length) (hcap : l.length ≤ cap) (hlen : l.length ≤ 4194304) :
    Calls Tryz.prog 82 #[.pointer (some ⟨g, 0, none⟩)] W (PPost w g A cap l (pValue l p many stk)) := by
  have hnx := pNext_any w W g A cap l p many 0 ov zI zI zS zN zN h.pb hp hcap hlen
  have hspec : pValue l p many stk = .fail (skipB l p) 150 := by
    unfold pValue
    rw [begin_open hc (by rcases ho with rfl | rfl <;> decide) (by omega), if_pos hd]
  obtain ⟨Ao, co, rfl⟩ : ∃ Ao co, ov = .slice Ao 8 co := by
    have := h.own
    rw [hd] at this
    obtain ⟨g1, c1, h1, _⟩ := this.form (by decide)
    exact ⟨_, _, h1⟩
  obtain ⟨q, hq⟩ : ∃ q, skipB l p = q := ⟨_, rfl⟩
  rw [hq] at hnx hspec hc
  have hby : byteAt l q = c.toNat := by rw [byteAt, hc]
  rw [hby] at hnx
  have hadd : IntKind.i64.wrap ((many : Int) + 1) = (many : Int) + 1 := by rw [IntWalk.i64_in _ (by omega)]
  have HSP := Lib.hid hspec
  have hbg := fun w => pBegins_any c w
  have hnb : ((c.toNat : Int) = 91 ∨ (c.toNat : Int) = 123) ∧ beginsB c = true := by rcases ho with rfl | rfl <;> decide
  rw [hnb.2] at hbg
  clear hspec hq h hc hby hd ho
  rcases hnb.1 with hn | hn
  all_goals
    rw [hn] at hnx hbg
    clear hnb hn
    have HNX := Lib.hid hnx
    clear hnx
    have HBG := Lib.hid hbg
    clear hbg
    go_enter Tryz.func82, Tryz.ntmps82
    go_wp2_with (first | (go_at_call 31; refine HNX.out.mono ?_; rintro e W1 ⟨rfl, hb1, hg1⟩; obtain ⟨hcc, hf, hlt⟩ := hb1.blk.rules; unfold pCells at hcc) | (go_at_call 104; refine (HBG.out _).mono ?_; rintro e w2 ⟨rfl, rfl⟩) | (go_at_call 32; refine (pFails_any w _ g _ cap l q ((many : Int) + 1) 0 q 150 _ zI zI zS zN zN (hb1.set2 _)).mono ?_; rintro e W2 ⟨rfl, hp2, hg2⟩))
    go_ret
    rw [HSP.out]
    rw [failF_no l q 150 (by decide)] at hp2
    exact ⟨rfl, _, _, _, _, _, _, _, hp2⟩
end Go.Proofs.YtoejdhabpajhlaaGreatDoor

/- The walk of package parse: value; a bracket. -/
namespace Go.Proofs.YtoejdhabpajhlaaGreatDoor
set_option linter.unusedVariables false
set_option linter.unusedSimpArgs false
open Go.RowKit
attribute [local go_sem] run_index_arr run_part_agg run_part_one run_field_agg

theorem rd_new (W : World) (t : TypeId) (N : Nat) (cs : List Value) (hN : W.heap.size = N) : Rd (W.alloc (.cells cs.toArray t)) (some ⟨N, 0, none⟩) cs := by
  subst hN
  have h := Rd.of_blk (Blk.new W t cs.toArray)
  rwa [List.toList_toArray] at h
theorem open_one (k : Int) : ∀ u ∈ [Value.int .i64 k, .int .i64 0, .string ⟨#[]⟩, .slice none 0 0, .slice none 0 0, .string ⟨#[]⟩], u.oneCell' = true := by
  intro u hu
  simp only [List.mem_cons, List.not_mem_nil, or_false] at hu
  rcases hu with rfl | rfl | rfl | rfl | rfl | rfl <;> rfl
/-- one more is open -/
theorem open_fin {w W1 W2 W3 : World} {g : Nat} {A : Option Addr} {cap : Nat} {l : List UInt8} {q many : Nat} {ov v' : Value} {E : List (List Value × List UInt8)} {stk : JStk} {n : Nat} (k : Int)
    (h : PGo w W1 g A cap l q many ov E stk) (hn : stk.length = n) (hb2 : PB w W2 g A cap l ((q + 1 : Nat) : Int) ((many + 1 : Nat) : Int) ov zI zI zS zN zN 0) (hg2 : W1.grownBy W2 (some g))
    (hown : W3.ownsRow w.heap.size 139 6 v' (n + 1) (opC E.reverse ++ [.int .i64 k, .int .i64 0, .string ⟨#[]⟩, .slice none 0 0, .slice none 0 0, .string ⟨#[]⟩]))
    (hgr : (W2.alloc (.cells #[.int .i64 k, .int .i64 0, .string ⟨#[]⟩, .slice none 0 0, .slice none 0 0, .string ⟨#[]⟩] 139)).grownBy W3 ov.ownBlock)
    (hv : v'.ownBlock = ov.ownBlock ∨ v'.ownBlock = some (W2.heap.size + 1)) :
    PGo w (W3.setCell ⟨g, 3, none⟩ v') g A cap l (q + 1) (many + 1) v' (([.int .i64 k, .int .i64 0, .string ⟨#[]⟩, .slice none 0 0, .slice none 0 0], []) :: E) ((.mk k 0 [] [] [], []) :: stk) := by
  have hgne := h.gne
  have hal := (Below.refl _ W2).alloc (Nat.le_refl _) (.cells #[.int .i64 k, .int .i64 0, .string ⟨#[]⟩, .slice none 0 0, .slice none 0 0, .string ⟨#[]⟩] 139)
  have hb3 := hb2.keep hal
  have hob : ∀ k, ov.ownBlock = some k → w.heap.size ≤ k := fun k e => (h.own.lt k e).1
  have hpb3 : PB w W3 g A cap l ((q + 1 : Nat) : Int) ((many + 1 : Nat) : Int) ov zI zI zS zN zN 0 := ⟨gb_own hb3.bel hgr hob, hb3.hg, hb3.gne, hb3.rd, hb3.blk.grown hgr hgne⟩
  have hvg : some g ≠ v'.ownBlock := by
    rcases hv with e | e
    · rw [e]; exact hgne
    · rw [e]; intro e2
      have := hb2.blk.lt
      injection e2 with e2
      omega
  have hkf : KeepF (FO w.heap.size g ov) W1 W3 := ((KeepF.of_grown hg2 (fun b hf e => hf.2.1 (by simpa using e))).bel hal).trans (KeepF.of_grown hgr (fun b hf => hf.2.2))
  have hmono : ∀ b, b < W1.heap.size → FO w.heap.size g ov b → FO w.heap.size g v' b := fun b hb hf => ⟨hf.1, hf.2.1, by
    rcases hv with e | e
    · rw [e]; exact hf.2.2
    · rw [e]; intro e2
      have := hg2.size
      injection e2 with e2
      omega⟩
  have hset : W3.grownBy (W3.setCell ⟨g, 3, none⟩ v') (some g) := gb_setCell (gb_refl _ _) _ _
  refine ⟨hpb3.set3 v', ?_, VR.zeroK k, rfl, ?_⟩
  · have h1 := hown.kept hset (.inr (fun e => hvg e.symm))
    rw [List.length_cons, hn, List.reverse_cons, opC_app]
    exact h1
  · have h1 := h.est.mono (F' := fun b => FO w.heap.size g ov b ∧ b < W1.heap.size) (fun b hb hf => ⟨hf, hb⟩)
    have h2 : KeepF (fun b => FO w.heap.size g ov b ∧ b < W1.heap.size) W1 (W3.setCell ⟨g, 3, none⟩ v') :=
      KeepF.trans ⟨hkf.1, fun b hf hb => hkf.2 b hf.1 hb⟩ (KeepF.of_grown hset (fun b hf e => hf.1.2.1 (by simpa using e)))
    exact (h1.keep h2).mono (fun b _ hf => hmono b hf.2 hf.1)
set_option maxRecDepth 100000 in
set_option maxHeartbeats 4000000 in
/-- a list or an object begins -/
theorem pValueOpen_any (w W : World) (g : Nat) (A : Option Addr) (cap : Nat) (l : List UInt8) (p many : Nat) (ov : Value) (E : List (List Value × List UInt8)) (stk : JStk) (c : UInt8)
    (h : PGo w W g A cap l p many ov E stk) (hc : l[skipB l p]? = some c) (ho : c = 91 ∨ c = 123) (hm : many < 256) (hd : stk.length < 8) (hp : p ≤ l.length) (hcap : l.length ≤ cap) (hlen : l.length ≤ 4194304) :
    Calls Tryz.prog 82 #[.pointer (some ⟨g, 0, none⟩)] W (PPost w g A cap l (pValue l p many stk)) := by
  obtain ⟨i0, hi, hz0, hz1, hz2⟩ := info_parts infoOpen
  have hnx := pNext_any w W g A cap l p many 0 ov zI zI zS zN zN h.pb hp hcap hlen
  have hspec : pValue l p many stk = .go (if c.toNat = 123 then 2 else 1) (skipB l p + 1) (many + 1) ((.mk (if c.toNat = 123 then 6 else 5) 0 [] [] [], []) :: stk) := by
    unfold pValue
    rw [begin_open hc (by rcases ho with rfl | rfl <;> decide) (by omega), if_neg (by omega)]
    simp only [decide_eq_true_eq]
  obtain ⟨n, hn⟩ : ∃ n, stk.length = n := ⟨_, rfl⟩
  have hgne := h.gne
  obtain ⟨Ao, co, rfl, hnc⟩ : ∃ Ao co, ov = .slice Ao n co ∧ n ≤ co := by
    have h1 := h.own
    rw [hn] at h1
    obtain ⟨A1, c1, e, h2, _⟩ := Rd.of_own h1
    exact ⟨_, _, e, h2⟩
  have hsk := skipB_le hp
  obtain ⟨q, hq⟩ : ∃ q, skipB l p = q := ⟨_, rfl⟩
  rw [hq] at hnx hspec hc hsk
  have hby : byteAt l q = c.toNat := by rw [byteAt, hc]
  rw [hby] at hnx
  have hadd : IntKind.i64.wrap ((many : Int) + 1) = (many : Int) + 1 := by rw [IntWalk.i64_in _ (by omega)]
  have hadd2 : IntKind.i64.wrap ((q : Int) + 1) = (q : Int) + 1 := by rw [IntWalk.i64_in _ (by omega)]
  have hn8 : ((n : Int) == 8) = false := by simp; omega
  have HSP := Lib.hid hspec
  have HH := Lib.hid h
  have HN := Lib.hid hn
  have hbg := fun w => pBegins_any c w
  have hnb : ((c.toNat : Int) = 91 ∨ (c.toNat : Int) = 123) ∧ beginsB c = true := by rcases ho with rfl | rfl <;> decide
  rw [hnb.2] at hbg
  rw [hn] at hd
  have hcn : c.toNat = 91 ∨ c.toNat = 123 := by rcases ho with rfl | rfl <;> decide
  clear hspec hq h hc hby ho hnb hn
  rcases hcn with hn | hn
  · rw [hn] at hnx hbg HSP
    clear hn
    have HNX := Lib.hid hnx
    have HBG := Lib.hid hbg
    clear hbg hnx
    go_enter Tryz.func82, Tryz.ntmps82
    go_wp2_with (first | (go_at_call 31; refine HNX.out.mono ?_; rintro e W1 ⟨rfl, hb1, hg1⟩; obtain ⟨hcc, hf, hlt⟩ := hb1.blk.rules; unfold pCells at hcc) | (go_at_call 104; refine (HBG.out _).mono ?_; rintro e w2 ⟨rfl, rfl⟩) | (at_builtin; have hg2 := gb_setCell (gb_setCell (gb_refl W1 (some g)) 2 (.int .i64 ((many : Int) + 1))) 0 (.int .i64 ((q : Int) + 1)); have hown2 := ((HH.out.grown hb1 hg1).own.kept hg2 (.inr (Ne.symm hgne))).alloc (.cells #[.int .i64 5, .int .i64 0, .string ⟨#[]⟩, .slice none 0 0, .slice none 0 0, .string ⟨#[]⟩] 139); rw [HN.out] at hown2; refine wpList_append_rd _ rfl (.tmp 75) (.tmp 79) 66 rfl w.heap.size 139 i0 _ 6 96 Tryz.underlying66 hi hz0 hz1 hz2 rfl (by decide) (.slice Ao n co) n _ rfl hown2 (some ⟨W1.heap.size, 0, none⟩) 1 1 (by intro h; cases h) [.int .i64 5, .int .i64 0, .string ⟨#[]⟩, .slice none 0 0, .slice none 0 0, .string ⟨#[]⟩] rfl rfl (rd_new _ 139 _ [.int .i64 5, .int .i64 0, .string ⟨#[]⟩, .slice none 0 0, .slice none 0 0, .string ⟨#[]⟩] (by simp)) (open_one 5) (by unfold maxLen; omega) (by omega) (by have := hb1.bel.size; simp; omega) ?_; intro v' w3 hown3 hgr3 hv3; obtain ⟨ob', cap', rfl, ho1, ho2⟩ := hown3.form (by omega); have hb2 := (hb1.set2 ((many : Int) + 1)).set0 ((q : Int) + 1); obtain ⟨x3, y3, z3⟩ := ((hb2.blk.alloc _).grown hgr3 hgne).rules; unfold pCells at x3))
    go_ret
    rw [HSP.out]
    exact ⟨rfl, _, _, open_fin 5 (HH.out.grown hb1 hg1) HN.out (by simpa using hb2) (gb_setCell (gb_setCell (gb_refl W1 (some g)) 2 _) 0 _) hown3 hgr3 (by simpa using hv3)⟩
  · rw [hn] at hnx hbg HSP
    clear hn
    have HNX := Lib.hid hnx
    have HBG := Lib.hid hbg
    clear hbg hnx
    go_enter Tryz.func82, Tryz.ntmps82
    go_wp2_with (first | (go_at_call 31; refine HNX.out.mono ?_; rintro e W1 ⟨rfl, hb1, hg1⟩; obtain ⟨hcc, hf, hlt⟩ := hb1.blk.rules; unfold pCells at hcc) | (go_at_call 104; refine (HBG.out _).mono ?_; rintro e w2 ⟨rfl, rfl⟩) | (at_builtin; have hg2 := gb_setCell (gb_setCell (gb_refl W1 (some g)) 2 (.int .i64 ((many : Int) + 1))) 0 (.int .i64 ((q : Int) + 1)); have hown2 := ((HH.out.grown hb1 hg1).own.kept hg2 (.inr (Ne.symm hgne))).alloc (.cells #[.int .i64 6, .int .i64 0, .string ⟨#[]⟩, .slice none 0 0, .slice none 0 0, .string ⟨#[]⟩] 139); rw [HN.out] at hown2; refine wpList_append_rd _ rfl (.tmp 75) (.tmp 79) 66 rfl w.heap.size 139 i0 _ 6 96 Tryz.underlying66 hi hz0 hz1 hz2 rfl (by decide) (.slice Ao n co) n _ rfl hown2 (some ⟨W1.heap.size, 0, none⟩) 1 1 (by intro h; cases h) [.int .i64 6, .int .i64 0, .string ⟨#[]⟩, .slice none 0 0, .slice none 0 0, .string ⟨#[]⟩] rfl rfl (rd_new _ 139 _ [.int .i64 6, .int .i64 0, .string ⟨#[]⟩, .slice none 0 0, .slice none 0 0, .string ⟨#[]⟩] (by simp)) (open_one 6) (by unfold maxLen; omega) (by omega) (by have := hb1.bel.size; simp; omega) ?_; intro v' w3 hown3 hgr3 hv3; obtain ⟨ob', cap', rfl, ho1, ho2⟩ := hown3.form (by omega); have hb2 := (hb1.set2 ((many : Int) + 1)).set0 ((q : Int) + 1); obtain ⟨x3, y3, z3⟩ := ((hb2.blk.alloc _).grown hgr3 hgne).rules; unfold pCells at x3))
    go_ret
    rw [HSP.out]
    exact ⟨rfl, _, _, open_fin 6 (HH.out.grown hb1 hg1) HN.out (by simpa using hb2) (gb_setCell (gb_setCell (gb_refl W1 (some g)) 2 _) 0 _) hown3 hgr3 (by simpa using hv3)⟩
end Go.Proofs.YtoejdhabpajhlaaGreatDoor
