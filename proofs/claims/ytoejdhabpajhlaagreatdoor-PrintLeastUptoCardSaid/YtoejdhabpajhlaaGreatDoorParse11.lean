import Derived.Test.YtoejdhabpajhlaaGreatDoorParse8
import Derived.Test.YtoejdhabpajhlaaGreatDoorJsonP
/- The walk of package parse: value; a text, a number, a word. -/
namespace Go.Proofs.YtoejdhabpajhlaaGreatDoor
set_option linter.unusedVariables false
set_option linter.unusedSimpArgs false
open Go.RowKit
attribute [local go_sem] run_index_arr run_part_agg run_part_one run_field_agg

theorem begin_atom {l : List UInt8} {p many deep : Nat} {c : UInt8} (hc : l[skipB l p]? = some c) (hb : beginsB c = true) (ho : ¬ (c.toNat = 91 ∨ c.toNat = 123)) (hm : many ≠ 256) :
    beginJ l p many deep = match atomJ l (skipB l p) c with | .inl (v, m) => .atom v m | .inr (p, e) => .err p e := by
  unfold beginJ
  rw [hc]; simp only; rw [if_neg (by rw [hb]; decide), if_neg hm, if_neg ho]
  rcases atomJ l (skipB l p) c with ⟨v, m⟩ | ⟨p, e⟩ <;> rfl
theorem pValue_atom {l : List UInt8} {p many : Nat} {stk : JStk} {c : UInt8} (hc : l[skipB l p]? = some c) (hb : beginsB c = true) (ho : ¬ (c.toNat = 91 ∨ c.toNat = 123)) (hm : many ≠ 256) :
    pValue l p many stk = match atomJ l (skipB l p) c with | .inl (v, m) => pPut v m (many + 1) stk | .inr (p, e) => .fail p e := by
  unfold pValue
  rw [begin_atom hc hb ho hm]
  rcases atomJ l (skipB l p) c with ⟨v, m⟩ | ⟨p, e⟩ <;> rfl
set_option maxRecDepth 100000 in
set_option maxHeartbeats 4000000 in
/-- a text -/
theorem pValueText_any (w W : World) (g : Nat) (A : Option Addr) (cap : Nat) (l : List UInt8) (p many m : Nat) (ov : Value) (E : List (List Value × List UInt8)) (stk : JStk)
    (hG : GOK w) (h : PGo w W g A cap l p many ov E stk) (hc : l[skipB l p]? = some 34) (hm : many < 256) (hs : stkOk m stk) (hm2 : m ≤ 256) (hp : p ≤ l.length) (hcap : l.length ≤ cap) (hlen : l.length ≤ 4194304) :
    Calls Tryz.prog 82 #[.pointer (some ⟨g, 0, none⟩)] W (PPost w g A cap l (pValue l p many stk)) := by
  have hnx := pNext_any w W g A cap l p many 0 ov zI zI zS zN zN h.pb hp hcap hlen
  have hspec : pValue l p many stk = match textJ l (skipB l p) with | .inl (v, m) => pPut v m (many + 1) stk | .inr (p, e) => .fail p e := by
    rw [pValue_atom hc (by decide) (by decide) (by omega)]; rfl
  have hsk := skipB_le hp
  obtain ⟨q, hq⟩ : ∃ q, skipB l p = q := ⟨_, rfl⟩
  rw [hq] at hnx hspec hc hsk
  have hby : byteAt l q = 34 := by rw [byteAt, hc]; rfl
  rw [hby] at hnx
  unfold textJ at hspec
  have hqr := fun W (hr : BS W (.slice A l.length cap) l) hg => qRead_any (.slice A l.length cap) l q W hg hr hlen
  have hok := qRead_ok (l := l) (a := q)
  obtain ⟨⟨s, e0, er⟩, hrr⟩ : ∃ r, qRead l (q : Int) = r := ⟨_, rfl⟩
  rw [hrr] at hspec hqr hok
  simp only at hspec hqr hok
  have hadd : IntKind.i64.wrap ((many : Int) + 1) = (many : Int) + 1 := by rw [IntWalk.i64_in _ (by omega)]
  have hbg := fun w => pBegins_any 34 w
  rw [show beginsB 34 = true by decide, show (((34 : UInt8).toNat : Nat) : Int) = 34 from rfl] at hbg
  have HNX := Lib.hid hnx
  have HSP := Lib.hid hspec
  have HQR := Lib.hid hqr
  have HOK := Lib.hid hok
  have HH := Lib.hid h
  have HG := Lib.hid hG
  have HS := Lib.hid hs
  have HBG := Lib.hid hbg
  clear hnx hspec hq h hqr hok hc hby hrr hG hs hbg
  go_enter Tryz.func82, Tryz.ntmps82
  go_wp2_with (first | (go_at_call 31; refine HNX.out.mono ?_; rintro e W1 ⟨rfl, hb1, hg1⟩; obtain ⟨hcc, hf, hlt⟩ := hb1.blk.rules; unfold pCells at hcc) | (go_at_call 104; refine (HBG.out _).mono ?_; rintro e w2 ⟨rfl, rfl⟩))
  have hpg1 := HH.out.grown hb1 hg1
  have hpg2 : PGo w (W1.setCell ⟨g, 2, none⟩ (.int .i64 ((many : Int) + 1))) g A cap l q (many + 1) ov E stk := hpg1.grown (by simpa using hb1.set2 ((many : Int) + 1)) (gb_setCell (gb_refl _ _) _ _)
  obtain ⟨W2, hW2⟩ : ∃ W2, W1.setCell ⟨g, 2, none⟩ (.int .i64 ((many : Int) + 1)) = W2 := ⟨_, rfl⟩
  rw [hW2] at hpg2 ⊢
  have h10 := hpg2.pb.blk.cell 0
  have h11 := hpg2.pb.blk.cell 1
  unfold pCells at h10 h11
  simp at h10 h11
  have hq1 := HQR.out W2.drew ((hpg2.pb.bs hcap).drewN 1) ((hpg2.pb.gok HG.out).drewN 1)
  have HQ1 := Lib.hid hq1
  have HP2 := Lib.hid hpg2
  clear hq1 hpg1 hpg2 hcc hf hb1 hg1 hW2
  go_region_held3 (fun w' => w'.cell? ⟨g, 0, none⟩ = some (.int .i64 (q : Int)) ∧ w'.cell? ⟨g, 1, none⟩ = some (.slice A l.length cap)) (go_keep) ((go_at_call 105; refine HQ1.out.mono ?_; rintro e W3 ⟨rfl, hb3⟩; have hpb3 := ((HP2.out.drewN 1).keep hb3).pb; have h20 := hpb3.blk.cell 0; have h21 := hpb3.blk.cell 1; unfold pCells at h20 h21; simp at h20 h21))
  have hpg3 := (HP2.out.drewN 1).keep hb3
  obtain ⟨hcc, hf, hlt⟩ := hpg3.pb.blk.rules
  unfold pCells at hcc
  clear HQ1 hb3 hpb3 h20 h21 h10 h11
  by_cases her : er = 0
  · subst her
    obtain ⟨n, rfl, hn1, hn2⟩ := HOK.out rfl
    have hpg4 : PGo w (W3.setCell ⟨g, 0, none⟩ (.int .i64 n)) g A cap l n (many + 1) ov E stk := hpg3.grown (hpg3.pb.set0 n) (gb_setCell (gb_refl _ _) _ _)
    have HPUT := Lib.hid (pPut_any w _ g A cap l n (many + 1) m ov E stk _ (.mk 4 0 s [] []) hpg4 (VR.atom 4 0 s) HS.out hm2)
    clear hpg4 hpg3
    go_wp2_with (go_at_call 106; refine HPUT.out.mono ?_; rintro e W4 ⟨rfl, hps⟩)
    go_ret
    rw [HSP.out, if_pos trivial]
    exact ⟨rfl, hps⟩
  · have her' : (er != 0) = true := by simpa using her
    have HFL := Lib.hid (pFails_any w _ g _ cap l q ((many + 1 : Nat) : Int) 0 e0 er ov zI zI zS zN zN hpg3.pb)
    clear hpg3
    go_wp2_with (go_at_call 32; refine HFL.out.mono ?_; rintro e W4 ⟨rfl, hp4, hg4⟩)
    go_ret
    rw [HSP.out, if_neg her]
    exact ⟨rfl, ov, _, _, _, _, _, _, hp4⟩
end Go.Proofs.YtoejdhabpajhlaaGreatDoor

/- The walk of package parse: value; a number, a word. -/
namespace Go.Proofs.YtoejdhabpajhlaaGreatDoor
set_option linter.unusedVariables false
set_option linter.unusedSimpArgs false
open Go.RowKit
attribute [local go_sem] run_index_arr run_part_agg run_part_one run_field_agg

set_option maxRecDepth 100000 in
set_option maxHeartbeats 4000000 in
/-- a number -/
theorem pValueNum_any (w W : World) (g : Nat) (A : Option Addr) (cap : Nat) (l : List UInt8) (p many m : Nat) (ov : Value) (E : List (List Value × List UInt8)) (stk : JStk)
    (c : UInt8) (h : PGo w W g A cap l p many ov E stk) (hc : l[skipB l p]? = some c) (hcn : c.toNat = 45 ∨ (48 ≤ c.toNat ∧ c.toNat ≤ 57)) (hm : many < 256) (hs : stkOk m stk) (hm2 : m ≤ 256) (hp : p ≤ l.length) (hcap : l.length ≤ cap) (hlen : l.length ≤ 4194304) :
    Calls Tryz.prog 82 #[.pointer (some ⟨g, 0, none⟩)] W (PPost w g A cap l (pValue l p many stk)) := by
  have hbt : beginsB c = true := by unfold beginsB; rw [decide_eq_true_eq]; omega
  have hnx := pNext_any w W g A cap l p many 0 ov zI zI zS zN zN h.pb hp hcap hlen
  have hspec : pValue l p many stk = match numJ l (skipB l p) with | .inl (v, m) => pPut v m (many + 1) stk | .inr (p, e) => .fail p e := by
    rw [pValue_atom hc hbt (by omega) (by omega)]
    unfold atomJ
    rw [if_neg (by omega), if_neg (by omega), if_neg (by omega), if_neg (by omega)]
    all_goals (rcases numJ l (skipB l p) with ⟨v, m⟩ | ⟨p, e⟩ <;> rfl)
  have hsk := skipB_le hp
  obtain ⟨q, hq⟩ : ∃ q, skipB l p = q := ⟨_, rfl⟩
  rw [hq] at hnx hspec hc hsk
  have hby : byteAt l q = c.toNat := by rw [byteAt, hc]
  rw [hby] at hnx
  unfold numJ at hspec
  have hqr := fun W (hr : BS W (.slice A l.length cap) l) => numRead_any W (.slice A l.length cap) l q hr hlen
  have hok := numRead_more (l := l) (a := q)
  obtain ⟨⟨s, e0, er⟩, hrr⟩ : ∃ r, numRead l (q : Int) = r := ⟨_, rfl⟩
  rw [hrr] at hspec hqr hok
  simp only at hspec hqr hok
  have hadd : IntKind.i64.wrap ((many : Int) + 1) = (many : Int) + 1 := by rw [IntWalk.i64_in _ (by omega)]
  have hbg := fun w => pBegins_any c w
  rw [hbt] at hbg
  obtain ⟨cn, hcc0⟩ : ∃ cn : Nat, c.toNat = cn := ⟨_, rfl⟩
  rw [hcc0] at hnx hbg hcn
  have x1 : ((cn : Int) == 91) = false := by simp; omega
  have x2 : ((cn : Int) == 123) = false := by simp; omega
  have x3 : ((cn : Int) == 34) = false := by simp; omega
  have x4 : ((cn : Int) == 110) = false := by simp; omega
  have x5 : ((cn : Int) == 116) = false := by simp; omega
  have x6 : ((cn : Int) == 102) = false := by simp; omega
  have HNX := Lib.hid hnx
  have HSP := Lib.hid hspec
  have HQR := Lib.hid hqr
  have HOK := Lib.hid hok
  have HH := Lib.hid h
  have HS := Lib.hid hs
  have HBG := Lib.hid hbg
  clear hnx hspec hq h hqr hok hc hby hrr hs hbg hcc0 hcn hbt
  go_enter Tryz.func82, Tryz.ntmps82
  go_wp2_with (first | (go_at_call 31; refine HNX.out.mono ?_; rintro e W1 ⟨rfl, hb1, hg1⟩; obtain ⟨hcc, hf, hlt⟩ := hb1.blk.rules; unfold pCells at hcc) | (go_at_call 104; refine (HBG.out _).mono ?_; rintro e w2 ⟨rfl, rfl⟩))
  have hpg1 := HH.out.grown hb1 hg1
  have hpg2 : PGo w (W1.setCell ⟨g, 2, none⟩ (.int .i64 ((many : Int) + 1))) g A cap l q (many + 1) ov E stk := hpg1.grown (by simpa using hb1.set2 ((many : Int) + 1)) (gb_setCell (gb_refl _ _) _ _)
  obtain ⟨W2, hW2⟩ : ∃ W2, W1.setCell ⟨g, 2, none⟩ (.int .i64 ((many : Int) + 1)) = W2 := ⟨_, rfl⟩
  rw [hW2] at hpg2 ⊢
  have h10 := hpg2.pb.blk.cell 0
  have h11 := hpg2.pb.blk.cell 1
  unfold pCells at h10 h11
  simp at h10 h11
  have hq1 := HQR.out W2.drew ((hpg2.pb.bs hcap).drewN 1)
  have HQ1 := Lib.hid hq1
  have HP2 := Lib.hid hpg2
  clear hq1 hpg1 hpg2 hcc hf hb1 hg1 hW2
  go_region_held3 (fun w' => w'.cell? ⟨g, 0, none⟩ = some (.int .i64 (q : Int)) ∧ w'.cell? ⟨g, 1, none⟩ = some (.slice A l.length cap)) (go_keep) ((go_at_call 108; refine HQ1.out.mono ?_; rintro e W3 ⟨rfl, hb3⟩; have hpb3 := ((HP2.out.drewN 1).keep hb3).pb; have h20 := hpb3.blk.cell 0; have h21 := hpb3.blk.cell 1; unfold pCells at h20 h21; simp at h20 h21))
  have hpg3 := (HP2.out.drewN 1).keep hb3
  obtain ⟨hcc, hf, hlt⟩ := hpg3.pb.blk.rules
  unfold pCells at hcc
  clear HQ1 hb3 hpb3 h20 h21 h10 h11
  by_cases her : er = 0
  · subst her
    obtain ⟨n, rfl, hn1, hn2⟩ := HOK.out rfl
    have hpg4 : PGo w (W3.setCell ⟨g, 0, none⟩ (.int .i64 n)) g A cap l n (many + 1) ov E stk := hpg3.grown (hpg3.pb.set0 n) (gb_setCell (gb_refl _ _) _ _)
    have HPUT := Lib.hid (pPut_any w _ g A cap l n (many + 1) m ov E stk _ (.mk 3 s [] [] []) hpg4 (VR.atom 3 s []) HS.out hm2)
    clear hpg4 hpg3
    go_wp2_with (go_at_call 106; refine HPUT.out.mono ?_; rintro e W4 ⟨rfl, hps⟩)
    go_ret
    rw [HSP.out, if_pos trivial]
    exact ⟨rfl, hps⟩
  · have her' : (er != 0) = true := by simpa using her
    have HFL := Lib.hid (pFails_any w _ g _ cap l q ((many + 1 : Nat) : Int) 0 e0 er ov zI zI zS zN zN hpg3.pb)
    clear hpg3
    go_wp2_with (go_at_call 32; refine HFL.out.mono ?_; rintro e W4 ⟨rfl, hp4, hg4⟩)
    go_ret
    rw [HSP.out, if_neg her]
    exact ⟨rfl, ov, _, _, _, _, _, _, hp4⟩
set_option maxRecDepth 100000 in
set_option maxHeartbeats 4000000 in
/-- a word -/
theorem pValueWord_any (w W : World) (g : Nat) (A : Option Addr) (cap : Nat) (l : List UInt8) (p many m : Nat) (ov : Value) (E : List (List Value × List UInt8)) (stk : JStk) (c : UInt8)
    (h : PGo w W g A cap l p many ov E stk) (hc : l[skipB l p]? = some c) (hcn : c = 110 ∨ c = 116 ∨ c = 102) (hm : many < 256) (hs : stkOk m stk) (hm2 : m ≤ 256) (hp : p ≤ l.length) (hcap : l.length ≤ cap) (hlen : l.length ≤ 4194304) :
    Calls Tryz.prog 82 #[.pointer (some ⟨g, 0, none⟩)] W (PPost w g A cap l (pValue l p many stk)) := by
  have hnx := pNext_any w W g A cap l p many 0 ov zI zI zS zN zN h.pb hp hcap hlen
  have hsk := skipB_le hp
  have hadd : IntKind.i64.wrap ((many : Int) + 1) = (many : Int) + 1 := by rw [IntWalk.i64_in _ (by omega)]
  have hnu : ∀ x ∈ sl ⟨nullT.toArray⟩, x.toNat < 128 := by rw [sl_mk]; decide
  have htu : ∀ x ∈ sl ⟨trueT.toArray⟩, x.toNat < 128 := by rw [sl_mk]; decide
  have hfu : ∀ x ∈ sl ⟨falseT.toArray⟩, x.toNat < 128 := by rw [sl_mk]; decide
  rcases hcn with rfl | rfl | rfl
  · have hspec : pValue l p many stk = wordP l (skipB l p) (many + 1) nullT (.mk 1 0 [] [] []) stk := by
      rw [pValue_atom hc (by decide) (by decide) (by omega)]
      show (match wordJ l (skipB l p) nullT (.mk 1 0 [] [] []) with | .inl (v, m) => pPut v m (many + 1) stk | .inr (p, e) => .fail p e) = _
      unfold wordJ wordP
      cases wordMis l (skipB l p) nullT <;> rfl
    obtain ⟨q, hq⟩ : ∃ q, skipB l p = q := ⟨_, rfl⟩
    rw [hq] at hnx hspec hc hsk
    have hby : byteAt l q = 110 := by rw [byteAt, hc]; rfl
    rw [hby] at hnx
    have hbg := fun w => pBegins_any 110 w
    rw [show beginsB 110 = true by decide, show (((110 : UInt8).toNat : Nat) : Int) = 110 from rfl] at hbg
    have HNX := Lib.hid hnx
    have HSP := Lib.hid hspec
    have HH := Lib.hid h
    have HS := Lib.hid hs
    have HBG := Lib.hid hbg
    have HU := Lib.hid hnu
    clear hnx hspec hq h hc hby hs hbg hnu htu hfu
    go_enter Tryz.func82, Tryz.ntmps82
    go_wp2_with (first | (go_at_call 31; refine HNX.out.mono ?_; rintro e W1 ⟨rfl, hb1, hg1⟩; obtain ⟨hcc, hf, hlt⟩ := hb1.blk.rules; unfold pCells at hcc) | (go_at_call 104; refine (HBG.out _).mono ?_; rintro e w2 ⟨rfl, rfl⟩) | (go_at_call 107; refine (pWord_any w _ g A cap l q (many + 1) m ov E stk ⟨nullT.toArray⟩ [.int .i64 1, .int .i64 0, .string ⟨#[]⟩, .slice none 0 0, .slice none 0 0] (.mk 1 0 [] [] []) ((HH.out.grown hb1 hg1).grown (by simpa using hb1.set2 ((many : Int) + 1)) (gb_setCell (gb_refl _ _) _ _)) (VR.atom 1 0 []) HS.out hm2 HU.out (by decide) hsk hcap hlen).mono ?_; rintro e W4 ⟨rfl, hps⟩))
    go_ret
    rw [HSP.out]
    exact ⟨rfl, hps⟩
  · have hspec : pValue l p many stk = wordP l (skipB l p) (many + 1) trueT (.mk 2 1 [] [] []) stk := by
      rw [pValue_atom hc (by decide) (by decide) (by omega)]
      show (match wordJ l (skipB l p) trueT (.mk 2 1 [] [] []) with | .inl (v, m) => pPut v m (many + 1) stk | .inr (p, e) => .fail p e) = _
      unfold wordJ wordP
      cases wordMis l (skipB l p) trueT <;> rfl
    obtain ⟨q, hq⟩ : ∃ q, skipB l p = q := ⟨_, rfl⟩
    rw [hq] at hnx hspec hc hsk
    have hby : byteAt l q = 116 := by rw [byteAt, hc]; rfl
    rw [hby] at hnx
    have hbg := fun w => pBegins_any 116 w
    rw [show beginsB 116 = true by decide, show (((116 : UInt8).toNat : Nat) : Int) = 116 from rfl] at hbg
    have HNX := Lib.hid hnx
    have HSP := Lib.hid hspec
    have HH := Lib.hid h
    have HS := Lib.hid hs
    have HBG := Lib.hid hbg
    have HU := Lib.hid htu
    clear hnx hspec hq h hc hby hs hbg hnu htu hfu
    go_enter Tryz.func82, Tryz.ntmps82
    go_wp2_with (first | (go_at_call 31; refine HNX.out.mono ?_; rintro e W1 ⟨rfl, hb1, hg1⟩; obtain ⟨hcc, hf, hlt⟩ := hb1.blk.rules; unfold pCells at hcc) | (go_at_call 104; refine (HBG.out _).mono ?_; rintro e w2 ⟨rfl, rfl⟩) | (go_at_call 107; refine (pWord_any w _ g A cap l q (many + 1) m ov E stk ⟨trueT.toArray⟩ [.int .i64 2, .int .i64 1, .string ⟨#[]⟩, .slice none 0 0, .slice none 0 0] (.mk 2 1 [] [] []) ((HH.out.grown hb1 hg1).grown (by simpa using hb1.set2 ((many : Int) + 1)) (gb_setCell (gb_refl _ _) _ _)) (VR.atom 2 1 []) HS.out hm2 HU.out (by decide) hsk hcap hlen).mono ?_; rintro e W4 ⟨rfl, hps⟩))
    go_ret
    rw [HSP.out]
    exact ⟨rfl, hps⟩
  · have hspec : pValue l p many stk = wordP l (skipB l p) (many + 1) falseT (.mk 2 0 [] [] []) stk := by
      rw [pValue_atom hc (by decide) (by decide) (by omega)]
      show (match wordJ l (skipB l p) falseT (.mk 2 0 [] [] []) with | .inl (v, m) => pPut v m (many + 1) stk | .inr (p, e) => .fail p e) = _
      unfold wordJ wordP
      cases wordMis l (skipB l p) falseT <;> rfl
    obtain ⟨q, hq⟩ : ∃ q, skipB l p = q := ⟨_, rfl⟩
    rw [hq] at hnx hspec hc hsk
    have hby : byteAt l q = 102 := by rw [byteAt, hc]; rfl
    rw [hby] at hnx
    have hbg := fun w => pBegins_any 102 w
    rw [show beginsB 102 = true by decide, show (((102 : UInt8).toNat : Nat) : Int) = 102 from rfl] at hbg
    have HNX := Lib.hid hnx
    have HSP := Lib.hid hspec
    have HH := Lib.hid h
    have HS := Lib.hid hs
    have HBG := Lib.hid hbg
    have HU := Lib.hid hfu
    clear hnx hspec hq h hc hby hs hbg hnu htu hfu
    go_enter Tryz.func82, Tryz.ntmps82
    go_wp2_with (first | (go_at_call 31; refine HNX.out.mono ?_; rintro e W1 ⟨rfl, hb1, hg1⟩; obtain ⟨hcc, hf, hlt⟩ := hb1.blk.rules; unfold pCells at hcc) | (go_at_call 104; refine (HBG.out _).mono ?_; rintro e w2 ⟨rfl, rfl⟩) | (go_at_call 107; refine (pWord_any w _ g A cap l q (many + 1) m ov E stk ⟨falseT.toArray⟩ [.int .i64 2, .int .i64 0, .string ⟨#[]⟩, .slice none 0 0, .slice none 0 0] (.mk 2 0 [] [] []) ((HH.out.grown hb1 hg1).grown (by simpa using hb1.set2 ((many : Int) + 1)) (gb_setCell (gb_refl _ _) _ _)) (VR.atom 2 0 []) HS.out hm2 HU.out (by decide) hsk hcap hlen).mono ?_; rintro e W4 ⟨rfl, hps⟩))
    go_ret
    rw [HSP.out]
    exact ⟨rfl, hps⟩
end Go.Proofs.YtoejdhabpajhlaaGreatDoor
