import Derived.Test.YtoejdhabpajhlaaGreatDoorParse1
import Derived.StillTailTactics
import Derived.Deep.LoopGhost
import Derived.Deep.RegionWith
/- The walks of package parse: how it stands; put. -/
namespace Go.Proofs.YtoejdhabpajhlaaGreatDoor
set_option linter.unusedVariables false
set_option linter.unusedSimpArgs false
open Go.RowKit
attribute [local go_sem] run_index_arr run_part_agg run_part_one run_field_agg

/-- the cells of what is open: of each its value and its key -/
def opC (E : List (List Value × List UInt8)) : List Value := E.flatMap fun e => e.1 ++ [.string ⟨e.2.toArray⟩]
/-- what is open, the last one first -/
def ESt (W : World) (F : Nat → Prop) : List (List Value × List UInt8) → JStk → Prop
  | [], [] => True
  | e :: E, x :: S => VR W F e.1 x.1 ∧ e.2 = x.2 ∧ ESt W F E S
  | _, _ => False
theorem ESt.keep {W W' : World} {F : Nat → Prop} (hk : KeepF F W W') : ∀ {E : List (List Value × List UInt8)} {S : JStk}, ESt W F E S → ESt W' F E S
  | [], [], _ => trivial
  | _ :: _, _ :: _, ⟨h1, h2, h3⟩ => ⟨h1.keep hk, h2, ESt.keep hk h3⟩
  | [], _ :: _, h => h.elim
  | _ :: _, [], h => h.elim
theorem ESt.mono {W : World} {F F' : Nat → Prop} (hm : ∀ b, b < W.heap.size → F b → F' b) : ∀ {E : List (List Value × List UInt8)} {S : JStk}, ESt W F E S → ESt W F' E S
  | [], [], _ => trivial
  | _ :: _, _ :: _, ⟨h1, h2, h3⟩ => ⟨h1.mono hm, h2, ESt.mono hm h3⟩
  | [], _ :: _, h => h.elim
  | _ :: _, [], h => h.elim
theorem ESt.len {W : World} {F : Nat → Prop} : ∀ {E : List (List Value × List UInt8)} {S : JStk}, ESt W F E S → E.length = S.length ∧ ∀ e ∈ E, e.1.length = 5
  | [], [], _ => ⟨rfl, fun _ h => by cases h⟩
  | e :: E, x :: S, ⟨h1, h2, h3⟩ => by
    obtain ⟨i1, i2⟩ := ESt.len h3
    refine ⟨by simp [i1], fun y hy => ?_⟩
    rcases List.mem_cons.1 hy with rfl | hy
    · exact h1.len
    · exact i2 y hy
  | [], _ :: _, h => h.elim
  | _ :: _, [], h => h.elim
theorem opC_app (a b : List (List Value × List UInt8)) : opC (a ++ b) = opC a ++ opC b := by simp [opC]
theorem opC_len : ∀ {E : List (List Value × List UInt8)}, (∀ e ∈ E, e.1.length = 5) → (opC E).length = E.length * 6
  | [], _ => rfl
  | e :: E, h => by
    have h1 := h e List.mem_cons_self
    have h2 := opC_len (fun e he => h e (List.mem_cons_of_mem _ he))
    rw [show opC (e :: E) = (e.1 ++ [.string ⟨e.2.toArray⟩]) ++ opC E from rfl, List.length_append, h2]
    simp [h1]; omega
/-- the top's cells among them -/
theorem opC_top {E : List (List Value × List UInt8)} {ce : List Value} {key : List UInt8} (h : ∀ e ∈ E, e.1.length = 5) (j : Nat) :
    (opC (((ce, key) :: E).reverse))[E.length * 6 + j]? = (ce ++ [.string ⟨key.toArray⟩])[j]? := by
  rw [List.reverse_cons, opC_app]
  have hl : (opC E.reverse).length = E.length * 6 := by rw [opC_len (fun e he => h e (List.mem_reverse.1 he)), List.length_reverse]
  rw [List.getElem?_append_right (by omega), hl, show E.length * 6 + j - E.length * 6 = j from by omega]
  simp [opC]
theorem opC_set {E : List (List Value × List UInt8)} {ce : List Value} {key : List UInt8} (h : ∀ e ∈ E, e.1.length = 5) (hce : ce.length = 5) (j : Nat) (hj : j < 5) (u : Value) :
    (opC (((ce, key) :: E).reverse)).set (E.length * 6 + j) u = opC (((ce.set j u, key) :: E).reverse) := by
  rw [List.reverse_cons, List.reverse_cons, opC_app, opC_app]
  have hl : (opC E.reverse).length = E.length * 6 := by rw [opC_len (fun e he => h e (List.mem_reverse.1 he)), List.length_reverse]
  rw [List.set_append_right _ _ (by omega), hl, show E.length * 6 + j - E.length * 6 = j from by omega]
  simp only [opC, List.flatMap_cons, List.flatMap_nil, List.append_nil]
  rw [List.set_append_left _ _ (by omega)]
theorem opC_setKey {E : List (List Value × List UInt8)} {ce : List Value} {key : List UInt8} (h : ∀ e ∈ E, e.1.length = 5) (hce : ce.length = 5) (k' : List UInt8) :
    (opC (((ce, key) :: E).reverse)).set (E.length * 6 + 5) (.string ⟨k'.toArray⟩) = opC (((ce, k') :: E).reverse) := by
  rw [List.reverse_cons, List.reverse_cons, opC_app, opC_app]
  have hl : (opC E.reverse).length = E.length * 6 := by rw [opC_len (fun e he => h e (List.mem_reverse.1 he)), List.length_reverse]
  rw [List.set_append_right _ _ (by omega), hl, show E.length * 6 + 5 - E.length * 6 = 5 from by omega]
  simp only [opC, List.flatMap_cons, List.flatMap_nil, List.append_nil]
  rw [List.set_append_right _ _ (by omega), hce]; rfl
/-- blocks that values may lie in: of the call's own, neither the parser's nor that of what is open -/
def FO (B g : Nat) (ov : Value) : Nat → Prop := fun b => B ≤ b ∧ b ≠ g ∧ some b ≠ ov.ownBlock
abbrev zI : Value := .int .i64 0
abbrev zS : Value := .string ⟨#[]⟩
abbrev zN : Value := .slice none 0 0
/-- it goes on -/
structure PGo (w W : World) (g : Nat) (A : Option Addr) (cap : Nat) (l : List UInt8) (p many : Nat) (ov : Value) (E : List (List Value × List UInt8)) (stk : JStk) : Prop where
  pb : PB w W g A cap l p many ov zI zI zS zN zN 0
  own : W.ownsRow w.heap.size 139 6 ov stk.length (opC E.reverse)
  est : ESt W (FO w.heap.size g ov) E stk
/-- how a parser stands -/
def PSt (w W : World) (g : Nat) (A : Option Addr) (cap : Nat) (l : List UInt8) : PRes → Prop
  | .go _ p m stk => ∃ ov E, PGo w W g A cap l p m ov E stk
  | .done p v => ∃ ov m c0 c1 c2 c3 c4, PB w W g A cap l p m ov c0 c1 c2 c3 c4 0 ∧ VR W (fun b => w.heap.size ≤ b) [c0, c1, c2, c3, c4] v
  | .fail p e => ∃ ov m c0 c1 c2 c3 c4, PB w W g A cap l p m ov c0 c1 c2 c3 c4 e
def codeP : PRes → Int
  | .go s _ _ _ => s
  | _ => 6
def PPost (w : World) (g : Nat) (A : Option Addr) (cap : Nat) (l : List UInt8) (r : PRes) (e : Ending) (W' : World) : Prop := e = .returned (.int .i64 (codeP r)) ∧ PSt w W' g A cap l r
section
variable {w W W' : World} {g cap : Nat} {A : Option Addr} {l : List UInt8} {p many : Nat} {ov : Value} {E : List (List Value × List UInt8)} {stk : JStk}
theorem PGo.keep (h : PGo w W g A cap l p many ov E stk) (hb : Below W.heap.size W W') : PGo w W' g A cap l p many ov E stk :=
  ⟨h.pb.keep hb, ownBel h.own hb, h.est.keep (KeepF.of_below hb)⟩
theorem PGo.drewN (h : PGo w W g A cap l p many ov E stk) (k : Nat) : PGo w (W.drewN k) g A cap l p many ov E stk := h.keep (bel_drewN (Below.refl _ W) k)
theorem PGo.gne (h : PGo w W g A cap l p many ov E stk) : some g ≠ ov.ownBlock := own_blk_ne h.own h.pb.blk (by decide)
/-- the parser's own block alone turned -/
theorem PGo.grown {p' many' : Nat} (h : PGo w W g A cap l p many ov E stk) (hb : PB w W' g A cap l p' many' ov zI zI zS zN zN 0) (hg : W.grownBy W' (some g)) : PGo w W' g A cap l p' many' ov E stk :=
  ⟨hb, h.own.kept hg (.inr (Ne.symm h.gne)), h.est.keep (KeepF.of_grown hg (fun b hf e => hf.2.1 (by simpa using e)))⟩
end
theorem insAt_end {α : Type} (l : List α) (x : α) : insAt l l.length x = l ++ [x] := by simp [insAt]
theorem byte_toList (a : List UInt8) : (⟨a.toArray⟩ : ByteArray).toList = a := by rw [ByteArray.toList_eq]
/-- the top of what is open, its slot i turned -/
theorem own_top {W : World} {B ob d capo : Nat} {E : List (List Value × List UInt8)} {ce : List Value} {key : List UInt8} (h : W.ownsRow B 139 6 (.slice (some ⟨ob, 0, none⟩) (d + 1) capo) (d + 1) (opC (((ce, key) :: E).reverse)))
    (hE : E.length = d) (h5 : ∀ e ∈ E, e.1.length = 5) (hce : ce.length = 5) (j : Nat) (hj : j < 5) (u : Value) :
    (W.setCell ⟨ob, d * 6 + j, none⟩ u).ownsRow B 139 6 (.slice (some ⟨ob, 0, none⟩) (d + 1) capo) (d + 1) (opC (((ce.set j u, key) :: E).reverse)) ∧ W.grownBy (W.setCell ⟨ob, d * 6 + j, none⟩ u) (some ob) := by
  have h1 := h.stored (d * 6 + j) u
  have h2 := opC_set (ce := ce) (key := key) h5 hce j hj u
  rw [hE] at h2
  rwa [h2] at h1
theorem own_cells {W : World} {B ob d capo : Nat} {E : List (List Value × List UInt8)} {ce : List Value} {key : List UInt8} (h : W.ownsRow B 139 6 (.slice (some ⟨ob, 0, none⟩) (d + 1) capo) (d + 1) (opC (((ce, key) :: E).reverse)))
    (hE : E.length = d) (h5 : ∀ e ∈ E, e.1.length = 5) (j : Nat) (hj : j < 6) : W.cell? ⟨ob, d * 6 + j, none⟩ = (ce ++ [.string ⟨key.toArray⟩])[j]? := by
  rw [h.cellAt (d * 6 + j) (by omega), ← opC_top (key := key) h5 j, hE]
theorem PB.far {w W : World} {g : Nat} {A : Option Addr} {cap : Nat} {l : List UInt8} {p many why : Int} {ov t0 t1 t2 t3 t4 : Value} (h : PB w W g A cap l p many ov t0 t1 t2 t3 t4 why) {ob : Nat} (hne : g ≠ ob) (hB : w.heap.size ≤ ob) (j : Nat) (u : Value) :
    PB w (W.setCell ⟨ob, j, none⟩ u) g A cap l p many ov t0 t1 t2 t3 t4 why := ⟨gb_new h.bel _ _ hB, h.hg, h.gne, h.rd, h.blk.far (p := ⟨ob, j, none⟩) hne u⟩
set_option maxRecDepth 100000 in
set_option maxHeartbeats 4000000 in
theorem pPut0_any (w W : World) (g : Nat) (A : Option Addr) (cap : Nat) (l : List UInt8) (p many : Nat) (ov : Value) (E : List (List Value × List UInt8)) (c : List Value) (v : JV)
    (h : PGo w W g A cap l p many ov E []) (hc : VR W (FO w.heap.size g ov) c v) :
    Calls Tryz.prog 106 #[.pointer (some ⟨g, 0, none⟩), .agg c.toArray] W (PPost w g A cap l (pPut v p many [])) := by
  obtain ⟨k0, n0, s0, A0, na0, ca0, B0, nb0, cb0, rfl⟩ := hc.form
  obtain ⟨A1, c1', rfl, _⟩ : ∃ A1 c1', ov = .slice A1 0 c1' ∧ 0 ≤ c1' := by
    rcases h.own.2 with ⟨rfl, _⟩ | ⟨g', cap', cur, rfl, _⟩
    · exact ⟨none, 0, rfl, Nat.le_refl _⟩
    · exact ⟨_, _, rfl, Nat.zero_le _⟩
  obtain ⟨hcc, hf, hlt⟩ := h.pb.blk.rules
  unfold pCells at hcc
  have HH := Lib.hid h
  have HC := Lib.hid hc
  clear h hc
  go_enter Tryz.func106, Tryz.ntmps106
  go_wp2
  go_ret
  have hg := HH.out.pb.hg
  have hF : ∀ b, FO w.heap.size g (.slice A1 0 c1') b → b ≠ g := fun b h => h.2.1
  refine ⟨rfl, .slice A1 0 c1', many, _, _, _, _, _, ?_, ((HC.out.keep (((((KeepF.refl.set hF _ _).set hF _ _).set hF _ _).set hF _ _).set hF _ _ |>.alloc _)).mono fun b _ h => h.1)⟩
  exact PB.keep ⟨gb_setCell (gb_setCell (gb_setCell (gb_setCell (gb_setCell HH.out.pb.bel _ _) _ _) _ _) _ _) _ _, hg, HH.out.pb.gne, HH.out.pb.rd, ((((HH.out.pb.blk.set_ 4 _).set_ 5 _).set_ 6 _).set_ 7 _).set_ 8 _⟩ ((Below.refl _ _).alloc (Nat.le_refl _) _)

end Go.Proofs.YtoejdhabpajhlaaGreatDoor

/- The walks of package parse: put where something is open. -/
namespace Go.Proofs.YtoejdhabpajhlaaGreatDoor
set_option linter.unusedVariables false
set_option linter.unusedSimpArgs false
open Go.RowKit
attribute [local go_sem] run_index_arr run_part_agg run_part_one run_field_agg

theorem FO.fresh {w W : World} {g ob n capo : Nat} (hB : w.heap.size ≤ W.heap.size) (hg : g < W.heap.size) (ho : ob < W.heap.size) : ∀ b, W.heap.size ≤ b → FO w.heap.size g (.slice (some ⟨ob, 0, none⟩) n capo) b :=
  fun b hb => ⟨Nat.le_trans hB hb, by omega, by simp [Value.ownBlock]; omega⟩
set_option maxRecDepth 100000 in
set_option maxHeartbeats 4000000 in
theorem pPutL_any (w W : World) (g : Nat) (A : Option Addr) (cap : Nat) (l : List UInt8) (p many : Nat) (ov : Value) (Er : List (List Value × List UInt8)) (ce : List Value) (c : List Value) (v : JV)
    (kk nn : Int) (ss : List UInt8) (kids : List JV) (keys : List (List UInt8)) (key : List UInt8) (r : JStk)
    (h : PGo w W g A cap l p many ov ((ce, key) :: Er) ((.mk kk nn ss kids keys, key) :: r)) (hc : VR W (FO w.heap.size g ov) c v) (hk : kk ≠ 6) (hn : kids.length ≤ 65535) (hd : r.length ≤ 65535) :
    Calls Tryz.prog 106 #[.pointer (some ⟨g, 0, none⟩), .agg c.toArray] W (PPost w g A cap l (pPut v p many ((.mk kk nn ss kids keys, key) :: r))) := by
  obtain ⟨k0, n0, s0, A0, na0, ca0, B0, nb0, cb0, rfl⟩ := hc.form
  have hown := h.own
  obtain ⟨ob, capo, rfl, hob, hobl⟩ := hown.form (by simp)
  have hcapo := ownCap hown
  obtain ⟨hE1, hE5⟩ := ESt.len h.est.2.2
  obtain ⟨A1, B1, ca, cb, css, rfl, hvs, hca, hcb, hA1, hB1, hr1, hr2⟩ := h.est.1.out
  have hgne : g ≠ ob := fun e => h.gne (by rw [e]; rfl)
  have hgl : g < W.heap.size := h.pb.blk.lt
  obtain ⟨d, hdd⟩ : ∃ d, r.length = d := ⟨_, rfl⟩
  obtain ⟨hcc, hf, _⟩ := h.pb.blk.rules
  unfold pCells at hcc
  simp only [List.length_cons, hdd] at hown hcapo h hc hcc
  rw [hdd] at hE1 hd
  have hins := fun W2 (hb : Below W.heap.size W W2) => insV_any W2 (FO w.heap.size g (.slice (some ⟨ob, 0, none⟩) (d + 1) capo)) A1 kids.length ca css kids _ v kids.length hA1 rfl (Nat.le_refl _) hca (hr1.keep (KeepF.of_below hb)) (hvs.keep (KeepF.of_below hb)) (hc.keep (KeepF.of_below hb)) (FO.fresh (Nat.le_trans h.pb.bel.size hb.size) (Nat.lt_of_lt_of_le hgl hb.size) (Nat.lt_of_lt_of_le hobl hb.size)) hn
  have hcell := own_cells hown hE1 hE5
  have q0 := hcell 0 (by omega)
  have q3 := hcell 3 (by omega)
  have q4 := hcell 4 (by omega)
  have q5 := hcell 5 (by omega)
  have hfz := fun j => hown.frozenAt j
  obtain ⟨n, hnn⟩ : ∃ n, kids.length = n := ⟨_, rfl⟩
  have hkk : (kk == 6) = false := by simpa using hk
  rw [hnn] at hins q3 hn hca
  simp only [List.cons_append, List.nil_append, List.getElem?_cons_zero, List.getElem?_cons_succ, Nat.add_zero] at q0 q3 q4 q5
  have HI := Lib.hid hins
  have HH := Lib.hid h
  have HC := Lib.hid hc
  have HO := Lib.hid hown
  have HV := Lib.hid hvs
  have HN := Lib.hid hnn
  have HD := Lib.hid hdd
  have HR := Lib.hid (And.intro hr1 hr2)
  have HE := Lib.hid (And.intro hE1 hE5)
  have HAB := Lib.hid (And.intro hA1 hB1)
  clear hins h hc hown hvs hnn hdd hr1 hr2 hE1 hE5 hA1 hB1 hcell
  go_enter Tryz.func106, Tryz.ntmps106
  go_wp2
  obtain ⟨W1, hW1⟩ : ∃ W1, W.alloc (.cells #[.int .i64 k0, .int .i64 n0, .string s0, .slice A0 na0 ca0, .slice B0 nb0 cb0] 25) = W1 := ⟨_, rfl⟩
  have hb1 : Below W.heap.size W W1 := by rw [← hW1]; exact (Below.refl _ W).alloc (Nat.le_refl _) _
  have hbox : Blk W1 W.heap.size 25 #[.int .i64 k0, .int .i64 n0, .string s0, .slice A0 na0 ca0, .slice B0 nb0 cb0] := by rw [← hW1]; exact Blk.new _ _ _
  have q3' := ((bcell hb1).1 ob (d * 6 + 3) hobl).trans q3
  obtain ⟨bc, bf, bl⟩ := hbox.rules
  have HB1 := Lib.hid hb1
  rw [hW1]
  clear hW1 hb1 hbox q0 q3 q4 q5 hfz hcc hf
  go_region_with (go_at_call 128; refine (HI.out _ (by exact bel_drewN HB1.out 1)).mono ?_; rintro e W2 ⟨A', cap', rfl, hi1, hi2, hi3, hb2⟩; have hb12 : Below W.heap.size W W2 := (bel_drewN HB1.out 1).trans (hb2.mono HB1.out.size); have HO2 := Lib.hid (ownBel HO.out hb12); have f3 := HO2.out.frozenAt (d * 6 + 3); have z3 := own_cells HO2.out HE.out.1 HE.out.2 3 (by omega); simp only [List.cons_append, List.nil_append, List.getElem?_cons_zero, List.getElem?_cons_succ, Nat.add_zero] at z3)
  all_goals
    go_wp2
    go_ret
    have hFob : ∀ b, FO w.heap.size g (.slice (some ⟨ob, 0, none⟩) (d + 1) capo) b → b ≠ ob := fun b hb e => hb.2.2 (by rw [e]; rfl)
    have hKF := (KeepF.of_below hb12).set hFob (d * 6 + 3) (.slice A' (n + 1) cap')
    have hadd : addKid (.mk kk nn ss kids keys) key v = .mk kk nn ss (insAt kids n v) keys := by unfold addKid; simp only; rw [if_neg hk, ← HN.out, insAt_end]
    refine ⟨rfl, .slice (some ⟨ob, 0, none⟩) (d + 1) capo, ([.int .i64 kk, .int .i64 nn, .string ⟨ss.toArray⟩, .slice A' (n + 1) cap', .slice B1 keys.length cb], key) :: Er, ?_⟩
    refine ⟨(HH.out.pb.keep hb12).far hgne hob _ _, ?_, ?_, rfl, HH.out.est.2.2.keep hKF⟩
    · have h1 := (own_top HO2.out HE.out.1 HE.out.2 rfl 3 (by omega) (.slice A' (n + 1) cap')).1
      simp only [List.length_cons, HD.out]
      exact h1
    · show VR _ _ _ (addKid (.mk kk nn ss kids keys) key v)
      rw [hadd]
      refine VR.into kk nn ss ((HV.out.keep hKF).ins (HC.out.keep hKF) n) ?_ hcb hi2 HAB.out.2 (hi3.keep (KeepF.refl.set hFob _ _)) (HR.out.2.keep hKF) ?_ rfl
      · rw [← HN.out, insAt_end, List.length_append, HN.out]; simpa using hi1
      · rw [← HN.out, insAt_end, List.length_append, HN.out]; rfl
end Go.Proofs.YtoejdhabpajhlaaGreatDoor
