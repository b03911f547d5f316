import Derived.Test.YtgolomgmnanbpaaGreatDoorX20
import Derived.Deep.RegionHeld3
import Derived.Test.YtgolomgmnanbpaaGreatDoorX11
namespace Go.Proofs.YtgolomgmnanbpaaGreatDoor
set_option linter.unusedVariables false
set_option linter.unusedSimpArgs false
open Go.RowKit
attribute [local go_sem] run_index_arr run_part_agg run_part_one run_field_agg
theorem infoEmit : (Tryz.prog.info? 75).map (fun i => (i.zero, i.size, i.bytes)) = some (some (.agg #[.int .i64 0, .int .i64 0, .string ⟨#[]⟩, .slice none 0 0, .slice none 0 0, .int .i64 0, .int .i64 0, .string ⟨#[]⟩, .slice none 0 0, .slice none 0 0]), 10, 160) := by kernel_rfl
def StmP (mb : Nat) (EA : Option Addr) (ec : Nat) (ecs : List (List Value)) (em : Value) (env : List (List UInt8 × JV)) (st' : MSt) (w : World) (e : Ending) (w' : World) : Prop :=
  (∃ v, e = .returned v) ∧ ∃ em' ess', MS mb EA ec ecs em' ess' env st' w' ∧ MG mb em w em' w'
theorem StmP.stay {mb : Nat} {EA : Option Addr} {ec : Nat} {ecs : List (List Value)} {em : Value} {ess : List (List Value)} {env : List (List UInt8 × JV)} {st : MSt} {w w' : World} {v : Value} (h : MS mb EA ec ecs em ess env st w) (hb : Below w.heap.size w w') : StmP mb EA ec ecs em env st w (.returned v) w' :=
  ⟨⟨v, rfl⟩, em, ess, h.bel hb, MG.bel hb⟩
set_option maxRecDepth 100000 in
set_option maxHeartbeats 16000000 in
theorem mEmit {mb : Nat} {EA : Option Addr} {ec : Nat} {ecs : List (List Value)} {em : Value} {ess : List (List Value)} {env : List (List UInt8 × JV)} {st : MSt} {w : World} {k : Int} {s : List UInt8} {a b : EJ} {body els : List SJ} {cs : List Value} (hM : MS mb EA ec ecs em ess env st w) (hx : SR w (PbM mb em w) cs (.mk k s a b body els)) (hda : fitE a) (hdb : fitE b) (hca : camE a) (hcb : camE b) (hsa : smlE a) (hsb : smlE b) :
    Calls Tryz.prog 93 #[.pointer (some ⟨mb, 0, none⟩), .agg cs.toArray] w (StmP mb EA ec ecs em env (emitS st (evE env a) (evE env b)) w) := by
  obtain ⟨acs, bcs, SA, SB, sca, scb, css, dss, rfl, hA, hB, _⟩ := hx.out
  obtain ⟨ak, ak1, an1, as1, aA1, ana1, aca1, aB1, anb1, acb1, as2, aA, an, aca, rfl⟩ := hA.form
  obtain ⟨bk, bk1, bn1, bs1, bA1, bna1, bca1, bB1, bnb1, bcb1, bs2, bA, bn, bca, rfl⟩ := hB.form
  have HM := Lib.hid hM
  have HEA := Lib.hid (fun (W : World) (h : Below w.heap.size w W) => mExpr 12 mb (PbM mb em w) env W a _ (show MacOk mb (PbM mb em w) env W from hM.ok.keep h) hda hca hsa (hA.bel h))
  have HEB := Lib.hid (fun (W : World) (h : Below w.heap.size w W) => mExpr 12 mb (PbM mb em w) env W b _ (show MacOk mb (PbM mb em w) env W from hM.ok.keep h) hdb hcb hsb (hB.bel h))
  obtain ⟨nb0, hnb0⟩ : ∃ q, body.length = q := ⟨_, rfl⟩
  obtain ⟨ne0, hne0⟩ : ∃ q, els.length = q := ⟨_, rfl⟩
  rw [hnb0, hne0]
  have HH0 := Lib.hid ((Held.nil w).push 69 #[.int .i64 k, .string ⟨s.toArray⟩, .int .i64 ak, .int .i64 ak1, .int .i64 an1, .string as1, .slice aA1 ana1 aca1, .slice aB1 anb1 acb1, .string as2, .slice aA an aca, .int .i64 bk, .int .i64 bk1, .int .i64 bn1, .string bs1, .slice bA1 bna1 bca1, .slice bB1 bnb1 bcb1, .string bs2, .slice bA bn bca, .slice SA nb0 sca, .slice SB ne0 scb] (g := w.heap.size) rfl)
  obtain ⟨oa, hoa⟩ : ∃ o, evE env a = o := ⟨_, rfl⟩
  obtain ⟨ob, hob⟩ : ∃ o, evE env b = o := ⟨_, rfl⟩
  rw [hoa] at HEA
  rw [hob] at HEB
  rw [hoa, hob]
  obtain ⟨i0, hi, hz0, hz1, hz2⟩ := info_parts infoEmit
  have HI := Lib.hid hi
  clear hx hA hB hM hda hdb hca hcb hsa hsb hnb0 hne0 hoa hob hi
  obtain ⟨c0, f0, l0⟩ := HH0.out.b0.rules
  go_enter Tryz.func93, Tryz.ntmps93
  go_wp2_with fail
  refine (HEA.out _ HH0.out.1).mono ?_
  rintro e w1 ⟨cs1, v1, b1, rfl, hv1, hc1, ho1, hg1, hb1⟩
  have HV1 := Lib.hid ((hv1.bel ((Below.refl _ w1).alloc (Nat.le_refl _) (.cells cs1.toArray 25))))
  have HQ1 := Lib.hid (And.intro hc1 (And.intro ho1 hg1))
  obtain ⟨k5, n5, s5, A5, na5, ca5, B5, nb5, cb5, rfl⟩ := hv1.form
  have HH1 := Lib.hid ((HH0.out.keep hb1).push 25 #[.int .i64 k5, .int .i64 n5, .string s5, .slice A5 na5 ca5, .slice B5 nb5 cb5] (g := w1.heap.size) rfl)
  have hz1' : w.heap.size < w1.heap.size := by have := hb1.size; simp at this; omega
  have HB1 := Lib.hid hb1
  clear hv1 hc1 ho1 hg1 hb1 c0 f0 l0
  obtain ⟨c0, f0, l0⟩ := HH1.out.b1.rules
  go_wp2_with fail
  refine (HEB.out _ HH1.out.1).mono ?_
  rintro e w2 ⟨cs2, v2, b2, rfl, hv2, hc2, ho2, hg2, hb2⟩
  have HV2 := Lib.hid ((hv2.bel ((Below.refl _ w2).alloc (Nat.le_refl _) (.cells cs2.toArray 25))))
  have HQ2 := Lib.hid (And.intro hc2 (And.intro ho2 hg2))
  obtain ⟨k6, n6, s6, A6, na6, ca6, B6, nb6, cb6, rfl⟩ := hv2.form
  have HH2 := Lib.hid ((HH1.out.keep hb2).push 25 #[.int .i64 k6, .int .i64 n6, .string s6, .slice A6 na6 ca6, .slice B6 nb6 cb6] (g := w2.heap.size) rfl)
  have hz2' : w1.heap.size < w2.heap.size := by have := hb2.size; simp at this; omega
  have HB2 := Lib.hid hb2
  have HM2 := Lib.hid (HM.out.bel HH2.out.1)
  clear hv2 hc2 ho2 hg2 hb2 c0 f0 l0
  obtain ⟨EL, ecap, hem, _⟩ := own_parts HM.out.own
  obtain ⟨ne, hne⟩ : ∃ q, st.2.length = q := ⟨_, rfl⟩
  have hfew : ne ≤ 4 := by rw [← hne]; exact HM.out.few
  rw [hne] at hem
  have HNE0 := Lib.hid hne
  have HEM := Lib.hid hem
  have hmlt : mb < w.heap.size := HM.out.blk.lt
  clear hne hem
  have hcm := HM2.out.blk.rules
  rw [HEM.out] at hcm
  obtain ⟨c1, f1, l1⟩ := hcm
  cases b1
  · have HST := Lib.hid (show emitS st oa ob = st by rw [HQ1.out.2.1]; rfl)
    go_wp2
    refine bodyPost_ret (results_none rfl _ _ _) rfl ?_
    rw [HST.out]; exact StmP.stay HM.out HH2.out.1
  cases b2
  · have HST := Lib.hid (show emitS st oa ob = st by rw [HQ2.out.2.1]; cases oa <;> rfl)
    go_wp2
    refine bodyPost_ret (results_none rfl _ _ _) rfl ?_
    rw [HST.out]; exact StmP.stay HM.out HH2.out.1
  have HG1 := Lib.hid (HQ1.out.2.2 rfl)
  have HG2 := Lib.hid (HQ2.out.2.2 rfl)
  have HEQ := Lib.hid (show emitS st oa ob = if ne < 4 ∧ (codeJ v1).length ≤ 90 ∧ (canJ v2).length ≤ 100 then (st.1, st.2 ++ [(v1, v2)]) else st by rw [HQ1.out.2.1, HQ2.out.2.1, ← HNE0.out]; rfl)
  by_cases h4 : ne = 4
  · subst h4
    have HST := Lib.hid (show emitS st oa ob = st by rw [HEQ.out, if_neg (by omega)])
    go_wp2
    refine bodyPost_ret (results_none rfl _ _ _) rfl ?_
    rw [HST.out]; exact StmP.stay HM.out HH2.out.1
  have h4b : ((ne : Int) == 4) = false := by rw [beq_eq_false_iff_ne]; omega
  have HEN := Lib.hid (kEncode v1 _ _ _ HM2.out.goe.gok (((HV1.out).bel HB2.out).bel ((Below.refl _ w2).alloc (Nat.le_refl _) (.cells #[.int .i64 k6, .int .i64 n6, .string s6, .slice A6 na6 ca6, .slice B6 nb6 cb6] 25))) HQ1.out.1)
  obtain ⟨c0, f0, l0⟩ := HH2.out.b1.rules
  obtain ⟨c2, f2, l2⟩ := HH2.out.b0.rules
  go_wp2_with fail
  refine HEN.out.mono ?_
  rintro e w3 ⟨CA, cn, ccap, er, rfl, hcg, _, hb3⟩
  obtain ⟨rfl, hcn⟩ := hcg HG1.out
  have HCN := Lib.hid hcn
  have HH3 := Lib.hid (HH2.out.keep hb3)
  have HM3 := Lib.hid (HM.out.bel HH3.out.1)
  have hz3' : w2.heap.size < w3.heap.size := by have := hb3.size; simp at this; omega
  have HB3 := Lib.hid hb3
  clear hcg hcn hb3 c0 f0 l0 c1 f1 l1 c2 f2 l2 HEN
  have hsz : sizR v2 = (((canJ v2).length : Int), 0) := by unfold sizR; rw [if_pos HG2.out]
  have HSZ := Lib.hid (pSize_any v2 _ _ w3 (HV2.out.bel HB3.out) HM3.out.goe.gok HQ2.out.1)
  rw [hsz] at HSZ
  obtain ⟨pn, hpn⟩ : ∃ q, (canJ v2).length = q := ⟨_, rfl⟩
  rw [hpn] at HSZ HEQ
  rw [← HCN.out] at HEQ
  clear hsz hpn
  obtain ⟨c0, f0, l0⟩ := HH3.out.b1.rules
  obtain ⟨c2, f2, l2⟩ := HH3.out.b0.rules
  go_wp2_with fail
  refine HSZ.out.mono ?_
  rintro e w4 ⟨rfl, hb4⟩
  have HH4 := Lib.hid (HH3.out.keep hb4)
  have HM4 := Lib.hid (HM.out.bel HH4.out.1)
  have hz4' : w3.heap.size ≤ w4.heap.size := hb4.size
  have HB4 := Lib.hid hb4
  clear hb4 c0 f0 l0 c2 f2 l2 HSZ
  by_cases hc90 : cn ≤ 90
  rotate_left
  · have HST := Lib.hid (show emitS st oa ob = st by rw [HEQ.out, if_neg (by omega)])
    have hc9 : ¬ (cn : Int) ≤ 90 := by omega
    go_wp2
    refine bodyPost_ret (results_none rfl _ _ _) rfl ?_
    rw [HST.out]; exact StmP.stay HM.out HH4.out.1
  by_cases hp100 : pn ≤ 100
  rotate_left
  · have HST := Lib.hid (show emitS st oa ob = st by rw [HEQ.out, if_neg (by omega)])
    have hc9 : (cn : Int) ≤ 90 := by omega
    have hc8 : ¬ (pn : Int) ≤ 100 := by omega
    go_wp2
    refine bodyPost_ret (results_none rfl _ _ _) rfl ?_
    rw [HST.out]; exact StmP.stay HM.out HH4.out.1
  have HST := Lib.hid (show emitS st oa ob = (st.1, st.2 ++ [(v1, v2)]) by rw [HEQ.out, if_pos (by omega)])
  have hc9 : (cn : Int) ≤ 90 := by omega
  have hc8 : (pn : Int) ≤ 100 := by omega
  go_upto_region 7 with fail
  have HSP := Lib.hid (show Blk w4 w1.heap.size 25 #[.int .i64 k5, .int .i64 n5, .string s5, .slice A5 na5 ca5, .slice B5 nb5 cb5] ∧ Blk w4 w2.heap.size 25 #[.int .i64 k6, .int .i64 n6, .string s6, .slice A6 na6 ca6, .slice B6 nb6 cb6] from ⟨HH4.out.b1, HH4.out.b0⟩)
  refine wp_region_held_drew (S := fun W' => Blk W' w1.heap.size 25 #[.int .i64 k5, .int .i64 n5, .string s5, .slice A5 na5 ca5, .slice B5 nb5 cb5] ∧ Blk W' w2.heap.size 25 #[.int .i64 k6, .int .i64 n6, .string s6, .slice A6 na6 ca6, .slice B6 nb6 cb6]) (by kernel_rfl) (by exact ⟨HSP.out.1.drew, HSP.out.2.drew⟩) (fun hHeld => ?_)
  refine wpAnyH_worldM (fun w9 hw9 => ?_)
  have hb49 : Below w4.heap.size w4 w9 := by rw [hw9]; exact (Below.refl _ _).drew
  have HH9 := Lib.hid (HH4.out.keep hb49)
  have HM9 := Lib.hid (HM.out.bel HH9.out.1)
  have HS9 := Lib.hid (show Blk w9 w1.heap.size 25 #[.int .i64 k5, .int .i64 n5, .string s5, .slice A5 na5 ca5, .slice B5 nb5 cb5] ∧ Blk w9 w2.heap.size 25 #[.int .i64 k6, .int .i64 n6, .string s6, .slice A6 na6 ca6, .slice B6 nb6 cb6] from ⟨HH9.out.b1, HH9.out.b0⟩)
  have hk9 : VR w9 (PbM mb em w9) [.int .i64 k5, .int .i64 n5, .string s5, .slice A5 na5 ca5, .slice B5 nb5 cb5] v1 := HM.out.fresh (((((((HV1.out.bel HB2.out).bel ((Below.refl _ w2).alloc (Nat.le_refl _) (.cells #[.int .i64 k6, .int .i64 n6, .string s6, .slice A6 na6 ca6, .slice B6 nb6 cb6] 25))).bel HB3.out).bel HB4.out).bel hb49)).mono fun _ _ h => FN.le h (by simp)) HH9.out.1.size
  have hv9 : VR w9 (PbM mb em w9) [.int .i64 k6, .int .i64 n6, .string s6, .slice A6 na6 ca6, .slice B6 nb6 cb6] v2 := HM.out.fresh (((((HV2.out.bel HB3.out).bel HB4.out).bel hb49)).mono fun _ _ h => FN.le h HH1.out.1.size) HH9.out.1.size
  have hmo : ∀ q, em.ownBlock = some q → mb + 1 ≤ q ∧ q < w.heap.size := fun q e => HM.out.own.lt q e
  have HMO := Lib.hid hmo
  have HNE := Lib.hid (show w1.heap.size ≠ mb ∧ w2.heap.size ≠ mb by omega)
  have H1C := Lib.hid (show ∀ u ∈ ([.int .i64 k5, .int .i64 n5, .string s5, .slice A5 na5 ca5, .slice B5 nb5 cb5, .int .i64 k6, .int .i64 n6, .string s6, .slice A6 na6 ca6, .slice B6 nb6 cb6] : List Value), u.oneCell' = true from fun u hu => by
    have h1 := hk9.one
    have h2 := hv9.one
    rcases List.mem_append.1 (show u ∈ ([.int .i64 k5, .int .i64 n5, .string s5, .slice A5 na5 ca5, .slice B5 nb5 cb5] : List Value) ++ ([.int .i64 k6, .int .i64 n6, .string s6, .slice A6 na6 ca6, .slice B6 nb6 cb6] : List Value) from hu) with hu | hu
    · exact h1 u hu
    · exact h2 u hu)
  have HFIN := Lib.hid (fun (em2 : Value) (W2 W3 : World) (hW : W2 = w9.alloc (.cells #[.int .i64 k5, .int .i64 n5, .string s5, .slice A5 na5 ca5, .slice B5 nb5 cb5, .int .i64 k6, .int .i64 n6, .string s6, .slice A6 na6 ca6, .slice B6 nb6 cb6] 75)) (hown : W3.ownsRow (mb + 1) 75 10 em2 (ne + 1) (ess.flatten ++ [.int .i64 k5, .int .i64 n5, .string s5, .slice A5 na5 ca5, .slice B5 nb5 cb5, .int .i64 k6, .int .i64 n6, .string s6, .slice A6 na6 ca6, .slice B6 nb6 cb6])) (hgr : W2.grownBy W3 em.ownBlock) (hob : em2.ownBlock = em.ownBlock ∨ em2.ownBlock = some W2.heap.size) =>
    show (some w1.heap.size ≠ em.ownBlock ∧ some w2.heap.size ≠ em.ownBlock ∧ Blk W3 mb 88 #[.int .i64 (st.1 : Nat), .slice EA env.length ec, em]) ∧ ∀ v, StmP mb EA ec ecs em env (emitS st oa ob) w (.returned v) (W3.setCell ⟨mb, 2, none⟩ em2) from by
      have hbel : Below w9.heap.size w9 W2 := by rw [hW]; exact (Below.refl _ _).alloc (Nat.le_refl _) _
      have hmb3 : Blk W3 mb 88 #[.int .i64 (st.1 : Nat), .slice EA env.length ec, em] := (HM9.out.blk.keep hbel).grown hgr (fun e => by have := (HMO.out _ e.symm).1; omega)
      have g : MG mb em w9 em2 (W3.setCell ⟨mb, 2, none⟩ em2) := ((MG.bel hbel).trans (MG.app hgr hob)).set 2 em2
      refine ⟨⟨fun e => by have := (HMO.out _ e.symm).2; omega, fun e => by have := (HMO.out _ e.symm).2; omega, hmb3⟩, fun v => ⟨⟨v, rfl⟩, em2, ess ++ [[.int .i64 k5, .int .i64 n5, .string s5, .slice A5 na5 ca5, .slice B5 nb5 cb5, .int .i64 k6, .int .i64 n6, .string s6, .slice A6 na6 ca6, .slice B6 nb6 cb6]], ?_, (MG.bel HH9.out.1).trans g⟩⟩
      rw [HST.out]
      refine ⟨hmb3.set_ 2 em2, ?_, ?_, BnRs.mg HM9.out.bnd g, RdF.mg HM9.out.rd g, HM9.out.enc, HM9.out.eng, HM9.out.enl, HM9.out.gobB (g.below (Nat.le_of_lt HM9.out.blk.lt) (Nat.le_refl _) (fun q e => by have := (HMO.out q e).1; omega)), ?_, HM9.out.cnt, ?_⟩
      · have e1 : (st.2 ++ [(v1, v2)]).length = ne + 1 := by rw [List.length_append, HNE0.out]; rfl
        show (W3.setCell ⟨mb, 2, none⟩ em2).ownsRow (mb + 1) 75 10 em2 (st.2 ++ [(v1, v2)]).length (ess ++ ([[.int .i64 k5, .int .i64 n5, .string s5, .slice A5 na5 ca5, .slice B5 nb5 cb5, .int .i64 k6, .int .i64 n6, .string s6, .slice A6 na6 ca6, .slice B6 nb6 cb6]] : List (List Value))).flatten
        rw [e1, List.flatten_append, show ([[.int .i64 k5, .int .i64 n5, .string s5, .slice A5 na5 ca5, .slice B5 nb5 cb5, .int .i64 k6, .int .i64 n6, .string s6, .slice A6 na6 ca6, .slice B6 nb6 cb6]] : List (List Value)).flatten = [.int .i64 k5, .int .i64 n5, .string s5, .slice A5 na5 ca5, .slice B5 nb5 cb5, .int .i64 k6, .int .i64 n6, .string s6, .slice A6 na6 ca6, .slice B6 nb6 cb6] from rfl]
        exact hown.kept (gb_setCell (gb_refl W3 (some mb)) 2 _) (.inr (fun e => by have := (hown.lt _ e).1; omega))
      · exact (EmRs.mg HM9.out.ems g).snoc ⟨[.int .i64 k5, .int .i64 n5, .string s5, .slice A5 na5 ca5, .slice B5 nb5 cb5], [.int .i64 k6, .int .i64 n6, .string s6, .slice A6 na6 ca6, .slice B6 nb6 cb6], rfl, VR.mg hk9 g, VR.mg hv9 g⟩
      · show (st.2 ++ [(v1, v2)]).length ≤ 4
        rw [List.length_append, HNE0.out]; show ne + 1 ≤ 4; omega
      · intro y hy
        rcases List.mem_append.1 hy with hy | hy
        · exact HM9.out.emc y hy
        · obtain rfl := List.mem_singleton.1 hy; exact ⟨HQ1.out.1, HQ2.out.1⟩)
  clear hk9 hv9 hmo hb49 hHeld
  have hHeld := HS9.out
  clear hw9
  refine wpAnyH_take (i := 0) (oi := ⟨some 65, _, _, _, _, _⟩) (v := .pointer (some ⟨mb, 0, none⟩)) rfl (by kernel_rfl) (by kernel_rfl) (by kernel_rfl) (fun _ _ _ h => h) (Or.inl ⟨by kernel_rfl, ?_⟩) (by assumption) ?_
  · intro W hSw; go_simp
  try simp only [Act.put, List.setIfInBounds_toArray, List.set_cons_zero, List.set_cons_succ]
  refine wpAnyH_take (i := 1) (oi := ⟨some 66, _, _, _, _, _⟩) (v := .pointer (some ⟨mb, 0, none⟩)) rfl (by kernel_rfl) (by kernel_rfl) (by kernel_rfl) (fun _ _ _ h => h) (Or.inl ⟨by kernel_rfl, ?_⟩) (by assumption) ?_
  · intro W hSw; go_simp
  try simp only [Act.put, List.setIfInBounds_toArray, List.set_cons_zero, List.set_cons_succ]
  refine wpAnyH_take (i := 2) (oi := ⟨some 67, _, _, _, _, _⟩) (v := .pointer (some ⟨mb, 0, none⟩)) rfl (by kernel_rfl) (by kernel_rfl) (by kernel_rfl) (fun _ _ _ h => h) (Or.inl ⟨by kernel_rfl, ?_⟩) (by assumption) ?_
  · intro W hSw; go_simp
  try simp only [Act.put, List.setIfInBounds_toArray, List.set_cons_zero, List.set_cons_succ]
  refine wpAnyH_take (i := 3) (oi := ⟨some 68, _, _, _, _, _⟩) (v := .pointer (some ⟨mb, 2, none⟩)) rfl (by kernel_rfl) (by kernel_rfl) (by kernel_rfl) (fun _ _ _ h => h) (Or.inl ⟨by kernel_rfl, ?_⟩) (by assumption) ?_
  · intro W hSw; go_simp
  try simp only [Act.put, List.setIfInBounds_toArray, List.set_cons_zero, List.set_cons_succ]
  refine wpAnyH_take (i := 5) (oi := ⟨some 70, _, _, _, _, _⟩) (v := .agg #[.int .i64 k5, .int .i64 n5, .string s5, .slice A5 na5 ca5, .slice B5 nb5 cb5]) rfl (by kernel_rfl) (by kernel_rfl) (by kernel_rfl) (fun _ _ _ h => h) (Or.inl ⟨by kernel_rfl, ?_⟩) (by assumption) ?_
  · intro W hSw; obtain ⟨c8, f8, l8⟩ := hSw.1.rules; go_simp
  try simp only [Act.put, List.setIfInBounds_toArray, List.set_cons_zero, List.set_cons_succ]
  refine wpAnyH_take (i := 6) (oi := ⟨some 71, _, _, _, _, _⟩) (v := .agg #[.int .i64 k6, .int .i64 n6, .string s6, .slice A6 na6 ca6, .slice B6 nb6 cb6]) rfl (by kernel_rfl) (by kernel_rfl) (by kernel_rfl) (fun _ _ _ h => h) (Or.inl ⟨by kernel_rfl, ?_⟩) (by assumption) ?_
  · intro W hSw; obtain ⟨c8, f8, l8⟩ := hSw.2.rules; go_simp
  try simp only [Act.put, List.setIfInBounds_toArray, List.set_cons_zero, List.set_cons_succ]
  refine wpAnyH_take (i := 7) (oi := ⟨some 72, _, _, _, _, _⟩) (v := .agg #[.int .i64 k5, .int .i64 n5, .string s5, .slice A5 na5 ca5, .slice B5 nb5 cb5, .int .i64 k6, .int .i64 n6, .string s6, .slice A6 na6 ca6, .slice B6 nb6 cb6]) rfl (by kernel_rfl) (by kernel_rfl) (by kernel_rfl) (fun _ _ _ h => h) (Or.inl ⟨by kernel_rfl, ?_⟩) (by assumption) ?_
  · intro W hSw; go_simp
  try simp only [Act.put, List.setIfInBounds_toArray, List.set_cons_zero, List.set_cons_succ]
  refine wpAnyH_ready (rs := [4, 8]) (by kernel_rfl) (by simp) ?_
  refine AllReadyH.cons (o := ⟨some 69, _, _, _, _, _⟩) rfl (fun K hK => ?_) (AllReadyH.cons (o := ⟨some 73, _, _, _, _, _⟩) rfl (fun K hK => ?_) AllReadyH.nil)
  · obtain ⟨c8, f8, l8⟩ := (HM9.out.blk).rules
    go_simp
    refine hK.out _ _ (by exact HS9.out) (fun hHeld2 => ?_)
    clear hK K c8 f8 l8
    try simp only [Act.put, List.setIfInBounds_toArray, List.set_cons_zero, List.set_cons_succ]
    refine wpAnyH_ready (rs := [8]) (by kernel_rfl) (by simp) ?_
    refine AllReadyH.cons (o := ⟨some 73, _, _, _, _, _⟩) rfl (fun K hK => ?_) AllReadyH.nil
    go_simp
    refine hK.out _ _ (by exact ⟨Blk.alloc HS9.out.1 _, Blk.alloc HS9.out.2 _⟩) (fun hHeld2 => ?_)
    clear hK K
    try simp only [Act.put, List.setIfInBounds_toArray, List.set_cons_zero, List.set_cons_succ]
    refine wpAnyH_worldM (fun W2 hW => ?_)
    have hW2 := Lib.hid hW
    have HS2 := Lib.hid (show Blk W2 w1.heap.size 25 #[.int .i64 k5, .int .i64 n5, .string s5, .slice A5 na5 ca5, .slice B5 nb5 cb5] ∧ Blk W2 w2.heap.size 25 #[.int .i64 k6, .int .i64 n6, .string s6, .slice A6 na6 ca6, .slice B6 nb6 cb6] by rw [hW]; exact ⟨Blk.alloc HS9.out.1 _, Blk.alloc HS9.out.2 _⟩)
    have HA := Lib.hid (show W2.ownsRow (mb + 1) 75 10 em ne ess.flatten by rw [hW, ← HNE0.out]; exact HM9.out.own.alloc _)
    have HR := Lib.hid (show Rd W2 (some ⟨w9.heap.size, 0, none⟩) [.int .i64 k5, .int .i64 n5, .string s5, .slice A5 na5 ca5, .slice B5 nb5 cb5, .int .i64 k6, .int .i64 n6, .string s6, .slice A6 na6 ca6, .slice B6 nb6 cb6] by rw [hW]; exact Rd.of_blk (Blk.new w9 75 #[.int .i64 k5, .int .i64 n5, .string s5, .slice A5 na5 ca5, .slice B5 nb5 cb5, .int .i64 k6, .int .i64 n6, .string s6, .slice A6 na6 ca6, .slice B6 nb6 cb6]))
    have HBS := Lib.hid (show mb + 1 ≤ W2.heap.size by rw [hW]; have := HM9.out.blk.lt; simp; omega)
    have HMB2 := Lib.hid (show Blk W2 mb 88 #[.int .i64 (st.1 : Nat), .slice EA env.length ec, em] by rw [hW]; exact HM9.out.blk.alloc _)
    clear hW hHeld2
    have hHeld := HS2.out
    refine wpAnyH_ready (rs := [9]) (by kernel_rfl) (by simp) ?_
    refine AllReadyH.cons (o := ⟨some 74, _, _, _, _, _⟩) rfl (fun K hK => ?_) AllReadyH.nil
    rw [if_pos (by kernel_rfl)]
    refine wp_append_rd _ (.tmp 69) (.tmp 73) 49 rfl (mb + 1) 75 i0 _ 10 160 Tryz.underlying49 HI.out hz0 hz1 hz2 rfl (by decide) em ne ess.flatten (by rfl) HA.out (some ⟨w9.heap.size, 0, none⟩) 1 1 (by intro h; cases h) [.int .i64 k5, .int .i64 n5, .string s5, .slice A5 na5 ca5, .slice B5 nb5 cb5, .int .i64 k6, .int .i64 n6, .string s6, .slice A6 na6 ca6, .slice B6 nb6 cb6] (by rfl) rfl HR.out H1C.out (by unfold maxLen; omega) (by omega) HBS.out ?_
    intro em2 W3 hown hgr hob
    obtain ⟨EL2, ec2, hem2, _⟩ := own_parts hown
    have HF := Lib.hid (HFIN.out em2 W2 W3 hW2.out hown hgr hob)
    have HS3 := Lib.hid (And.intro ((HS2.out.1).grown hgr HF.out.1.1) (And.intro ((HS2.out.2).grown hgr HF.out.1.2.1) HF.out.1.2.2))
    clear hown hgr hob
    subst hem2
    refine hK.out _ _ (by exact ⟨HS3.out.1, HS3.out.2.1⟩) (fun hHeld2 => ?_)
    clear hK K
    try simp only [Act.put, List.setIfInBounds_toArray, List.set_cons_zero, List.set_cons_succ]
    refine wpAnyH_take (i := 10) (oi := ⟨some 75, _, _, _, _, _⟩) (v := .pointer (some ⟨mb, 0, none⟩)) rfl (by kernel_rfl) (by kernel_rfl) (by kernel_rfl) (fun _ _ _ h => h) (Or.inl ⟨by kernel_rfl, ?_⟩) (by assumption) ?_
    · intro W hSw; go_simp
    try simp only [Act.put, List.setIfInBounds_toArray, List.set_cons_zero, List.set_cons_succ]
    refine wpAnyH_take (i := 11) (oi := ⟨some 76, _, _, _, _, _⟩) (v := .pointer (some ⟨mb, 2, none⟩)) rfl (by kernel_rfl) (by kernel_rfl) (by kernel_rfl) (fun _ _ _ h => h) (Or.inl ⟨by kernel_rfl, ?_⟩) (by assumption) ?_
    · intro W hSw; go_simp
    try simp only [Act.put, List.setIfInBounds_toArray, List.set_cons_zero, List.set_cons_succ]
    obtain ⟨c9, f9, l9⟩ := HS3.out.2.2.rules
    refine wpAnyH_ready (rs := [12]) (by kernel_rfl) (by simp) ?_
    refine AllReadyH.cons (o := ⟨none, _, _, _, _, _⟩) rfl (fun K hK => ?_) AllReadyH.nil
    go_simp
    refine hK.out _ _ (by exact ⟨Blk.far HS3.out.1 HNE.out.1 _, Blk.far HS3.out.2.1 HNE.out.2 _⟩) (fun hHeld3 => ?_)
    clear hK K
    try simp only [Act.put, List.setIfInBounds_toArray, List.set_cons_zero, List.set_cons_succ]
    refine wpAnyH_done (by kernel_rfl) ?_ _
    have HX := Lib.hid HF.out.2
    clear c9 f9 l9
    go_wp2
    refine bodyPost_ret (results_none rfl _ _ _) rfl ?_
    exact HX.out _
  · go_simp
    refine hK.out _ _ (by exact ⟨Blk.alloc HS9.out.1 _, Blk.alloc HS9.out.2 _⟩) (fun hHeld2 => ?_)
    clear hK K
    try simp only [Act.put, List.setIfInBounds_toArray, List.set_cons_zero, List.set_cons_succ]
    refine wpAnyH_worldM (fun W2 hW => ?_)
    have hW2 := Lib.hid hW
    have HS2 := Lib.hid (show Blk W2 w1.heap.size 25 #[.int .i64 k5, .int .i64 n5, .string s5, .slice A5 na5 ca5, .slice B5 nb5 cb5] ∧ Blk W2 w2.heap.size 25 #[.int .i64 k6, .int .i64 n6, .string s6, .slice A6 na6 ca6, .slice B6 nb6 cb6] by rw [hW]; exact ⟨Blk.alloc HS9.out.1 _, Blk.alloc HS9.out.2 _⟩)
    have HA := Lib.hid (show W2.ownsRow (mb + 1) 75 10 em ne ess.flatten by rw [hW, ← HNE0.out]; exact HM9.out.own.alloc _)
    have HR := Lib.hid (show Rd W2 (some ⟨w9.heap.size, 0, none⟩) [.int .i64 k5, .int .i64 n5, .string s5, .slice A5 na5 ca5, .slice B5 nb5 cb5, .int .i64 k6, .int .i64 n6, .string s6, .slice A6 na6 ca6, .slice B6 nb6 cb6] by rw [hW]; exact Rd.of_blk (Blk.new w9 75 #[.int .i64 k5, .int .i64 n5, .string s5, .slice A5 na5 ca5, .slice B5 nb5 cb5, .int .i64 k6, .int .i64 n6, .string s6, .slice A6 na6 ca6, .slice B6 nb6 cb6]))
    have HBS := Lib.hid (show mb + 1 ≤ W2.heap.size by rw [hW]; have := HM9.out.blk.lt; simp; omega)
    have HMB2 := Lib.hid (show Blk W2 mb 88 #[.int .i64 (st.1 : Nat), .slice EA env.length ec, em] by rw [hW]; exact HM9.out.blk.alloc _)
    clear hW hHeld2
    have hHeld := HS2.out
    refine wpAnyH_ready (rs := [4]) (by kernel_rfl) (by simp) ?_
    refine AllReadyH.cons (o := ⟨some 69, _, _, _, _, _⟩) rfl (fun K hK => ?_) AllReadyH.nil
    obtain ⟨c8, f8, l8⟩ := (HMB2.out).rules
    go_simp
    refine hK.out _ _ (by exact HS2.out) (fun hHeld2 => ?_)
    clear hK K c8 f8 l8
    try simp only [Act.put, List.setIfInBounds_toArray, List.set_cons_zero, List.set_cons_succ]
    refine wpAnyH_ready (rs := [9]) (by kernel_rfl) (by simp) ?_
    refine AllReadyH.cons (o := ⟨some 74, _, _, _, _, _⟩) rfl (fun K hK => ?_) AllReadyH.nil
    rw [if_pos (by kernel_rfl)]
    refine wp_append_rd _ (.tmp 69) (.tmp 73) 49 rfl (mb + 1) 75 i0 _ 10 160 Tryz.underlying49 HI.out hz0 hz1 hz2 rfl (by decide) em ne ess.flatten (by rfl) HA.out (some ⟨w9.heap.size, 0, none⟩) 1 1 (by intro h; cases h) [.int .i64 k5, .int .i64 n5, .string s5, .slice A5 na5 ca5, .slice B5 nb5 cb5, .int .i64 k6, .int .i64 n6, .string s6, .slice A6 na6 ca6, .slice B6 nb6 cb6] (by rfl) rfl HR.out H1C.out (by unfold maxLen; omega) (by omega) HBS.out ?_
    intro em2 W3 hown hgr hob
    obtain ⟨EL2, ec2, hem2, _⟩ := own_parts hown
    have HF := Lib.hid (HFIN.out em2 W2 W3 hW2.out hown hgr hob)
    have HS3 := Lib.hid (And.intro ((HS2.out.1).grown hgr HF.out.1.1) (And.intro ((HS2.out.2).grown hgr HF.out.1.2.1) HF.out.1.2.2))
    clear hown hgr hob
    subst hem2
    refine hK.out _ _ (by exact ⟨HS3.out.1, HS3.out.2.1⟩) (fun hHeld2 => ?_)
    clear hK K
    try simp only [Act.put, List.setIfInBounds_toArray, List.set_cons_zero, List.set_cons_succ]
    refine wpAnyH_take (i := 10) (oi := ⟨some 75, _, _, _, _, _⟩) (v := .pointer (some ⟨mb, 0, none⟩)) rfl (by kernel_rfl) (by kernel_rfl) (by kernel_rfl) (fun _ _ _ h => h) (Or.inl ⟨by kernel_rfl, ?_⟩) (by assumption) ?_
    · intro W hSw; go_simp
    try simp only [Act.put, List.setIfInBounds_toArray, List.set_cons_zero, List.set_cons_succ]
    refine wpAnyH_take (i := 11) (oi := ⟨some 76, _, _, _, _, _⟩) (v := .pointer (some ⟨mb, 2, none⟩)) rfl (by kernel_rfl) (by kernel_rfl) (by kernel_rfl) (fun _ _ _ h => h) (Or.inl ⟨by kernel_rfl, ?_⟩) (by assumption) ?_
    · intro W hSw; go_simp
    try simp only [Act.put, List.setIfInBounds_toArray, List.set_cons_zero, List.set_cons_succ]
    obtain ⟨c9, f9, l9⟩ := HS3.out.2.2.rules
    refine wpAnyH_ready (rs := [12]) (by kernel_rfl) (by simp) ?_
    refine AllReadyH.cons (o := ⟨none, _, _, _, _, _⟩) rfl (fun K hK => ?_) AllReadyH.nil
    go_simp
    refine hK.out _ _ (by exact ⟨Blk.far HS3.out.1 HNE.out.1 _, Blk.far HS3.out.2.1 HNE.out.2 _⟩) (fun hHeld3 => ?_)
    clear hK K
    try simp only [Act.put, List.setIfInBounds_toArray, List.set_cons_zero, List.set_cons_succ]
    refine wpAnyH_done (by kernel_rfl) ?_ _
    have HX := Lib.hid HF.out.2
    clear c9 f9 l9
    go_wp2
    refine bodyPost_ret (results_none rfl _ _ _) rfl ?_
    exact HX.out _
end Go.Proofs.YtgolomgmnanbpaaGreatDoor
namespace Go.Proofs.YtgolomgmnanbpaaGreatDoor
set_option linter.unusedVariables false
set_option linter.unusedSimpArgs false
open Go.RowKit
attribute [local go_sem] run_index_arr run_part_agg run_part_one run_field_agg
def BegP (g : Nat) (p : Nat) (w : World) (e : Ending) (w' : World) : Prop := e = .returned (.bool (decide (p < 256))) ∧ w' = (if p < 256 then w.setCell ⟨g, 0, none⟩ (.int .i64 ((p + 1 : Nat) : Int)) else w)
set_option maxRecDepth 100000 in
set_option maxHeartbeats 4000000 in
theorem mBegins (g p : Nat) (ev mv : Value) (w : World) (hB : Blk w g 88 #[.int .i64 (p : Int), ev, mv]) (hp : p ≤ 256) : Calls Tryz.prog 95 #[.pointer (some ⟨g, 0, none⟩)] w (BegP g p w) := by
  obtain ⟨c0, f0, l0⟩ := hB.rules
  by_cases h : p < 256
  · have HH := Lib.hid h
    have he : ((p : Int) == 256) = false := by rw [beq_eq_false_iff_ne]; omega
    have HE := Lib.hid (show ((p + 1 : Nat) : Int) = (p : Int) + 1 by omega)
    clear hB h
    go_enter Tryz.func95, Tryz.ntmps95
    go_wp2
    go_ret
    exact ⟨by rw [decide_eq_true HH.out]; rfl, by rw [if_pos HH.out, HE.out]⟩
  · obtain rfl : p = 256 := by omega
    clear hB h
    go_enter Tryz.func95, Tryz.ntmps95
    go_wp2
    go_ret
    exact ⟨rfl, rfl⟩
end Go.Proofs.YtgolomgmnanbpaaGreatDoor
